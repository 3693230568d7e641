-- Written by this session's texts and program for this claim. Lean checks it.
import Derived.Test.YtlphkfkcfomlbaaVFnSamples3
set_option autoImplicit true
set_option relaxedAutoImplicit true
set_option linter.unusedSimpArgs false
set_option linter.unusedVariables false
set_option maxHeartbeats 4000000
set_option maxRecDepth 100000
namespace Go.Proofs.Ytlphkfkcfomlbaa.EngS
open Go Go.Proofs Go.Eng Go.RowKit
attribute [local irreducible] Go.RowKit.wrap64
abbrev stpD (kd sm am : Int) (ho : ByteArray) : D := .g [.sc (.int .i64 kd), .sc (.int .i64 sm), .sc (.int .i64 am), .sc (.string ho)]
def stepR (l : List Smp) (kd sm am : Int) (ho : ByteArray) : Option (List Smp) :=
  if kd = 1 then some (l ++ [⟨(l.length + 1 : Nat), 0, sm, am, am, 0, 0, ho⟩])
  else if inR 1 l.length sm = true then
    let i := (sm - 1).toNat
    let x := l[i]?.getD default
    if kd = 2 ∧ am = 0 then some (l.set i ⟨x.id, x.par, x.ctx, x.tak, x.lef, x.usd, x.giv, ho⟩)
    else if kd = 3 ∧ inR 1 x.lef am = true then some (l.set i ⟨x.id, x.par, x.ctx, x.tak, wrap64 (x.lef - am), x.usd, wrap64 (x.giv + am), x.hol⟩ ++ [⟨(l.length + 1 : Nat), x.id, x.ctx, am, am, 0, 0, ho⟩])
    else if kd = 4 ∧ inR 1 x.lef am = true ∧ ho.toList = [] then some (l.set i ⟨x.id, x.par, x.ctx, x.tak, wrap64 (x.lef - am), wrap64 (x.usd + am), x.giv, x.hol⟩)
    else none
  else none
def stepB (l : List Smp) (kd sm am : Int) (ho : ByteArray) : Bool := match stepR l kd sm am ho with | some m => goodS m | none => false
def stepL (l : List Smp) (kd sm am : Int) (ho : ByteArray) : List Smp := if stepB l kd sm am ho = true then (stepR l kd sm am ho).getD [] else []
theorem step_some {l kd sm am ho m} (h : stepR l kd sm am ho = some m) : stepB l kd sm am ho = goodS m ∧ (goodS m = true → stepL l kd sm am ho = m) := by
  have : stepB l kd sm am ho = goodS m := by simp [stepB, h]
  exact ⟨this, fun hg => by simp [stepL, this, hg, h]⟩
theorem step_none {l kd sm am ho} (h : stepR l kd sm am ho = none) : stepB l kd sm am ho = false := by simp [stepB, h]
theorem w64_in (x : Int) : -9223372036854775808 ≤ wrap64 x ∧ wrap64 x < 9223372036854775808 := by unfold Go.RowKit.wrap64; omega
theorem W_app {l : List Smp} {x : Smp} (h : ∀ s ∈ l, SmpW s) (hx : SmpW x) : ∀ s ∈ l ++ [x], SmpW s := by
  intro s hs
  rw [List.mem_append] at hs
  rcases hs with hs | hs
  · exact h s hs
  · simp at hs; subst hs; exact hx
theorem W_set {l : List Smp} {x : Smp} {k : Nat} (h : ∀ s ∈ l, SmpW s) (hx : SmpW x) : ∀ s ∈ l.set k x, SmpW s := by
  intro s hs
  rcases List.mem_or_eq_of_mem_set hs with hs | hs
  · exact h s hs
  · subst hs; exact hx
theorem s_l20_1 (l : List Smp) (kd sm am : Int) (ho : ByteArray) (h : l.length ≤ 1000) (hh : ∀ s ∈ l, SmpW s) (hho : ho.size ≤ 9223372036854775807) (h1 : kd = 1) : ACallX Try.prog 102 [.v (.sl true 8 (smps l)), stpD kd sm am ho] (fun x : List Smp => x.length ≤ l.length + 1 ∧ (∀ s ∈ x, SmpW s) ∧ (stepB l kd sm am ho = true → x = stepL l kd sm am ho)) (fun _ => [.x, .x]) (fun x => [.v (.sl false 8 (smps x)), boo (stepB l kd sm am ho)]) := by
  obtain ⟨n1, hn1⟩ : ∃ n1, n1 = l.length + 1 := ⟨_, rfl⟩
  have e1 : wrap64 ((l.length : Int) + 1) = (n1 : Int) := by rw [w64 (by omega) (by omega)]; omega
  have b1 : l.length * 72 ≤ 140737488355328 := by omega
  have b2 : l.length ≤ 4611686018427387904 := by omega
  have b3 : (l.length + 1) * 72 ≤ 140737488355328 := by omega
  have b4 : l.length + 1 ≤ 4611686018427387904 := by omega
  have hh' : Hd (∀ s ∈ l, SmpW s) := hh
  have hn1' : Hd _ := hn1
  clear hn1
  subst h1
  obtain ⟨hb, hl⟩ := step_some (show stepR l 1 sm am ho = some (l ++ [⟨n1, 0, sm, am, am, 0, 0, ho⟩]) by simp [stepR, hn1'.out])
  have hmw : ∀ s ∈ l ++ [(⟨n1, 0, sm, am, am, 0, 0, ho⟩ : Smp)], SmpW s := W_app hh ⟨hho, by simp, by simp⟩
  have cv := c_spec_l20Good _ (by simp; omega) hmw
  rw [hb]
  generalize goodS (l ++ [(⟨n1, 0, sm, am, am, 0, 0, ho⟩ : Smp)]) = gb at *
  replace hl : Hd _ := hl
  replace hmw : Hd _ := hmw
  clear hb hh
  refine ACallX.of (N := 135) tok Try.func102 rfl rfl rfl (by simp) ?_
  repeat' (first | with_reducible refine OutOK.done ?_ | refine thenQ_n ?_ | refine thenQ_r ?_ | refine thenQ_e ?_ | refine AW.seq ?_ | refine AW.reg tok (by simp [*]; rfl) ?_ | refine AW.ifB (by simp [*]; rfl) ?_ | refine IfG.t ?_ | refine IfG.f ?_ | (refine IfG.p (fun hg => ?_) (fun hg => ?_) <;> (try (have hg' := hg; simp at hg'))) | (refine IfG.n (fun hg => ?_) (fun hg => ?_) <;> (try (have hg' := hg; simp at hg'))) | (refine OutOK.gateP (fun hg => ?_) (fun hg => ?_) <;> (try (have hg' := hg; simp at hg'))) | (refine OutOK.gateN (fun hg => ?_) (fun hg => ?_) <;> (try (have hg' := hg; simp at hg'))) | (refine IfG.g (fun hg => ?_) (fun hg => ?_) <;> (try (have hg' := hg; simp at hg'))) | (refine OutOK.gate (fun hg => ?_) (fun hg => ?_) <;> (try (have hg' := hg; simp at hg'))) | (refine OutOK.callF [] (by simp [*]; rfl) (by simp [*]; rfl) (by simp [*]; rfl) hb70 (by apply c_spec_l1In <;> first | assumption | exact Hd.out (by assumption) | ((try (clear e0)); (try (clear e1)); (try (clear e2)); (try (clear e3)); (try (clear e4)); (try (clear e5)); (try (clear e6)); (try (clear e7)); (try (clear e8)); (try (clear e9)); (try (clear e10)); (try (clear e11)); omega)) ⟨by simp [*], by simp [*], by simp [*], by simp [*], by simp [*]⟩ (by simp [*]) (by simp [*]; rfl) ?_) | (refine OutOK.callF [] (by simp [*]; rfl) (by simp [*]; rfl) (by simp [*]; rfl) hb85 (by apply cv <;> first | assumption | exact Hd.out (by assumption) | ((try (clear e0)); (try (clear e1)); (try (clear e2)); (try (clear e3)); (try (clear e4)); (try (clear e5)); (try (clear e6)); (try (clear e7)); (try (clear e8)); (try (clear e9)); (try (clear e10)); (try (clear e11)); omega)) ⟨by simp [*], by simp [*], by simp [*], by simp [*], by simp [*]⟩ (by simp [*]) (by simp [*]; rfl) ?_) | refine OutOK.run (by simp [*]; rfl) ?_ | refine AW.ret ?_ | refine AW.skip ?_ | refine AW.exit ?_ | refine fin_r ?_ | refine fin_n ?_ | refine AW.block ?_ | refine blockQ_n ?_ | refine blockQ_r ?_ | refine blockQ_e ?_ | refine blockQ_o rfl ?_)
  exact ⟨l ++ [⟨n1, 0, sm, am, am, 0, 0, ho⟩], ⟨by simp, hmw.out, fun e => (hl.out e).symm⟩, by simp [Try.f102]⟩
theorem s_l20_R (l : List Smp) (kd sm am : Int) (ho : ByteArray) (h : l.length ≤ 1000) (hh : ∀ s ∈ l, SmpW s) (hho : ho.size ≤ 9223372036854775807) (h1 : ¬ kd = 1) (hR : inR 1 l.length sm = false) : ACallX Try.prog 102 [.v (.sl true 8 (smps l)), stpD kd sm am ho] (fun x : List Smp => x.length ≤ l.length + 1 ∧ (∀ s ∈ x, SmpW s) ∧ (stepB l kd sm am ho = true → x = stepL l kd sm am ho)) (fun _ => [.x, .x]) (fun x => [.v (.sl false 8 (smps x)), boo (stepB l kd sm am ho)]) := by
  obtain ⟨n1, hn1⟩ : ∃ n1, n1 = l.length + 1 := ⟨_, rfl⟩
  have e1 : wrap64 ((l.length : Int) + 1) = (n1 : Int) := by rw [w64 (by omega) (by omega)]; omega
  have b1 : l.length * 72 ≤ 140737488355328 := by omega
  have b2 : l.length ≤ 4611686018427387904 := by omega
  have b3 : (l.length + 1) * 72 ≤ 140737488355328 := by omega
  have b4 : l.length + 1 ≤ 4611686018427387904 := by omega
  have hh' : Hd (∀ s ∈ l, SmpW s) := hh
  have hn1' : Hd _ := hn1
  clear hn1
  have hb := step_none (show stepR l kd sm am ho = none by simp [stepR, h1, hR])
  rw [hb]
  clear hb hh
  refine ACallX.of (N := 135) tok Try.func102 rfl rfl rfl (by simp) ?_
  repeat' (first | with_reducible refine OutOK.done ?_ | refine thenQ_n ?_ | refine thenQ_r ?_ | refine thenQ_e ?_ | refine AW.seq ?_ | refine AW.reg tok (by simp [*]; rfl) ?_ | refine AW.ifB (by simp [*]; rfl) ?_ | refine IfG.t ?_ | refine IfG.f ?_ | (refine IfG.p (fun hg => ?_) (fun hg => ?_) <;> (try (have hg' := hg; simp at hg'))) | (refine IfG.n (fun hg => ?_) (fun hg => ?_) <;> (try (have hg' := hg; simp at hg'))) | (refine OutOK.gateP (fun hg => ?_) (fun hg => ?_) <;> (try (have hg' := hg; simp at hg'))) | (refine OutOK.gateN (fun hg => ?_) (fun hg => ?_) <;> (try (have hg' := hg; simp at hg'))) | (refine IfG.g (fun hg => ?_) (fun hg => ?_) <;> (try (have hg' := hg; simp at hg'))) | (refine OutOK.gate (fun hg => ?_) (fun hg => ?_) <;> (try (have hg' := hg; simp at hg'))) | (refine OutOK.callF [] (by simp [*]; rfl) (by simp [*]; rfl) (by simp [*]; rfl) hb85 (by apply c_spec_l20Good <;> first | assumption | exact Hd.out (by assumption) | ((try (clear e0)); (try (clear e1)); (try (clear e2)); (try (clear e3)); (try (clear e4)); (try (clear e5)); (try (clear e6)); (try (clear e7)); (try (clear e8)); (try (clear e9)); (try (clear e10)); (try (clear e11)); omega)) ⟨by simp [*], by simp [*], by simp [*], by simp [*], by simp [*]⟩ (by simp [*]) (by simp [*]; rfl) ?_) | (refine OutOK.callF [] (by simp [*]; rfl) (by simp [*]; rfl) (by simp [*]; rfl) hb70 (by apply c_spec_l1In <;> first | assumption | exact Hd.out (by assumption) | ((try (clear e0)); (try (clear e1)); (try (clear e2)); (try (clear e3)); (try (clear e4)); (try (clear e5)); (try (clear e6)); (try (clear e7)); (try (clear e8)); (try (clear e9)); (try (clear e10)); (try (clear e11)); omega)) ⟨by simp [*], by simp [*], by simp [*], by simp [*], by simp [*]⟩ (by simp [*]) (by simp [*]; rfl) ?_) | refine OutOK.run (by simp [*]; rfl) ?_ | refine AW.ret ?_ | refine AW.skip ?_ | refine AW.exit ?_ | refine fin_r ?_ | refine fin_n ?_ | refine AW.block ?_ | refine blockQ_n ?_ | refine blockQ_r ?_ | refine blockQ_e ?_ | refine blockQ_o rfl ?_)
  exact ⟨l, ⟨by simp, hh'.out, fun e => by simp at e⟩, by simp [Try.f102]⟩
theorem s_l20_2 (l : List Smp) (kd sm am : Int) (ho : ByteArray) (h : l.length ≤ 1000) (hh : ∀ s ∈ l, SmpW s) (hho : ho.size ≤ 9223372036854775807) (h1 : ¬ kd = 1) (hR : inR 1 l.length sm = true) (h2 : kd = 2 ∧ am = 0) : ACallX Try.prog 102 [.v (.sl true 8 (smps l)), stpD kd sm am ho] (fun x : List Smp => x.length ≤ l.length + 1 ∧ (∀ s ∈ x, SmpW s) ∧ (stepB l kd sm am ho = true → x = stepL l kd sm am ho)) (fun _ => [.x, .x]) (fun x => [.v (.sl false 8 (smps x)), boo (stepB l kd sm am ho)]) := by
  obtain ⟨n1, hn1⟩ : ∃ n1, n1 = l.length + 1 := ⟨_, rfl⟩
  have e1 : wrap64 ((l.length : Int) + 1) = (n1 : Int) := by rw [w64 (by omega) (by omega)]; omega
  have b1 : l.length * 72 ≤ 140737488355328 := by omega
  have b2 : l.length ≤ 4611686018427387904 := by omega
  have b3 : (l.length + 1) * 72 ≤ 140737488355328 := by omega
  have b4 : l.length + 1 ≤ 4611686018427387904 := by omega
  have hh' : Hd (∀ s ∈ l, SmpW s) := hh
  have hn1' : Hd _ := hn1
  clear hn1
  have hr := inR_iff.1 hR
  obtain ⟨k, hk⟩ : ∃ k : Nat, sm = ((k + 1 : Nat) : Int) := ⟨(sm - 1).toNat, by ((try (clear e0)); (try (clear e1)); (try (clear e2)); (try (clear e3)); (try (clear e4)); (try (clear e5)); (try (clear e6)); (try (clear e7)); (try (clear e8)); (try (clear e9)); (try (clear e10)); (try (clear e11)); omega)⟩
  have e2 : wrap64 (sm - 1) = (k : Int) := by rw [w64 (by ((try (clear e0)); (try (clear e1)); (try (clear e2)); (try (clear e3)); (try (clear e4)); (try (clear e5)); (try (clear e6)); (try (clear e7)); (try (clear e8)); (try (clear e9)); (try (clear e10)); (try (clear e11)); omega)) (by ((try (clear e0)); (try (clear e1)); (try (clear e2)); (try (clear e3)); (try (clear e4)); (try (clear e5)); (try (clear e6)); (try (clear e7)); (try (clear e8)); (try (clear e9)); (try (clear e10)); (try (clear e11)); omega))]; ((try (clear e0)); (try (clear e1)); (try (clear e2)); (try (clear e3)); (try (clear e4)); (try (clear e5)); (try (clear e6)); (try (clear e7)); (try (clear e8)); (try (clear e9)); (try (clear e10)); (try (clear e11)); omega)
  have hkl : k < l.length := by ((try (clear e0)); (try (clear e1)); (try (clear e2)); (try (clear e3)); (try (clear e4)); (try (clear e5)); (try (clear e6)); (try (clear e7)); (try (clear e8)); (try (clear e9)); (try (clear e10)); (try (clear e11)); omega)
  have hi : (sm - 1).toNat = k := by ((try (clear e0)); (try (clear e1)); (try (clear e2)); (try (clear e3)); (try (clear e4)); (try (clear e5)); (try (clear e6)); (try (clear e7)); (try (clear e8)); (try (clear e9)); (try (clear e10)); (try (clear e11)); omega)
  have hx : l[k]? = some l[k] := List.getElem?_eq_getElem hkl
  have hxw := hh l[k] (List.getElem_mem hkl)
  have hsR : Hd (stepR l kd sm am ho = (if kd = 2 ∧ am = 0 then some (l.set k ⟨l[k].id, l[k].par, l[k].ctx, l[k].tak, l[k].lef, l[k].usd, l[k].giv, ho⟩)
    else if kd = 3 ∧ inR 1 l[k].lef am = true then some (l.set k ⟨l[k].id, l[k].par, l[k].ctx, l[k].tak, wrap64 (l[k].lef - am), l[k].usd, wrap64 (l[k].giv + am), l[k].hol⟩ ++ [⟨n1, l[k].id, l[k].ctx, am, am, 0, 0, ho⟩])
    else if kd = 4 ∧ inR 1 l[k].lef am = true ∧ ho.toList = [] then some (l.set k ⟨l[k].id, l[k].par, l[k].ctx, l[k].tak, wrap64 (l[k].lef - am), wrap64 (l[k].usd + am), l[k].giv, l[k].hol⟩)
    else none)) := by
    simp only [Hd, stepR, if_neg h1, hR, if_true, hi, hx, Option.getD_some, ← hn1'.out]
  have hk' : Hd _ := hk
  clear hk hi hx hr
  obtain ⟨hb, hl⟩ := step_some (hsR.out.trans (by rw [if_pos h2]))
  obtain ⟨rfl, rfl⟩ := h2
  have hmw := W_set (x := ⟨l[k].id, l[k].par, l[k].ctx, l[k].tak, l[k].lef, l[k].usd, l[k].giv, ho⟩) (k := k) hh ⟨hho, hxw.2⟩
  have cv := c_spec_l20Good _ (by simp; omega) hmw
  rw [hb]
  generalize goodS (l.set k ⟨l[k].id, l[k].par, l[k].ctx, l[k].tak, l[k].lef, l[k].usd, l[k].giv, ho⟩) = gb at *
  replace hl : Hd _ := hl
  replace hmw : Hd _ := hmw
  clear hb hh hxw
  refine ACallX.of (N := 135) tok Try.func102 rfl rfl rfl (by simp) ?_
  repeat' (first | with_reducible refine OutOK.done ?_ | refine thenQ_n ?_ | refine thenQ_r ?_ | refine thenQ_e ?_ | refine AW.seq ?_ | refine AW.reg tok (by simp [*]; rfl) ?_ | refine AW.ifB (by simp [*]; rfl) ?_ | refine IfG.t ?_ | refine IfG.f ?_ | (refine IfG.p (fun hg => ?_) (fun hg => ?_) <;> (try (have hg' := hg; simp at hg'))) | (refine IfG.n (fun hg => ?_) (fun hg => ?_) <;> (try (have hg' := hg; simp at hg'))) | (refine OutOK.gateP (fun hg => ?_) (fun hg => ?_) <;> (try (have hg' := hg; simp at hg'))) | (refine OutOK.gateN (fun hg => ?_) (fun hg => ?_) <;> (try (have hg' := hg; simp at hg'))) | (refine IfG.g (fun hg => ?_) (fun hg => ?_) <;> (try (have hg' := hg; simp at hg'))) | (refine OutOK.gate (fun hg => ?_) (fun hg => ?_) <;> (try (have hg' := hg; simp at hg'))) | (refine OutOK.callF [] (by simp [*]; rfl) (by simp [*]; rfl) (by simp [*]; rfl) hb70 (by apply c_spec_l1In <;> first | assumption | exact Hd.out (by assumption) | ((try (clear e0)); (try (clear e1)); (try (clear e2)); (try (clear e3)); (try (clear e4)); (try (clear e5)); (try (clear e6)); (try (clear e7)); (try (clear e8)); (try (clear e9)); (try (clear e10)); (try (clear e11)); omega)) ⟨by simp [*], by simp [*], by simp [*], by simp [*], by simp [*]⟩ (by simp [*]) (by simp [*]; rfl) ?_) | (refine OutOK.callF [] (by simp [*]; rfl) (by simp [*]; rfl) (by simp [*]; rfl) hb85 (by apply cv <;> first | assumption | exact Hd.out (by assumption) | ((try (clear e0)); (try (clear e1)); (try (clear e2)); (try (clear e3)); (try (clear e4)); (try (clear e5)); (try (clear e6)); (try (clear e7)); (try (clear e8)); (try (clear e9)); (try (clear e10)); (try (clear e11)); omega)) ⟨by simp [*], by simp [*], by simp [*], by simp [*], by simp [*]⟩ (by simp [*]) (by simp [*]; rfl) ?_) | refine OutOK.run (by simp [*]; rfl) ?_ | refine AW.ret ?_ | refine AW.skip ?_ | refine AW.exit ?_ | refine fin_r ?_ | refine fin_n ?_ | refine AW.block ?_ | refine blockQ_n ?_ | refine blockQ_r ?_ | refine blockQ_e ?_ | refine blockQ_o rfl ?_)
  exact ⟨l.set k ⟨l[k].id, l[k].par, l[k].ctx, l[k].tak, l[k].lef, l[k].usd, l[k].giv, ho⟩, ⟨by simp, hmw.out, fun e => (hl.out e).symm⟩, by simp [Try.f102]⟩
theorem s_l20_3 (l : List Smp) (kd sm am : Int) (ho : ByteArray) (h : l.length ≤ 1000) (hh : ∀ s ∈ l, SmpW s) (hho : ho.size ≤ 9223372036854775807) (h1 : ¬ kd = 1) (hR : inR 1 l.length sm = true) (h2 : ¬ (kd = 2 ∧ am = 0)) (h3' : ∀ (k : Nat) (hk : k < l.length), sm = ((k + 1 : Nat) : Int) → kd = 3 ∧ inR 1 l[k].lef am = true) : ACallX Try.prog 102 [.v (.sl true 8 (smps l)), stpD kd sm am ho] (fun x : List Smp => x.length ≤ l.length + 1 ∧ (∀ s ∈ x, SmpW s) ∧ (stepB l kd sm am ho = true → x = stepL l kd sm am ho)) (fun _ => [.x, .x]) (fun x => [.v (.sl false 8 (smps x)), boo (stepB l kd sm am ho)]) := by
  obtain ⟨n1, hn1⟩ : ∃ n1, n1 = l.length + 1 := ⟨_, rfl⟩
  have e1 : wrap64 ((l.length : Int) + 1) = (n1 : Int) := by rw [w64 (by omega) (by omega)]; omega
  have b1 : l.length * 72 ≤ 140737488355328 := by omega
  have b2 : l.length ≤ 4611686018427387904 := by omega
  have b3 : (l.length + 1) * 72 ≤ 140737488355328 := by omega
  have b4 : l.length + 1 ≤ 4611686018427387904 := by omega
  have hh' : Hd (∀ s ∈ l, SmpW s) := hh
  have hn1' : Hd _ := hn1
  clear hn1
  have hr := inR_iff.1 hR
  obtain ⟨k, hk⟩ : ∃ k : Nat, sm = ((k + 1 : Nat) : Int) := ⟨(sm - 1).toNat, by ((try (clear e0)); (try (clear e1)); (try (clear e2)); (try (clear e3)); (try (clear e4)); (try (clear e5)); (try (clear e6)); (try (clear e7)); (try (clear e8)); (try (clear e9)); (try (clear e10)); (try (clear e11)); omega)⟩
  have e2 : wrap64 (sm - 1) = (k : Int) := by rw [w64 (by ((try (clear e0)); (try (clear e1)); (try (clear e2)); (try (clear e3)); (try (clear e4)); (try (clear e5)); (try (clear e6)); (try (clear e7)); (try (clear e8)); (try (clear e9)); (try (clear e10)); (try (clear e11)); omega)) (by ((try (clear e0)); (try (clear e1)); (try (clear e2)); (try (clear e3)); (try (clear e4)); (try (clear e5)); (try (clear e6)); (try (clear e7)); (try (clear e8)); (try (clear e9)); (try (clear e10)); (try (clear e11)); omega))]; ((try (clear e0)); (try (clear e1)); (try (clear e2)); (try (clear e3)); (try (clear e4)); (try (clear e5)); (try (clear e6)); (try (clear e7)); (try (clear e8)); (try (clear e9)); (try (clear e10)); (try (clear e11)); omega)
  have hkl : k < l.length := by ((try (clear e0)); (try (clear e1)); (try (clear e2)); (try (clear e3)); (try (clear e4)); (try (clear e5)); (try (clear e6)); (try (clear e7)); (try (clear e8)); (try (clear e9)); (try (clear e10)); (try (clear e11)); omega)
  have hi : (sm - 1).toNat = k := by ((try (clear e0)); (try (clear e1)); (try (clear e2)); (try (clear e3)); (try (clear e4)); (try (clear e5)); (try (clear e6)); (try (clear e7)); (try (clear e8)); (try (clear e9)); (try (clear e10)); (try (clear e11)); omega)
  have hx : l[k]? = some l[k] := List.getElem?_eq_getElem hkl
  have hxw := hh l[k] (List.getElem_mem hkl)
  have hsR : Hd (stepR l kd sm am ho = (if kd = 2 ∧ am = 0 then some (l.set k ⟨l[k].id, l[k].par, l[k].ctx, l[k].tak, l[k].lef, l[k].usd, l[k].giv, ho⟩)
    else if kd = 3 ∧ inR 1 l[k].lef am = true then some (l.set k ⟨l[k].id, l[k].par, l[k].ctx, l[k].tak, wrap64 (l[k].lef - am), l[k].usd, wrap64 (l[k].giv + am), l[k].hol⟩ ++ [⟨n1, l[k].id, l[k].ctx, am, am, 0, 0, ho⟩])
    else if kd = 4 ∧ inR 1 l[k].lef am = true ∧ ho.toList = [] then some (l.set k ⟨l[k].id, l[k].par, l[k].ctx, l[k].tak, wrap64 (l[k].lef - am), wrap64 (l[k].usd + am), l[k].giv, l[k].hol⟩)
    else none)) := by
    simp only [Hd, stepR, if_neg h1, hR, if_true, hi, hx, Option.getD_some, ← hn1'.out]
  have hk' : Hd _ := hk
  have h3 := h3' k hkl hk
  clear h3'
  clear hk hi hx hr
  obtain ⟨hb, hl⟩ := step_some (hsR.out.trans (by rw [if_neg h2, if_pos h3]))
  obtain ⟨rfl, h3⟩ := h3
  have hmw := W_app (x := ⟨n1, l[k].id, l[k].ctx, am, am, 0, 0, ho⟩) (W_set (x := ⟨l[k].id, l[k].par, l[k].ctx, l[k].tak, wrap64 (l[k].lef - am), l[k].usd, wrap64 (l[k].giv + am), l[k].hol⟩) (k := k) hh ⟨hxw.1, w64_in _⟩) ⟨hho, by simp, by simp⟩
  have cv := c_spec_l20Good _ (by simp; omega) hmw
  rw [hb]
  generalize goodS (l.set k ⟨l[k].id, l[k].par, l[k].ctx, l[k].tak, wrap64 (l[k].lef - am), l[k].usd, wrap64 (l[k].giv + am), l[k].hol⟩ ++ [⟨n1, l[k].id, l[k].ctx, am, am, 0, 0, ho⟩]) = gb at *
  replace hl : Hd _ := hl
  replace hmw : Hd _ := hmw
  have hkl2 : k < l.length + 1 := by ((try (clear e0)); (try (clear e1)); (try (clear e2)); (try (clear e3)); (try (clear e4)); (try (clear e5)); (try (clear e6)); (try (clear e7)); (try (clear e8)); (try (clear e9)); (try (clear e10)); (try (clear e11)); omega)
  have hkl3 : (k : Int) < (l.length : Int) + 1 := by ((try (clear e0)); (try (clear e1)); (try (clear e2)); (try (clear e3)); (try (clear e4)); (try (clear e5)); (try (clear e6)); (try (clear e7)); (try (clear e8)); (try (clear e9)); (try (clear e10)); (try (clear e11)); omega)
  clear hb hh hxw h2 h1 hsR
  refine ACallX.of (N := 135) tok Try.func102 rfl rfl rfl (by simp) ?_
  repeat' (first | with_reducible refine OutOK.done ?_ | refine thenQ_n ?_ | refine thenQ_r ?_ | refine thenQ_e ?_ | refine AW.seq ?_ | refine AW.reg tok (by simp (maxSteps := 3000000) [*]; rfl) ?_ | refine AW.ifB (by simp (maxSteps := 3000000) [*]; rfl) ?_ | refine IfG.t ?_ | refine IfG.f ?_ | (refine IfG.p (fun hg => ?_) (fun hg => ?_) <;> (try (have hg' := hg; simp at hg'))) | (refine IfG.n (fun hg => ?_) (fun hg => ?_) <;> (try (have hg' := hg; simp at hg'))) | (refine OutOK.gateP (fun hg => ?_) (fun hg => ?_) <;> (try (have hg' := hg; simp at hg'))) | (refine OutOK.gateN (fun hg => ?_) (fun hg => ?_) <;> (try (have hg' := hg; simp at hg'))) | (refine IfG.g (fun hg => ?_) (fun hg => ?_) <;> (try (have hg' := hg; simp at hg'))) | (refine OutOK.gate (fun hg => ?_) (fun hg => ?_) <;> (try (have hg' := hg; simp at hg'))) | (refine OutOK.callF [] (by simp (maxSteps := 3000000) [*]; rfl) (by simp (maxSteps := 3000000) [*]; rfl) (by simp (maxSteps := 3000000) [*]; rfl) hb70 (by apply c_spec_l1In <;> first | assumption | exact Hd.out (by assumption) | ((try (clear e0)); (try (clear e1)); (try (clear e2)); (try (clear e3)); (try (clear e4)); (try (clear e5)); (try (clear e6)); (try (clear e7)); (try (clear e8)); (try (clear e9)); (try (clear e10)); (try (clear e11)); omega)) ⟨by simp (maxSteps := 3000000) [*], by simp (maxSteps := 3000000) [*], by simp (maxSteps := 3000000) [*], by simp (maxSteps := 3000000) [*], by simp (maxSteps := 3000000) [*]⟩ (by simp (maxSteps := 3000000) [*]) (by simp (maxSteps := 3000000) [*]; rfl) ?_) | (refine OutOK.callF [] (by simp (maxSteps := 3000000) [*]; rfl) (by simp (maxSteps := 3000000) [*]; rfl) (by simp (maxSteps := 3000000) [*]; rfl) hb85 (by apply cv <;> first | assumption | exact Hd.out (by assumption) | ((try (clear e0)); (try (clear e1)); (try (clear e2)); (try (clear e3)); (try (clear e4)); (try (clear e5)); (try (clear e6)); (try (clear e7)); (try (clear e8)); (try (clear e9)); (try (clear e10)); (try (clear e11)); omega)) ⟨by simp (maxSteps := 3000000) [*], by simp (maxSteps := 3000000) [*], by simp (maxSteps := 3000000) [*], by simp (maxSteps := 3000000) [*], by simp (maxSteps := 3000000) [*]⟩ (by simp (maxSteps := 3000000) [*]) (by simp (maxSteps := 3000000) [*]; rfl) ?_) | refine OutOK.run (by simp (maxSteps := 3000000) [*]; rfl) ?_ | refine AW.ret ?_ | refine AW.skip ?_ | refine AW.exit ?_ | refine fin_r ?_ | refine fin_n ?_ | refine AW.block ?_ | refine blockQ_n ?_ | refine blockQ_r ?_ | refine blockQ_e ?_ | refine blockQ_o rfl ?_)
  exact ⟨l.set k ⟨l[k].id, l[k].par, l[k].ctx, l[k].tak, wrap64 (l[k].lef - am), l[k].usd, wrap64 (l[k].giv + am), l[k].hol⟩ ++ [⟨n1, l[k].id, l[k].ctx, am, am, 0, 0, ho⟩], ⟨by simp, hmw.out, fun e => (hl.out e).symm⟩, by simp [Try.f102]⟩
theorem s_l20_4 (l : List Smp) (kd sm am : Int) (ho : ByteArray) (h : l.length ≤ 1000) (hh : ∀ s ∈ l, SmpW s) (hho : ho.size ≤ 9223372036854775807) (h1 : ¬ kd = 1) (hR : inR 1 l.length sm = true) (h2 : ¬ (kd = 2 ∧ am = 0)) (h3' : ∀ (k : Nat) (hk : k < l.length), sm = ((k + 1 : Nat) : Int) → ¬ (kd = 3 ∧ inR 1 l[k].lef am = true)) (h4' : ∀ (k : Nat) (hk : k < l.length), sm = ((k + 1 : Nat) : Int) → kd = 4 ∧ inR 1 l[k].lef am = true ∧ ho.toList = []) : ACallX Try.prog 102 [.v (.sl true 8 (smps l)), stpD kd sm am ho] (fun x : List Smp => x.length ≤ l.length + 1 ∧ (∀ s ∈ x, SmpW s) ∧ (stepB l kd sm am ho = true → x = stepL l kd sm am ho)) (fun _ => [.x, .x]) (fun x => [.v (.sl false 8 (smps x)), boo (stepB l kd sm am ho)]) := by
  obtain ⟨n1, hn1⟩ : ∃ n1, n1 = l.length + 1 := ⟨_, rfl⟩
  have e1 : wrap64 ((l.length : Int) + 1) = (n1 : Int) := by rw [w64 (by omega) (by omega)]; omega
  have b1 : l.length * 72 ≤ 140737488355328 := by omega
  have b2 : l.length ≤ 4611686018427387904 := by omega
  have b3 : (l.length + 1) * 72 ≤ 140737488355328 := by omega
  have b4 : l.length + 1 ≤ 4611686018427387904 := by omega
  have hh' : Hd (∀ s ∈ l, SmpW s) := hh
  have hn1' : Hd _ := hn1
  clear hn1
  have hr := inR_iff.1 hR
  obtain ⟨k, hk⟩ : ∃ k : Nat, sm = ((k + 1 : Nat) : Int) := ⟨(sm - 1).toNat, by ((try (clear e0)); (try (clear e1)); (try (clear e2)); (try (clear e3)); (try (clear e4)); (try (clear e5)); (try (clear e6)); (try (clear e7)); (try (clear e8)); (try (clear e9)); (try (clear e10)); (try (clear e11)); omega)⟩
  have e2 : wrap64 (sm - 1) = (k : Int) := by rw [w64 (by ((try (clear e0)); (try (clear e1)); (try (clear e2)); (try (clear e3)); (try (clear e4)); (try (clear e5)); (try (clear e6)); (try (clear e7)); (try (clear e8)); (try (clear e9)); (try (clear e10)); (try (clear e11)); omega)) (by ((try (clear e0)); (try (clear e1)); (try (clear e2)); (try (clear e3)); (try (clear e4)); (try (clear e5)); (try (clear e6)); (try (clear e7)); (try (clear e8)); (try (clear e9)); (try (clear e10)); (try (clear e11)); omega))]; ((try (clear e0)); (try (clear e1)); (try (clear e2)); (try (clear e3)); (try (clear e4)); (try (clear e5)); (try (clear e6)); (try (clear e7)); (try (clear e8)); (try (clear e9)); (try (clear e10)); (try (clear e11)); omega)
  have hkl : k < l.length := by ((try (clear e0)); (try (clear e1)); (try (clear e2)); (try (clear e3)); (try (clear e4)); (try (clear e5)); (try (clear e6)); (try (clear e7)); (try (clear e8)); (try (clear e9)); (try (clear e10)); (try (clear e11)); omega)
  have hi : (sm - 1).toNat = k := by ((try (clear e0)); (try (clear e1)); (try (clear e2)); (try (clear e3)); (try (clear e4)); (try (clear e5)); (try (clear e6)); (try (clear e7)); (try (clear e8)); (try (clear e9)); (try (clear e10)); (try (clear e11)); omega)
  have hx : l[k]? = some l[k] := List.getElem?_eq_getElem hkl
  have hxw := hh l[k] (List.getElem_mem hkl)
  have hsR : Hd (stepR l kd sm am ho = (if kd = 2 ∧ am = 0 then some (l.set k ⟨l[k].id, l[k].par, l[k].ctx, l[k].tak, l[k].lef, l[k].usd, l[k].giv, ho⟩)
    else if kd = 3 ∧ inR 1 l[k].lef am = true then some (l.set k ⟨l[k].id, l[k].par, l[k].ctx, l[k].tak, wrap64 (l[k].lef - am), l[k].usd, wrap64 (l[k].giv + am), l[k].hol⟩ ++ [⟨n1, l[k].id, l[k].ctx, am, am, 0, 0, ho⟩])
    else if kd = 4 ∧ inR 1 l[k].lef am = true ∧ ho.toList = [] then some (l.set k ⟨l[k].id, l[k].par, l[k].ctx, l[k].tak, wrap64 (l[k].lef - am), wrap64 (l[k].usd + am), l[k].giv, l[k].hol⟩)
    else none)) := by
    simp only [Hd, stepR, if_neg h1, hR, if_true, hi, hx, Option.getD_some, ← hn1'.out]
  have hk' : Hd _ := hk
  have h3 := h3' k hkl hk
  have h4 := h4' k hkl hk
  clear h3' h4'
  clear hk hi hx hr
  obtain ⟨hb, hl⟩ := step_some (hsR.out.trans (by rw [if_neg h2, if_neg h3, if_pos h4]))
  obtain ⟨rfl, h4, h5⟩ := h4
  have hmw := W_set (x := ⟨l[k].id, l[k].par, l[k].ctx, l[k].tak, wrap64 (l[k].lef - am), wrap64 (l[k].usd + am), l[k].giv, l[k].hol⟩) (k := k) hh ⟨hxw.1, hxw.2⟩
  have cv := c_spec_l20Good _ (by simp; omega) hmw
  rw [hb]
  generalize goodS (l.set k ⟨l[k].id, l[k].par, l[k].ctx, l[k].tak, wrap64 (l[k].lef - am), wrap64 (l[k].usd + am), l[k].giv, l[k].hol⟩) = gb at *
  replace hl : Hd _ := hl
  replace hmw : Hd _ := hmw
  clear hb hh hxw h2 h3
  refine ACallX.of (N := 135) tok Try.func102 rfl rfl rfl (by simp) ?_
  repeat' (first | with_reducible refine OutOK.done ?_ | refine thenQ_n ?_ | refine thenQ_r ?_ | refine thenQ_e ?_ | refine AW.seq ?_ | refine AW.reg tok (by simp [*]; rfl) ?_ | refine AW.ifB (by simp [*]; rfl) ?_ | refine IfG.t ?_ | refine IfG.f ?_ | (refine IfG.p (fun hg => ?_) (fun hg => ?_) <;> (try (have hg' := hg; simp at hg'))) | (refine IfG.n (fun hg => ?_) (fun hg => ?_) <;> (try (have hg' := hg; simp at hg'))) | (refine OutOK.gateP (fun hg => ?_) (fun hg => ?_) <;> (try (have hg' := hg; simp at hg'))) | (refine OutOK.gateN (fun hg => ?_) (fun hg => ?_) <;> (try (have hg' := hg; simp at hg'))) | (refine IfG.g (fun hg => ?_) (fun hg => ?_) <;> (try (have hg' := hg; simp at hg'))) | (refine OutOK.gate (fun hg => ?_) (fun hg => ?_) <;> (try (have hg' := hg; simp at hg'))) | (refine OutOK.callF [] (by simp [*]; rfl) (by simp [*]; rfl) (by simp [*]; rfl) hb70 (by apply c_spec_l1In <;> first | assumption | exact Hd.out (by assumption) | ((try (clear e0)); (try (clear e1)); (try (clear e2)); (try (clear e3)); (try (clear e4)); (try (clear e5)); (try (clear e6)); (try (clear e7)); (try (clear e8)); (try (clear e9)); (try (clear e10)); (try (clear e11)); omega)) ⟨by simp [*], by simp [*], by simp [*], by simp [*], by simp [*]⟩ (by simp [*]) (by simp [*]; rfl) ?_) | (refine OutOK.callF [] (by simp [*]; rfl) (by simp [*]; rfl) (by simp [*]; rfl) hb85 (by apply cv <;> first | assumption | exact Hd.out (by assumption) | ((try (clear e0)); (try (clear e1)); (try (clear e2)); (try (clear e3)); (try (clear e4)); (try (clear e5)); (try (clear e6)); (try (clear e7)); (try (clear e8)); (try (clear e9)); (try (clear e10)); (try (clear e11)); omega)) ⟨by simp [*], by simp [*], by simp [*], by simp [*], by simp [*]⟩ (by simp [*]) (by simp [*]; rfl) ?_) | refine OutOK.run (by simp [*]; rfl) ?_ | refine AW.ret ?_ | refine AW.skip ?_ | refine AW.exit ?_ | refine fin_r ?_ | refine fin_n ?_ | refine AW.block ?_ | refine blockQ_n ?_ | refine blockQ_r ?_ | refine blockQ_e ?_ | refine blockQ_o rfl ?_)
  exact ⟨l.set k ⟨l[k].id, l[k].par, l[k].ctx, l[k].tak, wrap64 (l[k].lef - am), wrap64 (l[k].usd + am), l[k].giv, l[k].hol⟩, ⟨by simp, hmw.out, fun e => (hl.out e).symm⟩, by simp [Try.f102]⟩
theorem s_l20_n (l : List Smp) (kd sm am : Int) (ho : ByteArray) (h : l.length ≤ 1000) (hh : ∀ s ∈ l, SmpW s) (hho : ho.size ≤ 9223372036854775807) (h1 : ¬ kd = 1) (hR : inR 1 l.length sm = true) (h2 : ¬ (kd = 2 ∧ am = 0)) (h3' : ∀ (k : Nat) (hk : k < l.length), sm = ((k + 1 : Nat) : Int) → ¬ (kd = 3 ∧ inR 1 l[k].lef am = true)) (h4' : ∀ (k : Nat) (hk : k < l.length), sm = ((k + 1 : Nat) : Int) → ¬ (kd = 4 ∧ inR 1 l[k].lef am = true ∧ ho.toList = [])) : ACallX Try.prog 102 [.v (.sl true 8 (smps l)), stpD kd sm am ho] (fun x : List Smp => x.length ≤ l.length + 1 ∧ (∀ s ∈ x, SmpW s) ∧ (stepB l kd sm am ho = true → x = stepL l kd sm am ho)) (fun _ => [.x, .x]) (fun x => [.v (.sl false 8 (smps x)), boo (stepB l kd sm am ho)]) := by
  obtain ⟨n1, hn1⟩ : ∃ n1, n1 = l.length + 1 := ⟨_, rfl⟩
  have e1 : wrap64 ((l.length : Int) + 1) = (n1 : Int) := by rw [w64 (by omega) (by omega)]; omega
  have b1 : l.length * 72 ≤ 140737488355328 := by omega
  have b2 : l.length ≤ 4611686018427387904 := by omega
  have b3 : (l.length + 1) * 72 ≤ 140737488355328 := by omega
  have b4 : l.length + 1 ≤ 4611686018427387904 := by omega
  have hh' : Hd (∀ s ∈ l, SmpW s) := hh
  have hn1' : Hd _ := hn1
  clear hn1
  have hr := inR_iff.1 hR
  obtain ⟨k, hk⟩ : ∃ k : Nat, sm = ((k + 1 : Nat) : Int) := ⟨(sm - 1).toNat, by ((try (clear e0)); (try (clear e1)); (try (clear e2)); (try (clear e3)); (try (clear e4)); (try (clear e5)); (try (clear e6)); (try (clear e7)); (try (clear e8)); (try (clear e9)); (try (clear e10)); (try (clear e11)); omega)⟩
  have e2 : wrap64 (sm - 1) = (k : Int) := by rw [w64 (by ((try (clear e0)); (try (clear e1)); (try (clear e2)); (try (clear e3)); (try (clear e4)); (try (clear e5)); (try (clear e6)); (try (clear e7)); (try (clear e8)); (try (clear e9)); (try (clear e10)); (try (clear e11)); omega)) (by ((try (clear e0)); (try (clear e1)); (try (clear e2)); (try (clear e3)); (try (clear e4)); (try (clear e5)); (try (clear e6)); (try (clear e7)); (try (clear e8)); (try (clear e9)); (try (clear e10)); (try (clear e11)); omega))]; ((try (clear e0)); (try (clear e1)); (try (clear e2)); (try (clear e3)); (try (clear e4)); (try (clear e5)); (try (clear e6)); (try (clear e7)); (try (clear e8)); (try (clear e9)); (try (clear e10)); (try (clear e11)); omega)
  have hkl : k < l.length := by ((try (clear e0)); (try (clear e1)); (try (clear e2)); (try (clear e3)); (try (clear e4)); (try (clear e5)); (try (clear e6)); (try (clear e7)); (try (clear e8)); (try (clear e9)); (try (clear e10)); (try (clear e11)); omega)
  have hi : (sm - 1).toNat = k := by ((try (clear e0)); (try (clear e1)); (try (clear e2)); (try (clear e3)); (try (clear e4)); (try (clear e5)); (try (clear e6)); (try (clear e7)); (try (clear e8)); (try (clear e9)); (try (clear e10)); (try (clear e11)); omega)
  have hx : l[k]? = some l[k] := List.getElem?_eq_getElem hkl
  have hxw := hh l[k] (List.getElem_mem hkl)
  have hsR : Hd (stepR l kd sm am ho = (if kd = 2 ∧ am = 0 then some (l.set k ⟨l[k].id, l[k].par, l[k].ctx, l[k].tak, l[k].lef, l[k].usd, l[k].giv, ho⟩)
    else if kd = 3 ∧ inR 1 l[k].lef am = true then some (l.set k ⟨l[k].id, l[k].par, l[k].ctx, l[k].tak, wrap64 (l[k].lef - am), l[k].usd, wrap64 (l[k].giv + am), l[k].hol⟩ ++ [⟨n1, l[k].id, l[k].ctx, am, am, 0, 0, ho⟩])
    else if kd = 4 ∧ inR 1 l[k].lef am = true ∧ ho.toList = [] then some (l.set k ⟨l[k].id, l[k].par, l[k].ctx, l[k].tak, wrap64 (l[k].lef - am), wrap64 (l[k].usd + am), l[k].giv, l[k].hol⟩)
    else none)) := by
    simp only [Hd, stepR, if_neg h1, hR, if_true, hi, hx, Option.getD_some, ← hn1'.out]
  have hk' : Hd _ := hk
  have h3 := h3' k hkl hk
  have h4 := h4' k hkl hk
  clear h3' h4'
  clear hk hi hx hr
  have hs := hsR.out
  rw [if_neg h2, if_neg h3, if_neg h4] at hs
  have hb := step_none hs
  rw [hb]
  clear hb hs hh hxw hsR
  by_cases k2 : kd = 2
  · have a0 : ¬ am = 0 := fun e => h2 ⟨k2, e⟩
    subst k2
    clear h2 h3 h4 h1
    refine ACallX.of (N := 135) tok Try.func102 rfl rfl rfl (by simp) ?_
    repeat' (first | with_reducible refine OutOK.done ?_ | refine thenQ_n ?_ | refine thenQ_r ?_ | refine thenQ_e ?_ | refine AW.seq ?_ | refine AW.reg tok (by simp [*]; rfl) ?_ | refine AW.ifB (by simp [*]; rfl) ?_ | refine IfG.t ?_ | refine IfG.f ?_ | (refine IfG.p (fun hg => ?_) (fun hg => ?_) <;> (try (have hg' := hg; simp at hg'))) | (refine IfG.n (fun hg => ?_) (fun hg => ?_) <;> (try (have hg' := hg; simp at hg'))) | (refine OutOK.gateP (fun hg => ?_) (fun hg => ?_) <;> (try (have hg' := hg; simp at hg'))) | (refine OutOK.gateN (fun hg => ?_) (fun hg => ?_) <;> (try (have hg' := hg; simp at hg'))) | (refine IfG.g (fun hg => ?_) (fun hg => ?_) <;> (try (have hg' := hg; simp at hg'))) | (refine OutOK.gate (fun hg => ?_) (fun hg => ?_) <;> (try (have hg' := hg; simp at hg'))) | (refine OutOK.callF [] (by simp [*]; rfl) (by simp [*]; rfl) (by simp [*]; rfl) hb70 (by apply c_spec_l1In <;> first | assumption | exact Hd.out (by assumption) | ((try (clear e0)); (try (clear e1)); (try (clear e2)); (try (clear e3)); (try (clear e4)); (try (clear e5)); (try (clear e6)); (try (clear e7)); (try (clear e8)); (try (clear e9)); (try (clear e10)); (try (clear e11)); omega)) ⟨by simp [*], by simp [*], by simp [*], by simp [*], by simp [*]⟩ (by simp [*]) (by simp [*]; rfl) ?_) | refine OutOK.run (by simp [*]; rfl) ?_ | refine AW.ret ?_ | refine AW.skip ?_ | refine AW.exit ?_ | refine fin_r ?_ | refine fin_n ?_ | refine AW.block ?_ | refine blockQ_n ?_ | refine blockQ_r ?_ | refine blockQ_e ?_ | refine blockQ_o rfl ?_)
    exact ⟨l, ⟨by simp, hh'.out, fun e => by simp at e⟩, by simp [Try.f102]⟩
  by_cases k3 : kd = 3
  · have a0 : inR 1 l[k].lef am = false := by simpa [k3] using h3
    subst k3
    clear h2 h3 h4 h1 k2
    refine ACallX.of (N := 135) tok Try.func102 rfl rfl rfl (by simp) ?_
    repeat' (first | with_reducible refine OutOK.done ?_ | refine thenQ_n ?_ | refine thenQ_r ?_ | refine thenQ_e ?_ | refine AW.seq ?_ | refine AW.reg tok (by simp [*]; rfl) ?_ | refine AW.ifB (by simp [*]; rfl) ?_ | refine IfG.t ?_ | refine IfG.f ?_ | (refine IfG.p (fun hg => ?_) (fun hg => ?_) <;> (try (have hg' := hg; simp at hg'))) | (refine IfG.n (fun hg => ?_) (fun hg => ?_) <;> (try (have hg' := hg; simp at hg'))) | (refine OutOK.gateP (fun hg => ?_) (fun hg => ?_) <;> (try (have hg' := hg; simp at hg'))) | (refine OutOK.gateN (fun hg => ?_) (fun hg => ?_) <;> (try (have hg' := hg; simp at hg'))) | (refine IfG.g (fun hg => ?_) (fun hg => ?_) <;> (try (have hg' := hg; simp at hg'))) | (refine OutOK.gate (fun hg => ?_) (fun hg => ?_) <;> (try (have hg' := hg; simp at hg'))) | (refine OutOK.callF [] (by simp [*]; rfl) (by simp [*]; rfl) (by simp [*]; rfl) hb70 (by apply c_spec_l1In <;> first | assumption | exact Hd.out (by assumption) | ((try (clear e0)); (try (clear e1)); (try (clear e2)); (try (clear e3)); (try (clear e4)); (try (clear e5)); (try (clear e6)); (try (clear e7)); (try (clear e8)); (try (clear e9)); (try (clear e10)); (try (clear e11)); omega)) ⟨by simp [*], by simp [*], by simp [*], by simp [*], by simp [*]⟩ (by simp [*]) (by simp [*]; rfl) ?_) | refine OutOK.run (by simp [*]; rfl) ?_ | refine AW.ret ?_ | refine AW.skip ?_ | refine AW.exit ?_ | refine fin_r ?_ | refine fin_n ?_ | refine AW.block ?_ | refine blockQ_n ?_ | refine blockQ_r ?_ | refine blockQ_e ?_ | refine blockQ_o rfl ?_)
    exact ⟨l, ⟨by simp, hh'.out, fun e => by simp at e⟩, by simp [Try.f102]⟩
  by_cases k4 : kd = 4
  · cases a0 : inR 1 l[k].lef am with
    | false =>
      subst k4
      clear h2 h3 h4 h1 k2 k3
      refine ACallX.of (N := 135) tok Try.func102 rfl rfl rfl (by simp) ?_
      repeat' (first | with_reducible refine OutOK.done ?_ | refine thenQ_n ?_ | refine thenQ_r ?_ | refine thenQ_e ?_ | refine AW.seq ?_ | refine AW.reg tok (by simp [*]; rfl) ?_ | refine AW.ifB (by simp [*]; rfl) ?_ | refine IfG.t ?_ | refine IfG.f ?_ | (refine IfG.p (fun hg => ?_) (fun hg => ?_) <;> (try (have hg' := hg; simp at hg'))) | (refine IfG.n (fun hg => ?_) (fun hg => ?_) <;> (try (have hg' := hg; simp at hg'))) | (refine OutOK.gateP (fun hg => ?_) (fun hg => ?_) <;> (try (have hg' := hg; simp at hg'))) | (refine OutOK.gateN (fun hg => ?_) (fun hg => ?_) <;> (try (have hg' := hg; simp at hg'))) | (refine IfG.g (fun hg => ?_) (fun hg => ?_) <;> (try (have hg' := hg; simp at hg'))) | (refine OutOK.gate (fun hg => ?_) (fun hg => ?_) <;> (try (have hg' := hg; simp at hg'))) | (refine OutOK.callF [] (by simp [*]; rfl) (by simp [*]; rfl) (by simp [*]; rfl) hb70 (by apply c_spec_l1In <;> first | assumption | exact Hd.out (by assumption) | ((try (clear e0)); (try (clear e1)); (try (clear e2)); (try (clear e3)); (try (clear e4)); (try (clear e5)); (try (clear e6)); (try (clear e7)); (try (clear e8)); (try (clear e9)); (try (clear e10)); (try (clear e11)); omega)) ⟨by simp [*], by simp [*], by simp [*], by simp [*], by simp [*]⟩ (by simp [*]) (by simp [*]; rfl) ?_) | refine OutOK.run (by simp [*]; rfl) ?_ | refine AW.ret ?_ | refine AW.skip ?_ | refine AW.exit ?_ | refine fin_r ?_ | refine fin_n ?_ | refine AW.block ?_ | refine blockQ_n ?_ | refine blockQ_r ?_ | refine blockQ_e ?_ | refine blockQ_o rfl ?_)
      exact ⟨l, ⟨by simp, hh'.out, fun e => by simp at e⟩, by simp [Try.f102]⟩
    | true =>
      have a1 : ¬ ho.toList = [] := fun e => h4 ⟨k4, a0, e⟩
      subst k4
      clear h2 h3 h4 h1 k2 k3
      refine ACallX.of (N := 135) tok Try.func102 rfl rfl rfl (by simp) ?_
      repeat' (first | with_reducible refine OutOK.done ?_ | refine thenQ_n ?_ | refine thenQ_r ?_ | refine thenQ_e ?_ | refine AW.seq ?_ | refine AW.reg tok (by simp [*]; rfl) ?_ | refine AW.ifB (by simp [*]; rfl) ?_ | refine IfG.t ?_ | refine IfG.f ?_ | (refine IfG.p (fun hg => ?_) (fun hg => ?_) <;> (try (have hg' := hg; simp at hg'))) | (refine IfG.n (fun hg => ?_) (fun hg => ?_) <;> (try (have hg' := hg; simp at hg'))) | (refine OutOK.gateP (fun hg => ?_) (fun hg => ?_) <;> (try (have hg' := hg; simp at hg'))) | (refine OutOK.gateN (fun hg => ?_) (fun hg => ?_) <;> (try (have hg' := hg; simp at hg'))) | (refine IfG.g (fun hg => ?_) (fun hg => ?_) <;> (try (have hg' := hg; simp at hg'))) | (refine OutOK.gate (fun hg => ?_) (fun hg => ?_) <;> (try (have hg' := hg; simp at hg'))) | (refine OutOK.callF [] (by simp [*]; rfl) (by simp [*]; rfl) (by simp [*]; rfl) hb70 (by apply c_spec_l1In <;> first | assumption | exact Hd.out (by assumption) | ((try (clear e0)); (try (clear e1)); (try (clear e2)); (try (clear e3)); (try (clear e4)); (try (clear e5)); (try (clear e6)); (try (clear e7)); (try (clear e8)); (try (clear e9)); (try (clear e10)); (try (clear e11)); omega)) ⟨by simp [*], by simp [*], by simp [*], by simp [*], by simp [*]⟩ (by simp [*]) (by simp [*]; rfl) ?_) | refine OutOK.run (by simp [*]; rfl) ?_ | refine AW.ret ?_ | refine AW.skip ?_ | refine AW.exit ?_ | refine fin_r ?_ | refine fin_n ?_ | refine AW.block ?_ | refine blockQ_n ?_ | refine blockQ_r ?_ | refine blockQ_e ?_ | refine blockQ_o rfl ?_)
      exact ⟨l, ⟨by simp, hh'.out, fun e => by simp at e⟩, by simp [Try.f102]⟩
  · clear h2 h3 h4
    refine ACallX.of (N := 135) tok Try.func102 rfl rfl rfl (by simp) ?_
    repeat' (first | with_reducible refine OutOK.done ?_ | refine thenQ_n ?_ | refine thenQ_r ?_ | refine thenQ_e ?_ | refine AW.seq ?_ | refine AW.reg tok (by simp [*]; rfl) ?_ | refine AW.ifB (by simp [*]; rfl) ?_ | refine IfG.t ?_ | refine IfG.f ?_ | (refine IfG.p (fun hg => ?_) (fun hg => ?_) <;> (try (have hg' := hg; simp at hg'))) | (refine IfG.n (fun hg => ?_) (fun hg => ?_) <;> (try (have hg' := hg; simp at hg'))) | (refine OutOK.gateP (fun hg => ?_) (fun hg => ?_) <;> (try (have hg' := hg; simp at hg'))) | (refine OutOK.gateN (fun hg => ?_) (fun hg => ?_) <;> (try (have hg' := hg; simp at hg'))) | (refine IfG.g (fun hg => ?_) (fun hg => ?_) <;> (try (have hg' := hg; simp at hg'))) | (refine OutOK.gate (fun hg => ?_) (fun hg => ?_) <;> (try (have hg' := hg; simp at hg'))) | (refine OutOK.callF [] (by simp [*]; rfl) (by simp [*]; rfl) (by simp [*]; rfl) hb70 (by apply c_spec_l1In <;> first | assumption | exact Hd.out (by assumption) | ((try (clear e0)); (try (clear e1)); (try (clear e2)); (try (clear e3)); (try (clear e4)); (try (clear e5)); (try (clear e6)); (try (clear e7)); (try (clear e8)); (try (clear e9)); (try (clear e10)); (try (clear e11)); omega)) ⟨by simp [*], by simp [*], by simp [*], by simp [*], by simp [*]⟩ (by simp [*]) (by simp [*]; rfl) ?_) | refine OutOK.run (by simp [*]; rfl) ?_ | refine AW.ret ?_ | refine AW.skip ?_ | refine AW.exit ?_ | refine fin_r ?_ | refine fin_n ?_ | refine AW.block ?_ | refine blockQ_n ?_ | refine blockQ_r ?_ | refine blockQ_e ?_ | refine blockQ_o rfl ?_)
    exact ⟨l, ⟨by simp, hh'.out, fun e => by simp at e⟩, by simp [Try.f102]⟩
theorem x_spec_l20Step (l : List Smp) (kd sm am : Int) (ho : ByteArray) (h : l.length ≤ 1000) (hh : ∀ s ∈ l, SmpW s) (hho : ho.size ≤ 9223372036854775807) : ACallX Try.prog 102 [.v (.sl true 8 (smps l)), stpD kd sm am ho] (fun x : List Smp => x.length ≤ l.length + 1 ∧ (∀ s ∈ x, SmpW s) ∧ (stepB l kd sm am ho = true → x = stepL l kd sm am ho)) (fun _ => [.x, .x]) (fun x => [.v (.sl false 8 (smps x)), boo (stepB l kd sm am ho)]) := by
  by_cases h1 : kd = 1
  · exact s_l20_1 l kd sm am ho h hh hho h1
  cases hR : inR 1 l.length sm with
  | false => exact s_l20_R l kd sm am ho h hh hho h1 hR
  | true =>
    by_cases h2 : kd = 2 ∧ am = 0
    · exact s_l20_2 l kd sm am ho h hh hho h1 hR h2
    have hr := inR_iff.1 hR
    obtain ⟨k, hk⟩ : ∃ k : Nat, sm = ((k + 1 : Nat) : Int) := ⟨(sm - 1).toNat, by omega⟩
    have hkl : k < l.length := by omega
    have hu : ∀ k', sm = ((k' + 1 : Nat) : Int) → k' = k := fun k' e => by omega
    by_cases h3 : kd = 3 ∧ inR 1 l[k].lef am = true
    · exact s_l20_3 l kd sm am ho h hh hho h1 hR h2 (fun k' _ e => by obtain rfl := hu k' e; exact h3)
    by_cases h4 : kd = 4 ∧ inR 1 l[k].lef am = true ∧ ho.toList = []
    · exact s_l20_4 l kd sm am ho h hh hho h1 hR h2 (fun k' _ e => by obtain rfl := hu k' e; exact h3) (fun k' _ e => by obtain rfl := hu k' e; exact h4)
    · exact s_l20_n l kd sm am ho h hh hho h1 hR h2 (fun k' _ e => by obtain rfl := hu k' e; exact h3) (fun k' _ e => by obtain rfl := hu k' e; exact h4)
end Go.Proofs.Ytlphkfkcfomlbaa.EngS


set_option linter.unusedSimpArgs false
set_option linter.unusedVariables false
set_option maxHeartbeats 4000000
set_option maxRecDepth 100000
namespace Go.Proofs.Ytlphkfkcfomlbaa.EngS
open Go Go.Proofs Go.Eng Go.RowKit
structure SmpF (x : Smp) (k : Nat) : Prop where
  id : x.id = ((k + 1 : Nat) : Int)
  p0 : 0 ≤ x.par
  p1 : x.par ≤ k
  t1 : 1 ≤ x.tak
  t2 : x.tak ≤ 500
  l1 : 0 ≤ x.lef
  l2 : x.lef ≤ x.tak
  u1 : 0 ≤ x.usd
  u2 : x.usd ≤ x.tak
  g1 : 0 ≤ x.giv
  g2 : x.giv ≤ x.tak
  s : x.lef + x.usd + x.giv = x.tak
theorem good_x {l : List Smp} (hg : goodS l = true) (hw : ∀ s ∈ l, SmpW s) {k : Nat} (hk : k < l.length) : l.length ≤ 16 ∧ SmpF l[k] k ∧ l[k].giv = givI l l[k].id l.length := by
  obtain ⟨h16, h⟩ := goodS_at hg
  have h := h k hk
  have hx := hw l[k] (List.getElem_mem hk)
  generalize l[k] = x at *
  simp only [smOK, smA, smB, smD, Bool.and_eq_true, decide_eq_true_eq, inR_iff] at h
  obtain ⟨⟨⟨⟨⟨⟨⟨⟨⟨⟨a1, a2⟩, a3⟩, a4⟩, a5⟩, a6⟩, a7⟩, a8⟩, ⟨⟨b1, b2⟩, b3⟩⟩, c1⟩, d1⟩ := h
  obtain ⟨w1, w2, w3⟩ := hx
  have e1 : wrap64 ((k : Int) + 1) = (k : Int) + 1 := w64 (by omega) (by omega)
  have e2 : wrap64 (x.lef + x.usd) = x.lef + x.usd := w64 (by omega) (by omega)
  rw [e1] at a1
  rw [e2] at b3
  have hs : x.lef + x.usd + x.giv = x.tak := by
    clear d1 c1 e1 e2 a1
    unfold wrap64 at b3
    omega
  refine ⟨h16, ⟨by omega, a2.1, a2.2, a4.1, a4.2, a5, b1, a6, b2, a7, by omega, hs⟩, d1⟩
attribute [local irreducible] Go.RowKit.wrap64
theorem c_slices_Clone_impl_Sample_impl_Sample (l : List Smp) (h : l.length ≤ 1000) : ACall Try.prog 116 [.v (.sl true 8 (smps l))] [.x] [.v (.sl false 8 (smps l))] := by
  have h1 : (l.length : Int) * 72 ≤ 140737488355328 := by omega
  have h2 : (l.length : Int) ≤ 4611686018427387904 := by omega
  have h3 : l.length * 72 ≤ 140737488355328 := by omega
  have h4 : l.length ≤ 4611686018427387904 := by omega
  refine ACall.of (N := 8) tok Try.func116 rfl rfl rfl (by simp) ?_
  repeat' (first | with_reducible refine OutOK.done ?_ | refine thenQ_n ?_ | refine thenQ_r ?_ | refine thenQ_e ?_ | refine AW.seq ?_ | (refine AW.isNil tok rfl rfl rfl (by simp [*]; rfl) (by simp [*]; done) (by decide) ?_; intro hb hc; cases hb <;> simp at hc) | refine AW.reg tok (by simp [*]; rfl) ?_ | refine AW.ifB (by simp [*]; rfl) ?_ | refine IfG.t ?_ | refine IfG.f ?_ | (refine IfG.p (fun hg => ?_) (fun hg => ?_) <;> (try (have hg' := hg; simp at hg'))) | (refine IfG.n (fun hg => ?_) (fun hg => ?_) <;> (try (have hg' := hg; simp at hg'))) | (refine OutOK.gateP (fun hg => ?_) (fun hg => ?_) <;> (try (have hg' := hg; simp at hg'))) | (refine OutOK.gateN (fun hg => ?_) (fun hg => ?_) <;> (try (have hg' := hg; simp at hg'))) | (refine IfG.g (fun hg => ?_) (fun hg => ?_) <;> (try (have hg' := hg; simp at hg'))) | (refine OutOK.gate (fun hg => ?_) (fun hg => ?_) <;> (try (have hg' := hg; simp at hg'))) | refine OutOK.run (by simp [*]; rfl) ?_ | refine AW.ret ?_ | refine AW.skip ?_ | refine AW.exit ?_ | refine fin_r ?_ | refine fin_n ?_ | refine AW.block ?_ | refine blockQ_n ?_ | refine blockQ_r ?_ | refine blockQ_e ?_ | refine blockQ_o rfl ?_)
  all_goals (try simp [*, Try.f116])
theorem goodS_tak {l : List Smp} {i : Nat} (hl : i < l.length) (h : inR 1 500 l[i].tak = false) : goodS l = false := goodS_no hl (by simp [smOK, smA, h])
theorem goodS_lef {l : List Smp} {i : Nat} (hl : i < l.length) (h : l[i].lef < 0) : goodS l = false := goodS_no hl (by simp [smOK, smA, show ¬ 0 ≤ l[i].lef by omega])
theorem step_at {l : List Smp} {kd sm am : Int} {ho : ByteArray} {k : Nat} (h1 : ¬ kd = 1) (hk : sm = ((k + 1 : Nat) : Int)) (hkl : k < l.length) :
    stepR l kd sm am ho = (if kd = 2 ∧ am = 0 then some (l.set k ⟨l[k].id, l[k].par, l[k].ctx, l[k].tak, l[k].lef, l[k].usd, l[k].giv, ho⟩)
      else if kd = 3 ∧ inR 1 l[k].lef am = true then some (l.set k ⟨l[k].id, l[k].par, l[k].ctx, l[k].tak, wrap64 (l[k].lef - am), l[k].usd, wrap64 (l[k].giv + am), l[k].hol⟩ ++ [⟨(l.length + 1 : Nat), l[k].id, l[k].ctx, am, am, 0, 0, ho⟩])
      else if kd = 4 ∧ inR 1 l[k].lef am = true ∧ ho.toList = [] then some (l.set k ⟨l[k].id, l[k].par, l[k].ctx, l[k].tak, wrap64 (l[k].lef - am), wrap64 (l[k].usd + am), l[k].giv, l[k].hol⟩)
      else none) := by
  have hR : inR 1 l.length sm = true := inR_iff.2 ⟨by omega, by omega⟩
  have hi : (sm - 1).toNat = k := by omega
  have hx : l[k]? = some l[k] := List.getElem?_eq_getElem hkl
  simp only [stepR, if_neg h1, hR, if_true, hi, hx, Option.getD_some]
theorem lef_under {x : Smp} {k : Nat} {am : Int} (hf : SmpF x k) (ha : inR 0 500 am = true) (h0 : ¬ am = 0) (hn : inR 1 x.lef am = false) : wrap64 (x.lef - am) < 0 := by
  have h1 := hf.l1; have h2 := hf.l2; have h3 := hf.t2
  rw [inR_iff] at ha
  rw [inR_not] at hn
  rw [w64 (by omega) (by omega)]; omega
theorem step_3 {l : List Smp} {sm am : Int} {ho : ByteArray} {k : Nat} (hf : ∀ (hk : k < l.length), SmpF l[k] k) (hk : sm = ((k + 1 : Nat) : Int)) (hkl : k < l.length) (ha : inR 0 500 am = true) (h0 : ¬ am = 0) :
    stepB l 3 sm am ho = goodS (l.set k ⟨l[k].id, l[k].par, l[k].ctx, l[k].tak, wrap64 (l[k].lef - am), l[k].usd, wrap64 (l[k].giv + am), l[k].hol⟩ ++ [⟨(l.length + 1 : Nat), l[k].id, l[k].ctx, am, am, 0, 0, ho⟩]) ∧ (goodS (l.set k ⟨l[k].id, l[k].par, l[k].ctx, l[k].tak, wrap64 (l[k].lef - am), l[k].usd, wrap64 (l[k].giv + am), l[k].hol⟩ ++ [⟨(l.length + 1 : Nat), l[k].id, l[k].ctx, am, am, 0, 0, ho⟩]) = true →
      stepL l 3 sm am ho = l.set k ⟨l[k].id, l[k].par, l[k].ctx, l[k].tak, wrap64 (l[k].lef - am), l[k].usd, wrap64 (l[k].giv + am), l[k].hol⟩ ++ [⟨(l.length + 1 : Nat), l[k].id, l[k].ctx, am, am, 0, 0, ho⟩]) := by
  have hs := step_at (am := am) (ho := ho) (show ¬ (3 : Int) = 1 by decide) hk hkl
  rw [if_neg (by simp)] at hs
  cases hi : inR 1 l[k].lef am with
  | true =>
    rw [if_pos ⟨rfl, hi⟩] at hs
    exact step_some hs
  | false =>
    rw [if_neg (by simp [hi]), if_neg (by simp)] at hs
    have hb := step_none hs
    have hg : goodS (l.set k ⟨l[k].id, l[k].par, l[k].ctx, l[k].tak, wrap64 (l[k].lef - am), l[k].usd, wrap64 (l[k].giv + am), l[k].hol⟩ ++ [⟨(l.length + 1 : Nat), l[k].id, l[k].ctx, am, am, 0, 0, ho⟩]) = false :=
      goodS_lef (i := k) (by simp; omega) (by rw [List.getElem_append_left (by simpa using hkl), List.getElem_set_self]; exact lef_under (hf hkl) ha h0 hi)
    rw [hb, hg]
    exact ⟨rfl, fun e => by cases e⟩
theorem step_4 {l : List Smp} {sm am : Int} {ho : ByteArray} {k : Nat} (hf : ∀ (hk : k < l.length), SmpF l[k] k) (hk : sm = ((k + 1 : Nat) : Int)) (hkl : k < l.length) (ha : inR 0 500 am = true) (h0 : ¬ am = 0) (h5 : ho.toList = []) :
    stepB l 4 sm am ho = goodS (l.set k ⟨l[k].id, l[k].par, l[k].ctx, l[k].tak, wrap64 (l[k].lef - am), wrap64 (l[k].usd + am), l[k].giv, l[k].hol⟩) ∧ (goodS (l.set k ⟨l[k].id, l[k].par, l[k].ctx, l[k].tak, wrap64 (l[k].lef - am), wrap64 (l[k].usd + am), l[k].giv, l[k].hol⟩) = true →
      stepL l 4 sm am ho = l.set k ⟨l[k].id, l[k].par, l[k].ctx, l[k].tak, wrap64 (l[k].lef - am), wrap64 (l[k].usd + am), l[k].giv, l[k].hol⟩) := by
  have hs := step_at (am := am) (ho := ho) (show ¬ (4 : Int) = 1 by decide) hk hkl
  rw [if_neg (by simp), if_neg (by simp)] at hs
  cases hi : inR 1 l[k].lef am with
  | true =>
    rw [if_pos ⟨rfl, hi, h5⟩] at hs
    exact step_some hs
  | false =>
    rw [if_neg (by simp [hi])] at hs
    have hb := step_none hs
    have hg : goodS (l.set k ⟨l[k].id, l[k].par, l[k].ctx, l[k].tak, wrap64 (l[k].lef - am), wrap64 (l[k].usd + am), l[k].giv, l[k].hol⟩) = false :=
      goodS_lef (i := k) (by simpa using hkl) (by rw [List.getElem_set_self]; exact lef_under (hf hkl) ha h0 hi)
    rw [hb, hg]
    exact ⟨rfl, fun e => by cases e⟩
theorem s_app_1n (l : List Smp) (kd sm am : Int) (ho : ByteArray) (hgl : goodS l = true) (hh : ∀ s ∈ l, SmpW s) (hho : ho.size ≤ 9223372036854775807) (h1 : kd = 1) (hA : inR 1 500 am = false) : ACall Try.prog 101 [.v (.sl true 8 (smps l)), stpD kd sm am ho] [.x, .x] [.v (.sl false 8 (smps (stepL l kd sm am ho))), boo (stepB l kd sm am ho)] := by
  obtain ⟨n1, hn1⟩ : ∃ n1, n1 = l.length + 1 := ⟨_, rfl⟩
  have h16 := (goodS_at hgl).1
  have e1 : wrap64 ((l.length : Int) + 1) = (n1 : Int) := by rw [w64 (by omega) (by omega)]; omega
  have b3 : (l.length + 1) * 72 ≤ 140737488355328 := by omega
  have b4 : l.length + 1 ≤ 4611686018427387904 := by omega
  have cc := c_slices_Clone_impl_Sample_impl_Sample l (by omega)
  have i0 : inR 0 500 0 = true := inR_iff.2 ⟨by omega, by omega⟩
  have hn1' : Hd _ := hn1
  clear hn1
  have hb : stepB l kd sm am ho = false := by
    rw [(step_some (m := l ++ [⟨n1, 0, sm, am, am, 0, 0, ho⟩]) (by simp [stepR, h1, hn1'.out])).1]
    exact goodS_tak (i := l.length) (by simp) (by simpa using hA)
  rw [show stepL l kd sm am ho = [] by simp [stepL, hb], hb]
  clear hb hgl hh
  subst h1
  by_cases ha : am = 0
  · subst ha
    refine ACall.of (N := 140) tok Try.func101 rfl rfl rfl (by simp) ?_
    repeat' (first | with_reducible refine OutOK.done ?_ | refine thenQ_n ?_ | refine thenQ_r ?_ | refine thenQ_e ?_ | refine AW.seq ?_ | refine AW.dreg tok mixed [5]  [(0, false), (1, false), (2, false), (4, false), (3, false), (5, true), (6, false), (7, false), (8, false), (9, false)] (by decide +kernel) rfl (by simp [*]; rfl) ?_ | refine AW.dreg tok mixed [5]  [(0, false), (1, false), (2, false), (4, false), (3, false), (5, true), (6, false), (7, false), (8, false), (9, false)] (by decide +kernel) rfl (by simp [*]; rfl) ?_ | refine AW.dreg tok mixed [9, 11, 13, 15]  [(0, false), (1, false), (2, false), (3, false), (4, false), (6, false), (7, false), (8, false), (10, false), (12, false), (14, false), (5, false), (9, true), (11, true), (13, true), (15, true), (16, false), (17, false), (18, false), (19, false)] (by decide +kernel) rfl (by simp [*]; rfl) ?_ | refine AW.dreg tok mixed [8]  [(0, false), (1, false), (7, false), (2, false), (3, false), (4, false), (5, false), (6, false), (8, true), (9, false), (10, false), (11, false), (12, false)] (by decide +kernel) rfl (by simp [*]; rfl) ?_ | refine AW.dreg tok mixed [8]  [(0, false), (1, false), (7, false), (2, false), (3, false), (4, false), (5, false), (6, false), (8, true), (9, false), (10, false), (11, false), (12, false)] (by decide +kernel) rfl (by simp [*]; rfl) ?_ | refine AW.reg tok (by simp [*]; rfl) ?_ | refine AW.ifB (by simp [*]; rfl) ?_ | refine IfG.t ?_ | refine IfG.f ?_ | (refine IfG.p (fun hg => ?_) (fun hg => ?_) <;> (try (have hg' := hg; simp at hg'))) | (refine IfG.n (fun hg => ?_) (fun hg => ?_) <;> (try (have hg' := hg; simp at hg'))) | (refine OutOK.gateP (fun hg => ?_) (fun hg => ?_) <;> (try (have hg' := hg; simp at hg'))) | (refine OutOK.gateN (fun hg => ?_) (fun hg => ?_) <;> (try (have hg' := hg; simp at hg'))) | (refine IfG.g (fun hg => ?_) (fun hg => ?_) <;> (try (have hg' := hg; simp at hg'))) | (refine OutOK.gate (fun hg => ?_) (fun hg => ?_) <;> (try (have hg' := hg; simp at hg'))) | (refine OutOK.callF [] (by simp [*]; rfl) (by simp [*]; rfl) (by simp [*]; rfl) hb67 (by apply c_impl_within <;> first | assumption | exact Hd.out (by assumption) | ((try (clear e0)); (try (clear e1)); (try (clear e2)); (try (clear e3)); (try (clear e4)); (try (clear e5)); (try (clear e6)); (try (clear e7)); (try (clear e8)); (try (clear e9)); (try (clear e10)); (try (clear e11)); omega)) ⟨by simp [*], by simp [*], by simp [*], by simp [*], by simp [*]⟩ (by simp [*]) (by simp [*]; rfl) ?_) | (refine OutOK.callF [] (by simp [*]; rfl) (by simp [*]; rfl) (by simp [*]; rfl) hb116 (by apply cc <;> first | assumption | exact Hd.out (by assumption) | ((try (clear e0)); (try (clear e1)); (try (clear e2)); (try (clear e3)); (try (clear e4)); (try (clear e5)); (try (clear e6)); (try (clear e7)); (try (clear e8)); (try (clear e9)); (try (clear e10)); (try (clear e11)); omega)) ⟨by simp [*], by simp [*], by simp [*], by simp [*], by simp [*]⟩ (by simp [*]) (by simp [*]; rfl) ?_) | refine OutOK.run (by simp [*]; rfl) ?_ | refine AW.ret ?_ | refine AW.skip ?_ | refine AW.exit ?_ | refine fin_r ?_ | refine fin_n ?_ | refine AW.block ?_ | refine blockQ_n ?_ | refine blockQ_r ?_ | refine blockQ_e ?_ | refine blockQ_o rfl ?_)
    simp [Try.f101, smps]
  · have hA2 : inR 0 500 am = false := by
      rw [inR_not] at hA ⊢; omega
    clear hA
    refine ACall.of (N := 140) tok Try.func101 rfl rfl rfl (by simp) ?_
    repeat' (first | with_reducible refine OutOK.done ?_ | refine thenQ_n ?_ | refine thenQ_r ?_ | refine thenQ_e ?_ | refine AW.seq ?_ | refine AW.dreg tok mixed [5]  [(0, false), (1, false), (2, false), (4, false), (3, false), (5, true), (6, false), (7, false), (8, false), (9, false)] (by decide +kernel) rfl (by simp [*]; rfl) ?_ | refine AW.dreg tok mixed [5]  [(0, false), (1, false), (2, false), (4, false), (3, false), (5, true), (6, false), (7, false), (8, false), (9, false)] (by decide +kernel) rfl (by simp [*]; rfl) ?_ | refine AW.dreg tok mixed [9, 11, 13, 15]  [(0, false), (1, false), (2, false), (3, false), (4, false), (6, false), (7, false), (8, false), (10, false), (12, false), (14, false), (5, false), (9, true), (11, true), (13, true), (15, true), (16, false), (17, false), (18, false), (19, false)] (by decide +kernel) rfl (by simp [*]; rfl) ?_ | refine AW.dreg tok mixed [8]  [(0, false), (1, false), (7, false), (2, false), (3, false), (4, false), (5, false), (6, false), (8, true), (9, false), (10, false), (11, false), (12, false)] (by decide +kernel) rfl (by simp [*]; rfl) ?_ | refine AW.dreg tok mixed [8]  [(0, false), (1, false), (7, false), (2, false), (3, false), (4, false), (5, false), (6, false), (8, true), (9, false), (10, false), (11, false), (12, false)] (by decide +kernel) rfl (by simp [*]; rfl) ?_ | refine AW.reg tok (by simp [*]; rfl) ?_ | refine AW.ifB (by simp [*]; rfl) ?_ | refine IfG.t ?_ | refine IfG.f ?_ | (refine IfG.p (fun hg => ?_) (fun hg => ?_) <;> (try (have hg' := hg; simp at hg'))) | (refine IfG.n (fun hg => ?_) (fun hg => ?_) <;> (try (have hg' := hg; simp at hg'))) | (refine OutOK.gateP (fun hg => ?_) (fun hg => ?_) <;> (try (have hg' := hg; simp at hg'))) | (refine OutOK.gateN (fun hg => ?_) (fun hg => ?_) <;> (try (have hg' := hg; simp at hg'))) | (refine IfG.g (fun hg => ?_) (fun hg => ?_) <;> (try (have hg' := hg; simp at hg'))) | (refine OutOK.gate (fun hg => ?_) (fun hg => ?_) <;> (try (have hg' := hg; simp at hg'))) | (refine OutOK.callF [] (by simp [*]; rfl) (by simp [*]; rfl) (by simp [*]; rfl) hb67 (by apply c_impl_within <;> first | assumption | exact Hd.out (by assumption) | ((try (clear e0)); (try (clear e1)); (try (clear e2)); (try (clear e3)); (try (clear e4)); (try (clear e5)); (try (clear e6)); (try (clear e7)); (try (clear e8)); (try (clear e9)); (try (clear e10)); (try (clear e11)); omega)) ⟨by simp [*], by simp [*], by simp [*], by simp [*], by simp [*]⟩ (by simp [*]) (by simp [*]; rfl) ?_) | (refine OutOK.callF [] (by simp [*]; rfl) (by simp [*]; rfl) (by simp [*]; rfl) hb116 (by apply cc <;> first | assumption | exact Hd.out (by assumption) | ((try (clear e0)); (try (clear e1)); (try (clear e2)); (try (clear e3)); (try (clear e4)); (try (clear e5)); (try (clear e6)); (try (clear e7)); (try (clear e8)); (try (clear e9)); (try (clear e10)); (try (clear e11)); omega)) ⟨by simp [*], by simp [*], by simp [*], by simp [*], by simp [*]⟩ (by simp [*]) (by simp [*]; rfl) ?_) | refine OutOK.run (by simp [*]; rfl) ?_ | refine AW.ret ?_ | refine AW.skip ?_ | refine AW.exit ?_ | refine fin_r ?_ | refine fin_n ?_ | refine AW.block ?_ | refine blockQ_n ?_ | refine blockQ_r ?_ | refine blockQ_e ?_ | refine blockQ_o rfl ?_)
    simp [Try.f101, smps]
theorem s_app_1 (l : List Smp) (kd sm am : Int) (ho : ByteArray) (hgl : goodS l = true) (hh : ∀ s ∈ l, SmpW s) (hho : ho.size ≤ 9223372036854775807) (h1 : kd = 1) (hA : inR 1 500 am = true) : ACall Try.prog 101 [.v (.sl true 8 (smps l)), stpD kd sm am ho] [.x, .x] [.v (.sl false 8 (smps (stepL l kd sm am ho))), boo (stepB l kd sm am ho)] := by
  obtain ⟨n1, hn1⟩ : ∃ n1, n1 = l.length + 1 := ⟨_, rfl⟩
  have h16 := (goodS_at hgl).1
  have e1 : wrap64 ((l.length : Int) + 1) = (n1 : Int) := by rw [w64 (by omega) (by omega)]; omega
  have b3 : (l.length + 1) * 72 ≤ 140737488355328 := by omega
  have b4 : l.length + 1 ≤ 4611686018427387904 := by omega
  have cc := c_slices_Clone_impl_Sample_impl_Sample l (by omega)
  have i0 : inR 0 500 0 = true := inR_iff.2 ⟨by omega, by omega⟩
  have hn1' : Hd _ := hn1
  clear hn1
  have hA2 : inR 0 500 am = true := by
    rw [inR_iff] at hA ⊢; omega
  have ha : ¬ am = 0 := by rw [inR_iff] at hA; omega
  clear hA
  obtain ⟨hb, hl⟩ := step_some (m := l ++ [(⟨n1, 0, sm, am, am, 0, 0, ho⟩ : Smp)]) (show stepR l kd sm am ho = _ by simp [stepR, h1, hn1'.out])
  have hmw : ∀ s ∈ l ++ [(⟨n1, 0, sm, am, am, 0, 0, ho⟩ : Smp)], SmpW s := W_app hh ⟨hho, by simp, by simp⟩
  have cv := c_impl_IsValidSamples _ (by simp; omega) hmw
  have hm : stepL l kd sm am ho = if goodS (l ++ [(⟨n1, 0, sm, am, am, 0, 0, ho⟩ : Smp)]) = true then l ++ [(⟨n1, 0, sm, am, am, 0, 0, ho⟩ : Smp)] else [] := by
    split
    · rename_i e; exact hl e
    · rename_i e; have : stepB l kd sm am ho = false := by rw [hb]; simpa using e
      simp [stepL, this]
  rw [hm, hb]
  subst h1
  cases hgb : goodS (l ++ [(⟨n1, 0, sm, am, am, 0, 0, ho⟩ : Smp)]) <;> rw [hgb] at cv
  · clear hm hb hl hgb hmw hgl hh 
    refine ACall.of (N := 140) tok Try.func101 rfl rfl rfl (by simp) ?_
    repeat' (first | with_reducible refine OutOK.done ?_ | refine thenQ_n ?_ | refine thenQ_r ?_ | refine thenQ_e ?_ | refine AW.seq ?_ | refine AW.dreg tok mixed [5]  [(0, false), (1, false), (2, false), (4, false), (3, false), (5, true), (6, false), (7, false), (8, false), (9, false)] (by decide +kernel) rfl (by simp (maxSteps := 3000000) [*]; rfl) ?_ | refine AW.dreg tok mixed [5]  [(0, false), (1, false), (2, false), (4, false), (3, false), (5, true), (6, false), (7, false), (8, false), (9, false)] (by decide +kernel) rfl (by simp (maxSteps := 3000000) [*]; rfl) ?_ | refine AW.dreg tok mixed [9, 11, 13, 15]  [(0, false), (1, false), (2, false), (3, false), (4, false), (6, false), (7, false), (8, false), (10, false), (12, false), (14, false), (5, false), (9, true), (11, true), (13, true), (15, true), (16, false), (17, false), (18, false), (19, false)] (by decide +kernel) rfl (by simp (maxSteps := 3000000) [*]; rfl) ?_ | refine AW.dreg tok mixed [8]  [(0, false), (1, false), (7, false), (2, false), (3, false), (4, false), (5, false), (6, false), (8, true), (9, false), (10, false), (11, false), (12, false)] (by decide +kernel) rfl (by simp (maxSteps := 3000000) [*]; rfl) ?_ | refine AW.dreg tok mixed [8]  [(0, false), (1, false), (7, false), (2, false), (3, false), (4, false), (5, false), (6, false), (8, true), (9, false), (10, false), (11, false), (12, false)] (by decide +kernel) rfl (by simp (maxSteps := 3000000) [*]; rfl) ?_ | refine AW.reg tok (by simp (maxSteps := 3000000) [*]; rfl) ?_ | refine AW.ifB (by simp (maxSteps := 3000000) [*]; rfl) ?_ | refine IfG.t ?_ | refine IfG.f ?_ | (refine IfG.p (fun hg => ?_) (fun hg => ?_) <;> (try (have hg' := hg; simp at hg'))) | (refine IfG.n (fun hg => ?_) (fun hg => ?_) <;> (try (have hg' := hg; simp at hg'))) | (refine OutOK.gateP (fun hg => ?_) (fun hg => ?_) <;> (try (have hg' := hg; simp at hg'))) | (refine OutOK.gateN (fun hg => ?_) (fun hg => ?_) <;> (try (have hg' := hg; simp at hg'))) | (refine IfG.g (fun hg => ?_) (fun hg => ?_) <;> (try (have hg' := hg; simp at hg'))) | (refine OutOK.gate (fun hg => ?_) (fun hg => ?_) <;> (try (have hg' := hg; simp at hg'))) | (refine OutOK.callF [] (by simp (maxSteps := 3000000) [*]; rfl) (by simp (maxSteps := 3000000) [*]; rfl) (by simp (maxSteps := 3000000) [*]; rfl) hb67 (by apply c_impl_within <;> first | assumption | exact Hd.out (by assumption) | ((try (clear e0)); (try (clear e1)); (try (clear e2)); (try (clear e3)); (try (clear e4)); (try (clear e5)); (try (clear e6)); (try (clear e7)); (try (clear e8)); (try (clear e9)); (try (clear e10)); (try (clear e11)); omega)) ⟨by simp (maxSteps := 3000000) [*], by simp (maxSteps := 3000000) [*], by simp (maxSteps := 3000000) [*], by simp (maxSteps := 3000000) [*], by simp (maxSteps := 3000000) [*]⟩ (by simp (maxSteps := 3000000) [*]) (by simp (maxSteps := 3000000) [*]; rfl) ?_) | (refine OutOK.callF [] (by simp (maxSteps := 3000000) [*]; rfl) (by simp (maxSteps := 3000000) [*]; rfl) (by simp (maxSteps := 3000000) [*]; rfl) hb116 (by apply cc <;> first | assumption | exact Hd.out (by assumption) | ((try (clear e0)); (try (clear e1)); (try (clear e2)); (try (clear e3)); (try (clear e4)); (try (clear e5)); (try (clear e6)); (try (clear e7)); (try (clear e8)); (try (clear e9)); (try (clear e10)); (try (clear e11)); omega)) ⟨by simp (maxSteps := 3000000) [*], by simp (maxSteps := 3000000) [*], by simp (maxSteps := 3000000) [*], by simp (maxSteps := 3000000) [*], by simp (maxSteps := 3000000) [*]⟩ (by simp (maxSteps := 3000000) [*]) (by simp (maxSteps := 3000000) [*]; rfl) ?_) | (refine OutOK.callF [] (by simp (maxSteps := 3000000) [*]; rfl) (by simp (maxSteps := 3000000) [*]; rfl) (by simp (maxSteps := 3000000) [*]; rfl) hb33 (by apply cv <;> first | assumption | exact Hd.out (by assumption) | ((try (clear e0)); (try (clear e1)); (try (clear e2)); (try (clear e3)); (try (clear e4)); (try (clear e5)); (try (clear e6)); (try (clear e7)); (try (clear e8)); (try (clear e9)); (try (clear e10)); (try (clear e11)); omega)) ⟨by simp (maxSteps := 3000000) [*], by simp (maxSteps := 3000000) [*], by simp (maxSteps := 3000000) [*], by simp (maxSteps := 3000000) [*], by simp (maxSteps := 3000000) [*]⟩ (by simp (maxSteps := 3000000) [*]) (by simp (maxSteps := 3000000) [*]; rfl) ?_) | refine OutOK.run (by simp (maxSteps := 3000000) [*]; rfl) ?_ | refine AW.ret ?_ | refine AW.skip ?_ | refine AW.exit ?_ | refine fin_r ?_ | refine fin_n ?_ | refine AW.block ?_ | refine blockQ_n ?_ | refine blockQ_r ?_ | refine blockQ_e ?_ | refine blockQ_o rfl ?_)
    simp [Try.f101, smps]
  · clear hm hb hl hgb hmw hgl hh 
    refine ACall.of (N := 140) tok Try.func101 rfl rfl rfl (by simp) ?_
    repeat' (first | with_reducible refine OutOK.done ?_ | refine thenQ_n ?_ | refine thenQ_r ?_ | refine thenQ_e ?_ | refine AW.seq ?_ | refine AW.dreg tok mixed [5]  [(0, false), (1, false), (2, false), (4, false), (3, false), (5, true), (6, false), (7, false), (8, false), (9, false)] (by decide +kernel) rfl (by simp (maxSteps := 3000000) [*]; rfl) ?_ | refine AW.dreg tok mixed [5]  [(0, false), (1, false), (2, false), (4, false), (3, false), (5, true), (6, false), (7, false), (8, false), (9, false)] (by decide +kernel) rfl (by simp (maxSteps := 3000000) [*]; rfl) ?_ | refine AW.dreg tok mixed [9, 11, 13, 15]  [(0, false), (1, false), (2, false), (3, false), (4, false), (6, false), (7, false), (8, false), (10, false), (12, false), (14, false), (5, false), (9, true), (11, true), (13, true), (15, true), (16, false), (17, false), (18, false), (19, false)] (by decide +kernel) rfl (by simp (maxSteps := 3000000) [*]; rfl) ?_ | refine AW.dreg tok mixed [8]  [(0, false), (1, false), (7, false), (2, false), (3, false), (4, false), (5, false), (6, false), (8, true), (9, false), (10, false), (11, false), (12, false)] (by decide +kernel) rfl (by simp (maxSteps := 3000000) [*]; rfl) ?_ | refine AW.dreg tok mixed [8]  [(0, false), (1, false), (7, false), (2, false), (3, false), (4, false), (5, false), (6, false), (8, true), (9, false), (10, false), (11, false), (12, false)] (by decide +kernel) rfl (by simp (maxSteps := 3000000) [*]; rfl) ?_ | refine AW.reg tok (by simp (maxSteps := 3000000) [*]; rfl) ?_ | refine AW.ifB (by simp (maxSteps := 3000000) [*]; rfl) ?_ | refine IfG.t ?_ | refine IfG.f ?_ | (refine IfG.p (fun hg => ?_) (fun hg => ?_) <;> (try (have hg' := hg; simp at hg'))) | (refine IfG.n (fun hg => ?_) (fun hg => ?_) <;> (try (have hg' := hg; simp at hg'))) | (refine OutOK.gateP (fun hg => ?_) (fun hg => ?_) <;> (try (have hg' := hg; simp at hg'))) | (refine OutOK.gateN (fun hg => ?_) (fun hg => ?_) <;> (try (have hg' := hg; simp at hg'))) | (refine IfG.g (fun hg => ?_) (fun hg => ?_) <;> (try (have hg' := hg; simp at hg'))) | (refine OutOK.gate (fun hg => ?_) (fun hg => ?_) <;> (try (have hg' := hg; simp at hg'))) | (refine OutOK.callF [] (by simp (maxSteps := 3000000) [*]; rfl) (by simp (maxSteps := 3000000) [*]; rfl) (by simp (maxSteps := 3000000) [*]; rfl) hb67 (by apply c_impl_within <;> first | assumption | exact Hd.out (by assumption) | ((try (clear e0)); (try (clear e1)); (try (clear e2)); (try (clear e3)); (try (clear e4)); (try (clear e5)); (try (clear e6)); (try (clear e7)); (try (clear e8)); (try (clear e9)); (try (clear e10)); (try (clear e11)); omega)) ⟨by simp (maxSteps := 3000000) [*], by simp (maxSteps := 3000000) [*], by simp (maxSteps := 3000000) [*], by simp (maxSteps := 3000000) [*], by simp (maxSteps := 3000000) [*]⟩ (by simp (maxSteps := 3000000) [*]) (by simp (maxSteps := 3000000) [*]; rfl) ?_) | (refine OutOK.callF [] (by simp (maxSteps := 3000000) [*]; rfl) (by simp (maxSteps := 3000000) [*]; rfl) (by simp (maxSteps := 3000000) [*]; rfl) hb116 (by apply cc <;> first | assumption | exact Hd.out (by assumption) | ((try (clear e0)); (try (clear e1)); (try (clear e2)); (try (clear e3)); (try (clear e4)); (try (clear e5)); (try (clear e6)); (try (clear e7)); (try (clear e8)); (try (clear e9)); (try (clear e10)); (try (clear e11)); omega)) ⟨by simp (maxSteps := 3000000) [*], by simp (maxSteps := 3000000) [*], by simp (maxSteps := 3000000) [*], by simp (maxSteps := 3000000) [*], by simp (maxSteps := 3000000) [*]⟩ (by simp (maxSteps := 3000000) [*]) (by simp (maxSteps := 3000000) [*]; rfl) ?_) | (refine OutOK.callF [] (by simp (maxSteps := 3000000) [*]; rfl) (by simp (maxSteps := 3000000) [*]; rfl) (by simp (maxSteps := 3000000) [*]; rfl) hb33 (by apply cv <;> first | assumption | exact Hd.out (by assumption) | ((try (clear e0)); (try (clear e1)); (try (clear e2)); (try (clear e3)); (try (clear e4)); (try (clear e5)); (try (clear e6)); (try (clear e7)); (try (clear e8)); (try (clear e9)); (try (clear e10)); (try (clear e11)); omega)) ⟨by simp (maxSteps := 3000000) [*], by simp (maxSteps := 3000000) [*], by simp (maxSteps := 3000000) [*], by simp (maxSteps := 3000000) [*], by simp (maxSteps := 3000000) [*]⟩ (by simp (maxSteps := 3000000) [*]) (by simp (maxSteps := 3000000) [*]; rfl) ?_) | refine OutOK.run (by simp (maxSteps := 3000000) [*]; rfl) ?_ | refine AW.ret ?_ | refine AW.skip ?_ | refine AW.exit ?_ | refine fin_r ?_ | refine fin_n ?_ | refine AW.block ?_ | refine blockQ_n ?_ | refine blockQ_r ?_ | refine blockQ_e ?_ | refine blockQ_o rfl ?_)
    simp [Try.f101]
theorem s_app_R (l : List Smp) (kd sm am : Int) (ho : ByteArray) (hgl : goodS l = true) (hh : ∀ s ∈ l, SmpW s) (hho : ho.size ≤ 9223372036854775807) (h1 : ¬ kd = 1) (hR : inR 1 l.length sm = false) : ACall Try.prog 101 [.v (.sl true 8 (smps l)), stpD kd sm am ho] [.x, .x] [.v (.sl false 8 (smps (stepL l kd sm am ho))), boo (stepB l kd sm am ho)] := by
  obtain ⟨n1, hn1⟩ : ∃ n1, n1 = l.length + 1 := ⟨_, rfl⟩
  have h16 := (goodS_at hgl).1
  have e1 : wrap64 ((l.length : Int) + 1) = (n1 : Int) := by rw [w64 (by omega) (by omega)]; omega
  have b3 : (l.length + 1) * 72 ≤ 140737488355328 := by omega
  have b4 : l.length + 1 ≤ 4611686018427387904 := by omega
  have cc := c_slices_Clone_impl_Sample_impl_Sample l (by omega)
  have i0 : inR 0 500 0 = true := inR_iff.2 ⟨by omega, by omega⟩
  have hn1' : Hd _ := hn1
  clear hn1
  have hb := step_none (show stepR l kd sm am ho = none by simp [stepR, h1, hR])
  rw [show stepL l kd sm am ho = [] by simp [stepL, hb], hb]
  clear hb hgl hh 
  refine ACall.of (N := 140) tok Try.func101 rfl rfl rfl (by simp) ?_
  repeat' (first | with_reducible refine OutOK.done ?_ | refine thenQ_n ?_ | refine thenQ_r ?_ | refine thenQ_e ?_ | refine AW.seq ?_ | refine AW.dreg tok mixed [5]  [(0, false), (1, false), (2, false), (4, false), (3, false), (5, true), (6, false), (7, false), (8, false), (9, false)] (by decide +kernel) rfl (by simp [*]; rfl) ?_ | refine AW.dreg tok mixed [5]  [(0, false), (1, false), (2, false), (4, false), (3, false), (5, true), (6, false), (7, false), (8, false), (9, false)] (by decide +kernel) rfl (by simp [*]; rfl) ?_ | refine AW.dreg tok mixed [9, 11, 13, 15]  [(0, false), (1, false), (2, false), (3, false), (4, false), (6, false), (7, false), (8, false), (10, false), (12, false), (14, false), (5, false), (9, true), (11, true), (13, true), (15, true), (16, false), (17, false), (18, false), (19, false)] (by decide +kernel) rfl (by simp [*]; rfl) ?_ | refine AW.dreg tok mixed [8]  [(0, false), (1, false), (7, false), (2, false), (3, false), (4, false), (5, false), (6, false), (8, true), (9, false), (10, false), (11, false), (12, false)] (by decide +kernel) rfl (by simp [*]; rfl) ?_ | refine AW.dreg tok mixed [8]  [(0, false), (1, false), (7, false), (2, false), (3, false), (4, false), (5, false), (6, false), (8, true), (9, false), (10, false), (11, false), (12, false)] (by decide +kernel) rfl (by simp [*]; rfl) ?_ | refine AW.reg tok (by simp [*]; rfl) ?_ | refine AW.ifB (by simp [*]; rfl) ?_ | refine IfG.t ?_ | refine IfG.f ?_ | (refine IfG.p (fun hg => ?_) (fun hg => ?_) <;> (try (have hg' := hg; simp at hg'))) | (refine IfG.n (fun hg => ?_) (fun hg => ?_) <;> (try (have hg' := hg; simp at hg'))) | (refine OutOK.gateP (fun hg => ?_) (fun hg => ?_) <;> (try (have hg' := hg; simp at hg'))) | (refine OutOK.gateN (fun hg => ?_) (fun hg => ?_) <;> (try (have hg' := hg; simp at hg'))) | (refine IfG.g (fun hg => ?_) (fun hg => ?_) <;> (try (have hg' := hg; simp at hg'))) | (refine OutOK.gate (fun hg => ?_) (fun hg => ?_) <;> (try (have hg' := hg; simp at hg'))) | (refine OutOK.callF [] (by simp [*]; rfl) (by simp [*]; rfl) (by simp [*]; rfl) hb67 (by apply c_impl_within <;> first | assumption | exact Hd.out (by assumption) | ((try (clear e0)); (try (clear e1)); (try (clear e2)); (try (clear e3)); (try (clear e4)); (try (clear e5)); (try (clear e6)); (try (clear e7)); (try (clear e8)); (try (clear e9)); (try (clear e10)); (try (clear e11)); omega)) ⟨by simp [*], by simp [*], by simp [*], by simp [*], by simp [*]⟩ (by simp [*]) (by simp [*]; rfl) ?_) | (refine OutOK.callF [] (by simp [*]; rfl) (by simp [*]; rfl) (by simp [*]; rfl) hb116 (by apply cc <;> first | assumption | exact Hd.out (by assumption) | ((try (clear e0)); (try (clear e1)); (try (clear e2)); (try (clear e3)); (try (clear e4)); (try (clear e5)); (try (clear e6)); (try (clear e7)); (try (clear e8)); (try (clear e9)); (try (clear e10)); (try (clear e11)); omega)) ⟨by simp [*], by simp [*], by simp [*], by simp [*], by simp [*]⟩ (by simp [*]) (by simp [*]; rfl) ?_) | refine OutOK.run (by simp [*]; rfl) ?_ | refine AW.ret ?_ | refine AW.skip ?_ | refine AW.exit ?_ | refine fin_r ?_ | refine fin_n ?_ | refine AW.block ?_ | refine blockQ_n ?_ | refine blockQ_r ?_ | refine blockQ_e ?_ | refine blockQ_o rfl ?_)
  simp [Try.f101, smps]
theorem s_app_z (l : List Smp) (kd sm am : Int) (ho : ByteArray) (hgl : goodS l = true) (hh : ∀ s ∈ l, SmpW s) (hho : ho.size ≤ 9223372036854775807) (h1 : ¬ kd = 1) (hR : inR 1 l.length sm = true) (k : Nat) (hkl : k < l.length) (hk : sm = ((k + 1 : Nat) : Int)) (h2 : ¬ kd = 2) (hA : inR 0 500 am = false ∨ am = 0) : ACall Try.prog 101 [.v (.sl true 8 (smps l)), stpD kd sm am ho] [.x, .x] [.v (.sl false 8 (smps (stepL l kd sm am ho))), boo (stepB l kd sm am ho)] := by
  obtain ⟨n1, hn1⟩ : ∃ n1, n1 = l.length + 1 := ⟨_, rfl⟩
  have h16 := (goodS_at hgl).1
  have e1 : wrap64 ((l.length : Int) + 1) = (n1 : Int) := by rw [w64 (by omega) (by omega)]; omega
  have b3 : (l.length + 1) * 72 ≤ 140737488355328 := by omega
  have b4 : l.length + 1 ≤ 4611686018427387904 := by omega
  have cc := c_slices_Clone_impl_Sample_impl_Sample l (by omega)
  have i0 : inR 0 500 0 = true := inR_iff.2 ⟨by omega, by omega⟩
  have hn1' : Hd _ := hn1
  clear hn1
  have e2 : wrap64 (sm - 1) = (k : Int) := by rw [w64 (by ((try (clear e0)); (try (clear e1)); (try (clear e2)); (try (clear e3)); (try (clear e4)); (try (clear e5)); (try (clear e6)); (try (clear e7)); (try (clear e8)); (try (clear e9)); (try (clear e10)); (try (clear e11)); omega)) (by ((try (clear e0)); (try (clear e1)); (try (clear e2)); (try (clear e3)); (try (clear e4)); (try (clear e5)); (try (clear e6)); (try (clear e7)); (try (clear e8)); (try (clear e9)); (try (clear e10)); (try (clear e11)); omega))]; ((try (clear e0)); (try (clear e1)); (try (clear e2)); (try (clear e3)); (try (clear e4)); (try (clear e5)); (try (clear e6)); (try (clear e7)); (try (clear e8)); (try (clear e9)); (try (clear e10)); (try (clear e11)); omega)
  have hf : SmpF l[k] k := (good_x hgl hh hkl).2.1
  have hid : l[k].id = sm := by rw [hf.id, hk]
  have hk' : Hd _ := hk
  have hxw := hh l[k] (List.getElem_mem hkl)
  have hn : inR 1 l[k].lef am = false := by
    have := hf.l2; have := hf.t2
    rw [inR_not]
    rcases hA with hA | hA
    · rw [inR_not] at hA; omega
    · omega
  have hb := step_none (show stepR l kd sm am ho = none by rw [step_at h1 hk hkl, if_neg (by simp [h2]), if_neg (by simp [hn]), if_neg (by simp [hn])])
  rw [show stepL l kd sm am ho = [] by simp [stepL, hb], hb]
  clear hb hgl hh hn hk hid hf hxw
  rcases hA with hA | hA
  · by_cases ha : am = 0
    · subst ha
      refine ACall.of (N := 140) tok Try.func101 rfl rfl rfl (by simp) ?_
      repeat' (first | with_reducible refine OutOK.done ?_ | refine thenQ_n ?_ | refine thenQ_r ?_ | refine thenQ_e ?_ | refine AW.seq ?_ | refine AW.dreg tok mixed [5]  [(0, false), (1, false), (2, false), (4, false), (3, false), (5, true), (6, false), (7, false), (8, false), (9, false)] (by decide +kernel) rfl (by simp [*]; rfl) ?_ | refine AW.dreg tok mixed [5]  [(0, false), (1, false), (2, false), (4, false), (3, false), (5, true), (6, false), (7, false), (8, false), (9, false)] (by decide +kernel) rfl (by simp [*]; rfl) ?_ | refine AW.dreg tok mixed [9, 11, 13, 15]  [(0, false), (1, false), (2, false), (3, false), (4, false), (6, false), (7, false), (8, false), (10, false), (12, false), (14, false), (5, false), (9, true), (11, true), (13, true), (15, true), (16, false), (17, false), (18, false), (19, false)] (by decide +kernel) rfl (by simp [*]; rfl) ?_ | refine AW.dreg tok mixed [8]  [(0, false), (1, false), (7, false), (2, false), (3, false), (4, false), (5, false), (6, false), (8, true), (9, false), (10, false), (11, false), (12, false)] (by decide +kernel) rfl (by simp [*]; rfl) ?_ | refine AW.dreg tok mixed [8]  [(0, false), (1, false), (7, false), (2, false), (3, false), (4, false), (5, false), (6, false), (8, true), (9, false), (10, false), (11, false), (12, false)] (by decide +kernel) rfl (by simp [*]; rfl) ?_ | refine AW.reg tok (by simp [*]; rfl) ?_ | refine AW.ifB (by simp [*]; rfl) ?_ | refine IfG.t ?_ | refine IfG.f ?_ | (refine IfG.p (fun hg => ?_) (fun hg => ?_) <;> (try (have hg' := hg; simp at hg'))) | (refine IfG.n (fun hg => ?_) (fun hg => ?_) <;> (try (have hg' := hg; simp at hg'))) | (refine OutOK.gateP (fun hg => ?_) (fun hg => ?_) <;> (try (have hg' := hg; simp at hg'))) | (refine OutOK.gateN (fun hg => ?_) (fun hg => ?_) <;> (try (have hg' := hg; simp at hg'))) | (refine IfG.g (fun hg => ?_) (fun hg => ?_) <;> (try (have hg' := hg; simp at hg'))) | (refine OutOK.gate (fun hg => ?_) (fun hg => ?_) <;> (try (have hg' := hg; simp at hg'))) | (refine OutOK.callF [] (by simp [*]; rfl) (by simp [*]; rfl) (by simp [*]; rfl) hb67 (by apply c_impl_within <;> first | assumption | exact Hd.out (by assumption) | ((try (clear e0)); (try (clear e1)); (try (clear e2)); (try (clear e3)); (try (clear e4)); (try (clear e5)); (try (clear e6)); (try (clear e7)); (try (clear e8)); (try (clear e9)); (try (clear e10)); (try (clear e11)); omega)) ⟨by simp [*], by simp [*], by simp [*], by simp [*], by simp [*]⟩ (by simp [*]) (by simp [*]; rfl) ?_) | (refine OutOK.callF [] (by simp [*]; rfl) (by simp [*]; rfl) (by simp [*]; rfl) hb116 (by apply cc <;> first | assumption | exact Hd.out (by assumption) | ((try (clear e0)); (try (clear e1)); (try (clear e2)); (try (clear e3)); (try (clear e4)); (try (clear e5)); (try (clear e6)); (try (clear e7)); (try (clear e8)); (try (clear e9)); (try (clear e10)); (try (clear e11)); omega)) ⟨by simp [*], by simp [*], by simp [*], by simp [*], by simp [*]⟩ (by simp [*]) (by simp [*]; rfl) ?_) | refine OutOK.run (by simp [*]; rfl) ?_ | refine AW.ret ?_ | refine AW.skip ?_ | refine AW.exit ?_ | refine fin_r ?_ | refine fin_n ?_ | refine AW.block ?_ | refine blockQ_n ?_ | refine blockQ_r ?_ | refine blockQ_e ?_ | refine blockQ_o rfl ?_)
      simp [Try.f101, smps]
    · refine ACall.of (N := 140) tok Try.func101 rfl rfl rfl (by simp) ?_
      repeat' (first | with_reducible refine OutOK.done ?_ | refine thenQ_n ?_ | refine thenQ_r ?_ | refine thenQ_e ?_ | refine AW.seq ?_ | refine AW.dreg tok mixed [5]  [(0, false), (1, false), (2, false), (4, false), (3, false), (5, true), (6, false), (7, false), (8, false), (9, false)] (by decide +kernel) rfl (by simp [*]; rfl) ?_ | refine AW.dreg tok mixed [5]  [(0, false), (1, false), (2, false), (4, false), (3, false), (5, true), (6, false), (7, false), (8, false), (9, false)] (by decide +kernel) rfl (by simp [*]; rfl) ?_ | refine AW.dreg tok mixed [9, 11, 13, 15]  [(0, false), (1, false), (2, false), (3, false), (4, false), (6, false), (7, false), (8, false), (10, false), (12, false), (14, false), (5, false), (9, true), (11, true), (13, true), (15, true), (16, false), (17, false), (18, false), (19, false)] (by decide +kernel) rfl (by simp [*]; rfl) ?_ | refine AW.dreg tok mixed [8]  [(0, false), (1, false), (7, false), (2, false), (3, false), (4, false), (5, false), (6, false), (8, true), (9, false), (10, false), (11, false), (12, false)] (by decide +kernel) rfl (by simp [*]; rfl) ?_ | refine AW.dreg tok mixed [8]  [(0, false), (1, false), (7, false), (2, false), (3, false), (4, false), (5, false), (6, false), (8, true), (9, false), (10, false), (11, false), (12, false)] (by decide +kernel) rfl (by simp [*]; rfl) ?_ | refine AW.reg tok (by simp [*]; rfl) ?_ | refine AW.ifB (by simp [*]; rfl) ?_ | refine IfG.t ?_ | refine IfG.f ?_ | (refine IfG.p (fun hg => ?_) (fun hg => ?_) <;> (try (have hg' := hg; simp at hg'))) | (refine IfG.n (fun hg => ?_) (fun hg => ?_) <;> (try (have hg' := hg; simp at hg'))) | (refine OutOK.gateP (fun hg => ?_) (fun hg => ?_) <;> (try (have hg' := hg; simp at hg'))) | (refine OutOK.gateN (fun hg => ?_) (fun hg => ?_) <;> (try (have hg' := hg; simp at hg'))) | (refine IfG.g (fun hg => ?_) (fun hg => ?_) <;> (try (have hg' := hg; simp at hg'))) | (refine OutOK.gate (fun hg => ?_) (fun hg => ?_) <;> (try (have hg' := hg; simp at hg'))) | (refine OutOK.callF [] (by simp [*]; rfl) (by simp [*]; rfl) (by simp [*]; rfl) hb67 (by apply c_impl_within <;> first | assumption | exact Hd.out (by assumption) | ((try (clear e0)); (try (clear e1)); (try (clear e2)); (try (clear e3)); (try (clear e4)); (try (clear e5)); (try (clear e6)); (try (clear e7)); (try (clear e8)); (try (clear e9)); (try (clear e10)); (try (clear e11)); omega)) ⟨by simp [*], by simp [*], by simp [*], by simp [*], by simp [*]⟩ (by simp [*]) (by simp [*]; rfl) ?_) | (refine OutOK.callF [] (by simp [*]; rfl) (by simp [*]; rfl) (by simp [*]; rfl) hb116 (by apply cc <;> first | assumption | exact Hd.out (by assumption) | ((try (clear e0)); (try (clear e1)); (try (clear e2)); (try (clear e3)); (try (clear e4)); (try (clear e5)); (try (clear e6)); (try (clear e7)); (try (clear e8)); (try (clear e9)); (try (clear e10)); (try (clear e11)); omega)) ⟨by simp [*], by simp [*], by simp [*], by simp [*], by simp [*]⟩ (by simp [*]) (by simp [*]; rfl) ?_) | refine OutOK.run (by simp [*]; rfl) ?_ | refine AW.ret ?_ | refine AW.skip ?_ | refine AW.exit ?_ | refine fin_r ?_ | refine fin_n ?_ | refine AW.block ?_ | refine blockQ_n ?_ | refine blockQ_r ?_ | refine blockQ_e ?_ | refine blockQ_o rfl ?_)
      simp [Try.f101, smps]
  · subst hA
    refine ACall.of (N := 140) tok Try.func101 rfl rfl rfl (by simp) ?_
    repeat' (first | with_reducible refine OutOK.done ?_ | refine thenQ_n ?_ | refine thenQ_r ?_ | refine thenQ_e ?_ | refine AW.seq ?_ | refine AW.dreg tok mixed [5]  [(0, false), (1, false), (2, false), (4, false), (3, false), (5, true), (6, false), (7, false), (8, false), (9, false)] (by decide +kernel) rfl (by simp [*]; rfl) ?_ | refine AW.dreg tok mixed [5]  [(0, false), (1, false), (2, false), (4, false), (3, false), (5, true), (6, false), (7, false), (8, false), (9, false)] (by decide +kernel) rfl (by simp [*]; rfl) ?_ | refine AW.dreg tok mixed [9, 11, 13, 15]  [(0, false), (1, false), (2, false), (3, false), (4, false), (6, false), (7, false), (8, false), (10, false), (12, false), (14, false), (5, false), (9, true), (11, true), (13, true), (15, true), (16, false), (17, false), (18, false), (19, false)] (by decide +kernel) rfl (by simp [*]; rfl) ?_ | refine AW.dreg tok mixed [8]  [(0, false), (1, false), (7, false), (2, false), (3, false), (4, false), (5, false), (6, false), (8, true), (9, false), (10, false), (11, false), (12, false)] (by decide +kernel) rfl (by simp [*]; rfl) ?_ | refine AW.dreg tok mixed [8]  [(0, false), (1, false), (7, false), (2, false), (3, false), (4, false), (5, false), (6, false), (8, true), (9, false), (10, false), (11, false), (12, false)] (by decide +kernel) rfl (by simp [*]; rfl) ?_ | refine AW.reg tok (by simp [*]; rfl) ?_ | refine AW.ifB (by simp [*]; rfl) ?_ | refine IfG.t ?_ | refine IfG.f ?_ | (refine IfG.p (fun hg => ?_) (fun hg => ?_) <;> (try (have hg' := hg; simp at hg'))) | (refine IfG.n (fun hg => ?_) (fun hg => ?_) <;> (try (have hg' := hg; simp at hg'))) | (refine OutOK.gateP (fun hg => ?_) (fun hg => ?_) <;> (try (have hg' := hg; simp at hg'))) | (refine OutOK.gateN (fun hg => ?_) (fun hg => ?_) <;> (try (have hg' := hg; simp at hg'))) | (refine IfG.g (fun hg => ?_) (fun hg => ?_) <;> (try (have hg' := hg; simp at hg'))) | (refine OutOK.gate (fun hg => ?_) (fun hg => ?_) <;> (try (have hg' := hg; simp at hg'))) | (refine OutOK.callF [] (by simp [*]; rfl) (by simp [*]; rfl) (by simp [*]; rfl) hb67 (by apply c_impl_within <;> first | assumption | exact Hd.out (by assumption) | ((try (clear e0)); (try (clear e1)); (try (clear e2)); (try (clear e3)); (try (clear e4)); (try (clear e5)); (try (clear e6)); (try (clear e7)); (try (clear e8)); (try (clear e9)); (try (clear e10)); (try (clear e11)); omega)) ⟨by simp [*], by simp [*], by simp [*], by simp [*], by simp [*]⟩ (by simp [*]) (by simp [*]; rfl) ?_) | (refine OutOK.callF [] (by simp [*]; rfl) (by simp [*]; rfl) (by simp [*]; rfl) hb116 (by apply cc <;> first | assumption | exact Hd.out (by assumption) | ((try (clear e0)); (try (clear e1)); (try (clear e2)); (try (clear e3)); (try (clear e4)); (try (clear e5)); (try (clear e6)); (try (clear e7)); (try (clear e8)); (try (clear e9)); (try (clear e10)); (try (clear e11)); omega)) ⟨by simp [*], by simp [*], by simp [*], by simp [*], by simp [*]⟩ (by simp [*]) (by simp [*]; rfl) ?_) | refine OutOK.run (by simp [*]; rfl) ?_ | refine AW.ret ?_ | refine AW.skip ?_ | refine AW.exit ?_ | refine fin_r ?_ | refine fin_n ?_ | refine AW.block ?_ | refine blockQ_n ?_ | refine blockQ_r ?_ | refine blockQ_e ?_ | refine blockQ_o rfl ?_)
    simp [Try.f101, smps]
theorem s_app_2n (l : List Smp) (kd sm am : Int) (ho : ByteArray) (hgl : goodS l = true) (hh : ∀ s ∈ l, SmpW s) (hho : ho.size ≤ 9223372036854775807) (h1 : ¬ kd = 1) (hR : inR 1 l.length sm = true) (k : Nat) (hkl : k < l.length) (hk : sm = ((k + 1 : Nat) : Int)) (h2 : kd = 2) (ha : ¬ am = 0) : ACall Try.prog 101 [.v (.sl true 8 (smps l)), stpD kd sm am ho] [.x, .x] [.v (.sl false 8 (smps (stepL l kd sm am ho))), boo (stepB l kd sm am ho)] := by
  obtain ⟨n1, hn1⟩ : ∃ n1, n1 = l.length + 1 := ⟨_, rfl⟩
  have h16 := (goodS_at hgl).1
  have e1 : wrap64 ((l.length : Int) + 1) = (n1 : Int) := by rw [w64 (by omega) (by omega)]; omega
  have b3 : (l.length + 1) * 72 ≤ 140737488355328 := by omega
  have b4 : l.length + 1 ≤ 4611686018427387904 := by omega
  have cc := c_slices_Clone_impl_Sample_impl_Sample l (by omega)
  have i0 : inR 0 500 0 = true := inR_iff.2 ⟨by omega, by omega⟩
  have hn1' : Hd _ := hn1
  clear hn1
  have e2 : wrap64 (sm - 1) = (k : Int) := by rw [w64 (by ((try (clear e0)); (try (clear e1)); (try (clear e2)); (try (clear e3)); (try (clear e4)); (try (clear e5)); (try (clear e6)); (try (clear e7)); (try (clear e8)); (try (clear e9)); (try (clear e10)); (try (clear e11)); omega)) (by ((try (clear e0)); (try (clear e1)); (try (clear e2)); (try (clear e3)); (try (clear e4)); (try (clear e5)); (try (clear e6)); (try (clear e7)); (try (clear e8)); (try (clear e9)); (try (clear e10)); (try (clear e11)); omega))]; ((try (clear e0)); (try (clear e1)); (try (clear e2)); (try (clear e3)); (try (clear e4)); (try (clear e5)); (try (clear e6)); (try (clear e7)); (try (clear e8)); (try (clear e9)); (try (clear e10)); (try (clear e11)); omega)
  have hf : SmpF l[k] k := (good_x hgl hh hkl).2.1
  have hid : l[k].id = sm := by rw [hf.id, hk]
  have hk' : Hd _ := hk
  have hxw := hh l[k] (List.getElem_mem hkl)
  have hb := step_none (show stepR l kd sm am ho = none by rw [step_at h1 hk hkl, if_neg (by simp [ha]), if_neg (by simp [h2]), if_neg (by simp [h2])])
  subst h2
  rw [show stepL l 2 sm am ho = [] by simp [stepL, hb], hb]
  clear hb hgl hh hk hid hf hxw h1
  refine ACall.of (N := 140) tok Try.func101 rfl rfl rfl (by simp) ?_
  repeat' (first | with_reducible refine OutOK.done ?_ | refine thenQ_n ?_ | refine thenQ_r ?_ | refine thenQ_e ?_ | refine AW.seq ?_ | refine AW.dreg tok mixed [5]  [(0, false), (1, false), (2, false), (4, false), (3, false), (5, true), (6, false), (7, false), (8, false), (9, false)] (by decide +kernel) rfl (by simp [*]; rfl) ?_ | refine AW.dreg tok mixed [5]  [(0, false), (1, false), (2, false), (4, false), (3, false), (5, true), (6, false), (7, false), (8, false), (9, false)] (by decide +kernel) rfl (by simp [*]; rfl) ?_ | refine AW.dreg tok mixed [9, 11, 13, 15]  [(0, false), (1, false), (2, false), (3, false), (4, false), (6, false), (7, false), (8, false), (10, false), (12, false), (14, false), (5, false), (9, true), (11, true), (13, true), (15, true), (16, false), (17, false), (18, false), (19, false)] (by decide +kernel) rfl (by simp [*]; rfl) ?_ | refine AW.dreg tok mixed [8]  [(0, false), (1, false), (7, false), (2, false), (3, false), (4, false), (5, false), (6, false), (8, true), (9, false), (10, false), (11, false), (12, false)] (by decide +kernel) rfl (by simp [*]; rfl) ?_ | refine AW.dreg tok mixed [8]  [(0, false), (1, false), (7, false), (2, false), (3, false), (4, false), (5, false), (6, false), (8, true), (9, false), (10, false), (11, false), (12, false)] (by decide +kernel) rfl (by simp [*]; rfl) ?_ | refine AW.reg tok (by simp [*]; rfl) ?_ | refine AW.ifB (by simp [*]; rfl) ?_ | refine IfG.t ?_ | refine IfG.f ?_ | (refine IfG.p (fun hg => ?_) (fun hg => ?_) <;> (try (have hg' := hg; simp at hg'))) | (refine IfG.n (fun hg => ?_) (fun hg => ?_) <;> (try (have hg' := hg; simp at hg'))) | (refine OutOK.gateP (fun hg => ?_) (fun hg => ?_) <;> (try (have hg' := hg; simp at hg'))) | (refine OutOK.gateN (fun hg => ?_) (fun hg => ?_) <;> (try (have hg' := hg; simp at hg'))) | (refine IfG.g (fun hg => ?_) (fun hg => ?_) <;> (try (have hg' := hg; simp at hg'))) | (refine OutOK.gate (fun hg => ?_) (fun hg => ?_) <;> (try (have hg' := hg; simp at hg'))) | (refine OutOK.callF [] (by simp [*]; rfl) (by simp [*]; rfl) (by simp [*]; rfl) hb67 (by apply c_impl_within <;> first | assumption | exact Hd.out (by assumption) | ((try (clear e0)); (try (clear e1)); (try (clear e2)); (try (clear e3)); (try (clear e4)); (try (clear e5)); (try (clear e6)); (try (clear e7)); (try (clear e8)); (try (clear e9)); (try (clear e10)); (try (clear e11)); omega)) ⟨by simp [*], by simp [*], by simp [*], by simp [*], by simp [*]⟩ (by simp [*]) (by simp [*]; rfl) ?_) | (refine OutOK.callF [] (by simp [*]; rfl) (by simp [*]; rfl) (by simp [*]; rfl) hb116 (by apply cc <;> first | assumption | exact Hd.out (by assumption) | ((try (clear e0)); (try (clear e1)); (try (clear e2)); (try (clear e3)); (try (clear e4)); (try (clear e5)); (try (clear e6)); (try (clear e7)); (try (clear e8)); (try (clear e9)); (try (clear e10)); (try (clear e11)); omega)) ⟨by simp [*], by simp [*], by simp [*], by simp [*], by simp [*]⟩ (by simp [*]) (by simp [*]; rfl) ?_) | refine OutOK.run (by simp [*]; rfl) ?_ | refine AW.ret ?_ | refine AW.skip ?_ | refine AW.exit ?_ | refine fin_r ?_ | refine fin_n ?_ | refine AW.block ?_ | refine blockQ_n ?_ | refine blockQ_r ?_ | refine blockQ_e ?_ | refine blockQ_o rfl ?_)
  simp [Try.f101, smps]
theorem s_app_2 (l : List Smp) (kd sm am : Int) (ho : ByteArray) (hgl : goodS l = true) (hh : ∀ s ∈ l, SmpW s) (hho : ho.size ≤ 9223372036854775807) (h1 : ¬ kd = 1) (hR : inR 1 l.length sm = true) (k : Nat) (hkl : k < l.length) (hk : sm = ((k + 1 : Nat) : Int)) (h2 : kd = 2) (ha : am = 0) : ACall Try.prog 101 [.v (.sl true 8 (smps l)), stpD kd sm am ho] [.x, .x] [.v (.sl false 8 (smps (stepL l kd sm am ho))), boo (stepB l kd sm am ho)] := by
  obtain ⟨n1, hn1⟩ : ∃ n1, n1 = l.length + 1 := ⟨_, rfl⟩
  have h16 := (goodS_at hgl).1
  have e1 : wrap64 ((l.length : Int) + 1) = (n1 : Int) := by rw [w64 (by omega) (by omega)]; omega
  have b3 : (l.length + 1) * 72 ≤ 140737488355328 := by omega
  have b4 : l.length + 1 ≤ 4611686018427387904 := by omega
  have cc := c_slices_Clone_impl_Sample_impl_Sample l (by omega)
  have i0 : inR 0 500 0 = true := inR_iff.2 ⟨by omega, by omega⟩
  have hn1' : Hd _ := hn1
  clear hn1
  have e2 : wrap64 (sm - 1) = (k : Int) := by rw [w64 (by ((try (clear e0)); (try (clear e1)); (try (clear e2)); (try (clear e3)); (try (clear e4)); (try (clear e5)); (try (clear e6)); (try (clear e7)); (try (clear e8)); (try (clear e9)); (try (clear e10)); (try (clear e11)); omega)) (by ((try (clear e0)); (try (clear e1)); (try (clear e2)); (try (clear e3)); (try (clear e4)); (try (clear e5)); (try (clear e6)); (try (clear e7)); (try (clear e8)); (try (clear e9)); (try (clear e10)); (try (clear e11)); omega))]; ((try (clear e0)); (try (clear e1)); (try (clear e2)); (try (clear e3)); (try (clear e4)); (try (clear e5)); (try (clear e6)); (try (clear e7)); (try (clear e8)); (try (clear e9)); (try (clear e10)); (try (clear e11)); omega)
  have hf : SmpF l[k] k := (good_x hgl hh hkl).2.1
  have hid : l[k].id = sm := by rw [hf.id, hk]
  have hk' : Hd _ := hk
  have hxw := hh l[k] (List.getElem_mem hkl)
  obtain ⟨hb, hl⟩ := step_some (show stepR l kd sm am ho = _ by rw [step_at h1 hk hkl, if_pos ⟨h2, ha⟩])
  have hmw : ∀ s ∈ l.set k ⟨l[k].id, l[k].par, l[k].ctx, l[k].tak, l[k].lef, l[k].usd, l[k].giv, ho⟩, SmpW s := W_set hh ⟨hho, hxw.2⟩
  subst h2 ha
  have cv := c_impl_IsValidSamples _ (by simp; omega) hmw
  have hm : stepL l 2 sm 0 ho = if goodS (l.set k ⟨l[k].id, l[k].par, l[k].ctx, l[k].tak, l[k].lef, l[k].usd, l[k].giv, ho⟩) = true then l.set k ⟨l[k].id, l[k].par, l[k].ctx, l[k].tak, l[k].lef, l[k].usd, l[k].giv, ho⟩ else [] := by
    split
    · rename_i e; exact hl e
    · rename_i e; have : stepB l 2 sm 0 ho = false := by rw [hb]; simpa using e
      simp [stepL, this]
  rw [hm, hb]
  cases hgb : goodS (l.set k ⟨l[k].id, l[k].par, l[k].ctx, l[k].tak, l[k].lef, l[k].usd, l[k].giv, ho⟩) <;> rw [hgb] at cv
  · clear hm hb hl hgb hmw hgl hh hk hid hf hxw h1
    refine ACall.of (N := 140) tok Try.func101 rfl rfl rfl (by simp) ?_
    repeat' (first | with_reducible refine OutOK.done ?_ | refine thenQ_n ?_ | refine thenQ_r ?_ | refine thenQ_e ?_ | refine AW.seq ?_ | refine AW.dreg tok mixed [5]  [(0, false), (1, false), (2, false), (4, false), (3, false), (5, true), (6, false), (7, false), (8, false), (9, false)] (by decide +kernel) rfl (by simp (maxSteps := 3000000) [*]; rfl) ?_ | refine AW.dreg tok mixed [5]  [(0, false), (1, false), (2, false), (4, false), (3, false), (5, true), (6, false), (7, false), (8, false), (9, false)] (by decide +kernel) rfl (by simp (maxSteps := 3000000) [*]; rfl) ?_ | refine AW.dreg tok mixed [9, 11, 13, 15]  [(0, false), (1, false), (2, false), (3, false), (4, false), (6, false), (7, false), (8, false), (10, false), (12, false), (14, false), (5, false), (9, true), (11, true), (13, true), (15, true), (16, false), (17, false), (18, false), (19, false)] (by decide +kernel) rfl (by simp (maxSteps := 3000000) [*]; rfl) ?_ | refine AW.dreg tok mixed [8]  [(0, false), (1, false), (7, false), (2, false), (3, false), (4, false), (5, false), (6, false), (8, true), (9, false), (10, false), (11, false), (12, false)] (by decide +kernel) rfl (by simp (maxSteps := 3000000) [*]; rfl) ?_ | refine AW.dreg tok mixed [8]  [(0, false), (1, false), (7, false), (2, false), (3, false), (4, false), (5, false), (6, false), (8, true), (9, false), (10, false), (11, false), (12, false)] (by decide +kernel) rfl (by simp (maxSteps := 3000000) [*]; rfl) ?_ | refine AW.reg tok (by simp (maxSteps := 3000000) [*]; rfl) ?_ | refine AW.ifB (by simp (maxSteps := 3000000) [*]; rfl) ?_ | refine IfG.t ?_ | refine IfG.f ?_ | (refine IfG.p (fun hg => ?_) (fun hg => ?_) <;> (try (have hg' := hg; simp at hg'))) | (refine IfG.n (fun hg => ?_) (fun hg => ?_) <;> (try (have hg' := hg; simp at hg'))) | (refine OutOK.gateP (fun hg => ?_) (fun hg => ?_) <;> (try (have hg' := hg; simp at hg'))) | (refine OutOK.gateN (fun hg => ?_) (fun hg => ?_) <;> (try (have hg' := hg; simp at hg'))) | (refine IfG.g (fun hg => ?_) (fun hg => ?_) <;> (try (have hg' := hg; simp at hg'))) | (refine OutOK.gate (fun hg => ?_) (fun hg => ?_) <;> (try (have hg' := hg; simp at hg'))) | (refine OutOK.callF [] (by simp (maxSteps := 3000000) [*]; rfl) (by simp (maxSteps := 3000000) [*]; rfl) (by simp (maxSteps := 3000000) [*]; rfl) hb67 (by apply c_impl_within <;> first | assumption | exact Hd.out (by assumption) | ((try (clear e0)); (try (clear e1)); (try (clear e2)); (try (clear e3)); (try (clear e4)); (try (clear e5)); (try (clear e6)); (try (clear e7)); (try (clear e8)); (try (clear e9)); (try (clear e10)); (try (clear e11)); omega)) ⟨by simp (maxSteps := 3000000) [*], by simp (maxSteps := 3000000) [*], by simp (maxSteps := 3000000) [*], by simp (maxSteps := 3000000) [*], by simp (maxSteps := 3000000) [*]⟩ (by simp (maxSteps := 3000000) [*]) (by simp (maxSteps := 3000000) [*]; rfl) ?_) | (refine OutOK.callF [] (by simp (maxSteps := 3000000) [*]; rfl) (by simp (maxSteps := 3000000) [*]; rfl) (by simp (maxSteps := 3000000) [*]; rfl) hb116 (by apply cc <;> first | assumption | exact Hd.out (by assumption) | ((try (clear e0)); (try (clear e1)); (try (clear e2)); (try (clear e3)); (try (clear e4)); (try (clear e5)); (try (clear e6)); (try (clear e7)); (try (clear e8)); (try (clear e9)); (try (clear e10)); (try (clear e11)); omega)) ⟨by simp (maxSteps := 3000000) [*], by simp (maxSteps := 3000000) [*], by simp (maxSteps := 3000000) [*], by simp (maxSteps := 3000000) [*], by simp (maxSteps := 3000000) [*]⟩ (by simp (maxSteps := 3000000) [*]) (by simp (maxSteps := 3000000) [*]; rfl) ?_) | (refine OutOK.callF [] (by simp (maxSteps := 3000000) [*]; rfl) (by simp (maxSteps := 3000000) [*]; rfl) (by simp (maxSteps := 3000000) [*]; rfl) hb33 (by apply cv <;> first | assumption | exact Hd.out (by assumption) | ((try (clear e0)); (try (clear e1)); (try (clear e2)); (try (clear e3)); (try (clear e4)); (try (clear e5)); (try (clear e6)); (try (clear e7)); (try (clear e8)); (try (clear e9)); (try (clear e10)); (try (clear e11)); omega)) ⟨by simp (maxSteps := 3000000) [*], by simp (maxSteps := 3000000) [*], by simp (maxSteps := 3000000) [*], by simp (maxSteps := 3000000) [*], by simp (maxSteps := 3000000) [*]⟩ (by simp (maxSteps := 3000000) [*]) (by simp (maxSteps := 3000000) [*]; rfl) ?_) | refine OutOK.run (by simp (maxSteps := 3000000) [*]; rfl) ?_ | refine AW.ret ?_ | refine AW.skip ?_ | refine AW.exit ?_ | refine fin_r ?_ | refine fin_n ?_ | refine AW.block ?_ | refine blockQ_n ?_ | refine blockQ_r ?_ | refine blockQ_e ?_ | refine blockQ_o rfl ?_)
    simp [Try.f101, smps]
  · clear hm hb hl hgb hmw hgl hh hk hid hf hxw h1
    refine ACall.of (N := 140) tok Try.func101 rfl rfl rfl (by simp) ?_
    repeat' (first | with_reducible refine OutOK.done ?_ | refine thenQ_n ?_ | refine thenQ_r ?_ | refine thenQ_e ?_ | refine AW.seq ?_ | refine AW.dreg tok mixed [5]  [(0, false), (1, false), (2, false), (4, false), (3, false), (5, true), (6, false), (7, false), (8, false), (9, false)] (by decide +kernel) rfl (by simp (maxSteps := 3000000) [*]; rfl) ?_ | refine AW.dreg tok mixed [5]  [(0, false), (1, false), (2, false), (4, false), (3, false), (5, true), (6, false), (7, false), (8, false), (9, false)] (by decide +kernel) rfl (by simp (maxSteps := 3000000) [*]; rfl) ?_ | refine AW.dreg tok mixed [9, 11, 13, 15]  [(0, false), (1, false), (2, false), (3, false), (4, false), (6, false), (7, false), (8, false), (10, false), (12, false), (14, false), (5, false), (9, true), (11, true), (13, true), (15, true), (16, false), (17, false), (18, false), (19, false)] (by decide +kernel) rfl (by simp (maxSteps := 3000000) [*]; rfl) ?_ | refine AW.dreg tok mixed [8]  [(0, false), (1, false), (7, false), (2, false), (3, false), (4, false), (5, false), (6, false), (8, true), (9, false), (10, false), (11, false), (12, false)] (by decide +kernel) rfl (by simp (maxSteps := 3000000) [*]; rfl) ?_ | refine AW.dreg tok mixed [8]  [(0, false), (1, false), (7, false), (2, false), (3, false), (4, false), (5, false), (6, false), (8, true), (9, false), (10, false), (11, false), (12, false)] (by decide +kernel) rfl (by simp (maxSteps := 3000000) [*]; rfl) ?_ | refine AW.reg tok (by simp (maxSteps := 3000000) [*]; rfl) ?_ | refine AW.ifB (by simp (maxSteps := 3000000) [*]; rfl) ?_ | refine IfG.t ?_ | refine IfG.f ?_ | (refine IfG.p (fun hg => ?_) (fun hg => ?_) <;> (try (have hg' := hg; simp at hg'))) | (refine IfG.n (fun hg => ?_) (fun hg => ?_) <;> (try (have hg' := hg; simp at hg'))) | (refine OutOK.gateP (fun hg => ?_) (fun hg => ?_) <;> (try (have hg' := hg; simp at hg'))) | (refine OutOK.gateN (fun hg => ?_) (fun hg => ?_) <;> (try (have hg' := hg; simp at hg'))) | (refine IfG.g (fun hg => ?_) (fun hg => ?_) <;> (try (have hg' := hg; simp at hg'))) | (refine OutOK.gate (fun hg => ?_) (fun hg => ?_) <;> (try (have hg' := hg; simp at hg'))) | (refine OutOK.callF [] (by simp (maxSteps := 3000000) [*]; rfl) (by simp (maxSteps := 3000000) [*]; rfl) (by simp (maxSteps := 3000000) [*]; rfl) hb67 (by apply c_impl_within <;> first | assumption | exact Hd.out (by assumption) | ((try (clear e0)); (try (clear e1)); (try (clear e2)); (try (clear e3)); (try (clear e4)); (try (clear e5)); (try (clear e6)); (try (clear e7)); (try (clear e8)); (try (clear e9)); (try (clear e10)); (try (clear e11)); omega)) ⟨by simp (maxSteps := 3000000) [*], by simp (maxSteps := 3000000) [*], by simp (maxSteps := 3000000) [*], by simp (maxSteps := 3000000) [*], by simp (maxSteps := 3000000) [*]⟩ (by simp (maxSteps := 3000000) [*]) (by simp (maxSteps := 3000000) [*]; rfl) ?_) | (refine OutOK.callF [] (by simp (maxSteps := 3000000) [*]; rfl) (by simp (maxSteps := 3000000) [*]; rfl) (by simp (maxSteps := 3000000) [*]; rfl) hb116 (by apply cc <;> first | assumption | exact Hd.out (by assumption) | ((try (clear e0)); (try (clear e1)); (try (clear e2)); (try (clear e3)); (try (clear e4)); (try (clear e5)); (try (clear e6)); (try (clear e7)); (try (clear e8)); (try (clear e9)); (try (clear e10)); (try (clear e11)); omega)) ⟨by simp (maxSteps := 3000000) [*], by simp (maxSteps := 3000000) [*], by simp (maxSteps := 3000000) [*], by simp (maxSteps := 3000000) [*], by simp (maxSteps := 3000000) [*]⟩ (by simp (maxSteps := 3000000) [*]) (by simp (maxSteps := 3000000) [*]; rfl) ?_) | (refine OutOK.callF [] (by simp (maxSteps := 3000000) [*]; rfl) (by simp (maxSteps := 3000000) [*]; rfl) (by simp (maxSteps := 3000000) [*]; rfl) hb33 (by apply cv <;> first | assumption | exact Hd.out (by assumption) | ((try (clear e0)); (try (clear e1)); (try (clear e2)); (try (clear e3)); (try (clear e4)); (try (clear e5)); (try (clear e6)); (try (clear e7)); (try (clear e8)); (try (clear e9)); (try (clear e10)); (try (clear e11)); omega)) ⟨by simp (maxSteps := 3000000) [*], by simp (maxSteps := 3000000) [*], by simp (maxSteps := 3000000) [*], by simp (maxSteps := 3000000) [*], by simp (maxSteps := 3000000) [*]⟩ (by simp (maxSteps := 3000000) [*]) (by simp (maxSteps := 3000000) [*]; rfl) ?_) | refine OutOK.run (by simp (maxSteps := 3000000) [*]; rfl) ?_ | refine AW.ret ?_ | refine AW.skip ?_ | refine AW.exit ?_ | refine fin_r ?_ | refine fin_n ?_ | refine AW.block ?_ | refine blockQ_n ?_ | refine blockQ_r ?_ | refine blockQ_e ?_ | refine blockQ_o rfl ?_)
    simp [Try.f101]
theorem s_app_3 (l : List Smp) (kd sm am : Int) (ho : ByteArray) (hgl : goodS l = true) (hh : ∀ s ∈ l, SmpW s) (hho : ho.size ≤ 9223372036854775807) (h1 : ¬ kd = 1) (hR : inR 1 l.length sm = true) (k : Nat) (hkl : k < l.length) (hk : sm = ((k + 1 : Nat) : Int)) (h2 : kd = 3) (ha : ¬ am = 0) (hA : inR 0 500 am = true) : ACall Try.prog 101 [.v (.sl true 8 (smps l)), stpD kd sm am ho] [.x, .x] [.v (.sl false 8 (smps (stepL l kd sm am ho))), boo (stepB l kd sm am ho)] := by
  obtain ⟨n1, hn1⟩ : ∃ n1, n1 = l.length + 1 := ⟨_, rfl⟩
  have h16 := (goodS_at hgl).1
  have e1 : wrap64 ((l.length : Int) + 1) = (n1 : Int) := by rw [w64 (by omega) (by omega)]; omega
  have b3 : (l.length + 1) * 72 ≤ 140737488355328 := by omega
  have b4 : l.length + 1 ≤ 4611686018427387904 := by omega
  have cc := c_slices_Clone_impl_Sample_impl_Sample l (by omega)
  have i0 : inR 0 500 0 = true := inR_iff.2 ⟨by omega, by omega⟩
  have hn1' : Hd _ := hn1
  clear hn1
  have e2 : wrap64 (sm - 1) = (k : Int) := by rw [w64 (by ((try (clear e0)); (try (clear e1)); (try (clear e2)); (try (clear e3)); (try (clear e4)); (try (clear e5)); (try (clear e6)); (try (clear e7)); (try (clear e8)); (try (clear e9)); (try (clear e10)); (try (clear e11)); omega)) (by ((try (clear e0)); (try (clear e1)); (try (clear e2)); (try (clear e3)); (try (clear e4)); (try (clear e5)); (try (clear e6)); (try (clear e7)); (try (clear e8)); (try (clear e9)); (try (clear e10)); (try (clear e11)); omega))]; ((try (clear e0)); (try (clear e1)); (try (clear e2)); (try (clear e3)); (try (clear e4)); (try (clear e5)); (try (clear e6)); (try (clear e7)); (try (clear e8)); (try (clear e9)); (try (clear e10)); (try (clear e11)); omega)
  have hf : SmpF l[k] k := (good_x hgl hh hkl).2.1
  have hid : l[k].id = sm := by rw [hf.id, hk]
  have hk' : Hd _ := hk
  have hxw := hh l[k] (List.getElem_mem hkl)
  subst h2
  obtain ⟨hb, hl⟩ := step_3 (ho := ho) (fun _ => hf) hk hkl hA ha
  rw [hid, ← hn1'.out] at hb hl
  have hmw : ∀ s ∈ l.set k ⟨sm, l[k].par, l[k].ctx, l[k].tak, wrap64 (l[k].lef - am), l[k].usd, wrap64 (l[k].giv + am), l[k].hol⟩ ++ [(⟨n1, sm, l[k].ctx, am, am, 0, 0, ho⟩ : Smp)], SmpW s := W_app (W_set hh ⟨hxw.1, w64_in _⟩) ⟨hho, by simp, by simp⟩
  have cv := c_impl_IsValidSamples _ (by simp; omega) hmw
  have hm : stepL l 3 sm am ho = if goodS (l.set k ⟨sm, l[k].par, l[k].ctx, l[k].tak, wrap64 (l[k].lef - am), l[k].usd, wrap64 (l[k].giv + am), l[k].hol⟩ ++ [(⟨n1, sm, l[k].ctx, am, am, 0, 0, ho⟩ : Smp)]) = true then l.set k ⟨sm, l[k].par, l[k].ctx, l[k].tak, wrap64 (l[k].lef - am), l[k].usd, wrap64 (l[k].giv + am), l[k].hol⟩ ++ [(⟨n1, sm, l[k].ctx, am, am, 0, 0, ho⟩ : Smp)] else [] := by
    split
    · rename_i e; exact hl e
    · rename_i e; have : stepB l 3 sm am ho = false := by rw [hb]; simpa using e
      simp [stepL, this]
  rw [hm, hb]
  cases hgb : goodS (l.set k ⟨sm, l[k].par, l[k].ctx, l[k].tak, wrap64 (l[k].lef - am), l[k].usd, wrap64 (l[k].giv + am), l[k].hol⟩ ++ [(⟨n1, sm, l[k].ctx, am, am, 0, 0, ho⟩ : Smp)]) <;> rw [hgb] at cv
  · clear hm hb hl hgb hmw hgl hh hk hf hxw h1
    refine ACall.of (N := 140) tok Try.func101 rfl rfl rfl (by simp) ?_
    repeat' (first | with_reducible refine OutOK.done ?_ | refine thenQ_n ?_ | refine thenQ_r ?_ | refine thenQ_e ?_ | refine AW.seq ?_ | refine AW.dreg tok mixed [5]  [(0, false), (1, false), (2, false), (4, false), (3, false), (5, true), (6, false), (7, false), (8, false), (9, false)] (by decide +kernel) rfl (by simp (maxSteps := 3000000) [*]; rfl) ?_ | refine AW.dreg tok mixed [5]  [(0, false), (1, false), (2, false), (4, false), (3, false), (5, true), (6, false), (7, false), (8, false), (9, false)] (by decide +kernel) rfl (by simp (maxSteps := 3000000) [*]; rfl) ?_ | refine AW.dreg tok mixed [9, 11, 13, 15]  [(0, false), (1, false), (2, false), (3, false), (4, false), (6, false), (7, false), (8, false), (10, false), (12, false), (14, false), (5, false), (9, true), (11, true), (13, true), (15, true), (16, false), (17, false), (18, false), (19, false)] (by decide +kernel) rfl (by simp (maxSteps := 3000000) [*]; rfl) ?_ | refine AW.dreg tok mixed [8]  [(0, false), (1, false), (7, false), (2, false), (3, false), (4, false), (5, false), (6, false), (8, true), (9, false), (10, false), (11, false), (12, false)] (by decide +kernel) rfl (by simp (maxSteps := 3000000) [*]; rfl) ?_ | refine AW.dreg tok mixed [8]  [(0, false), (1, false), (7, false), (2, false), (3, false), (4, false), (5, false), (6, false), (8, true), (9, false), (10, false), (11, false), (12, false)] (by decide +kernel) rfl (by simp (maxSteps := 3000000) [*]; rfl) ?_ | refine AW.reg tok (by simp (maxSteps := 3000000) [*]; rfl) ?_ | refine AW.ifB (by simp (maxSteps := 3000000) [*]; rfl) ?_ | refine IfG.t ?_ | refine IfG.f ?_ | (refine IfG.p (fun hg => ?_) (fun hg => ?_) <;> (try (have hg' := hg; simp at hg'))) | (refine IfG.n (fun hg => ?_) (fun hg => ?_) <;> (try (have hg' := hg; simp at hg'))) | (refine OutOK.gateP (fun hg => ?_) (fun hg => ?_) <;> (try (have hg' := hg; simp at hg'))) | (refine OutOK.gateN (fun hg => ?_) (fun hg => ?_) <;> (try (have hg' := hg; simp at hg'))) | (refine IfG.g (fun hg => ?_) (fun hg => ?_) <;> (try (have hg' := hg; simp at hg'))) | (refine OutOK.gate (fun hg => ?_) (fun hg => ?_) <;> (try (have hg' := hg; simp at hg'))) | (refine OutOK.callF [] (by simp (maxSteps := 3000000) [*]; rfl) (by simp (maxSteps := 3000000) [*]; rfl) (by simp (maxSteps := 3000000) [*]; rfl) hb67 (by apply c_impl_within <;> first | assumption | exact Hd.out (by assumption) | ((try (clear e0)); (try (clear e1)); (try (clear e2)); (try (clear e3)); (try (clear e4)); (try (clear e5)); (try (clear e6)); (try (clear e7)); (try (clear e8)); (try (clear e9)); (try (clear e10)); (try (clear e11)); omega)) ⟨by simp (maxSteps := 3000000) [*], by simp (maxSteps := 3000000) [*], by simp (maxSteps := 3000000) [*], by simp (maxSteps := 3000000) [*], by simp (maxSteps := 3000000) [*]⟩ (by simp (maxSteps := 3000000) [*]) (by simp (maxSteps := 3000000) [*]; rfl) ?_) | (refine OutOK.callF [] (by simp (maxSteps := 3000000) [*]; rfl) (by simp (maxSteps := 3000000) [*]; rfl) (by simp (maxSteps := 3000000) [*]; rfl) hb116 (by apply cc <;> first | assumption | exact Hd.out (by assumption) | ((try (clear e0)); (try (clear e1)); (try (clear e2)); (try (clear e3)); (try (clear e4)); (try (clear e5)); (try (clear e6)); (try (clear e7)); (try (clear e8)); (try (clear e9)); (try (clear e10)); (try (clear e11)); omega)) ⟨by simp (maxSteps := 3000000) [*], by simp (maxSteps := 3000000) [*], by simp (maxSteps := 3000000) [*], by simp (maxSteps := 3000000) [*], by simp (maxSteps := 3000000) [*]⟩ (by simp (maxSteps := 3000000) [*]) (by simp (maxSteps := 3000000) [*]; rfl) ?_) | (refine OutOK.callF [] (by simp (maxSteps := 3000000) [*]; rfl) (by simp (maxSteps := 3000000) [*]; rfl) (by simp (maxSteps := 3000000) [*]; rfl) hb33 (by apply cv <;> first | assumption | exact Hd.out (by assumption) | ((try (clear e0)); (try (clear e1)); (try (clear e2)); (try (clear e3)); (try (clear e4)); (try (clear e5)); (try (clear e6)); (try (clear e7)); (try (clear e8)); (try (clear e9)); (try (clear e10)); (try (clear e11)); omega)) ⟨by simp (maxSteps := 3000000) [*], by simp (maxSteps := 3000000) [*], by simp (maxSteps := 3000000) [*], by simp (maxSteps := 3000000) [*], by simp (maxSteps := 3000000) [*]⟩ (by simp (maxSteps := 3000000) [*]) (by simp (maxSteps := 3000000) [*]; rfl) ?_) | refine OutOK.run (by simp (maxSteps := 3000000) [*]; rfl) ?_ | refine AW.ret ?_ | refine AW.skip ?_ | refine AW.exit ?_ | refine fin_r ?_ | refine fin_n ?_ | refine AW.block ?_ | refine blockQ_n ?_ | refine blockQ_r ?_ | refine blockQ_e ?_ | refine blockQ_o rfl ?_)
    simp [Try.f101, smps]
  · clear hm hb hl hgb hmw hgl hh hk hf hxw h1
    refine ACall.of (N := 140) tok Try.func101 rfl rfl rfl (by simp) ?_
    repeat' (first | with_reducible refine OutOK.done ?_ | refine thenQ_n ?_ | refine thenQ_r ?_ | refine thenQ_e ?_ | refine AW.seq ?_ | refine AW.dreg tok mixed [5]  [(0, false), (1, false), (2, false), (4, false), (3, false), (5, true), (6, false), (7, false), (8, false), (9, false)] (by decide +kernel) rfl (by simp (maxSteps := 3000000) [*]; rfl) ?_ | refine AW.dreg tok mixed [5]  [(0, false), (1, false), (2, false), (4, false), (3, false), (5, true), (6, false), (7, false), (8, false), (9, false)] (by decide +kernel) rfl (by simp (maxSteps := 3000000) [*]; rfl) ?_ | refine AW.dreg tok mixed [9, 11, 13, 15]  [(0, false), (1, false), (2, false), (3, false), (4, false), (6, false), (7, false), (8, false), (10, false), (12, false), (14, false), (5, false), (9, true), (11, true), (13, true), (15, true), (16, false), (17, false), (18, false), (19, false)] (by decide +kernel) rfl (by simp (maxSteps := 3000000) [*]; rfl) ?_ | refine AW.dreg tok mixed [8]  [(0, false), (1, false), (7, false), (2, false), (3, false), (4, false), (5, false), (6, false), (8, true), (9, false), (10, false), (11, false), (12, false)] (by decide +kernel) rfl (by simp (maxSteps := 3000000) [*]; rfl) ?_ | refine AW.dreg tok mixed [8]  [(0, false), (1, false), (7, false), (2, false), (3, false), (4, false), (5, false), (6, false), (8, true), (9, false), (10, false), (11, false), (12, false)] (by decide +kernel) rfl (by simp (maxSteps := 3000000) [*]; rfl) ?_ | refine AW.reg tok (by simp (maxSteps := 3000000) [*]; rfl) ?_ | refine AW.ifB (by simp (maxSteps := 3000000) [*]; rfl) ?_ | refine IfG.t ?_ | refine IfG.f ?_ | (refine IfG.p (fun hg => ?_) (fun hg => ?_) <;> (try (have hg' := hg; simp at hg'))) | (refine IfG.n (fun hg => ?_) (fun hg => ?_) <;> (try (have hg' := hg; simp at hg'))) | (refine OutOK.gateP (fun hg => ?_) (fun hg => ?_) <;> (try (have hg' := hg; simp at hg'))) | (refine OutOK.gateN (fun hg => ?_) (fun hg => ?_) <;> (try (have hg' := hg; simp at hg'))) | (refine IfG.g (fun hg => ?_) (fun hg => ?_) <;> (try (have hg' := hg; simp at hg'))) | (refine OutOK.gate (fun hg => ?_) (fun hg => ?_) <;> (try (have hg' := hg; simp at hg'))) | (refine OutOK.callF [] (by simp (maxSteps := 3000000) [*]; rfl) (by simp (maxSteps := 3000000) [*]; rfl) (by simp (maxSteps := 3000000) [*]; rfl) hb67 (by apply c_impl_within <;> first | assumption | exact Hd.out (by assumption) | ((try (clear e0)); (try (clear e1)); (try (clear e2)); (try (clear e3)); (try (clear e4)); (try (clear e5)); (try (clear e6)); (try (clear e7)); (try (clear e8)); (try (clear e9)); (try (clear e10)); (try (clear e11)); omega)) ⟨by simp (maxSteps := 3000000) [*], by simp (maxSteps := 3000000) [*], by simp (maxSteps := 3000000) [*], by simp (maxSteps := 3000000) [*], by simp (maxSteps := 3000000) [*]⟩ (by simp (maxSteps := 3000000) [*]) (by simp (maxSteps := 3000000) [*]; rfl) ?_) | (refine OutOK.callF [] (by simp (maxSteps := 3000000) [*]; rfl) (by simp (maxSteps := 3000000) [*]; rfl) (by simp (maxSteps := 3000000) [*]; rfl) hb116 (by apply cc <;> first | assumption | exact Hd.out (by assumption) | ((try (clear e0)); (try (clear e1)); (try (clear e2)); (try (clear e3)); (try (clear e4)); (try (clear e5)); (try (clear e6)); (try (clear e7)); (try (clear e8)); (try (clear e9)); (try (clear e10)); (try (clear e11)); omega)) ⟨by simp (maxSteps := 3000000) [*], by simp (maxSteps := 3000000) [*], by simp (maxSteps := 3000000) [*], by simp (maxSteps := 3000000) [*], by simp (maxSteps := 3000000) [*]⟩ (by simp (maxSteps := 3000000) [*]) (by simp (maxSteps := 3000000) [*]; rfl) ?_) | (refine OutOK.callF [] (by simp (maxSteps := 3000000) [*]; rfl) (by simp (maxSteps := 3000000) [*]; rfl) (by simp (maxSteps := 3000000) [*]; rfl) hb33 (by apply cv <;> first | assumption | exact Hd.out (by assumption) | ((try (clear e0)); (try (clear e1)); (try (clear e2)); (try (clear e3)); (try (clear e4)); (try (clear e5)); (try (clear e6)); (try (clear e7)); (try (clear e8)); (try (clear e9)); (try (clear e10)); (try (clear e11)); omega)) ⟨by simp (maxSteps := 3000000) [*], by simp (maxSteps := 3000000) [*], by simp (maxSteps := 3000000) [*], by simp (maxSteps := 3000000) [*], by simp (maxSteps := 3000000) [*]⟩ (by simp (maxSteps := 3000000) [*]) (by simp (maxSteps := 3000000) [*]; rfl) ?_) | refine OutOK.run (by simp (maxSteps := 3000000) [*]; rfl) ?_ | refine AW.ret ?_ | refine AW.skip ?_ | refine AW.exit ?_ | refine fin_r ?_ | refine fin_n ?_ | refine AW.block ?_ | refine blockQ_n ?_ | refine blockQ_r ?_ | refine blockQ_e ?_ | refine blockQ_o rfl ?_)
    simp [Try.f101]
theorem s_app_4 (l : List Smp) (kd sm am : Int) (ho : ByteArray) (hgl : goodS l = true) (hh : ∀ s ∈ l, SmpW s) (hho : ho.size ≤ 9223372036854775807) (h1 : ¬ kd = 1) (hR : inR 1 l.length sm = true) (k : Nat) (hkl : k < l.length) (hk : sm = ((k + 1 : Nat) : Int)) (h2 : kd = 4) (ha : ¬ am = 0) (hA : inR 0 500 am = true) (h5 : ho.toList = []) : ACall Try.prog 101 [.v (.sl true 8 (smps l)), stpD kd sm am ho] [.x, .x] [.v (.sl false 8 (smps (stepL l kd sm am ho))), boo (stepB l kd sm am ho)] := by
  obtain ⟨n1, hn1⟩ : ∃ n1, n1 = l.length + 1 := ⟨_, rfl⟩
  have h16 := (goodS_at hgl).1
  have e1 : wrap64 ((l.length : Int) + 1) = (n1 : Int) := by rw [w64 (by omega) (by omega)]; omega
  have b3 : (l.length + 1) * 72 ≤ 140737488355328 := by omega
  have b4 : l.length + 1 ≤ 4611686018427387904 := by omega
  have cc := c_slices_Clone_impl_Sample_impl_Sample l (by omega)
  have i0 : inR 0 500 0 = true := inR_iff.2 ⟨by omega, by omega⟩
  have hn1' : Hd _ := hn1
  clear hn1
  have e2 : wrap64 (sm - 1) = (k : Int) := by rw [w64 (by ((try (clear e0)); (try (clear e1)); (try (clear e2)); (try (clear e3)); (try (clear e4)); (try (clear e5)); (try (clear e6)); (try (clear e7)); (try (clear e8)); (try (clear e9)); (try (clear e10)); (try (clear e11)); omega)) (by ((try (clear e0)); (try (clear e1)); (try (clear e2)); (try (clear e3)); (try (clear e4)); (try (clear e5)); (try (clear e6)); (try (clear e7)); (try (clear e8)); (try (clear e9)); (try (clear e10)); (try (clear e11)); omega))]; ((try (clear e0)); (try (clear e1)); (try (clear e2)); (try (clear e3)); (try (clear e4)); (try (clear e5)); (try (clear e6)); (try (clear e7)); (try (clear e8)); (try (clear e9)); (try (clear e10)); (try (clear e11)); omega)
  have hf : SmpF l[k] k := (good_x hgl hh hkl).2.1
  have hid : l[k].id = sm := by rw [hf.id, hk]
  have hk' : Hd _ := hk
  have hxw := hh l[k] (List.getElem_mem hkl)
  subst h2
  obtain ⟨hb, hl⟩ := step_4 (fun _ => hf) hk hkl hA ha h5
  have hmw : ∀ s ∈ l.set k ⟨l[k].id, l[k].par, l[k].ctx, l[k].tak, wrap64 (l[k].lef - am), wrap64 (l[k].usd + am), l[k].giv, l[k].hol⟩, SmpW s := W_set hh ⟨hxw.1, hxw.2⟩
  have cv := c_impl_IsValidSamples _ (by simp; omega) hmw
  have hm : stepL l 4 sm am ho = if goodS (l.set k ⟨l[k].id, l[k].par, l[k].ctx, l[k].tak, wrap64 (l[k].lef - am), wrap64 (l[k].usd + am), l[k].giv, l[k].hol⟩) = true then l.set k ⟨l[k].id, l[k].par, l[k].ctx, l[k].tak, wrap64 (l[k].lef - am), wrap64 (l[k].usd + am), l[k].giv, l[k].hol⟩ else [] := by
    split
    · rename_i e; exact hl e
    · rename_i e; have : stepB l 4 sm am ho = false := by rw [hb]; simpa using e
      simp [stepL, this]
  rw [hm, hb]
  cases hgb : goodS (l.set k ⟨l[k].id, l[k].par, l[k].ctx, l[k].tak, wrap64 (l[k].lef - am), wrap64 (l[k].usd + am), l[k].giv, l[k].hol⟩) <;> rw [hgb] at cv
  · clear hm hb hl hgb hmw hgl hh hk hid hf hxw h1
    refine ACall.of (N := 140) tok Try.func101 rfl rfl rfl (by simp) ?_
    repeat' (first | with_reducible refine OutOK.done ?_ | refine thenQ_n ?_ | refine thenQ_r ?_ | refine thenQ_e ?_ | refine AW.seq ?_ | refine AW.dreg tok mixed [5]  [(0, false), (1, false), (2, false), (4, false), (3, false), (5, true), (6, false), (7, false), (8, false), (9, false)] (by decide +kernel) rfl (by simp (maxSteps := 3000000) [*]; rfl) ?_ | refine AW.dreg tok mixed [5]  [(0, false), (1, false), (2, false), (4, false), (3, false), (5, true), (6, false), (7, false), (8, false), (9, false)] (by decide +kernel) rfl (by simp (maxSteps := 3000000) [*]; rfl) ?_ | refine AW.dreg tok mixed [9, 11, 13, 15]  [(0, false), (1, false), (2, false), (3, false), (4, false), (6, false), (7, false), (8, false), (10, false), (12, false), (14, false), (5, false), (9, true), (11, true), (13, true), (15, true), (16, false), (17, false), (18, false), (19, false)] (by decide +kernel) rfl (by simp (maxSteps := 3000000) [*]; rfl) ?_ | refine AW.dreg tok mixed [8]  [(0, false), (1, false), (7, false), (2, false), (3, false), (4, false), (5, false), (6, false), (8, true), (9, false), (10, false), (11, false), (12, false)] (by decide +kernel) rfl (by simp (maxSteps := 3000000) [*]; rfl) ?_ | refine AW.dreg tok mixed [8]  [(0, false), (1, false), (7, false), (2, false), (3, false), (4, false), (5, false), (6, false), (8, true), (9, false), (10, false), (11, false), (12, false)] (by decide +kernel) rfl (by simp (maxSteps := 3000000) [*]; rfl) ?_ | refine AW.reg tok (by simp (maxSteps := 3000000) [*]; rfl) ?_ | refine AW.ifB (by simp (maxSteps := 3000000) [*]; rfl) ?_ | refine IfG.t ?_ | refine IfG.f ?_ | (refine IfG.p (fun hg => ?_) (fun hg => ?_) <;> (try (have hg' := hg; simp at hg'))) | (refine IfG.n (fun hg => ?_) (fun hg => ?_) <;> (try (have hg' := hg; simp at hg'))) | (refine OutOK.gateP (fun hg => ?_) (fun hg => ?_) <;> (try (have hg' := hg; simp at hg'))) | (refine OutOK.gateN (fun hg => ?_) (fun hg => ?_) <;> (try (have hg' := hg; simp at hg'))) | (refine IfG.g (fun hg => ?_) (fun hg => ?_) <;> (try (have hg' := hg; simp at hg'))) | (refine OutOK.gate (fun hg => ?_) (fun hg => ?_) <;> (try (have hg' := hg; simp at hg'))) | (refine OutOK.callF [] (by simp (maxSteps := 3000000) [*]; rfl) (by simp (maxSteps := 3000000) [*]; rfl) (by simp (maxSteps := 3000000) [*]; rfl) hb67 (by apply c_impl_within <;> first | assumption | exact Hd.out (by assumption) | ((try (clear e0)); (try (clear e1)); (try (clear e2)); (try (clear e3)); (try (clear e4)); (try (clear e5)); (try (clear e6)); (try (clear e7)); (try (clear e8)); (try (clear e9)); (try (clear e10)); (try (clear e11)); omega)) ⟨by simp (maxSteps := 3000000) [*], by simp (maxSteps := 3000000) [*], by simp (maxSteps := 3000000) [*], by simp (maxSteps := 3000000) [*], by simp (maxSteps := 3000000) [*]⟩ (by simp (maxSteps := 3000000) [*]) (by simp (maxSteps := 3000000) [*]; rfl) ?_) | (refine OutOK.callF [] (by simp (maxSteps := 3000000) [*]; rfl) (by simp (maxSteps := 3000000) [*]; rfl) (by simp (maxSteps := 3000000) [*]; rfl) hb116 (by apply cc <;> first | assumption | exact Hd.out (by assumption) | ((try (clear e0)); (try (clear e1)); (try (clear e2)); (try (clear e3)); (try (clear e4)); (try (clear e5)); (try (clear e6)); (try (clear e7)); (try (clear e8)); (try (clear e9)); (try (clear e10)); (try (clear e11)); omega)) ⟨by simp (maxSteps := 3000000) [*], by simp (maxSteps := 3000000) [*], by simp (maxSteps := 3000000) [*], by simp (maxSteps := 3000000) [*], by simp (maxSteps := 3000000) [*]⟩ (by simp (maxSteps := 3000000) [*]) (by simp (maxSteps := 3000000) [*]; rfl) ?_) | (refine OutOK.callF [] (by simp (maxSteps := 3000000) [*]; rfl) (by simp (maxSteps := 3000000) [*]; rfl) (by simp (maxSteps := 3000000) [*]; rfl) hb33 (by apply cv <;> first | assumption | exact Hd.out (by assumption) | ((try (clear e0)); (try (clear e1)); (try (clear e2)); (try (clear e3)); (try (clear e4)); (try (clear e5)); (try (clear e6)); (try (clear e7)); (try (clear e8)); (try (clear e9)); (try (clear e10)); (try (clear e11)); omega)) ⟨by simp (maxSteps := 3000000) [*], by simp (maxSteps := 3000000) [*], by simp (maxSteps := 3000000) [*], by simp (maxSteps := 3000000) [*], by simp (maxSteps := 3000000) [*]⟩ (by simp (maxSteps := 3000000) [*]) (by simp (maxSteps := 3000000) [*]; rfl) ?_) | refine OutOK.run (by simp (maxSteps := 3000000) [*]; rfl) ?_ | refine AW.ret ?_ | refine AW.skip ?_ | refine AW.exit ?_ | refine fin_r ?_ | refine fin_n ?_ | refine AW.block ?_ | refine blockQ_n ?_ | refine blockQ_r ?_ | refine blockQ_e ?_ | refine blockQ_o rfl ?_)
    simp [Try.f101, smps]
  · clear hm hb hl hgb hmw hgl hh hk hid hf hxw h1
    refine ACall.of (N := 140) tok Try.func101 rfl rfl rfl (by simp) ?_
    repeat' (first | with_reducible refine OutOK.done ?_ | refine thenQ_n ?_ | refine thenQ_r ?_ | refine thenQ_e ?_ | refine AW.seq ?_ | refine AW.dreg tok mixed [5]  [(0, false), (1, false), (2, false), (4, false), (3, false), (5, true), (6, false), (7, false), (8, false), (9, false)] (by decide +kernel) rfl (by simp (maxSteps := 3000000) [*]; rfl) ?_ | refine AW.dreg tok mixed [5]  [(0, false), (1, false), (2, false), (4, false), (3, false), (5, true), (6, false), (7, false), (8, false), (9, false)] (by decide +kernel) rfl (by simp (maxSteps := 3000000) [*]; rfl) ?_ | refine AW.dreg tok mixed [9, 11, 13, 15]  [(0, false), (1, false), (2, false), (3, false), (4, false), (6, false), (7, false), (8, false), (10, false), (12, false), (14, false), (5, false), (9, true), (11, true), (13, true), (15, true), (16, false), (17, false), (18, false), (19, false)] (by decide +kernel) rfl (by simp (maxSteps := 3000000) [*]; rfl) ?_ | refine AW.dreg tok mixed [8]  [(0, false), (1, false), (7, false), (2, false), (3, false), (4, false), (5, false), (6, false), (8, true), (9, false), (10, false), (11, false), (12, false)] (by decide +kernel) rfl (by simp (maxSteps := 3000000) [*]; rfl) ?_ | refine AW.dreg tok mixed [8]  [(0, false), (1, false), (7, false), (2, false), (3, false), (4, false), (5, false), (6, false), (8, true), (9, false), (10, false), (11, false), (12, false)] (by decide +kernel) rfl (by simp (maxSteps := 3000000) [*]; rfl) ?_ | refine AW.reg tok (by simp (maxSteps := 3000000) [*]; rfl) ?_ | refine AW.ifB (by simp (maxSteps := 3000000) [*]; rfl) ?_ | refine IfG.t ?_ | refine IfG.f ?_ | (refine IfG.p (fun hg => ?_) (fun hg => ?_) <;> (try (have hg' := hg; simp at hg'))) | (refine IfG.n (fun hg => ?_) (fun hg => ?_) <;> (try (have hg' := hg; simp at hg'))) | (refine OutOK.gateP (fun hg => ?_) (fun hg => ?_) <;> (try (have hg' := hg; simp at hg'))) | (refine OutOK.gateN (fun hg => ?_) (fun hg => ?_) <;> (try (have hg' := hg; simp at hg'))) | (refine IfG.g (fun hg => ?_) (fun hg => ?_) <;> (try (have hg' := hg; simp at hg'))) | (refine OutOK.gate (fun hg => ?_) (fun hg => ?_) <;> (try (have hg' := hg; simp at hg'))) | (refine OutOK.callF [] (by simp (maxSteps := 3000000) [*]; rfl) (by simp (maxSteps := 3000000) [*]; rfl) (by simp (maxSteps := 3000000) [*]; rfl) hb67 (by apply c_impl_within <;> first | assumption | exact Hd.out (by assumption) | ((try (clear e0)); (try (clear e1)); (try (clear e2)); (try (clear e3)); (try (clear e4)); (try (clear e5)); (try (clear e6)); (try (clear e7)); (try (clear e8)); (try (clear e9)); (try (clear e10)); (try (clear e11)); omega)) ⟨by simp (maxSteps := 3000000) [*], by simp (maxSteps := 3000000) [*], by simp (maxSteps := 3000000) [*], by simp (maxSteps := 3000000) [*], by simp (maxSteps := 3000000) [*]⟩ (by simp (maxSteps := 3000000) [*]) (by simp (maxSteps := 3000000) [*]; rfl) ?_) | (refine OutOK.callF [] (by simp (maxSteps := 3000000) [*]; rfl) (by simp (maxSteps := 3000000) [*]; rfl) (by simp (maxSteps := 3000000) [*]; rfl) hb116 (by apply cc <;> first | assumption | exact Hd.out (by assumption) | ((try (clear e0)); (try (clear e1)); (try (clear e2)); (try (clear e3)); (try (clear e4)); (try (clear e5)); (try (clear e6)); (try (clear e7)); (try (clear e8)); (try (clear e9)); (try (clear e10)); (try (clear e11)); omega)) ⟨by simp (maxSteps := 3000000) [*], by simp (maxSteps := 3000000) [*], by simp (maxSteps := 3000000) [*], by simp (maxSteps := 3000000) [*], by simp (maxSteps := 3000000) [*]⟩ (by simp (maxSteps := 3000000) [*]) (by simp (maxSteps := 3000000) [*]; rfl) ?_) | (refine OutOK.callF [] (by simp (maxSteps := 3000000) [*]; rfl) (by simp (maxSteps := 3000000) [*]; rfl) (by simp (maxSteps := 3000000) [*]; rfl) hb33 (by apply cv <;> first | assumption | exact Hd.out (by assumption) | ((try (clear e0)); (try (clear e1)); (try (clear e2)); (try (clear e3)); (try (clear e4)); (try (clear e5)); (try (clear e6)); (try (clear e7)); (try (clear e8)); (try (clear e9)); (try (clear e10)); (try (clear e11)); omega)) ⟨by simp (maxSteps := 3000000) [*], by simp (maxSteps := 3000000) [*], by simp (maxSteps := 3000000) [*], by simp (maxSteps := 3000000) [*], by simp (maxSteps := 3000000) [*]⟩ (by simp (maxSteps := 3000000) [*]) (by simp (maxSteps := 3000000) [*]; rfl) ?_) | refine OutOK.run (by simp (maxSteps := 3000000) [*]; rfl) ?_ | refine AW.ret ?_ | refine AW.skip ?_ | refine AW.exit ?_ | refine fin_r ?_ | refine fin_n ?_ | refine AW.block ?_ | refine blockQ_n ?_ | refine blockQ_r ?_ | refine blockQ_e ?_ | refine blockQ_o rfl ?_)
    simp [Try.f101]
theorem s_app_4n (l : List Smp) (kd sm am : Int) (ho : ByteArray) (hgl : goodS l = true) (hh : ∀ s ∈ l, SmpW s) (hho : ho.size ≤ 9223372036854775807) (h1 : ¬ kd = 1) (hR : inR 1 l.length sm = true) (k : Nat) (hkl : k < l.length) (hk : sm = ((k + 1 : Nat) : Int)) (h2 : kd = 4) (ha : ¬ am = 0) (hA : inR 0 500 am = true) (h5 : ¬ ho.toList = []) : ACall Try.prog 101 [.v (.sl true 8 (smps l)), stpD kd sm am ho] [.x, .x] [.v (.sl false 8 (smps (stepL l kd sm am ho))), boo (stepB l kd sm am ho)] := by
  obtain ⟨n1, hn1⟩ : ∃ n1, n1 = l.length + 1 := ⟨_, rfl⟩
  have h16 := (goodS_at hgl).1
  have e1 : wrap64 ((l.length : Int) + 1) = (n1 : Int) := by rw [w64 (by omega) (by omega)]; omega
  have b3 : (l.length + 1) * 72 ≤ 140737488355328 := by omega
  have b4 : l.length + 1 ≤ 4611686018427387904 := by omega
  have cc := c_slices_Clone_impl_Sample_impl_Sample l (by omega)
  have i0 : inR 0 500 0 = true := inR_iff.2 ⟨by omega, by omega⟩
  have hn1' : Hd _ := hn1
  clear hn1
  have e2 : wrap64 (sm - 1) = (k : Int) := by rw [w64 (by ((try (clear e0)); (try (clear e1)); (try (clear e2)); (try (clear e3)); (try (clear e4)); (try (clear e5)); (try (clear e6)); (try (clear e7)); (try (clear e8)); (try (clear e9)); (try (clear e10)); (try (clear e11)); omega)) (by ((try (clear e0)); (try (clear e1)); (try (clear e2)); (try (clear e3)); (try (clear e4)); (try (clear e5)); (try (clear e6)); (try (clear e7)); (try (clear e8)); (try (clear e9)); (try (clear e10)); (try (clear e11)); omega))]; ((try (clear e0)); (try (clear e1)); (try (clear e2)); (try (clear e3)); (try (clear e4)); (try (clear e5)); (try (clear e6)); (try (clear e7)); (try (clear e8)); (try (clear e9)); (try (clear e10)); (try (clear e11)); omega)
  have hf : SmpF l[k] k := (good_x hgl hh hkl).2.1
  have hid : l[k].id = sm := by rw [hf.id, hk]
  have hk' : Hd _ := hk
  have hxw := hh l[k] (List.getElem_mem hkl)
  have hb := step_none (show stepR l kd sm am ho = none by rw [step_at h1 hk hkl, if_neg (by simp [h2]), if_neg (by simp [h2]), if_neg (by simp [h5])])
  subst h2
  rw [show stepL l 4 sm am ho = [] by simp [stepL, hb], hb]
  clear hb hgl hh hk hid hf hxw h1
  refine ACall.of (N := 140) tok Try.func101 rfl rfl rfl (by simp) ?_
  repeat' (first | with_reducible refine OutOK.done ?_ | refine thenQ_n ?_ | refine thenQ_r ?_ | refine thenQ_e ?_ | refine AW.seq ?_ | refine AW.dreg tok mixed [5]  [(0, false), (1, false), (2, false), (4, false), (3, false), (5, true), (6, false), (7, false), (8, false), (9, false)] (by decide +kernel) rfl (by simp [*]; rfl) ?_ | refine AW.dreg tok mixed [5]  [(0, false), (1, false), (2, false), (4, false), (3, false), (5, true), (6, false), (7, false), (8, false), (9, false)] (by decide +kernel) rfl (by simp [*]; rfl) ?_ | refine AW.dreg tok mixed [9, 11, 13, 15]  [(0, false), (1, false), (2, false), (3, false), (4, false), (6, false), (7, false), (8, false), (10, false), (12, false), (14, false), (5, false), (9, true), (11, true), (13, true), (15, true), (16, false), (17, false), (18, false), (19, false)] (by decide +kernel) rfl (by simp [*]; rfl) ?_ | refine AW.dreg tok mixed [8]  [(0, false), (1, false), (7, false), (2, false), (3, false), (4, false), (5, false), (6, false), (8, true), (9, false), (10, false), (11, false), (12, false)] (by decide +kernel) rfl (by simp [*]; rfl) ?_ | refine AW.dreg tok mixed [8]  [(0, false), (1, false), (7, false), (2, false), (3, false), (4, false), (5, false), (6, false), (8, true), (9, false), (10, false), (11, false), (12, false)] (by decide +kernel) rfl (by simp [*]; rfl) ?_ | refine AW.reg tok (by simp [*]; rfl) ?_ | refine AW.ifB (by simp [*]; rfl) ?_ | refine IfG.t ?_ | refine IfG.f ?_ | (refine IfG.p (fun hg => ?_) (fun hg => ?_) <;> (try (have hg' := hg; simp at hg'))) | (refine IfG.n (fun hg => ?_) (fun hg => ?_) <;> (try (have hg' := hg; simp at hg'))) | (refine OutOK.gateP (fun hg => ?_) (fun hg => ?_) <;> (try (have hg' := hg; simp at hg'))) | (refine OutOK.gateN (fun hg => ?_) (fun hg => ?_) <;> (try (have hg' := hg; simp at hg'))) | (refine IfG.g (fun hg => ?_) (fun hg => ?_) <;> (try (have hg' := hg; simp at hg'))) | (refine OutOK.gate (fun hg => ?_) (fun hg => ?_) <;> (try (have hg' := hg; simp at hg'))) | (refine OutOK.callF [] (by simp [*]; rfl) (by simp [*]; rfl) (by simp [*]; rfl) hb67 (by apply c_impl_within <;> first | assumption | exact Hd.out (by assumption) | ((try (clear e0)); (try (clear e1)); (try (clear e2)); (try (clear e3)); (try (clear e4)); (try (clear e5)); (try (clear e6)); (try (clear e7)); (try (clear e8)); (try (clear e9)); (try (clear e10)); (try (clear e11)); omega)) ⟨by simp [*], by simp [*], by simp [*], by simp [*], by simp [*]⟩ (by simp [*]) (by simp [*]; rfl) ?_) | (refine OutOK.callF [] (by simp [*]; rfl) (by simp [*]; rfl) (by simp [*]; rfl) hb116 (by apply cc <;> first | assumption | exact Hd.out (by assumption) | ((try (clear e0)); (try (clear e1)); (try (clear e2)); (try (clear e3)); (try (clear e4)); (try (clear e5)); (try (clear e6)); (try (clear e7)); (try (clear e8)); (try (clear e9)); (try (clear e10)); (try (clear e11)); omega)) ⟨by simp [*], by simp [*], by simp [*], by simp [*], by simp [*]⟩ (by simp [*]) (by simp [*]; rfl) ?_) | refine OutOK.run (by simp [*]; rfl) ?_ | refine AW.ret ?_ | refine AW.skip ?_ | refine AW.exit ?_ | refine fin_r ?_ | refine fin_n ?_ | refine AW.block ?_ | refine blockQ_n ?_ | refine blockQ_r ?_ | refine blockQ_e ?_ | refine blockQ_o rfl ?_)
  simp [Try.f101, smps]
theorem s_app_n (l : List Smp) (kd sm am : Int) (ho : ByteArray) (hgl : goodS l = true) (hh : ∀ s ∈ l, SmpW s) (hho : ho.size ≤ 9223372036854775807) (h1 : ¬ kd = 1) (hR : inR 1 l.length sm = true) (k : Nat) (hkl : k < l.length) (hk : sm = ((k + 1 : Nat) : Int)) (h2 : ¬ kd = 2) (h3 : ¬ kd = 3) (h4 : ¬ kd = 4) (ha : ¬ am = 0) (hA : inR 0 500 am = true) : ACall Try.prog 101 [.v (.sl true 8 (smps l)), stpD kd sm am ho] [.x, .x] [.v (.sl false 8 (smps (stepL l kd sm am ho))), boo (stepB l kd sm am ho)] := by
  obtain ⟨n1, hn1⟩ : ∃ n1, n1 = l.length + 1 := ⟨_, rfl⟩
  have h16 := (goodS_at hgl).1
  have e1 : wrap64 ((l.length : Int) + 1) = (n1 : Int) := by rw [w64 (by omega) (by omega)]; omega
  have b3 : (l.length + 1) * 72 ≤ 140737488355328 := by omega
  have b4 : l.length + 1 ≤ 4611686018427387904 := by omega
  have cc := c_slices_Clone_impl_Sample_impl_Sample l (by omega)
  have i0 : inR 0 500 0 = true := inR_iff.2 ⟨by omega, by omega⟩
  have hn1' : Hd _ := hn1
  clear hn1
  have e2 : wrap64 (sm - 1) = (k : Int) := by rw [w64 (by ((try (clear e0)); (try (clear e1)); (try (clear e2)); (try (clear e3)); (try (clear e4)); (try (clear e5)); (try (clear e6)); (try (clear e7)); (try (clear e8)); (try (clear e9)); (try (clear e10)); (try (clear e11)); omega)) (by ((try (clear e0)); (try (clear e1)); (try (clear e2)); (try (clear e3)); (try (clear e4)); (try (clear e5)); (try (clear e6)); (try (clear e7)); (try (clear e8)); (try (clear e9)); (try (clear e10)); (try (clear e11)); omega))]; ((try (clear e0)); (try (clear e1)); (try (clear e2)); (try (clear e3)); (try (clear e4)); (try (clear e5)); (try (clear e6)); (try (clear e7)); (try (clear e8)); (try (clear e9)); (try (clear e10)); (try (clear e11)); omega)
  have hf : SmpF l[k] k := (good_x hgl hh hkl).2.1
  have hid : l[k].id = sm := by rw [hf.id, hk]
  have hk' : Hd _ := hk
  have hxw := hh l[k] (List.getElem_mem hkl)
  have hb := step_none (show stepR l kd sm am ho = none by rw [step_at h1 hk hkl, if_neg (by simp [h2]), if_neg (by simp [h3]), if_neg (by simp [h4])])
  rw [show stepL l kd sm am ho = [] by simp [stepL, hb], hb]
  clear hb hgl hh hk hid hf hxw
  refine ACall.of (N := 140) tok Try.func101 rfl rfl rfl (by simp) ?_
  repeat' (first | with_reducible refine OutOK.done ?_ | refine thenQ_n ?_ | refine thenQ_r ?_ | refine thenQ_e ?_ | refine AW.seq ?_ | refine AW.dreg tok mixed [5]  [(0, false), (1, false), (2, false), (4, false), (3, false), (5, true), (6, false), (7, false), (8, false), (9, false)] (by decide +kernel) rfl (by simp [*]; rfl) ?_ | refine AW.dreg tok mixed [5]  [(0, false), (1, false), (2, false), (4, false), (3, false), (5, true), (6, false), (7, false), (8, false), (9, false)] (by decide +kernel) rfl (by simp [*]; rfl) ?_ | refine AW.dreg tok mixed [9, 11, 13, 15]  [(0, false), (1, false), (2, false), (3, false), (4, false), (6, false), (7, false), (8, false), (10, false), (12, false), (14, false), (5, false), (9, true), (11, true), (13, true), (15, true), (16, false), (17, false), (18, false), (19, false)] (by decide +kernel) rfl (by simp [*]; rfl) ?_ | refine AW.dreg tok mixed [8]  [(0, false), (1, false), (7, false), (2, false), (3, false), (4, false), (5, false), (6, false), (8, true), (9, false), (10, false), (11, false), (12, false)] (by decide +kernel) rfl (by simp [*]; rfl) ?_ | refine AW.dreg tok mixed [8]  [(0, false), (1, false), (7, false), (2, false), (3, false), (4, false), (5, false), (6, false), (8, true), (9, false), (10, false), (11, false), (12, false)] (by decide +kernel) rfl (by simp [*]; rfl) ?_ | refine AW.reg tok (by simp [*]; rfl) ?_ | refine AW.ifB (by simp [*]; rfl) ?_ | refine IfG.t ?_ | refine IfG.f ?_ | (refine IfG.p (fun hg => ?_) (fun hg => ?_) <;> (try (have hg' := hg; simp at hg'))) | (refine IfG.n (fun hg => ?_) (fun hg => ?_) <;> (try (have hg' := hg; simp at hg'))) | (refine OutOK.gateP (fun hg => ?_) (fun hg => ?_) <;> (try (have hg' := hg; simp at hg'))) | (refine OutOK.gateN (fun hg => ?_) (fun hg => ?_) <;> (try (have hg' := hg; simp at hg'))) | (refine IfG.g (fun hg => ?_) (fun hg => ?_) <;> (try (have hg' := hg; simp at hg'))) | (refine OutOK.gate (fun hg => ?_) (fun hg => ?_) <;> (try (have hg' := hg; simp at hg'))) | (refine OutOK.callF [] (by simp [*]; rfl) (by simp [*]; rfl) (by simp [*]; rfl) hb67 (by apply c_impl_within <;> first | assumption | exact Hd.out (by assumption) | ((try (clear e0)); (try (clear e1)); (try (clear e2)); (try (clear e3)); (try (clear e4)); (try (clear e5)); (try (clear e6)); (try (clear e7)); (try (clear e8)); (try (clear e9)); (try (clear e10)); (try (clear e11)); omega)) ⟨by simp [*], by simp [*], by simp [*], by simp [*], by simp [*]⟩ (by simp [*]) (by simp [*]; rfl) ?_) | (refine OutOK.callF [] (by simp [*]; rfl) (by simp [*]; rfl) (by simp [*]; rfl) hb116 (by apply cc <;> first | assumption | exact Hd.out (by assumption) | ((try (clear e0)); (try (clear e1)); (try (clear e2)); (try (clear e3)); (try (clear e4)); (try (clear e5)); (try (clear e6)); (try (clear e7)); (try (clear e8)); (try (clear e9)); (try (clear e10)); (try (clear e11)); omega)) ⟨by simp [*], by simp [*], by simp [*], by simp [*], by simp [*]⟩ (by simp [*]) (by simp [*]; rfl) ?_) | refine OutOK.run (by simp [*]; rfl) ?_ | refine AW.ret ?_ | refine AW.skip ?_ | refine AW.exit ?_ | refine fin_r ?_ | refine fin_n ?_ | refine AW.block ?_ | refine blockQ_n ?_ | refine blockQ_r ?_ | refine blockQ_e ?_ | refine blockQ_o rfl ?_)
  simp [Try.f101, smps]
theorem c_impl_apply (l : List Smp) (kd sm am : Int) (ho : ByteArray) (hgl : goodS l = true) (hh : ∀ s ∈ l, SmpW s) (hho : ho.size ≤ 9223372036854775807) : ACall Try.prog 101 [.v (.sl true 8 (smps l)), stpD kd sm am ho] [.x, .x] [.v (.sl false 8 (smps (stepL l kd sm am ho))), boo (stepB l kd sm am ho)] := by
  by_cases h1 : kd = 1
  · cases hA : inR 1 500 am with
    | false => exact s_app_1n l kd sm am ho hgl hh hho h1 hA
    | true => exact s_app_1 l kd sm am ho hgl hh hho h1 hA
  cases hR : inR 1 l.length sm with
  | false => exact s_app_R l kd sm am ho hgl hh hho h1 hR
  | true =>
    have hr := inR_iff.1 hR
    obtain ⟨k, hk⟩ : ∃ k : Nat, sm = ((k + 1 : Nat) : Int) := ⟨(sm - 1).toNat, by omega⟩
    have hkl : k < l.length := by omega
    by_cases h2 : kd = 2
    · by_cases ha : am = 0
      · exact s_app_2 l kd sm am ho hgl hh hho h1 hR k hkl hk h2 ha
      · exact s_app_2n l kd sm am ho hgl hh hho h1 hR k hkl hk h2 ha
    by_cases ha : am = 0
    · exact s_app_z l kd sm am ho hgl hh hho h1 hR k hkl hk h2 (.inr ha)
    cases hA : inR 0 500 am with
    | false => exact s_app_z l kd sm am ho hgl hh hho h1 hR k hkl hk h2 (.inl hA)
    | true =>
      by_cases h3 : kd = 3
      · exact s_app_3 l kd sm am ho hgl hh hho h1 hR k hkl hk h3 ha hA
      by_cases h4 : kd = 4
      · by_cases h5 : ho.toList = []
        · exact s_app_4 l kd sm am ho hgl hh hho h1 hR k hkl hk h4 ha hA h5
        · exact s_app_4n l kd sm am ho hgl hh hho h1 hR k hkl hk h4 ha hA h5
      · exact s_app_n l kd sm am ho hgl hh hho h1 hR k hkl hk h2 h3 h4 ha hA
end Go.Proofs.Ytlphkfkcfomlbaa.EngS


set_option linter.unusedSimpArgs false
set_option linter.unusedVariables false
set_option maxHeartbeats 4000000
set_option maxRecDepth 100000
namespace Go.Proofs.Ytlphkfkcfomlbaa.EngS
open Go Go.Proofs Go.Eng Go.RowKit
attribute [local irreducible] Go.RowKit.wrap64
def sumN (f : Nat → Int) : Nat → Int
  | 0 => 0
  | n + 1 => sumN f n + f n
theorem sumN_congr {f g : Nat → Int} : ∀ {n : Nat}, (∀ i < n, f i = g i) → sumN f n = sumN g n
  | 0, _ => rfl
  | n + 1, h => by simp only [sumN]; rw [sumN_congr (fun i hi => h i (by omega)), h n (by omega)]
theorem sumN_add (f g : Nat → Int) : ∀ n, sumN (fun i => f i + g i) n = sumN f n + sumN g n
  | 0 => rfl
  | n + 1 => by simp only [sumN]; rw [sumN_add f g n]; omega
theorem sumN_zero : ∀ n, sumN (fun _ => 0) n = 0
  | 0 => rfl
  | n + 1 => by simp only [sumN]; rw [sumN_zero n]; rfl
theorem sumN_swap (g : Nat → Nat → Int) (m : Nat) : ∀ n, sumN (fun i => sumN (fun j => g i j) m) n = sumN (fun j => sumN (fun i => g i j) n) m
  | 0 => by simp only [sumN]; exact (sumN_zero m).symm
  | n + 1 => by simp only [sumN]; rw [sumN_swap g m n, ← sumN_add]
theorem sumN_one (p : Int) (t : Int) : ∀ n : Nat, sumN (fun i => if p = ((i + 1 : Nat) : Int) then t else 0) n = if 1 ≤ p ∧ p ≤ n then t else 0
  | 0 => by simp only [sumN]; rw [if_neg (by omega)]
  | n + 1 => by
    simp only [sumN]; rw [sumN_one p t n]
    by_cases h : p = ((n + 1 : Nat) : Int)
    · rw [if_pos h, if_neg (by omega), if_pos (by omega)]; omega
    · rw [if_neg h]
      by_cases h2 : 1 ≤ p ∧ p ≤ n
      · rw [if_pos h2, if_pos (by omega)]; omega
      · rw [if_neg h2, if_neg (by omega)]; omega
theorem sumN_in {f : Nat → Int} {b : Int} : ∀ {n : Nat}, (∀ i < n, 0 ≤ f i ∧ f i ≤ b) → 0 ≤ sumN f n ∧ sumN f n ≤ b * n
  | 0, _ => by simp [sumN]
  | n + 1, h => by
    have h1 := sumN_in (n := n) (fun i hi => h i (by omega))
    have h2 := h n (by omega)
    simp only [sumN]
    have : b * ((n + 1 : Nat) : Int) = b * n + b := by rw [Int.natCast_add, Int.mul_add]; simp
    omega
def sumS (f : Smp → Int) (l : List Smp) (n : Nat) : Int := sumN (fun i => f (l[i]?.getD default)) n
theorem sumS_succ (f : Smp → Int) (l : List Smp) (n : Nat) (h : n < l.length) : sumS f l (n + 1) = sumS f l n + f l[n] := by simp [sumS, sumN, h]
def tk0 (s : Smp) : Int := if s.par = 0 then s.tak else 0
structure Facts (l : List Smp) : Prop where
  len : l.length ≤ 16
  f : ∀ (k : Nat) (hk : k < l.length), SmpF l[k] k
  g : ∀ (k : Nat) (hk : k < l.length), l[k].giv = givI l l[k].id l.length
theorem good_facts {l : List Smp} (hg : goodS l = true) (hw : ∀ s ∈ l, SmpW s) : Facts l :=
  ⟨(goodS_at hg).1, fun k hk => (good_x hg hw hk).2.1, fun k hk => (good_x hg hw hk).2.2⟩
theorem Facts.in {l : List Smp} (h : Facts l) {f : Smp → Int} (hf : ∀ s k, SmpF s k → 0 ≤ f s ∧ f s ≤ 500) {n : Nat} (hn : n ≤ l.length) : 0 ≤ sumS f l n ∧ sumS f l n ≤ 8000 := by
  have := sumN_in (f := fun i => f (l[i]?.getD default)) (b := 500) (n := n) (fun i hi => by
    have hi' : i < l.length := by omega
    simp only [List.getElem?_eq_getElem hi', Option.getD_some]
    exact hf _ _ (h.f i hi'))
  have h2 := h.len
  unfold sumS
  omega
theorem givI_sum {l : List Smp} (h : Facts l) (p : Int) : ∀ n, n ≤ l.length → givI l p n = sumS (fun s => if s.par = p then s.tak else 0) l n
  | 0, _ => rfl
  | n + 1, hn => by
    rw [givI_succ p (by omega), givI_sum h p n (by omega), sumS_succ _ _ _ (by omega)]
    have hb := h.in (f := fun s => if s.par = p then s.tak else 0) (n := n) (fun s k hs => by have := hs.t1; have := hs.t2; (try simp only); split <;> omega) (by omega)
    have hf := h.f n (by omega)
    have h1 := hf.t1; have h2 := hf.t2
    split
    · rw [w64 (by omega) (by omega)]
    · omega
theorem bal_eq {l : List Smp} (h : Facts l) : sumS tk0 l l.length = sumS (·.lef) l l.length + sumS (·.usd) l l.length := by
  have hget : ∀ i (hi : i < l.length), l[i]?.getD default = l[i] := fun i hi => by simp [hi]
  have e1 : sumS (·.tak) l l.length = sumS (·.lef) l l.length + sumS (·.usd) l l.length + sumS (·.giv) l l.length := by
    unfold sumS
    rw [← sumN_add, ← sumN_add]
    exact sumN_congr fun i hi => by simp only [hget i hi]; have := (h.f i hi).s; omega
  have e2 : sumS (·.giv) l l.length = sumN (fun i => sumN (fun j => if (l[j]?.getD default).par = ((i + 1 : Nat) : Int) then (l[j]?.getD default).tak else 0) l.length) l.length := by
    unfold sumS
    exact sumN_congr fun i hi => by simp only [hget i hi]; rw [h.g i hi, (h.f i hi).id, givI_sum h _ _ (Nat.le_refl _)]; rfl
  have e3 : sumS (·.tak) l l.length = sumS tk0 l l.length + sumS (·.giv) l l.length := by
    rw [e2, sumN_swap]
    unfold sumS
    rw [← sumN_add]
    refine sumN_congr fun j hj => ?_
    simp only [hget j hj]
    rw [sumN_one]
    have hf := h.f j hj
    have h1 := hf.p0; have h2 := hf.p1
    unfold tk0
    by_cases hp : l[j].par = 0
    · rw [if_pos hp, if_neg (by omega)]; omega
    · rw [if_neg hp, if_pos (by omega)]; omega
  omega
theorem sumS_app (f : Smp → Int) (l : List Smp) (x : Smp) : sumS f (l ++ [x]) (l ++ [x]).length = sumS f l l.length + f x := by
  rw [List.length_append, List.length_singleton, sumS_succ _ _ _ (by simp)]
  have : sumS f (l ++ [x]) l.length = sumS f l l.length := sumN_congr fun i hi => by simp only [List.getElem?_append_left hi]
  rw [this]; simp
theorem sumS_set (f : Smp → Int) (l : List Smp) (k : Nat) (hk : k < l.length) (x : Smp) (hx : f x = f l[k]) : sumS f (l.set k x) (l.set k x).length = sumS f l l.length := by
  rw [List.length_set]
  refine sumN_congr fun i hi => ?_
  by_cases e : i = k
  · subst e; simp [hi, hx]
  · simp [List.getElem?_set_ne (Ne.symm e)]
theorem step_tk {l m : List Smp} {kd sm am : Int} {ho : ByteArray} (h : Facts l) (hs : stepR l kd sm am ho = some m) : sumS tk0 m m.length = sumS tk0 l l.length + (if kd = 1 then am else 0) := by
  by_cases h1 : kd = 1
  · simp only [stepR, if_pos h1, Option.some.injEq] at hs
    subst hs
    rw [sumS_app, if_pos h1]; simp [tk0]
  · rw [if_neg h1]
    cases hR : inR 1 l.length sm with
    | false => simp [stepR, h1, hR] at hs
    | true =>
      have hr := inR_iff.1 hR
      obtain ⟨k, hk⟩ : ∃ k : Nat, sm = ((k + 1 : Nat) : Int) := ⟨(sm - 1).toNat, by omega⟩
      have hkl : k < l.length := by omega
      rw [step_at h1 hk hkl] at hs
      by_cases c2 : kd = 2 ∧ am = 0
      · rw [if_pos c2, Option.some.injEq] at hs
        subst hs
        rw [sumS_set _ _ _ hkl]
        · omega
        · rfl
      rw [if_neg c2] at hs
      by_cases c3 : kd = 3 ∧ inR 1 l[k].lef am = true
      · rw [if_pos c3, Option.some.injEq] at hs
        subst hs
        rw [sumS_app, sumS_set tk0 l k hkl _ (show _ = tk0 l[k] from by simp [tk0])]
        have : tk0 ⟨((l.length + 1 : Nat) : Int), l[k].id, l[k].ctx, am, am, 0, 0, ho⟩ = 0 := by
          have := (h.f k hkl).id
          simp only [tk0]; rw [if_neg (by omega)]
        omega
      rw [if_neg c3] at hs
      by_cases c4 : kd = 4 ∧ inR 1 l[k].lef am = true ∧ ho.toList = []
      · rw [if_pos c4, Option.some.injEq] at hs
        subst hs
        rw [sumS_set _ _ _ hkl]
        · omega
        · rfl
      · rw [if_neg c4] at hs; cases hs
theorem step_W {l m : List Smp} {kd sm am : Int} {ho : ByteArray} (hw : ∀ s ∈ l, SmpW s) (hho : ho.size ≤ 9223372036854775807) (hs : stepR l kd sm am ho = some m) : (∀ s ∈ m, SmpW s) ∧ m.length ≤ l.length + 1 := by
  by_cases h1 : kd = 1
  · simp only [stepR, if_pos h1, Option.some.injEq] at hs
    subst hs
    exact ⟨W_app hw ⟨hho, by simp, by simp⟩, by simp⟩
  · cases hR : inR 1 l.length sm with
    | false => simp [stepR, h1, hR] at hs
    | true =>
      have hr := inR_iff.1 hR
      obtain ⟨k, hk⟩ : ∃ k : Nat, sm = ((k + 1 : Nat) : Int) := ⟨(sm - 1).toNat, by omega⟩
      have hkl : k < l.length := by omega
      have hxw := hw l[k] (List.getElem_mem hkl)
      rw [step_at h1 hk hkl] at hs
      by_cases c2 : kd = 2 ∧ am = 0
      · rw [if_pos c2, Option.some.injEq] at hs
        subst hs
        exact ⟨W_set hw ⟨hho, hxw.2⟩, by simp⟩
      rw [if_neg c2] at hs
      by_cases c3 : kd = 3 ∧ inR 1 l[k].lef am = true
      · rw [if_pos c3, Option.some.injEq] at hs
        subst hs
        exact ⟨W_app (W_set hw ⟨hxw.1, w64_in _⟩) ⟨hho, by simp, by simp⟩, by simp⟩
      rw [if_neg c3] at hs
      by_cases c4 : kd = 4 ∧ inR 1 l[k].lef am = true ∧ ho.toList = []
      · rw [if_pos c4, Option.some.injEq] at hs
        subst hs
        exact ⟨W_set hw hxw, by simp⟩
      · rw [if_neg c4] at hs; cases hs
theorem step_ok {l : List Smp} {kd sm am : Int} {ho : ByteArray} (h : stepB l kd sm am ho = true) : stepR l kd sm am ho = some (stepL l kd sm am ho) ∧ goodS (stepL l kd sm am ho) = true := by
  have h0 := h
  simp only [stepB] at h
  cases hs : stepR l kd sm am ho with
  | none => rw [hs] at h; cases h
  | some m =>
    rw [hs] at h
    obtain ⟨_, h2⟩ := step_some hs
    rw [h2 h]; exact ⟨rfl, h⟩
theorem c_spec_IsValidSamples (l : List Smp) (h : l.length ≤ 9223372036854775807) (hh : ∀ s ∈ l, SmpW s) : ACall Try.prog 31 [.v (.sl true 8 (smps l))] [.x] [boo (goodS l)] := by
  have cv := c_spec_l20Good l h hh
  clear hh
  refine ACall.of (N := 5) tok Try.func31 rfl rfl rfl (by simp) ?_
  repeat' (first | with_reducible refine OutOK.done ?_ | refine thenQ_n ?_ | refine thenQ_r ?_ | refine thenQ_e ?_ | refine AW.seq ?_ | refine AW.reg tok (by simp [*]; rfl) ?_ | refine AW.ifB (by simp [*]; rfl) ?_ | refine IfG.t ?_ | refine IfG.f ?_ | (refine IfG.p (fun hg => ?_) (fun hg => ?_) <;> (try (have hg' := hg; simp at hg'))) | (refine IfG.n (fun hg => ?_) (fun hg => ?_) <;> (try (have hg' := hg; simp at hg'))) | (refine OutOK.gateP (fun hg => ?_) (fun hg => ?_) <;> (try (have hg' := hg; simp at hg'))) | (refine OutOK.gateN (fun hg => ?_) (fun hg => ?_) <;> (try (have hg' := hg; simp at hg'))) | (refine IfG.g (fun hg => ?_) (fun hg => ?_) <;> (try (have hg' := hg; simp at hg'))) | (refine OutOK.gate (fun hg => ?_) (fun hg => ?_) <;> (try (have hg' := hg; simp at hg'))) | (refine OutOK.callF [] (by simp [*]; rfl) (by simp [*]; rfl) (by simp [*]; rfl) hb85 (by apply cv <;> first | assumption | exact Hd.out (by assumption) | ((try (clear e0)); (try (clear e1)); (try (clear e2)); (try (clear e3)); (try (clear e4)); (try (clear e5)); (try (clear e6)); (try (clear e7)); (try (clear e8)); (try (clear e9)); (try (clear e10)); (try (clear e11)); omega)) ⟨by simp [*], by simp [*], by simp [*], by simp [*], by simp [*]⟩ (by simp [*]) (by simp [*]; rfl) ?_) | refine OutOK.run (by simp [*]; rfl) ?_ | refine AW.ret ?_ | refine AW.skip ?_ | refine AW.exit ?_ | refine fin_r ?_ | refine fin_n ?_ | refine AW.block ?_ | refine blockQ_n ?_ | refine blockQ_r ?_ | refine blockQ_e ?_ | refine blockQ_o rfl ?_)
  all_goals (try simp [*, Try.f31])
theorem c_laws_vSamples (l : List Smp) (h : l.length < 9223372036854775807) : ACall Try.prog 53 [.v (.sl true 8 (smps l)), .v (.sl true 8 (smps l))] [.x, .x] [boo true] := by
  refine ACall.of (N := 26) tok Try.func53 rfl rfl rfl (by simp) ?_
  repeat' (first | with_reducible refine OutOK.done ?_ | refine thenQ_n ?_ | refine thenQ_r ?_ | refine thenQ_e ?_ | refine AW.seq ?_ | refine AW.dreg tok mixed [7]  [(0, false), (1, false), (2, false), (4, false), (5, false), (6, false), (3, false), (7, true), (8, false)] (by decide +kernel) rfl (by simp [*]; rfl) ?_ | refine AW.reg tok (by simp [*]; rfl) ?_ | refine AW.ifB (by simp [*]; rfl) ?_ | refine IfG.t ?_ | refine IfG.f ?_ | (refine IfG.p (fun hg => ?_) (fun hg => ?_) <;> (try (have hg' := hg; simp at hg'))) | (refine IfG.n (fun hg => ?_) (fun hg => ?_) <;> (try (have hg' := hg; simp at hg'))) | (refine OutOK.gateP (fun hg => ?_) (fun hg => ?_) <;> (try (have hg' := hg; simp at hg'))) | (refine OutOK.gateN (fun hg => ?_) (fun hg => ?_) <;> (try (have hg' := hg; simp at hg'))) | (refine IfG.g (fun hg => ?_) (fun hg => ?_) <;> (try (have hg' := hg; simp at hg'))) | (refine OutOK.gate (fun hg => ?_) (fun hg => ?_) <;> (try (have hg' := hg; simp at hg'))) | refine OutOK.run (by simp [*]; rfl) ?_ | refine AW.ret ?_ | refine AW.skip ?_ | refine AW.exit ?_ | refine fin_r ?_ | refine fin_n ?_ | refine AW.block ?_ | refine blockQ_n ?_ | refine blockQ_r ?_ | refine blockQ_e ?_ | refine blockQ_o rfl ?_)
  refine AW.loopL (fun i => i ≤ l.length) (fun i => [(0, .c (.sl true 8 (smps l))), (1, .c (.sl true 8 (smps l))), (5, .c (.sc (.int .i64 (i : Int))))]) (fun _ => []) (fun i => l.length - i) 0 (Nat.zero_le _) ⟨by simp, by simp, by simp⟩ ?_
  intro i hi
  rcases Nat.lt_or_ge i l.length with hl | hl
  · have e1 : wrap64 ((i : Int) + 1) = ((i + 1 : Nat) : Int) := by rw [w64 (by omega) (by omega)]; omega
    repeat' (first | with_reducible refine OutOK.done ?_ | refine thenQ_n ?_ | refine thenQ_r ?_ | refine thenQ_e ?_ | refine AW.seq ?_ | refine AW.dreg tok mixed [7]  [(0, false), (1, false), (2, false), (4, false), (5, false), (6, false), (3, false), (7, true), (8, false)] (by decide +kernel) rfl (by simp [*]; rfl) ?_ | refine AW.reg tok (by simp [*]; rfl) ?_ | refine AW.ifB (by simp [*]; rfl) ?_ | refine IfG.t ?_ | refine IfG.f ?_ | (refine IfG.p (fun hg => ?_) (fun hg => ?_) <;> (try (have hg' := hg; simp at hg'))) | (refine IfG.n (fun hg => ?_) (fun hg => ?_) <;> (try (have hg' := hg; simp at hg'))) | (refine OutOK.gateP (fun hg => ?_) (fun hg => ?_) <;> (try (have hg' := hg; simp at hg'))) | (refine OutOK.gateN (fun hg => ?_) (fun hg => ?_) <;> (try (have hg' := hg; simp at hg'))) | (refine IfG.g (fun hg => ?_) (fun hg => ?_) <;> (try (have hg' := hg; simp at hg'))) | (refine OutOK.gate (fun hg => ?_) (fun hg => ?_) <;> (try (have hg' := hg; simp at hg'))) | refine OutOK.run (by simp [*]; rfl) ?_ | refine AW.ret ?_ | refine AW.skip ?_ | refine AW.exit ?_ | refine fin_r ?_ | refine fin_n ?_ | refine AW.block ?_ | refine blockQ_n ?_ | refine blockQ_r ?_ | refine blockQ_e ?_ | refine blockQ_o rfl ?_)
    exact ⟨i + 1, hl, ⟨by simp, by simp, by simp⟩, by ((try (clear e0)); (try (clear e1)); (try (clear e2)); (try (clear e3)); (try (clear e4)); (try (clear e5)); (try (clear e6)); (try (clear e7)); (try (clear e8)); (try (clear e9)); (try (clear e10)); (try (clear e11)); omega)⟩
  · have hn : ¬ i < l.length := by omega
    repeat' (first | with_reducible refine OutOK.done ?_ | refine thenQ_n ?_ | refine thenQ_r ?_ | refine thenQ_e ?_ | refine AW.seq ?_ | refine AW.dreg tok mixed [7]  [(0, false), (1, false), (2, false), (4, false), (5, false), (6, false), (3, false), (7, true), (8, false)] (by decide +kernel) rfl (by simp [*]; rfl) ?_ | refine AW.reg tok (by simp [*]; rfl) ?_ | refine AW.ifB (by simp [*]; rfl) ?_ | refine IfG.t ?_ | refine IfG.f ?_ | (refine IfG.p (fun hg => ?_) (fun hg => ?_) <;> (try (have hg' := hg; simp at hg'))) | (refine IfG.n (fun hg => ?_) (fun hg => ?_) <;> (try (have hg' := hg; simp at hg'))) | (refine OutOK.gateP (fun hg => ?_) (fun hg => ?_) <;> (try (have hg' := hg; simp at hg'))) | (refine OutOK.gateN (fun hg => ?_) (fun hg => ?_) <;> (try (have hg' := hg; simp at hg'))) | (refine IfG.g (fun hg => ?_) (fun hg => ?_) <;> (try (have hg' := hg; simp at hg'))) | (refine OutOK.gate (fun hg => ?_) (fun hg => ?_) <;> (try (have hg' := hg; simp at hg'))) | refine OutOK.run (by simp [*]; rfl) ?_ | refine AW.ret ?_ | refine AW.skip ?_ | refine AW.exit ?_ | refine fin_r ?_ | refine fin_n ?_ | refine AW.block ?_ | refine blockQ_n ?_ | refine blockQ_r ?_ | refine blockQ_e ?_ | refine blockQ_o rfl ?_)
    all_goals (try simp [*, Try.f53])
theorem c_impl_CustodyBalance0 (l : List Smp) (h : l.length ≤ 1000) (hh : ∀ s ∈ l, SmpW s) (hg : goodS l = false) : ACall Try.prog 36 [.v (.sl true 8 (smps l))] [.x] [int 0, int 0, int 0, boo false] := by
  have cv := c_impl_IsValidSamples l (by omega) hh
  rw [hg] at cv
  clear hh hg
  refine ACall.of (N := 39) tok Try.func36 rfl rfl rfl (by simp) ?_
  repeat' (first | with_reducible refine OutOK.done ?_ | refine thenQ_n ?_ | refine thenQ_r ?_ | refine thenQ_e ?_ | refine AW.seq ?_ | refine AW.reg tok (by simp [*]; rfl) ?_ | refine AW.ifB (by simp [*]; rfl) ?_ | refine IfG.t ?_ | refine IfG.f ?_ | (refine IfG.p (fun hg => ?_) (fun hg => ?_) <;> (try (have hg' := hg; simp at hg'))) | (refine IfG.n (fun hg => ?_) (fun hg => ?_) <;> (try (have hg' := hg; simp at hg'))) | (refine OutOK.gateP (fun hg => ?_) (fun hg => ?_) <;> (try (have hg' := hg; simp at hg'))) | (refine OutOK.gateN (fun hg => ?_) (fun hg => ?_) <;> (try (have hg' := hg; simp at hg'))) | (refine IfG.g (fun hg => ?_) (fun hg => ?_) <;> (try (have hg' := hg; simp at hg'))) | (refine OutOK.gate (fun hg => ?_) (fun hg => ?_) <;> (try (have hg' := hg; simp at hg'))) | (refine OutOK.callF [] (by simp [*]; rfl) (by simp [*]; rfl) (by simp [*]; rfl) hb33 (by apply cv <;> first | assumption | exact Hd.out (by assumption) | ((try (clear e0)); (try (clear e1)); (try (clear e2)); (try (clear e3)); (try (clear e4)); (try (clear e5)); (try (clear e6)); (try (clear e7)); (try (clear e8)); (try (clear e9)); (try (clear e10)); (try (clear e11)); omega)) ⟨by simp [*], by simp [*], by simp [*], by simp [*], by simp [*]⟩ (by simp [*]) (by simp [*]; rfl) ?_) | refine OutOK.run (by simp [*]; rfl) ?_ | refine AW.ret ?_ | refine AW.skip ?_ | refine AW.exit ?_ | refine fin_r ?_ | refine fin_n ?_ | refine AW.block ?_ | refine blockQ_n ?_ | refine blockQ_r ?_ | refine blockQ_e ?_ | refine blockQ_o rfl ?_)
  simp [Try.f36]
theorem c_impl_CustodyBalance (l : List Smp) (hh : ∀ s ∈ l, SmpW s) (hg : goodS l = true) : ACall Try.prog 36 [.v (.sl true 8 (smps l))] [.x] [int (sumS tk0 l l.length), int (sumS (·.lef) l l.length), int (sumS (·.usd) l l.length), boo true] := by
  have hF := good_facts hg hh
  have h16 := hF.len
  have cv := c_impl_IsValidSamples l (by omega) hh
  rw [hg] at cv
  replace hF : Hd _ := hF
  clear hh hg
  refine ACall.of (N := 39) tok Try.func36 rfl rfl rfl (by simp) ?_
  repeat' (first | with_reducible refine OutOK.done ?_ | refine thenQ_n ?_ | refine thenQ_r ?_ | refine thenQ_e ?_ | refine AW.seq ?_ | refine AW.reg tok (by simp [*]; rfl) ?_ | refine AW.ifB (by simp [*]; rfl) ?_ | refine IfG.t ?_ | refine IfG.f ?_ | (refine IfG.p (fun hg => ?_) (fun hg => ?_) <;> (try (have hg' := hg; simp at hg'))) | (refine IfG.n (fun hg => ?_) (fun hg => ?_) <;> (try (have hg' := hg; simp at hg'))) | (refine OutOK.gateP (fun hg => ?_) (fun hg => ?_) <;> (try (have hg' := hg; simp at hg'))) | (refine OutOK.gateN (fun hg => ?_) (fun hg => ?_) <;> (try (have hg' := hg; simp at hg'))) | (refine IfG.g (fun hg => ?_) (fun hg => ?_) <;> (try (have hg' := hg; simp at hg'))) | (refine OutOK.gate (fun hg => ?_) (fun hg => ?_) <;> (try (have hg' := hg; simp at hg'))) | (refine OutOK.callF [] (by simp [*]; rfl) (by simp [*]; rfl) (by simp [*]; rfl) hb33 (by apply cv <;> first | assumption | exact Hd.out (by assumption) | ((try (clear e0)); (try (clear e1)); (try (clear e2)); (try (clear e3)); (try (clear e4)); (try (clear e5)); (try (clear e6)); (try (clear e7)); (try (clear e8)); (try (clear e9)); (try (clear e10)); (try (clear e11)); omega)) ⟨by simp [*], by simp [*], by simp [*], by simp [*], by simp [*]⟩ (by simp [*]) (by simp [*]; rfl) ?_) | refine OutOK.run (by simp [*]; rfl) ?_ | refine AW.ret ?_ | refine AW.skip ?_ | refine AW.exit ?_ | refine fin_r ?_ | refine fin_n ?_ | refine AW.block ?_ | refine blockQ_n ?_ | refine blockQ_r ?_ | refine blockQ_e ?_ | refine blockQ_o rfl ?_)
  refine AW.loopL (α := Nat × Int × Int × Int) (fun q => q.1 ≤ l.length ∧ Hd (q.2.1 = sumS tk0 l q.1 ∧ q.2.2.1 = sumS (·.lef) l q.1 ∧ q.2.2.2 = sumS (·.usd) l q.1)) (fun q => [(6, .c (.sc (.int .i64 q.2.1))), (7, .c (.sc (.int .i64 q.2.2.1))), (8, .c (.sc (.int .i64 q.2.2.2))), (14, .c (.sl true 8 (smps l))), (15, .c (.sc (.int .i64 (l.length : Int)))), (16, .c (.sc (.int .i64 (q.1 : Int))))]) (fun _ => []) (fun q => l.length - q.1) (0, 0, 0, 0) ⟨Nat.zero_le _, rfl, rfl, rfl⟩ ⟨by simp, by simp, by simp⟩ ?_
  rintro ⟨i, t, u, v⟩ ⟨hi, hs⟩
  simp only at hi hs
  rcases Nat.lt_or_ge i l.length with hl | hl
  · obtain ⟨s1, s2, s3⟩ := hs.out
    have b1 := hF.out.in (f := tk0) (n := i) (fun s k hs => by have := hs.t1; have := hs.t2; unfold tk0; split <;> omega) (by omega)
    have b2 := hF.out.in (f := (·.lef)) (n := i) (fun s k hs => by have := hs.t2; have := hs.l1; have := hs.l2; omega) (by omega)
    have b3 := hF.out.in (f := (·.usd)) (n := i) (fun s k hs => by have := hs.t2; have := hs.u1; have := hs.u2; omega) (by omega)
    have hf := hF.out.f i hl
    have f1 := hf.t1; have f2 := hf.t2; have f3 := hf.l1; have f4 := hf.l2; have f5 := hf.u1; have f6 := hf.u2
    have e1 : wrap64 ((i : Int) + 1) = ((i + 1 : Nat) : Int) := by rw [w64 (by omega) (by omega)]; omega
    have e2 : wrap64 (t + l[i].tak) = t + l[i].tak := w64 (by ((try (clear e0)); (try (clear e1)); (try (clear e2)); (try (clear e3)); (try (clear e4)); (try (clear e5)); (try (clear e6)); (try (clear e7)); (try (clear e8)); (try (clear e9)); (try (clear e10)); (try (clear e11)); omega)) (by ((try (clear e0)); (try (clear e1)); (try (clear e2)); (try (clear e3)); (try (clear e4)); (try (clear e5)); (try (clear e6)); (try (clear e7)); (try (clear e8)); (try (clear e9)); (try (clear e10)); (try (clear e11)); omega))
    have e3 : wrap64 (u + l[i].lef) = u + l[i].lef := w64 (by ((try (clear e0)); (try (clear e1)); (try (clear e2)); (try (clear e3)); (try (clear e4)); (try (clear e5)); (try (clear e6)); (try (clear e7)); (try (clear e8)); (try (clear e9)); (try (clear e10)); (try (clear e11)); omega)) (by ((try (clear e0)); (try (clear e1)); (try (clear e2)); (try (clear e3)); (try (clear e4)); (try (clear e5)); (try (clear e6)); (try (clear e7)); (try (clear e8)); (try (clear e9)); (try (clear e10)); (try (clear e11)); omega))
    have e4 : wrap64 (v + l[i].usd) = v + l[i].usd := w64 (by ((try (clear e0)); (try (clear e1)); (try (clear e2)); (try (clear e3)); (try (clear e4)); (try (clear e5)); (try (clear e6)); (try (clear e7)); (try (clear e8)); (try (clear e9)); (try (clear e10)); (try (clear e11)); omega)) (by ((try (clear e0)); (try (clear e1)); (try (clear e2)); (try (clear e3)); (try (clear e4)); (try (clear e5)); (try (clear e6)); (try (clear e7)); (try (clear e8)); (try (clear e9)); (try (clear e10)); (try (clear e11)); omega))
    have n1 := sumS_succ tk0 l i hl
    have n2 := sumS_succ (·.lef) l i hl
    have n3 := sumS_succ (·.usd) l i hl
    rw [← s1] at n1
    rw [← s2] at n2
    rw [← s3] at n3
    replace n1 : Hd _ := n1
    replace n2 : Hd _ := n2
    replace n3 : Hd _ := n3
    clear s1 s2 s3 b1 b2 b3 hf f1 f2 f3 f4 f5 f6 hs
    by_cases hp : l[i].par = 0
    · repeat' (first | with_reducible refine OutOK.done ?_ | refine thenQ_n ?_ | refine thenQ_r ?_ | refine thenQ_e ?_ | refine AW.seq ?_ | refine AW.reg tok (by simp [*]; rfl) ?_ | refine AW.ifB (by simp [*]; rfl) ?_ | refine IfG.t ?_ | refine IfG.f ?_ | (refine IfG.p (fun hg => ?_) (fun hg => ?_) <;> (try (have hg' := hg; simp at hg'))) | (refine IfG.n (fun hg => ?_) (fun hg => ?_) <;> (try (have hg' := hg; simp at hg'))) | (refine OutOK.gateP (fun hg => ?_) (fun hg => ?_) <;> (try (have hg' := hg; simp at hg'))) | (refine OutOK.gateN (fun hg => ?_) (fun hg => ?_) <;> (try (have hg' := hg; simp at hg'))) | (refine IfG.g (fun hg => ?_) (fun hg => ?_) <;> (try (have hg' := hg; simp at hg'))) | (refine OutOK.gate (fun hg => ?_) (fun hg => ?_) <;> (try (have hg' := hg; simp at hg'))) | refine OutOK.run (by simp [*]; rfl) ?_ | refine AW.ret ?_ | refine AW.skip ?_ | refine AW.exit ?_ | refine fin_r ?_ | refine fin_n ?_ | refine AW.block ?_ | refine blockQ_n ?_ | refine blockQ_r ?_ | refine blockQ_e ?_ | refine blockQ_o rfl ?_)
      exact ⟨(i + 1, t + l[i].tak, u + l[i].lef, v + l[i].usd), ⟨hl, by rw [n1.out]; simp [tk0, hp], n2.out.symm, n3.out.symm⟩, ⟨by simp, by simp, by simp⟩, by simp only; ((try (clear e0)); (try (clear e1)); (try (clear e2)); (try (clear e3)); (try (clear e4)); (try (clear e5)); (try (clear e6)); (try (clear e7)); (try (clear e8)); (try (clear e9)); (try (clear e10)); (try (clear e11)); omega)⟩
    · repeat' (first | with_reducible refine OutOK.done ?_ | refine thenQ_n ?_ | refine thenQ_r ?_ | refine thenQ_e ?_ | refine AW.seq ?_ | refine AW.reg tok (by simp [*]; rfl) ?_ | refine AW.ifB (by simp [*]; rfl) ?_ | refine IfG.t ?_ | refine IfG.f ?_ | (refine IfG.p (fun hg => ?_) (fun hg => ?_) <;> (try (have hg' := hg; simp at hg'))) | (refine IfG.n (fun hg => ?_) (fun hg => ?_) <;> (try (have hg' := hg; simp at hg'))) | (refine OutOK.gateP (fun hg => ?_) (fun hg => ?_) <;> (try (have hg' := hg; simp at hg'))) | (refine OutOK.gateN (fun hg => ?_) (fun hg => ?_) <;> (try (have hg' := hg; simp at hg'))) | (refine IfG.g (fun hg => ?_) (fun hg => ?_) <;> (try (have hg' := hg; simp at hg'))) | (refine OutOK.gate (fun hg => ?_) (fun hg => ?_) <;> (try (have hg' := hg; simp at hg'))) | refine OutOK.run (by simp [*]; rfl) ?_ | refine AW.ret ?_ | refine AW.skip ?_ | refine AW.exit ?_ | refine fin_r ?_ | refine fin_n ?_ | refine AW.block ?_ | refine blockQ_n ?_ | refine blockQ_r ?_ | refine blockQ_e ?_ | refine blockQ_o rfl ?_)
      exact ⟨(i + 1, t, u + l[i].lef, v + l[i].usd), ⟨hl, by rw [n1.out]; simp [tk0, hp], n2.out.symm, n3.out.symm⟩, ⟨by simp, by simp, by simp⟩, by simp only; ((try (clear e0)); (try (clear e1)); (try (clear e2)); (try (clear e3)); (try (clear e4)); (try (clear e5)); (try (clear e6)); (try (clear e7)); (try (clear e8)); (try (clear e9)); (try (clear e10)); (try (clear e11)); omega)⟩
  · have hii : i = l.length := by ((try (clear e0)); (try (clear e1)); (try (clear e2)); (try (clear e3)); (try (clear e4)); (try (clear e5)); (try (clear e6)); (try (clear e7)); (try (clear e8)); (try (clear e9)); (try (clear e10)); (try (clear e11)); omega)
    subst hii
    obtain ⟨s1, s2, s3⟩ := hs.out
    clear hs
    repeat' (first | with_reducible refine OutOK.done ?_ | refine thenQ_n ?_ | refine thenQ_r ?_ | refine thenQ_e ?_ | refine AW.seq ?_ | refine AW.reg tok (by simp [*]; rfl) ?_ | refine AW.ifB (by simp [*]; rfl) ?_ | refine IfG.t ?_ | refine IfG.f ?_ | (refine IfG.p (fun hg => ?_) (fun hg => ?_) <;> (try (have hg' := hg; simp at hg'))) | (refine IfG.n (fun hg => ?_) (fun hg => ?_) <;> (try (have hg' := hg; simp at hg'))) | (refine OutOK.gateP (fun hg => ?_) (fun hg => ?_) <;> (try (have hg' := hg; simp at hg'))) | (refine OutOK.gateN (fun hg => ?_) (fun hg => ?_) <;> (try (have hg' := hg; simp at hg'))) | (refine IfG.g (fun hg => ?_) (fun hg => ?_) <;> (try (have hg' := hg; simp at hg'))) | (refine OutOK.gate (fun hg => ?_) (fun hg => ?_) <;> (try (have hg' := hg; simp at hg'))) | refine OutOK.run (by simp [*]; rfl) ?_ | refine AW.ret ?_ | refine AW.skip ?_ | refine AW.exit ?_ | refine fin_r ?_ | refine fin_n ?_ | refine AW.block ?_ | refine blockQ_n ?_ | refine blockQ_r ?_ | refine blockQ_e ?_ | refine blockQ_o rfl ?_)
    simp [Try.f36, s1, s2, s3]
end Go.Proofs.Ytlphkfkcfomlbaa.EngS


set_option linter.unusedSimpArgs false
set_option linter.unusedVariables false
set_option maxHeartbeats 4000000
set_option maxRecDepth 100000
namespace Go.Proofs.Ytlphkfkcfomlbaa.EngS
open Go Go.Proofs Go.Eng Go.RowKit
attribute [local irreducible] Go.RowKit.wrap64
def appB (l : List Smp) (kd sm am : Int) (ho : ByteArray) : Bool := goodS l && stepB l kd sm am ho
def appL (l : List Smp) (kd sm am : Int) (ho : ByteArray) : List Smp := if appB l kd sm am ho = true then stepL l kd sm am ho else []
theorem c_impl_ApplyStep (l : List Smp) (kd sm am : Int) (ho : ByteArray) (h : l.length ≤ 1000) (hh : ∀ s ∈ l, SmpW s) (hho : ho.size ≤ 9223372036854775807) :
    ACall Try.prog 51 [.v (.sl true 8 (smps l)), stpD kd sm am ho] [.x, .x] [.v (.sl false 8 (smps (appL l kd sm am ho))), boo (appB l kd sm am ho)] := by
  have cv := c_impl_IsValidSamples l (by omega) hh
  cases hg : goodS l with
  | false =>
    rw [hg] at cv
    have hb : appB l kd sm am ho = false := by simp [appB, hg]
    rw [show appL l kd sm am ho = [] by simp [appL, hb], hb]
    clear hb hg hh
    refine ACall.of (N := 14) tok Try.func51 rfl rfl rfl (by simp) ?_
    repeat' (first | with_reducible refine OutOK.done ?_ | refine thenQ_n ?_ | refine thenQ_r ?_ | refine thenQ_e ?_ | refine AW.seq ?_ | refine AW.reg tok (by simp [*]; rfl) ?_ | refine AW.ifB (by simp [*]; rfl) ?_ | refine IfG.t ?_ | refine IfG.f ?_ | (refine IfG.p (fun hg => ?_) (fun hg => ?_) <;> (try (have hg' := hg; simp at hg'))) | (refine IfG.n (fun hg => ?_) (fun hg => ?_) <;> (try (have hg' := hg; simp at hg'))) | (refine OutOK.gateP (fun hg => ?_) (fun hg => ?_) <;> (try (have hg' := hg; simp at hg'))) | (refine OutOK.gateN (fun hg => ?_) (fun hg => ?_) <;> (try (have hg' := hg; simp at hg'))) | (refine IfG.g (fun hg => ?_) (fun hg => ?_) <;> (try (have hg' := hg; simp at hg'))) | (refine OutOK.gate (fun hg => ?_) (fun hg => ?_) <;> (try (have hg' := hg; simp at hg'))) | (refine OutOK.callF [] (by simp [*]; rfl) (by simp [*]; rfl) (by simp [*]; rfl) hb101 (by apply c_impl_apply <;> first | assumption | exact Hd.out (by assumption) | ((try (clear e0)); (try (clear e1)); (try (clear e2)); (try (clear e3)); (try (clear e4)); (try (clear e5)); (try (clear e6)); (try (clear e7)); (try (clear e8)); (try (clear e9)); (try (clear e10)); (try (clear e11)); omega)) ⟨by simp [*], by simp [*], by simp [*], by simp [*], by simp [*]⟩ (by simp [*]) (by simp [*]; rfl) ?_) | (refine OutOK.callF [] (by simp [*]; rfl) (by simp [*]; rfl) (by simp [*]; rfl) hb33 (by apply cv <;> first | assumption | exact Hd.out (by assumption) | ((try (clear e0)); (try (clear e1)); (try (clear e2)); (try (clear e3)); (try (clear e4)); (try (clear e5)); (try (clear e6)); (try (clear e7)); (try (clear e8)); (try (clear e9)); (try (clear e10)); (try (clear e11)); omega)) ⟨by simp [*], by simp [*], by simp [*], by simp [*], by simp [*]⟩ (by simp [*]) (by simp [*]; rfl) ?_) | refine OutOK.run (by simp [*]; rfl) ?_ | refine AW.ret ?_ | refine AW.skip ?_ | refine AW.exit ?_ | refine fin_r ?_ | refine fin_n ?_ | refine AW.block ?_ | refine blockQ_n ?_ | refine blockQ_r ?_ | refine blockQ_e ?_ | refine blockQ_o rfl ?_)
    simp [Try.f51, smps]
  | true =>
    rw [hg] at cv
    have ca := c_impl_apply l kd sm am ho hg hh hho
    have hb : appB l kd sm am ho = stepB l kd sm am ho := by simp [appB, hg]
    have hl : appL l kd sm am ho = stepL l kd sm am ho := by
      unfold appL
      rw [hb]
      cases hs : stepB l kd sm am ho
      · simp [stepL, hs]
      · simp
    rw [hb, hl]
    generalize stepB l kd sm am ho = sb at *
    generalize stepL l kd sm am ho = sl at *
    clear hb hl hg hh
    refine ACall.of (N := 14) tok Try.func51 rfl rfl rfl (by simp) ?_
    repeat' (first | with_reducible refine OutOK.done ?_ | refine thenQ_n ?_ | refine thenQ_r ?_ | refine thenQ_e ?_ | refine AW.seq ?_ | refine AW.reg tok (by simp [*]; rfl) ?_ | refine AW.ifB (by simp [*]; rfl) ?_ | refine IfG.t ?_ | refine IfG.f ?_ | (refine IfG.p (fun hg => ?_) (fun hg => ?_) <;> (try (have hg' := hg; simp at hg'))) | (refine IfG.n (fun hg => ?_) (fun hg => ?_) <;> (try (have hg' := hg; simp at hg'))) | (refine OutOK.gateP (fun hg => ?_) (fun hg => ?_) <;> (try (have hg' := hg; simp at hg'))) | (refine OutOK.gateN (fun hg => ?_) (fun hg => ?_) <;> (try (have hg' := hg; simp at hg'))) | (refine IfG.g (fun hg => ?_) (fun hg => ?_) <;> (try (have hg' := hg; simp at hg'))) | (refine OutOK.gate (fun hg => ?_) (fun hg => ?_) <;> (try (have hg' := hg; simp at hg'))) | (refine OutOK.callF [] (by simp [*]; rfl) (by simp [*]; rfl) (by simp [*]; rfl) hb33 (by apply cv <;> first | assumption | exact Hd.out (by assumption) | ((try (clear e0)); (try (clear e1)); (try (clear e2)); (try (clear e3)); (try (clear e4)); (try (clear e5)); (try (clear e6)); (try (clear e7)); (try (clear e8)); (try (clear e9)); (try (clear e10)); (try (clear e11)); omega)) ⟨by simp [*], by simp [*], by simp [*], by simp [*], by simp [*]⟩ (by simp [*]) (by simp [*]; rfl) ?_) | (refine OutOK.callF [] (by simp [*]; rfl) (by simp [*]; rfl) (by simp [*]; rfl) hb101 (by apply ca <;> first | assumption | exact Hd.out (by assumption) | ((try (clear e0)); (try (clear e1)); (try (clear e2)); (try (clear e3)); (try (clear e4)); (try (clear e5)); (try (clear e6)); (try (clear e7)); (try (clear e8)); (try (clear e9)); (try (clear e10)); (try (clear e11)); omega)) ⟨by simp [*], by simp [*], by simp [*], by simp [*], by simp [*]⟩ (by simp [*]) (by simp [*]; rfl) ?_) | refine OutOK.run (by simp [*]; rfl) ?_ | refine AW.ret ?_ | refine AW.skip ?_ | refine AW.exit ?_ | refine fin_r ?_ | refine fin_n ?_ | refine AW.block ?_ | refine blockQ_n ?_ | refine blockQ_r ?_ | refine blockQ_e ?_ | refine blockQ_o rfl ?_)
    simp [Try.f51]
theorem c_spec_ApplyStep (l : List Smp) (kd sm am : Int) (ho : ByteArray) (h : l.length ≤ 1000) (hh : ∀ s ∈ l, SmpW s) (hho : ho.size ≤ 9223372036854775807) :
    ACall Try.prog 52 [.v (.sl true 8 (smps l)), stpD kd sm am ho] [.x, .x] [.v (.sl false 8 (smps (appL l kd sm am ho))), boo (appB l kd sm am ho)] := by
  refine ACallX.one ?_
  have cv := c_spec_l20Good l (by omega) hh
  cases hg : goodS l with
  | false =>
    rw [hg] at cv
    have hb : appB l kd sm am ho = false := by simp [appB, hg]
    rw [show appL l kd sm am ho = [] by simp [appL, hb], hb]
    clear hb hg hh
    refine ACallX.of (N := 22) tok Try.func52 rfl rfl rfl (by simp) ?_
    repeat' (first | with_reducible refine OutOK.done ?_ | refine thenQ_n ?_ | refine thenQ_r ?_ | refine thenQ_e ?_ | refine AW.seq ?_ | refine AW.reg tok (by simp [*]; rfl) ?_ | refine AW.ifB (by simp [*]; rfl) ?_ | refine IfG.t ?_ | refine IfG.f ?_ | (refine IfG.p (fun hg => ?_) (fun hg => ?_) <;> (try (have hg' := hg; simp at hg'))) | (refine IfG.n (fun hg => ?_) (fun hg => ?_) <;> (try (have hg' := hg; simp at hg'))) | (refine OutOK.gateP (fun hg => ?_) (fun hg => ?_) <;> (try (have hg' := hg; simp at hg'))) | (refine OutOK.gateN (fun hg => ?_) (fun hg => ?_) <;> (try (have hg' := hg; simp at hg'))) | (refine IfG.g (fun hg => ?_) (fun hg => ?_) <;> (try (have hg' := hg; simp at hg'))) | (refine OutOK.gate (fun hg => ?_) (fun hg => ?_) <;> (try (have hg' := hg; simp at hg'))) | (refine OutOK.callF [] (by simp [*]; rfl) (by simp [*]; rfl) (by simp [*]; rfl) hb85 (by apply cv <;> first | assumption | exact Hd.out (by assumption) | ((try (clear e0)); (try (clear e1)); (try (clear e2)); (try (clear e3)); (try (clear e4)); (try (clear e5)); (try (clear e6)); (try (clear e7)); (try (clear e8)); (try (clear e9)); (try (clear e10)); (try (clear e11)); omega)) ⟨by simp [*], by simp [*], by simp [*], by simp [*], by simp [*]⟩ (by simp [*]) (by simp [*]; rfl) ?_) | refine OutOK.run (by simp [*]; rfl) ?_ | refine AW.ret ?_ | refine AW.skip ?_ | refine AW.exit ?_ | refine fin_r ?_ | refine fin_n ?_ | refine AW.block ?_ | refine blockQ_n ?_ | refine blockQ_r ?_ | refine blockQ_e ?_ | refine blockQ_o rfl ?_)
    exact ⟨(), trivial, by simp [Try.f52, smps]⟩
  | true =>
    rw [hg] at cv
    have ca := x_spec_l20Step l kd sm am ho h hh hho
    have hb : appB l kd sm am ho = stepB l kd sm am ho := by simp [appB, hg]
    have hl : appL l kd sm am ho = if stepB l kd sm am ho = true then stepL l kd sm am ho else [] := by
      unfold appL
      rw [hb]
    rw [hb, hl]
    generalize stepB l kd sm am ho = sb at *
    generalize stepL l kd sm am ho = sl at *
    clear hb hl hg hh
    refine ACallX.of (N := 22) tok Try.func52 rfl rfl rfl (by simp) ?_
    repeat' (first | with_reducible refine OutOK.done ?_ | refine thenQ_n ?_ | refine thenQ_r ?_ | refine thenQ_e ?_ | refine AW.seq ?_ | refine AW.reg tok (by simp [*]; rfl) ?_ | refine AW.ifB (by simp [*]; rfl) ?_ | refine IfG.t ?_ | refine IfG.f ?_ | (refine IfG.p (fun hg => ?_) (fun hg => ?_) <;> (try (have hg' := hg; simp at hg'))) | (refine IfG.n (fun hg => ?_) (fun hg => ?_) <;> (try (have hg' := hg; simp at hg'))) | (refine OutOK.gateP (fun hg => ?_) (fun hg => ?_) <;> (try (have hg' := hg; simp at hg'))) | (refine OutOK.gateN (fun hg => ?_) (fun hg => ?_) <;> (try (have hg' := hg; simp at hg'))) | (refine IfG.g (fun hg => ?_) (fun hg => ?_) <;> (try (have hg' := hg; simp at hg'))) | (refine OutOK.gate (fun hg => ?_) (fun hg => ?_) <;> (try (have hg' := hg; simp at hg'))) | (refine OutOK.callF [] (by simp [*]; rfl) (by simp [*]; rfl) (by simp [*]; rfl) hb85 (by apply cv <;> first | assumption | exact Hd.out (by assumption) | ((try (clear e0)); (try (clear e1)); (try (clear e2)); (try (clear e3)); (try (clear e4)); (try (clear e5)); (try (clear e6)); (try (clear e7)); (try (clear e8)); (try (clear e9)); (try (clear e10)); (try (clear e11)); omega)) ⟨by simp [*], by simp [*], by simp [*], by simp [*], by simp [*]⟩ (by simp [*]) (by simp [*]; rfl) ?_) | refine OutOK.run (by simp [*]; rfl) ?_ | refine AW.ret ?_ | refine AW.skip ?_ | refine AW.exit ?_ | refine fin_r ?_ | refine fin_n ?_ | refine AW.block ?_ | refine blockQ_n ?_ | refine blockQ_r ?_ | refine blockQ_e ?_ | refine blockQ_o rfl ?_)
    refine OutOK.callX [] (by simp [*]; rfl) (by simp [*]; rfl) (by simp [*]; rfl) hb102 (by apply ca <;> first | assumption | exact Hd.out (by assumption) | ((try (clear e0)); (try (clear e1)); (try (clear e2)); (try (clear e3)); (try (clear e4)); (try (clear e5)); (try (clear e6)); (try (clear e7)); (try (clear e8)); (try (clear e9)); (try (clear e10)); (try (clear e11)); omega)) ⟨by simp [*], by simp [*], by simp [*]⟩ (by simp [*]) (fun x hx => ?_)
    obtain ⟨-, -, t3⟩ := hx
    clear ca
    cases sb with
    | false =>
      clear t3
      refine CallX.mk' ⟨by simp [*], by simp [*], by simp [*], by simp [*], by simp [*]⟩ (by simp [*]; rfl) ?_
      repeat' (first | with_reducible refine OutOK.done ?_ | refine thenQ_n ?_ | refine thenQ_r ?_ | refine thenQ_e ?_ | refine AW.seq ?_ | refine AW.reg tok (by simp [*]; rfl) ?_ | refine AW.ifB (by simp [*]; rfl) ?_ | refine IfG.t ?_ | refine IfG.f ?_ | (refine IfG.p (fun hg => ?_) (fun hg => ?_) <;> (try (have hg' := hg; simp at hg'))) | (refine IfG.n (fun hg => ?_) (fun hg => ?_) <;> (try (have hg' := hg; simp at hg'))) | (refine OutOK.gateP (fun hg => ?_) (fun hg => ?_) <;> (try (have hg' := hg; simp at hg'))) | (refine OutOK.gateN (fun hg => ?_) (fun hg => ?_) <;> (try (have hg' := hg; simp at hg'))) | (refine IfG.g (fun hg => ?_) (fun hg => ?_) <;> (try (have hg' := hg; simp at hg'))) | (refine OutOK.gate (fun hg => ?_) (fun hg => ?_) <;> (try (have hg' := hg; simp at hg'))) | refine OutOK.run (by simp [*]; rfl) ?_ | refine AW.ret ?_ | refine AW.skip ?_ | refine AW.exit ?_ | refine fin_r ?_ | refine fin_n ?_ | refine AW.block ?_ | refine blockQ_n ?_ | refine blockQ_r ?_ | refine blockQ_e ?_ | refine blockQ_o rfl ?_)
      exact ⟨(), trivial, by simp [Try.f52, smps]⟩
    | true =>
      obtain rfl := t3 rfl
      refine CallX.mk' ⟨by simp [*], by simp [*], by simp [*], by simp [*], by simp [*]⟩ (by simp [*]; rfl) ?_
      repeat' (first | with_reducible refine OutOK.done ?_ | refine thenQ_n ?_ | refine thenQ_r ?_ | refine thenQ_e ?_ | refine AW.seq ?_ | refine AW.reg tok (by simp [*]; rfl) ?_ | refine AW.ifB (by simp [*]; rfl) ?_ | refine IfG.t ?_ | refine IfG.f ?_ | (refine IfG.p (fun hg => ?_) (fun hg => ?_) <;> (try (have hg' := hg; simp at hg'))) | (refine IfG.n (fun hg => ?_) (fun hg => ?_) <;> (try (have hg' := hg; simp at hg'))) | (refine OutOK.gateP (fun hg => ?_) (fun hg => ?_) <;> (try (have hg' := hg; simp at hg'))) | (refine OutOK.gateN (fun hg => ?_) (fun hg => ?_) <;> (try (have hg' := hg; simp at hg'))) | (refine IfG.g (fun hg => ?_) (fun hg => ?_) <;> (try (have hg' := hg; simp at hg'))) | (refine OutOK.gate (fun hg => ?_) (fun hg => ?_) <;> (try (have hg' := hg; simp at hg'))) | refine OutOK.run (by simp [*]; rfl) ?_ | refine AW.ret ?_ | refine AW.skip ?_ | refine AW.exit ?_ | refine fin_r ?_ | refine fin_n ?_ | refine AW.block ?_ | refine blockQ_n ?_ | refine blockQ_r ?_ | refine blockQ_e ?_ | refine blockQ_o rfl ?_)
      exact ⟨(), trivial, by simp [Try.f52]⟩
end Go.Proofs.Ytlphkfkcfomlbaa.EngS


set_option linter.unusedSimpArgs false
set_option linter.unusedVariables false
set_option maxHeartbeats 4000000
set_option maxRecDepth 10000
namespace Go.Proofs.Ytlphkfkcfomlbaa.EngS
open Go Go.Proofs Go.Eng Go.RowKit
attribute [local irreducible] Go.RowKit.wrap64
def bys (xs : List Int) : List PV := xs.map fun x => .sc (.int .u8 x)
@[simp] theorem bys_len (xs) : (bys xs).length = xs.length := by simp [bys]
@[simp] theorem bys_get (xs : List Int) (i : Nat) : (bys xs)[i]? = (xs[i]?).map fun x => .sc (.int .u8 x) := by simp [bys]
@[simp] theorem bys_at (xs : List Int) (i : Nat) (h : i < (bys xs).length) : (bys xs)[i] = .sc (.int .u8 (xs[i]'(by simpa using h))) := by simp [bys]
@[simp] theorem bys_frz (xs) : PV.frzs (bys xs) = bys xs := by simp [bys]
abbrev curP (code : List Int) (a s : Int) : List PV := [.sl true 1 (bys code), .sc (.int .i64 a), .sc (.int .u64 s)]
def nxB (code : List Int) (a : Int) : Int := if a < (code.length : Int) then wrap64 (code[a.toNat]?.getD 0) else 0
def nxS (code : List Int) (a s : Int) : Int := IntKind.u64.wrap (IntKind.u64.wrap (IntKind.u64.wrap (s * 6364136223846793005) + IntKind.u64.wrap (nxB code a)) + 876876)
def nxV (code : List Int) (a s : Int) : Int := if a + 1 ≤ (code.length : Int) then nxB code a else wrap64 (IntKind.u64.wrap (((((nxS code a s).fdiv (2 ^ min 40 IntKind.u64.bits) % 2 ^ IntKind.u64.bits).toNat &&& 255 % 2 ^ IntKind.u64.bits : Nat)) : Int))
theorem u64_small (n : Nat) (h : n ≤ 255) : wrap64 (IntKind.u64.wrap (n : Int)) = (n : Int) := by
  have : IntKind.u64.wrap (n : Int) = (n : Int) := by
    simp [IntKind.wrap, IntKind.signed, IntKind.bits]
    omega
  rw [this]
  exact w64 (by omega) (by omega)
def BytesOK (code : List Int) : Prop := ∀ x ∈ code, 0 ≤ x ∧ x ≤ 255
theorem nxB_le {code : List Int} (hb : BytesOK code) (a : Int) (h0 : 0 ≤ a) : 0 ≤ nxB code a ∧ nxB code a ≤ 255 := by
  unfold nxB
  split
  · have hl : a.toNat < code.length := by omega
    rw [List.getElem?_eq_getElem hl]
    have := hb code[a.toNat] (List.getElem_mem hl)
    simp only [Option.getD_some]
    rw [w64 (by omega) (by omega)]
    exact this
  · omega
theorem nxV_le {code : List Int} (hb : BytesOK code) (a s : Int) (h0 : 0 ≤ a) : 0 ≤ nxV code a s ∧ nxV code a s ≤ 255 := by
  unfold nxV
  split
  · exact nxB_le hb a h0
  · have h := Nat.and_le_right (n := ((nxS code a s).fdiv (2 ^ min 40 IntKind.u64.bits) % 2 ^ IntKind.u64.bits).toNat) (m := 255 % 2 ^ IntKind.u64.bits)
    have h2 : 255 % 2 ^ IntKind.u64.bits = 255 := by decide
    rw [h2] at h ⊢
    rw [u64_small _ h]
    omega
theorem c_spec_l1Cur_next (code : List Int) (a s : Int) (h0 : 0 ≤ a) (h1 : a ≤ 1000000000000000) (hc : code.length ≤ 9223372036854775807) : ACall Try.prog 107 [.p (curP code a s)] [.p (curP code (a + 1) (nxS code a s))] [int (nxV code a s)] := by
  have e1 : wrap64 (a + 1) = a + 1 := w64 (by omega) (by omega)
  refine ACall.of (N := 62) tok Try.func107 rfl rfl rfl (by simp) ?_
  repeat' (first | with_reducible refine OutOK.done ?_ | refine thenQ_n ?_ | refine thenQ_r ?_ | refine thenQ_e ?_ | refine AW.seq ?_ | refine AW.dreg tok mixed [7, 8]  [(0, false), (1, false), (2, false), (4, false), (5, false), (6, false), (3, false), (7, true), (8, true), (9, false)] (by decide +kernel) rfl (by simp [*]; rfl) ?_ | refine AW.dreg tok mixed [7]  [(0, false), (1, false), (2, false), (4, false), (5, false), (6, false), (3, false), (7, true), (8, false), (9, false), (10, false), (11, false)] (by decide +kernel) rfl (by simp [*]; rfl) ?_ | refine AW.dreg tok mixed [7, 8]  [(0, false), (1, false), (2, false), (4, false), (5, false), (6, false), (3, false), (7, true), (8, true), (9, false)] (by decide +kernel) rfl (by simp [*]; rfl) ?_ | refine AW.reg tok (by simp [*]; rfl) ?_ | refine AW.ifB (by simp [*]; rfl) ?_ | refine IfG.t ?_ | refine IfG.f ?_ | (refine IfG.p (fun hg => ?_) (fun hg => ?_) <;> (try (have hg' := hg; simp at hg'))) | (refine IfG.n (fun hg => ?_) (fun hg => ?_) <;> (try (have hg' := hg; simp at hg'))) | (refine OutOK.gateP (fun hg => ?_) (fun hg => ?_) <;> (try (have hg' := hg; simp at hg'))) | (refine OutOK.gateN (fun hg => ?_) (fun hg => ?_) <;> (try (have hg' := hg; simp at hg'))) | (refine IfG.g (fun hg => ?_) (fun hg => ?_) <;> (try (have hg' := hg; simp at hg'))) | (refine OutOK.gate (fun hg => ?_) (fun hg => ?_) <;> (try (have hg' := hg; simp at hg'))) | refine OutOK.run (by simp [*]; rfl) ?_ | refine AW.ret ?_ | refine AW.skip ?_ | refine AW.exit ?_ | refine fin_r ?_ | refine fin_n ?_ | refine AW.block ?_ | refine blockQ_n ?_ | refine blockQ_r ?_ | refine blockQ_e ?_ | refine blockQ_o rfl ?_)
  all_goals simp [Try.f107, nxV, nxS, nxB, *]
theorem x_spec_l1Cur_next (code : List Int) (a s : Int) (h0 : 0 ≤ a) (h1 : a ≤ 1000000000000) (hc : code.length ≤ 9223372036854775807) (hb : BytesOK code) :
    ACallX Try.prog 107 [.p (curP code a s)] (fun x : Int × Int => 0 ≤ x.2 ∧ x.2 ≤ 255) (fun x => [.p (curP code (a + 1) x.1)]) (fun x => [int x.2]) :=
  ACallX.imp (c_spec_l1Cur_next code a s h0 (by omega) hc).x (fun _ => (nxS code a s, nxV code a s)) (fun _ _ => nxV_le hb a s h0) (fun _ _ => rfl) (fun _ _ => rfl)
theorem tmod_in {v n : Int} (h : 0 ≤ v) (hn : 0 < n) : 0 ≤ Int.tmod v n ∧ Int.tmod v n < n := by
  rw [Int.tmod_eq_emod_of_nonneg h]
  exact ⟨Int.emod_nonneg _ (by omega), Int.emod_lt_of_pos _ hn⟩
theorem x_spec_l1Cur_pick (code : List Int) (a s n : Int) (h0 : 0 ≤ a) (h1 : a ≤ 900000000000) (hc : code.length ≤ 9223372036854775807) (hb : BytesOK code) (hn : 1 < n) (hn' : n ≤ 1000000) :
    ACallX Try.prog 64 [.p (curP code a s), int n] (fun x : Int × Int × Int => a ≤ x.1 ∧ x.1 ≤ a + 2 ∧ 0 ≤ x.2.2 ∧ x.2.2 < n) (fun x => [.p (curP code x.1 x.2.1), .x]) (fun x => [int x.2.2]) := by
  have e1 : ¬ n ≤ 1 := by omega
  have e3 : ¬ n = 0 := by omega
  by_cases e2 : 200 < n
  · refine ACallX.of (N := 20) tok Try.func64 rfl rfl rfl (by simp) ?_
    repeat' (first | with_reducible refine OutOK.done ?_ | refine thenQ_n ?_ | refine thenQ_r ?_ | refine thenQ_e ?_ | refine AW.seq ?_ | refine AW.reg tok (by simp [*]; rfl) ?_ | refine AW.ifB (by simp [*]; rfl) ?_ | refine IfG.t ?_ | refine IfG.f ?_ | (refine IfG.p (fun hg => ?_) (fun hg => ?_) <;> (try (have hg' := hg; simp at hg'))) | (refine IfG.n (fun hg => ?_) (fun hg => ?_) <;> (try (have hg' := hg; simp at hg'))) | (refine OutOK.gateP (fun hg => ?_) (fun hg => ?_) <;> (try (have hg' := hg; simp at hg'))) | (refine OutOK.gateN (fun hg => ?_) (fun hg => ?_) <;> (try (have hg' := hg; simp at hg'))) | (refine IfG.g (fun hg => ?_) (fun hg => ?_) <;> (try (have hg' := hg; simp at hg'))) | (refine OutOK.gate (fun hg => ?_) (fun hg => ?_) <;> (try (have hg' := hg; simp at hg'))) | (refine OutOK.callX [] (by simp [*]; rfl) (by simp [*]; rfl) (by simp [*]; rfl) hb107 (by apply x_spec_l1Cur_next <;> first | assumption | exact Hd.out (by assumption) | ((try (clear e0)); (try (clear e1)); (try (clear e2)); (try (clear e3)); (try (clear e4)); (try (clear e5)); (try (clear e6)); (try (clear e7)); (try (clear e8)); (try (clear e9)); (try (clear e10)); (try (clear e11)); omega)) ⟨by simp [*], by simp [*], by simp [*]⟩ (by simp [*]) (fun x hx => CallX.mk' ⟨by simp [*], by simp [*], by simp [*], by simp [*], by simp [*]⟩ (by simp [*]; rfl) ?_)) | refine OutOK.run (by simp [*]; rfl) ?_ | refine AW.ret ?_ | refine AW.skip ?_ | refine AW.exit ?_ | refine fin_r ?_ | refine fin_n ?_ | refine AW.block ?_ | refine blockQ_n ?_ | refine blockQ_r ?_ | refine blockQ_e ?_ | refine blockQ_o rfl ?_)
    rename_i x1 hx1
    have hv := tmod_in (v := wrap64 (wrap64 (x1.2 * 256) + x.2)) (n := n) (by rw [w64 (x := x1.2 * 256) (by omega) (by omega), w64 (by omega) (by omega)]; omega) (by omega)
    exact ⟨(a + 1 + 1, x.1, Int.tmod (wrap64 (wrap64 (x1.2 * 256) + x.2)) n), ⟨by simp only; omega, by simp only; omega, hv.1, hv.2⟩, by simp [Try.f64]⟩
  · refine ACallX.of (N := 20) tok Try.func64 rfl rfl rfl (by simp) ?_
    repeat' (first | with_reducible refine OutOK.done ?_ | refine thenQ_n ?_ | refine thenQ_r ?_ | refine thenQ_e ?_ | refine AW.seq ?_ | refine AW.reg tok (by simp [*]; rfl) ?_ | refine AW.ifB (by simp [*]; rfl) ?_ | refine IfG.t ?_ | refine IfG.f ?_ | (refine IfG.p (fun hg => ?_) (fun hg => ?_) <;> (try (have hg' := hg; simp at hg'))) | (refine IfG.n (fun hg => ?_) (fun hg => ?_) <;> (try (have hg' := hg; simp at hg'))) | (refine OutOK.gateP (fun hg => ?_) (fun hg => ?_) <;> (try (have hg' := hg; simp at hg'))) | (refine OutOK.gateN (fun hg => ?_) (fun hg => ?_) <;> (try (have hg' := hg; simp at hg'))) | (refine IfG.g (fun hg => ?_) (fun hg => ?_) <;> (try (have hg' := hg; simp at hg'))) | (refine OutOK.gate (fun hg => ?_) (fun hg => ?_) <;> (try (have hg' := hg; simp at hg'))) | (refine OutOK.callX [] (by simp [*]; rfl) (by simp [*]; rfl) (by simp [*]; rfl) hb107 (by apply x_spec_l1Cur_next <;> first | assumption | exact Hd.out (by assumption) | ((try (clear e0)); (try (clear e1)); (try (clear e2)); (try (clear e3)); (try (clear e4)); (try (clear e5)); (try (clear e6)); (try (clear e7)); (try (clear e8)); (try (clear e9)); (try (clear e10)); (try (clear e11)); omega)) ⟨by simp [*], by simp [*], by simp [*]⟩ (by simp [*]) (fun x hx => CallX.mk' ⟨by simp [*], by simp [*], by simp [*], by simp [*], by simp [*]⟩ (by simp [*]; rfl) ?_)) | refine OutOK.run (by simp [*]; rfl) ?_ | refine AW.ret ?_ | refine AW.skip ?_ | refine AW.exit ?_ | refine fin_r ?_ | refine fin_n ?_ | refine AW.block ?_ | refine blockQ_n ?_ | refine blockQ_r ?_ | refine blockQ_e ?_ | refine blockQ_o rfl ?_)
    have hv := tmod_in (v := x.2) (n := n) (by omega) (by omega)
    exact ⟨(a + 1, x.1, Int.tmod x.2 n), ⟨by simp only; omega, by simp only; omega, hv.1, hv.2⟩, by simp [Try.f64]⟩
theorem x_pickG (code : List Int) (a s n : Int) (h0 : 0 ≤ a) (h1 : a ≤ 900000000000) (hc : code.length ≤ 9223372036854775807) (hb : BytesOK code) (hn' : n ≤ 1000000) :
    ACallX Try.prog 64 [.p (curP code a s), int n] (fun x : Int × Int × Int => a ≤ x.1 ∧ x.1 ≤ a + 2 ∧ 0 ≤ x.2.2 ∧ (x.2.2 < n ∨ x.2.2 = 0)) (fun x => [.p (curP code x.1 x.2.1), .x]) (fun x => [int x.2.2]) := by
  by_cases hn : 1 < n
  · exact (x_spec_l1Cur_pick code a s n h0 h1 hc hb hn hn').imp id (fun x hx => ⟨hx.1, hx.2.1, hx.2.2.1, .inl hx.2.2.2⟩) (fun _ _ => rfl) (fun _ _ => rfl)
  · have e1 : n ≤ 1 := by omega
    refine ACallX.of (N := 20) tok Try.func64 rfl rfl rfl (by simp) ?_
    repeat' (first | with_reducible refine OutOK.done ?_ | refine thenQ_n ?_ | refine thenQ_r ?_ | refine thenQ_e ?_ | refine AW.seq ?_ | refine AW.reg tok (by simp [*]; rfl) ?_ | refine AW.ifB (by simp [*]; rfl) ?_ | refine IfG.t ?_ | refine IfG.f ?_ | (refine IfG.p (fun hg => ?_) (fun hg => ?_) <;> (try (have hg' := hg; simp at hg'))) | (refine IfG.n (fun hg => ?_) (fun hg => ?_) <;> (try (have hg' := hg; simp at hg'))) | (refine OutOK.gateP (fun hg => ?_) (fun hg => ?_) <;> (try (have hg' := hg; simp at hg'))) | (refine OutOK.gateN (fun hg => ?_) (fun hg => ?_) <;> (try (have hg' := hg; simp at hg'))) | (refine IfG.g (fun hg => ?_) (fun hg => ?_) <;> (try (have hg' := hg; simp at hg'))) | (refine OutOK.gate (fun hg => ?_) (fun hg => ?_) <;> (try (have hg' := hg; simp at hg'))) | refine OutOK.run (by simp [*]; rfl) ?_ | refine AW.ret ?_ | refine AW.skip ?_ | refine AW.exit ?_ | refine fin_r ?_ | refine fin_n ?_ | refine AW.block ?_ | refine blockQ_n ?_ | refine blockQ_r ?_ | refine blockQ_e ?_ | refine blockQ_o rfl ?_)
    exact ⟨(a, s, 0), ⟨by simp, by simp only; omega, by simp, .inr rfl⟩, by simp [Try.f64]⟩
theorem x_spec_l1Cur_one (code : List Int) (a s n : Int) (h0 : 0 ≤ a) (h1 : a ≤ 900000000000) (hc : code.length ≤ 9223372036854775807) (hb : BytesOK code) (hn : 1 < n) (hn' : n ≤ 1000000) :
    ACallX Try.prog 66 [.p (curP code a s), int n] (fun x : Int × Int × Bool => a ≤ x.1 ∧ x.1 ≤ a + 2) (fun x => [.p (curP code x.1 x.2.1), .x]) (fun x => [boo x.2.2]) := by
  refine ACallX.of (N := 9) tok Try.func66 rfl rfl rfl (by simp) ?_
  repeat' (first | with_reducible refine OutOK.done ?_ | refine thenQ_n ?_ | refine thenQ_r ?_ | refine thenQ_e ?_ | refine AW.seq ?_ | refine AW.reg tok (by simp [*]; rfl) ?_ | refine AW.ifB (by simp [*]; rfl) ?_ | refine IfG.t ?_ | refine IfG.f ?_ | (refine IfG.p (fun hg => ?_) (fun hg => ?_) <;> (try (have hg' := hg; simp at hg'))) | (refine IfG.n (fun hg => ?_) (fun hg => ?_) <;> (try (have hg' := hg; simp at hg'))) | (refine OutOK.gateP (fun hg => ?_) (fun hg => ?_) <;> (try (have hg' := hg; simp at hg'))) | (refine OutOK.gateN (fun hg => ?_) (fun hg => ?_) <;> (try (have hg' := hg; simp at hg'))) | (refine IfG.g (fun hg => ?_) (fun hg => ?_) <;> (try (have hg' := hg; simp at hg'))) | (refine OutOK.gate (fun hg => ?_) (fun hg => ?_) <;> (try (have hg' := hg; simp at hg'))) | (refine OutOK.callX [] (by simp [*]; rfl) (by simp [*]; rfl) (by simp [*]; rfl) hb64 (by apply x_spec_l1Cur_pick <;> first | assumption | exact Hd.out (by assumption) | ((try (clear e0)); (try (clear e1)); (try (clear e2)); (try (clear e3)); (try (clear e4)); (try (clear e5)); (try (clear e6)); (try (clear e7)); (try (clear e8)); (try (clear e9)); (try (clear e10)); (try (clear e11)); omega)) ⟨by simp [*], by simp [*], by simp [*]⟩ (by simp [*]) (fun x hx => CallX.mk' ⟨by simp [*], by simp [*], by simp [*], by simp [*], by simp [*]⟩ (by simp [*]; rfl) ?_)) | refine OutOK.run (by simp [*]; rfl) ?_ | refine AW.ret ?_ | refine AW.skip ?_ | refine AW.exit ?_ | refine fin_r ?_ | refine fin_n ?_ | refine AW.block ?_ | refine blockQ_n ?_ | refine blockQ_r ?_ | refine blockQ_e ?_ | refine blockQ_o rfl ?_)
  exact ⟨(x.1, x.2.1, decide (x.2.2 = 0)), ⟨hx.1, hx.2.1⟩, by simp [Try.f66]⟩
theorem x_spec_l1Cur_among (code : List Int) (a s : Int) (xs : List Int) (q : Int → Prop) (h0 : 0 ≤ a) (h1 : a ≤ 900000000000) (hc : code.length ≤ 9223372036854775807) (hb : BytesOK code) (hn : 1 < xs.length) (hn' : xs.length ≤ 1000000) (hq : ∀ y ∈ xs, q y) :
    ACallX Try.prog 63 [.p (curP code a s), .v (.sl false 1 (ints xs))] (fun x : Int × Int × Int => a ≤ x.1 ∧ x.1 ≤ a + 2 ∧ q x.2.2) (fun x => [.p (curP code x.1 x.2.1), .x]) (fun x => [int x.2.2]) := by
  replace hq : Hd _ := hq
  have hn2 : (1 : Int) < xs.length := by omega
  refine ACallX.of (N := 12) tok Try.func63 rfl rfl rfl (by simp) ?_
  repeat' (first | with_reducible refine OutOK.done ?_ | refine thenQ_n ?_ | refine thenQ_r ?_ | refine thenQ_e ?_ | refine AW.seq ?_ | refine AW.reg tok (by simp [*]; rfl) ?_ | refine AW.ifB (by simp [*]; rfl) ?_ | refine IfG.t ?_ | refine IfG.f ?_ | (refine IfG.p (fun hg => ?_) (fun hg => ?_) <;> (try (have hg' := hg; simp at hg'))) | (refine IfG.n (fun hg => ?_) (fun hg => ?_) <;> (try (have hg' := hg; simp at hg'))) | (refine OutOK.gateP (fun hg => ?_) (fun hg => ?_) <;> (try (have hg' := hg; simp at hg'))) | (refine OutOK.gateN (fun hg => ?_) (fun hg => ?_) <;> (try (have hg' := hg; simp at hg'))) | (refine IfG.g (fun hg => ?_) (fun hg => ?_) <;> (try (have hg' := hg; simp at hg'))) | (refine OutOK.gate (fun hg => ?_) (fun hg => ?_) <;> (try (have hg' := hg; simp at hg'))) | refine OutOK.run (by simp [*]; rfl) ?_ | refine AW.ret ?_ | refine AW.skip ?_ | refine AW.exit ?_ | refine fin_r ?_ | refine fin_n ?_ | refine AW.block ?_ | refine blockQ_n ?_ | refine blockQ_r ?_ | refine blockQ_e ?_ | refine blockQ_o rfl ?_)
  refine OutOK.callX [] (by simp [*]; rfl) (by simp [*]; rfl) (by simp [*]; rfl) hb64 (by apply x_spec_l1Cur_pick <;> first | assumption | exact Hd.out (by assumption) | ((try (clear e0)); (try (clear e1)); (try (clear e2)); (try (clear e3)); (try (clear e4)); (try (clear e5)); (try (clear e6)); (try (clear e7)); (try (clear e8)); (try (clear e9)); (try (clear e10)); (try (clear e11)); omega)) ⟨by simp [*], by simp [*], by simp [*]⟩ (by simp [*]) (fun x hx => ?_)
  have hk : x.2.2.toNat < xs.length := by omega
  refine CallX.mk' ⟨by simp [*], by simp [*], by simp [*], by simp [*], by simp [*]⟩ (by simp [*]; rfl) ?_
  repeat' (first | with_reducible refine OutOK.done ?_ | refine thenQ_n ?_ | refine thenQ_r ?_ | refine thenQ_e ?_ | refine AW.seq ?_ | refine AW.reg tok (by simp [*]; rfl) ?_ | refine AW.ifB (by simp [*]; rfl) ?_ | refine IfG.t ?_ | refine IfG.f ?_ | (refine IfG.p (fun hg => ?_) (fun hg => ?_) <;> (try (have hg' := hg; simp at hg'))) | (refine IfG.n (fun hg => ?_) (fun hg => ?_) <;> (try (have hg' := hg; simp at hg'))) | (refine OutOK.gateP (fun hg => ?_) (fun hg => ?_) <;> (try (have hg' := hg; simp at hg'))) | (refine OutOK.gateN (fun hg => ?_) (fun hg => ?_) <;> (try (have hg' := hg; simp at hg'))) | (refine IfG.g (fun hg => ?_) (fun hg => ?_) <;> (try (have hg' := hg; simp at hg'))) | (refine OutOK.gate (fun hg => ?_) (fun hg => ?_) <;> (try (have hg' := hg; simp at hg'))) | refine OutOK.run (by simp [*]; rfl) ?_ | refine AW.ret ?_ | refine AW.skip ?_ | refine AW.exit ?_ | refine fin_r ?_ | refine fin_n ?_ | refine AW.block ?_ | refine blockQ_n ?_ | refine blockQ_r ?_ | refine blockQ_e ?_ | refine blockQ_o rfl ?_)
  exact ⟨(x.1, x.2.1, xs[x.2.2.toNat]), ⟨hx.1, hx.2.1, hq.out _ (List.getElem_mem hk)⟩, by simp [Try.f63]⟩
def strs (xs : List ByteArray) : List PV := xs.map fun x => .sc (.string x)
@[simp] theorem strs_len (xs) : (strs xs).length = xs.length := by simp [strs]
@[simp] theorem strs_get (xs : List ByteArray) (i : Nat) : (strs xs)[i]? = (xs[i]?).map fun x => .sc (.string x) := by simp [strs]
@[simp] theorem strs_at (xs : List ByteArray) (i : Nat) (h : i < (strs xs).length) : (strs xs)[i] = .sc (.string (xs[i]'(by simpa using h))) := by simp [strs]
@[simp] theorem strs_frz (xs) : PV.frzs (strs xs) = strs xs := by simp [strs]
theorem x_spec_l1Cur_of (code : List Int) (a s : Int) (xs : List ByteArray) (q : ByteArray → Prop) (h0 : 0 ≤ a) (h1 : a ≤ 900000000000) (hc : code.length ≤ 9223372036854775807) (hb : BytesOK code) (hn : 1 < xs.length) (hn' : xs.length ≤ 1000000) (hq : ∀ y ∈ xs, q y) :
    ACallX Try.prog 115 [.p (curP code a s), .v (.sl false 1 (strs xs))] (fun x : Int × Int × ByteArray => a ≤ x.1 ∧ x.1 ≤ a + 2 ∧ q x.2.2) (fun x => [.p (curP code x.1 x.2.1), .x]) (fun x => [.v (.sc (.string x.2.2))]) := by
  replace hq : Hd _ := hq
  have hn2 : (1 : Int) < xs.length := by omega
  refine ACallX.of (N := 12) tok Try.func115 rfl rfl rfl (by simp) ?_
  repeat' (first | with_reducible refine OutOK.done ?_ | refine thenQ_n ?_ | refine thenQ_r ?_ | refine thenQ_e ?_ | refine AW.seq ?_ | refine AW.reg tok (by simp [*]; rfl) ?_ | refine AW.ifB (by simp [*]; rfl) ?_ | refine IfG.t ?_ | refine IfG.f ?_ | (refine IfG.p (fun hg => ?_) (fun hg => ?_) <;> (try (have hg' := hg; simp at hg'))) | (refine IfG.n (fun hg => ?_) (fun hg => ?_) <;> (try (have hg' := hg; simp at hg'))) | (refine OutOK.gateP (fun hg => ?_) (fun hg => ?_) <;> (try (have hg' := hg; simp at hg'))) | (refine OutOK.gateN (fun hg => ?_) (fun hg => ?_) <;> (try (have hg' := hg; simp at hg'))) | (refine IfG.g (fun hg => ?_) (fun hg => ?_) <;> (try (have hg' := hg; simp at hg'))) | (refine OutOK.gate (fun hg => ?_) (fun hg => ?_) <;> (try (have hg' := hg; simp at hg'))) | refine OutOK.run (by simp [*]; rfl) ?_ | refine AW.ret ?_ | refine AW.skip ?_ | refine AW.exit ?_ | refine fin_r ?_ | refine fin_n ?_ | refine AW.block ?_ | refine blockQ_n ?_ | refine blockQ_r ?_ | refine blockQ_e ?_ | refine blockQ_o rfl ?_)
  refine OutOK.callX [] (by simp [*]; rfl) (by simp [*]; rfl) (by simp [*]; rfl) hb64 (by apply x_spec_l1Cur_pick <;> first | assumption | exact Hd.out (by assumption) | ((try (clear e0)); (try (clear e1)); (try (clear e2)); (try (clear e3)); (try (clear e4)); (try (clear e5)); (try (clear e6)); (try (clear e7)); (try (clear e8)); (try (clear e9)); (try (clear e10)); (try (clear e11)); omega)) ⟨by simp [*], by simp [*], by simp [*]⟩ (by simp [*]) (fun x hx => ?_)
  have hk : x.2.2.toNat < xs.length := by omega
  refine CallX.mk' ⟨by simp [*], by simp [*], by simp [*], by simp [*], by simp [*]⟩ (by simp [*]; rfl) ?_
  repeat' (first | with_reducible refine OutOK.done ?_ | refine thenQ_n ?_ | refine thenQ_r ?_ | refine thenQ_e ?_ | refine AW.seq ?_ | refine AW.reg tok (by simp [*]; rfl) ?_ | refine AW.ifB (by simp [*]; rfl) ?_ | refine IfG.t ?_ | refine IfG.f ?_ | (refine IfG.p (fun hg => ?_) (fun hg => ?_) <;> (try (have hg' := hg; simp at hg'))) | (refine IfG.n (fun hg => ?_) (fun hg => ?_) <;> (try (have hg' := hg; simp at hg'))) | (refine OutOK.gateP (fun hg => ?_) (fun hg => ?_) <;> (try (have hg' := hg; simp at hg'))) | (refine OutOK.gateN (fun hg => ?_) (fun hg => ?_) <;> (try (have hg' := hg; simp at hg'))) | (refine IfG.g (fun hg => ?_) (fun hg => ?_) <;> (try (have hg' := hg; simp at hg'))) | (refine OutOK.gate (fun hg => ?_) (fun hg => ?_) <;> (try (have hg' := hg; simp at hg'))) | refine OutOK.run (by simp [*]; rfl) ?_ | refine AW.ret ?_ | refine AW.skip ?_ | refine AW.exit ?_ | refine fin_r ?_ | refine fin_n ?_ | refine AW.block ?_ | refine blockQ_n ?_ | refine blockQ_r ?_ | refine blockQ_e ?_ | refine blockQ_o rfl ?_)
  exact ⟨(x.1, x.2.1, xs[x.2.2.toNat]), ⟨hx.1, hx.2.1, hq.out _ (List.getElem_mem hk)⟩, by simp [Try.f115]⟩
theorem c_laws_vBig (code : List Int) : ACall Try.prog 49 [.v (.sl true 1 (bys code))] [.x] [boo (decide (65536 < (code.length : Int)))] := by
  refine ACall.of (N := 6) tok Try.func49 rfl rfl rfl (by simp) ?_
  repeat' (first | with_reducible refine OutOK.done ?_ | refine thenQ_n ?_ | refine thenQ_r ?_ | refine thenQ_e ?_ | refine AW.seq ?_ | refine AW.reg tok (by simp [*]; rfl) ?_ | refine AW.ifB (by simp [*]; rfl) ?_ | refine IfG.t ?_ | refine IfG.f ?_ | (refine IfG.p (fun hg => ?_) (fun hg => ?_) <;> (try (have hg' := hg; simp at hg'))) | (refine IfG.n (fun hg => ?_) (fun hg => ?_) <;> (try (have hg' := hg; simp at hg'))) | (refine OutOK.gateP (fun hg => ?_) (fun hg => ?_) <;> (try (have hg' := hg; simp at hg'))) | (refine OutOK.gateN (fun hg => ?_) (fun hg => ?_) <;> (try (have hg' := hg; simp at hg'))) | (refine IfG.g (fun hg => ?_) (fun hg => ?_) <;> (try (have hg' := hg; simp at hg'))) | (refine OutOK.gate (fun hg => ?_) (fun hg => ?_) <;> (try (have hg' := hg; simp at hg'))) | refine OutOK.run (by simp [*]; rfl) ?_ | refine AW.ret ?_ | refine AW.skip ?_ | refine AW.exit ?_ | refine fin_r ?_ | refine fin_n ?_ | refine AW.block ?_ | refine blockQ_n ?_ | refine blockQ_r ?_ | refine blockQ_e ?_ | refine blockQ_o rfl ?_)
  all_goals (try simp [*, Try.f49])
end Go.Proofs.Ytlphkfkcfomlbaa.EngS


set_option linter.unusedSimpArgs false
set_option linter.unusedVariables false
set_option maxHeartbeats 4000000
set_option maxRecDepth 10000
namespace Go.Proofs.Ytlphkfkcfomlbaa.EngS
open Go Go.Proofs Go.Eng Go.RowKit
attribute [local irreducible] Go.RowKit.wrap64
attribute [local simp] optO
theorem x_pickN (code : List Int) (a s n : Int) (h0 : 0 ≤ a) (h1 : a ≤ 900000000000) (hc : code.length ≤ 9223372036854775807) (hb : BytesOK code) (hn : 1 ≤ n) (hn' : n ≤ 1000000) :
    ACallX Try.prog 64 [.p (curP code a s), int n] (fun x : Int × Int × Nat => a ≤ x.1 ∧ x.1 ≤ a + 2 ∧ (x.2.2 : Int) < n) (fun x => [.p (curP code x.1 x.2.1), .x]) (fun x => [int x.2.2]) :=
  (x_pickG code a s n h0 h1 hc hb hn').imp (fun x => (x.1, x.2.1, x.2.2.toNat)) (fun x hx => ⟨hx.1, hx.2.1, by have := hx.2.2; simp only; omega⟩) (fun _ _ => rfl) (fun x hx => by simp [Int.toNat_of_nonneg hx.2.2.1])
theorem x_pickH (code : List Int) (a s n : Int) (h0 : 0 ≤ a) (h1 : a ≤ 900000000000) (hc : code.length ≤ 9223372036854775807) (hb : BytesOK code) :
    ACallX Try.prog 64 [.p (curP code a s), int n] (fun x : Int × Int × Int => a ≤ x.1 ∧ x.1 ≤ a + 2) (fun x => [.p (curP code x.1 x.2.1), .x]) (fun x => [int x.2.2]) := by
  by_cases hn : n ≤ 1
  · refine ACallX.of (N := 20) tok Try.func64 rfl rfl rfl (by simp) ?_
    repeat' (first | with_reducible refine OutOK.done ?_ | refine thenQ_n ?_ | refine thenQ_r ?_ | refine thenQ_e ?_ | refine AW.seq ?_ | refine AW.reg tok (by simp [*]; rfl) ?_ | refine AW.ifB (by simp [*]; rfl) ?_ | refine IfG.t ?_ | refine IfG.f ?_ | (refine IfG.p (fun hg => ?_) (fun hg => ?_) <;> (try (have hg' := hg; simp at hg'))) | (refine IfG.n (fun hg => ?_) (fun hg => ?_) <;> (try (have hg' := hg; simp at hg'))) | (refine OutOK.gateP (fun hg => ?_) (fun hg => ?_) <;> (try (have hg' := hg; simp at hg'))) | (refine OutOK.gateN (fun hg => ?_) (fun hg => ?_) <;> (try (have hg' := hg; simp at hg'))) | (refine IfG.g (fun hg => ?_) (fun hg => ?_) <;> (try (have hg' := hg; simp at hg'))) | (refine OutOK.gate (fun hg => ?_) (fun hg => ?_) <;> (try (have hg' := hg; simp at hg'))) | refine OutOK.run (by simp [*]; rfl) ?_ | refine AW.ret ?_ | refine AW.skip ?_ | refine AW.exit ?_ | refine fin_r ?_ | refine fin_n ?_ | refine AW.block ?_ | refine blockQ_n ?_ | refine blockQ_r ?_ | refine blockQ_e ?_ | refine blockQ_o rfl ?_)
    exact ⟨(a, s, 0), ⟨by simp, by simp only; omega⟩, by simp [Try.f64]⟩
  · have e3 : ¬ n = 0 := by omega
    by_cases e2 : 200 < n
    · refine ACallX.of (N := 20) tok Try.func64 rfl rfl rfl (by simp) ?_
      repeat' (first | with_reducible refine OutOK.done ?_ | refine thenQ_n ?_ | refine thenQ_r ?_ | refine thenQ_e ?_ | refine AW.seq ?_ | refine AW.reg tok (by simp [*]; rfl) ?_ | refine AW.ifB (by simp [*]; rfl) ?_ | refine IfG.t ?_ | refine IfG.f ?_ | (refine IfG.p (fun hg => ?_) (fun hg => ?_) <;> (try (have hg' := hg; simp at hg'))) | (refine IfG.n (fun hg => ?_) (fun hg => ?_) <;> (try (have hg' := hg; simp at hg'))) | (refine OutOK.gateP (fun hg => ?_) (fun hg => ?_) <;> (try (have hg' := hg; simp at hg'))) | (refine OutOK.gateN (fun hg => ?_) (fun hg => ?_) <;> (try (have hg' := hg; simp at hg'))) | (refine IfG.g (fun hg => ?_) (fun hg => ?_) <;> (try (have hg' := hg; simp at hg'))) | (refine OutOK.gate (fun hg => ?_) (fun hg => ?_) <;> (try (have hg' := hg; simp at hg'))) | (refine OutOK.callX [] (by simp [*]; rfl) (by simp [*]; rfl) (by simp [*]; rfl) hb107 (by apply x_spec_l1Cur_next <;> first | assumption | exact Hd.out (by assumption) | ((try (clear e0)); (try (clear e1)); (try (clear e2)); (try (clear e3)); (try (clear e4)); (try (clear e5)); (try (clear e6)); (try (clear e7)); (try (clear e8)); (try (clear e9)); (try (clear e10)); (try (clear e11)); omega)) ⟨by simp [*], by simp [*], by simp [*]⟩ (by simp [*]) (fun x hx => CallX.mk' ⟨by simp [*], by simp [*], by simp [*], by simp [*], by simp [*]⟩ (by simp [*]; rfl) ?_)) | refine OutOK.run (by simp [*]; rfl) ?_ | refine AW.ret ?_ | refine AW.skip ?_ | refine AW.exit ?_ | refine fin_r ?_ | refine fin_n ?_ | refine AW.block ?_ | refine blockQ_n ?_ | refine blockQ_r ?_ | refine blockQ_e ?_ | refine blockQ_o rfl ?_)
      rename_i x1 hx1
      exact ⟨(a + 1 + 1, x.1, Int.tmod (wrap64 (wrap64 (x1.2 * 256) + x.2)) n), ⟨by simp only; omega, by simp only; omega⟩, by simp [Try.f64]⟩
    · refine ACallX.of (N := 20) tok Try.func64 rfl rfl rfl (by simp) ?_
      repeat' (first | with_reducible refine OutOK.done ?_ | refine thenQ_n ?_ | refine thenQ_r ?_ | refine thenQ_e ?_ | refine AW.seq ?_ | refine AW.reg tok (by simp [*]; rfl) ?_ | refine AW.ifB (by simp [*]; rfl) ?_ | refine IfG.t ?_ | refine IfG.f ?_ | (refine IfG.p (fun hg => ?_) (fun hg => ?_) <;> (try (have hg' := hg; simp at hg'))) | (refine IfG.n (fun hg => ?_) (fun hg => ?_) <;> (try (have hg' := hg; simp at hg'))) | (refine OutOK.gateP (fun hg => ?_) (fun hg => ?_) <;> (try (have hg' := hg; simp at hg'))) | (refine OutOK.gateN (fun hg => ?_) (fun hg => ?_) <;> (try (have hg' := hg; simp at hg'))) | (refine IfG.g (fun hg => ?_) (fun hg => ?_) <;> (try (have hg' := hg; simp at hg'))) | (refine OutOK.gate (fun hg => ?_) (fun hg => ?_) <;> (try (have hg' := hg; simp at hg'))) | (refine OutOK.callX [] (by simp [*]; rfl) (by simp [*]; rfl) (by simp [*]; rfl) hb107 (by apply x_spec_l1Cur_next <;> first | assumption | exact Hd.out (by assumption) | ((try (clear e0)); (try (clear e1)); (try (clear e2)); (try (clear e3)); (try (clear e4)); (try (clear e5)); (try (clear e6)); (try (clear e7)); (try (clear e8)); (try (clear e9)); (try (clear e10)); (try (clear e11)); omega)) ⟨by simp [*], by simp [*], by simp [*]⟩ (by simp [*]) (fun x hx => CallX.mk' ⟨by simp [*], by simp [*], by simp [*], by simp [*], by simp [*]⟩ (by simp [*]; rfl) ?_)) | refine OutOK.run (by simp [*]; rfl) ?_ | refine AW.ret ?_ | refine AW.skip ?_ | refine AW.exit ?_ | refine fin_r ?_ | refine fin_n ?_ | refine AW.block ?_ | refine blockQ_n ?_ | refine blockQ_r ?_ | refine blockQ_e ?_ | refine blockQ_o rfl ?_)
      exact ⟨(a + 1, x.1, Int.tmod x.2 n), ⟨by simp only; omega, by simp only; omega⟩, by simp [Try.f64]⟩
theorem x_spec_l1Cur_holder (code : List Int) (a s : Int) (h0 : 0 ≤ a) (h1 : a ≤ 900000000000) (hc : code.length ≤ 9223372036854775807) (hb : BytesOK code) :
    ACallX Try.prog 103 [.p (curP code a s)] (fun x : Int × Int × ByteArray => a ≤ x.1 ∧ x.1 ≤ a + 2 ∧ x.2.2.size ≤ 10) (fun x => [.p (curP code x.1 x.2.1)]) (fun x => [.v (.sc (.string x.2.2))]) := by
  have cof : ACallX Try.prog 115 [.p (curP code a s), .v (.sl false 1 [.sc (.string ⟨#[97, 110, 110]⟩), .sc (.string ⟨#[98, 101, 110]⟩), .sc (.string ⟨#[108, 97, 98]⟩)])] (fun x : Int × Int × ByteArray => a ≤ x.1 ∧ x.1 ≤ a + 2 ∧ x.2.2.size ≤ 10) (fun x => [.p (curP code x.1 x.2.1), .x]) (fun x => [.v (.sc (.string x.2.2))]) :=
    x_spec_l1Cur_of code a s [⟨#[97, 110, 110]⟩, ⟨#[98, 101, 110]⟩, ⟨#[108, 97, 98]⟩] (fun y => y.size ≤ 10) h0 h1 hc hb (by simp) (by simp) (by intro y hy; simp at hy; rcases hy with rfl | rfl | rfl <;> decide)
  refine ACallX.of (N := 6) tok Try.func103 rfl rfl rfl (by simp) ?_
  repeat' (first | with_reducible refine OutOK.done ?_ | refine thenQ_n ?_ | refine thenQ_r ?_ | refine thenQ_e ?_ | refine AW.seq ?_ | refine AW.reg tok (by simp [*]; rfl) ?_ | refine AW.ifB (by simp [*]; rfl) ?_ | refine IfG.t ?_ | refine IfG.f ?_ | (refine IfG.p (fun hg => ?_) (fun hg => ?_) <;> (try (have hg' := hg; simp at hg'))) | (refine IfG.n (fun hg => ?_) (fun hg => ?_) <;> (try (have hg' := hg; simp at hg'))) | (refine OutOK.gateP (fun hg => ?_) (fun hg => ?_) <;> (try (have hg' := hg; simp at hg'))) | (refine OutOK.gateN (fun hg => ?_) (fun hg => ?_) <;> (try (have hg' := hg; simp at hg'))) | (refine IfG.g (fun hg => ?_) (fun hg => ?_) <;> (try (have hg' := hg; simp at hg'))) | (refine OutOK.gate (fun hg => ?_) (fun hg => ?_) <;> (try (have hg' := hg; simp at hg'))) | (refine OutOK.callX [false, true] (by simp [*]; rfl) (by simp [*]; rfl) (by simp [*]; rfl) hb115 (by apply cof <;> first | assumption | exact Hd.out (by assumption) | ((try (clear e0)); (try (clear e1)); (try (clear e2)); (try (clear e3)); (try (clear e4)); (try (clear e5)); (try (clear e6)); (try (clear e7)); (try (clear e8)); (try (clear e9)); (try (clear e10)); (try (clear e11)); omega)) ⟨by simp [*], by simp [*], by simp [*]⟩ (by simp [*]) (fun x hx => CallX.mk' ⟨by simp [*], by simp [*], by simp [*], by simp [*], by simp [*]⟩ (by simp [*]; rfl) ?_)) | refine OutOK.run (by simp [*]; rfl) ?_ | refine AW.ret ?_ | refine AW.skip ?_ | refine AW.exit ?_ | refine fin_r ?_ | refine fin_n ?_ | refine AW.block ?_ | refine blockQ_n ?_ | refine blockQ_r ?_ | refine blockQ_e ?_ | refine blockQ_o rfl ?_)
  exact ⟨x, hx, by simp [Try.f103]⟩
theorem x_spec_l1Cur_step (code : List Int) (a s : Int) (l : List Smp) (h : l.length ≤ 1000) (h0 : 0 ≤ a) (h1 : a ≤ 800000000000) (hc : code.length ≤ 9223372036854775807) (hb : BytesOK code) :
    ACallX Try.prog 100 [.p (curP code a s), .v (.sl false 8 (smps l))] (fun x : Int × Int × Int × Int × Int × ByteArray => a ≤ x.1 ∧ x.1 ≤ a + 20 ∧ x.2.2.2.2.2.size ≤ 10) (fun x => [.p (curP code x.1 x.2.1), .v (.sl false 8 (smps l))]) (fun x => [stpD x.2.2.1 x.2.2.2.1 x.2.2.2.2.1 x.2.2.2.2.2]) := by
  have cam1 : ∀ (a s : Int) (k : Nat), 0 ≤ a → a ≤ 900000000000 → 4 ≤ k → k ≤ 5 → ACallX Try.prog 63 [.p (curP code a s), .v (.sl false 1 (List.take k [.sc (.int .i64 3), .sc (.int .i64 7), .sc (.int .i64 12), .sc (.int .i64 999), .sc (.int .i64 1000)]))] (fun x : Int × Int × Int => a ≤ x.1 ∧ x.1 ≤ a + 2 ∧ True) (fun x => [.p (curP code x.1 x.2.1), .x]) (fun x => [int x.2.2]) := by
    intro a s k h0 h1 h2 h3
    have := x_spec_l1Cur_among code a s (List.take k [3, 7, 12, 999, 1000]) (fun _ => True) h0 h1 hc hb (by simp; omega) (by simp; omega) (by simp)
    simpa only [ints, List.map_take, List.map_cons, List.map_nil] using this
  have cam2 : ∀ (a s : Int) (k : Nat), 0 ≤ a → a ≤ 900000000000 → 4 ≤ k → k ≤ 6 → ACallX Try.prog 63 [.p (curP code a s), .v (.sl false 1 (List.take k [.sc (.int .i64 5), .sc (.int .i64 20), .sc (.int .i64 40), .sc (.int .i64 500), .sc (.int .i64 501), .sc (.int .i64 0)]))] (fun x : Int × Int × Int => a ≤ x.1 ∧ x.1 ≤ a + 2 ∧ True) (fun x => [.p (curP code x.1 x.2.1), .x]) (fun x => [int x.2.2]) := by
    intro a s k h0 h1 h2 h3
    have := x_spec_l1Cur_among code a s (List.take k [5, 20, 40, 500, 501, 0]) (fun _ => True) h0 h1 hc hb (by simp; omega) (by simp; omega) (by simp)
    simpa only [ints, List.map_take, List.map_cons, List.map_nil] using this
  have cof : ∀ a s : Int, 0 ≤ a → a ≤ 900000000000 → ACallX Try.prog 115 [.p (curP code a s), .v (.sl false 1 [.sc (.string ⟨#[97, 110, 110]⟩), .sc (.string ⟨#[]⟩), .sc (.string ⟨#[66, 101, 110]⟩)])] (fun x : Int × Int × ByteArray => a ≤ x.1 ∧ x.1 ≤ a + 2 ∧ x.2.2.size ≤ 10) (fun x => [.p (curP code x.1 x.2.1), .x]) (fun x => [.v (.sc (.string x.2.2))]) :=
    fun a s h0 h1 => x_spec_l1Cur_of code a s [⟨#[97, 110, 110]⟩, ⟨#[]⟩, ⟨#[66, 101, 110]⟩] (fun y => y.size ≤ 10) h0 h1 hc hb (by simp) (by simp) (by intro y hy; simp at hy; rcases hy with rfl | rfl | rfl <;> decide)
  by_cases hl : l.length = 0
  · have hl' : l = [] := List.length_eq_zero_iff.1 hl
    subst hl'
    refine ACallX.of (N := 74) tok Try.func100 rfl rfl rfl (by simp) ?_
    repeat' (first | with_reducible refine OutOK.done ?_ | refine thenQ_n ?_ | refine thenQ_r ?_ | refine thenQ_e ?_ | refine AW.seq ?_ | refine AW.reg tok (by simp [*]; rfl) ?_ | refine AW.ifB (by simp [*]; rfl) ?_ | refine IfG.t ?_ | refine IfG.f ?_ | (refine IfG.p (fun hg => ?_) (fun hg => ?_) <;> (try (have hg' := hg; simp at hg'))) | (refine IfG.n (fun hg => ?_) (fun hg => ?_) <;> (try (have hg' := hg; simp at hg'))) | (refine OutOK.gateP (fun hg => ?_) (fun hg => ?_) <;> (try (have hg' := hg; simp at hg'))) | (refine OutOK.gateN (fun hg => ?_) (fun hg => ?_) <;> (try (have hg' := hg; simp at hg'))) | (refine IfG.g (fun hg => ?_) (fun hg => ?_) <;> (try (have hg' := hg; simp at hg'))) | (refine OutOK.gate (fun hg => ?_) (fun hg => ?_) <;> (try (have hg' := hg; simp at hg'))) | refine OutOK.run (by simp [*]; rfl) ?_ | refine AW.ret ?_ | refine AW.skip ?_ | refine AW.exit ?_ | refine fin_r ?_ | refine fin_n ?_ | refine AW.block ?_ | refine blockQ_n ?_ | refine blockQ_r ?_ | refine blockQ_e ?_ | refine blockQ_o rfl ?_)
    refine OutOK.callX [] (by simp [*]; rfl) (by simp [*]; rfl) (by simp [*]; rfl) hb64 (by apply x_pickN <;> first | assumption | exact Hd.out (by assumption) | ((try (clear e0)); (try (clear e1)); (try (clear e2)); (try (clear e3)); (try (clear e4)); (try (clear e5)); (try (clear e6)); (try (clear e7)); (try (clear e8)); (try (clear e9)); (try (clear e10)); (try (clear e11)); omega)) ⟨by simp [*], by simp [*], by simp [*]⟩ (by simp [*]) (fun x hx => ?_)
    obtain ⟨a1, s1, v⟩ := x
    simp only at hx
    obtain ⟨p1, p2, p3⟩ := hx
    obtain ⟨k, hk1, hk2, e1⟩ : ∃ k : Nat, 4 ≤ k ∧ k ≤ 5 ∧ wrap64 (4 + wrap64 ((v : Int) / 11)) = (k : Int) := ⟨4 + v / 11, by omega, by omega, by rw [w64 (x := (v : Int) / 11) (by omega) (by omega), w64 (by omega) (by omega)]; omega⟩
    have hk3 : (k : Int) ≤ 5 := by ((try (clear e0)); (try (clear e1)); (try (clear e2)); (try (clear e3)); (try (clear e4)); (try (clear e5)); (try (clear e6)); (try (clear e7)); (try (clear e8)); (try (clear e9)); (try (clear e10)); (try (clear e11)); omega)
    refine CallX.mk' ⟨by simp [*], by simp [*], by simp [*], by simp [*], by simp [*]⟩ (by simp [*]; rfl) ?_
    repeat' (first | with_reducible refine OutOK.done ?_ | refine thenQ_n ?_ | refine thenQ_r ?_ | refine thenQ_e ?_ | refine AW.seq ?_ | refine AW.reg tok (by simp [*]; rfl) ?_ | refine AW.ifB (by simp [*]; rfl) ?_ | refine IfG.t ?_ | refine IfG.f ?_ | (refine IfG.p (fun hg => ?_) (fun hg => ?_) <;> (try (have hg' := hg; simp at hg'))) | (refine IfG.n (fun hg => ?_) (fun hg => ?_) <;> (try (have hg' := hg; simp at hg'))) | (refine OutOK.gateP (fun hg => ?_) (fun hg => ?_) <;> (try (have hg' := hg; simp at hg'))) | (refine OutOK.gateN (fun hg => ?_) (fun hg => ?_) <;> (try (have hg' := hg; simp at hg'))) | (refine IfG.g (fun hg => ?_) (fun hg => ?_) <;> (try (have hg' := hg; simp at hg'))) | (refine OutOK.gate (fun hg => ?_) (fun hg => ?_) <;> (try (have hg' := hg; simp at hg'))) | refine OutOK.run (by simp [*]; rfl) ?_ | refine AW.ret ?_ | refine AW.skip ?_ | refine AW.exit ?_ | refine fin_r ?_ | refine fin_n ?_ | refine AW.block ?_ | refine blockQ_n ?_ | refine blockQ_r ?_ | refine blockQ_e ?_ | refine blockQ_o rfl ?_)
    refine OutOK.own (by simp [*]; rfl) ?_; refine OutOK.callX [false, true] (by simp [*]; rfl) (by simp [*]; rfl) (by simp [*]; rfl) hb63 (by apply cam1 <;> first | assumption | exact Hd.out (by assumption) | ((try (clear e0)); (try (clear e1)); (try (clear e2)); (try (clear e3)); (try (clear e4)); (try (clear e5)); (try (clear e6)); (try (clear e7)); (try (clear e8)); (try (clear e9)); (try (clear e10)); (try (clear e11)); omega)) ⟨by simp [*], by simp [*], by simp [*]⟩ (by simp [*]) (fun x hx => ?_)
    obtain ⟨a2, s2, sm⟩ := x
    simp only at hx
    obtain ⟨q1, q2, -⟩ := hx
    clear hk1 hk2 hk3 e1
    refine CallX.mk' ⟨by simp [*], by simp [*], by simp [*], by simp [*], by simp [*]⟩ (by simp [*]; rfl) ?_
    repeat' (first | with_reducible refine OutOK.done ?_ | refine thenQ_n ?_ | refine thenQ_r ?_ | refine thenQ_e ?_ | refine AW.seq ?_ | refine AW.reg tok (by simp [*]; rfl) ?_ | refine AW.ifB (by simp [*]; rfl) ?_ | refine IfG.t ?_ | refine IfG.f ?_ | (refine IfG.p (fun hg => ?_) (fun hg => ?_) <;> (try (have hg' := hg; simp at hg'))) | (refine IfG.n (fun hg => ?_) (fun hg => ?_) <;> (try (have hg' := hg; simp at hg'))) | (refine OutOK.gateP (fun hg => ?_) (fun hg => ?_) <;> (try (have hg' := hg; simp at hg'))) | (refine OutOK.gateN (fun hg => ?_) (fun hg => ?_) <;> (try (have hg' := hg; simp at hg'))) | (refine IfG.g (fun hg => ?_) (fun hg => ?_) <;> (try (have hg' := hg; simp at hg'))) | (refine OutOK.gate (fun hg => ?_) (fun hg => ?_) <;> (try (have hg' := hg; simp at hg'))) | refine OutOK.run (by simp [*]; rfl) ?_ | refine AW.ret ?_ | refine AW.skip ?_ | refine AW.exit ?_ | refine fin_r ?_ | refine fin_n ?_ | refine AW.block ?_ | refine blockQ_n ?_ | refine blockQ_r ?_ | refine blockQ_e ?_ | refine blockQ_o rfl ?_)
    refine OutOK.callX [] (by simp [*]; rfl) (by simp [*]; rfl) (by simp [*]; rfl) hb64 (by apply x_pickN <;> first | assumption | exact Hd.out (by assumption) | ((try (clear e0)); (try (clear e1)); (try (clear e2)); (try (clear e3)); (try (clear e4)); (try (clear e5)); (try (clear e6)); (try (clear e7)); (try (clear e8)); (try (clear e9)); (try (clear e10)); (try (clear e11)); omega)) ⟨by simp [*], by simp [*], by simp [*]⟩ (by simp [*]) (fun x hx => ?_)
    obtain ⟨a3, s3, v2⟩ := x
    simp only at hx
    obtain ⟨r1, r2, r3⟩ := hx
    obtain ⟨k, hk1, hk2, e1⟩ : ∃ k : Nat, 4 ≤ k ∧ k ≤ 6 ∧ wrap64 (4 + wrap64 ((v2 : Int) / 5)) = (k : Int) := ⟨4 + v2 / 5, by omega, by omega, by rw [w64 (x := (v2 : Int) / 5) (by omega) (by omega), w64 (by omega) (by omega)]; omega⟩
    have hk3 : (k : Int) ≤ 6 := by ((try (clear e0)); (try (clear e1)); (try (clear e2)); (try (clear e3)); (try (clear e4)); (try (clear e5)); (try (clear e6)); (try (clear e7)); (try (clear e8)); (try (clear e9)); (try (clear e10)); (try (clear e11)); omega)
    refine CallX.mk' ⟨by simp [*], by simp [*], by simp [*], by simp [*], by simp [*]⟩ (by simp [*]; rfl) ?_
    repeat' (first | with_reducible refine OutOK.done ?_ | refine thenQ_n ?_ | refine thenQ_r ?_ | refine thenQ_e ?_ | refine AW.seq ?_ | refine AW.reg tok (by simp [*]; rfl) ?_ | refine AW.ifB (by simp [*]; rfl) ?_ | refine IfG.t ?_ | refine IfG.f ?_ | (refine IfG.p (fun hg => ?_) (fun hg => ?_) <;> (try (have hg' := hg; simp at hg'))) | (refine IfG.n (fun hg => ?_) (fun hg => ?_) <;> (try (have hg' := hg; simp at hg'))) | (refine OutOK.gateP (fun hg => ?_) (fun hg => ?_) <;> (try (have hg' := hg; simp at hg'))) | (refine OutOK.gateN (fun hg => ?_) (fun hg => ?_) <;> (try (have hg' := hg; simp at hg'))) | (refine IfG.g (fun hg => ?_) (fun hg => ?_) <;> (try (have hg' := hg; simp at hg'))) | (refine OutOK.gate (fun hg => ?_) (fun hg => ?_) <;> (try (have hg' := hg; simp at hg'))) | refine OutOK.run (by simp [*]; rfl) ?_ | refine AW.ret ?_ | refine AW.skip ?_ | refine AW.exit ?_ | refine fin_r ?_ | refine fin_n ?_ | refine AW.block ?_ | refine blockQ_n ?_ | refine blockQ_r ?_ | refine blockQ_e ?_ | refine blockQ_o rfl ?_)
    refine OutOK.own (by simp [*]; rfl) ?_; refine OutOK.callX [false, true] (by simp [*]; rfl) (by simp [*]; rfl) (by simp [*]; rfl) hb63 (by apply cam2 <;> first | assumption | exact Hd.out (by assumption) | ((try (clear e0)); (try (clear e1)); (try (clear e2)); (try (clear e3)); (try (clear e4)); (try (clear e5)); (try (clear e6)); (try (clear e7)); (try (clear e8)); (try (clear e9)); (try (clear e10)); (try (clear e11)); omega)) ⟨by simp [*], by simp [*], by simp [*]⟩ (by simp [*]) (fun x hx => ?_)
    obtain ⟨a4, s4, am⟩ := x
    simp only at hx
    obtain ⟨t1, t2, -⟩ := hx
    clear hk1 hk2 hk3 e1
    refine CallX.mk' ⟨by simp [*], by simp [*], by simp [*], by simp [*], by simp [*]⟩ (by simp [*]; rfl) ?_
    repeat' (first | with_reducible refine OutOK.done ?_ | refine thenQ_n ?_ | refine thenQ_r ?_ | refine thenQ_e ?_ | refine AW.seq ?_ | refine AW.reg tok (by simp [*]; rfl) ?_ | refine AW.ifB (by simp [*]; rfl) ?_ | refine IfG.t ?_ | refine IfG.f ?_ | (refine IfG.p (fun hg => ?_) (fun hg => ?_) <;> (try (have hg' := hg; simp at hg'))) | (refine IfG.n (fun hg => ?_) (fun hg => ?_) <;> (try (have hg' := hg; simp at hg'))) | (refine OutOK.gateP (fun hg => ?_) (fun hg => ?_) <;> (try (have hg' := hg; simp at hg'))) | (refine OutOK.gateN (fun hg => ?_) (fun hg => ?_) <;> (try (have hg' := hg; simp at hg'))) | (refine IfG.g (fun hg => ?_) (fun hg => ?_) <;> (try (have hg' := hg; simp at hg'))) | (refine OutOK.gate (fun hg => ?_) (fun hg => ?_) <;> (try (have hg' := hg; simp at hg'))) | (refine OutOK.callX [] (by simp [*]; rfl) (by simp [*]; rfl) (by simp [*]; rfl) hb103 (by apply x_spec_l1Cur_holder <;> first | assumption | exact Hd.out (by assumption) | ((try (clear e0)); (try (clear e1)); (try (clear e2)); (try (clear e3)); (try (clear e4)); (try (clear e5)); (try (clear e6)); (try (clear e7)); (try (clear e8)); (try (clear e9)); (try (clear e10)); (try (clear e11)); omega)) ⟨by simp [*], by simp [*], by simp [*]⟩ (by simp [*]) (fun x hx => CallX.mk' ⟨by simp [*], by simp [*], by simp [*], by simp [*], by simp [*]⟩ (by simp [*]; rfl) ?_)) | refine OutOK.run (by simp [*]; rfl) ?_ | refine AW.ret ?_ | refine AW.skip ?_ | refine AW.exit ?_ | refine fin_r ?_ | refine fin_n ?_ | refine AW.block ?_ | refine blockQ_n ?_ | refine blockQ_r ?_ | refine blockQ_e ?_ | refine blockQ_o rfl ?_)
    exact ⟨(x.1, x.2.1, 1, sm, am, x.2.2), ⟨by simp only; ((try (clear e0)); (try (clear e1)); (try (clear e2)); (try (clear e3)); (try (clear e4)); (try (clear e5)); (try (clear e6)); (try (clear e7)); (try (clear e8)); (try (clear e9)); (try (clear e10)); (try (clear e11)); omega), by simp only; ((try (clear e0)); (try (clear e1)); (try (clear e2)); (try (clear e3)); (try (clear e4)); (try (clear e5)); (try (clear e6)); (try (clear e7)); (try (clear e8)); (try (clear e9)); (try (clear e10)); (try (clear e11)); omega), hx.2.2⟩, by simp [Try.f100]⟩
  have hlI : ¬ (l.length : Int) = 0 := by omega
  have hl1 : (1 : Int) ≤ l.length := by omega
  have hlN : ¬ l = [] := fun e => by subst e; simp at hl
  refine ACallX.of (N := 74) tok Try.func100 rfl rfl rfl (by simp) ?_
  repeat' (first | with_reducible refine OutOK.done ?_ | refine thenQ_n ?_ | refine thenQ_r ?_ | refine thenQ_e ?_ | refine AW.seq ?_ | refine AW.reg tok (by simp [*]; rfl) ?_ | refine AW.ifB (by simp [*]; rfl) ?_ | refine IfG.t ?_ | refine IfG.f ?_ | (refine IfG.p (fun hg => ?_) (fun hg => ?_) <;> (try (have hg' := hg; simp at hg'))) | (refine IfG.n (fun hg => ?_) (fun hg => ?_) <;> (try (have hg' := hg; simp at hg'))) | (refine OutOK.gateP (fun hg => ?_) (fun hg => ?_) <;> (try (have hg' := hg; simp at hg'))) | (refine OutOK.gateN (fun hg => ?_) (fun hg => ?_) <;> (try (have hg' := hg; simp at hg'))) | (refine IfG.g (fun hg => ?_) (fun hg => ?_) <;> (try (have hg' := hg; simp at hg'))) | (refine OutOK.gate (fun hg => ?_) (fun hg => ?_) <;> (try (have hg' := hg; simp at hg'))) | refine OutOK.run (by simp [*]; rfl) ?_ | refine AW.ret ?_ | refine AW.skip ?_ | refine AW.exit ?_ | refine fin_r ?_ | refine fin_n ?_ | refine AW.block ?_ | refine blockQ_n ?_ | refine blockQ_r ?_ | refine blockQ_e ?_ | refine blockQ_o rfl ?_)
  refine OutOK.callX [] (by simp [*]; rfl) (by simp [*]; rfl) (by simp [*]; rfl) hb66 (by apply x_spec_l1Cur_one <;> first | assumption | exact Hd.out (by assumption) | ((try (clear e0)); (try (clear e1)); (try (clear e2)); (try (clear e3)); (try (clear e4)); (try (clear e5)); (try (clear e6)); (try (clear e7)); (try (clear e8)); (try (clear e9)); (try (clear e10)); (try (clear e11)); omega)) ⟨by simp [*], by simp [*], by simp [*]⟩ (by simp [*]) (fun x hx => ?_)
  obtain ⟨a0, s0, b⟩ := x
  simp only at hx
  obtain ⟨o1, o2⟩ := hx
  cases b with
  | true =>
    refine CallX.mk' ⟨by simp [*], by simp [*], by simp [*], by simp [*], by simp [*]⟩ (by simp [*]; rfl) ?_
    repeat' (first | with_reducible refine OutOK.done ?_ | refine thenQ_n ?_ | refine thenQ_r ?_ | refine thenQ_e ?_ | refine AW.seq ?_ | refine AW.reg tok (by simp [*]; rfl) ?_ | refine AW.ifB (by simp [*]; rfl) ?_ | refine IfG.t ?_ | refine IfG.f ?_ | (refine IfG.p (fun hg => ?_) (fun hg => ?_) <;> (try (have hg' := hg; simp at hg'))) | (refine IfG.n (fun hg => ?_) (fun hg => ?_) <;> (try (have hg' := hg; simp at hg'))) | (refine OutOK.gateP (fun hg => ?_) (fun hg => ?_) <;> (try (have hg' := hg; simp at hg'))) | (refine OutOK.gateN (fun hg => ?_) (fun hg => ?_) <;> (try (have hg' := hg; simp at hg'))) | (refine IfG.g (fun hg => ?_) (fun hg => ?_) <;> (try (have hg' := hg; simp at hg'))) | (refine OutOK.gate (fun hg => ?_) (fun hg => ?_) <;> (try (have hg' := hg; simp at hg'))) | refine OutOK.run (by simp [*]; rfl) ?_ | refine AW.ret ?_ | refine AW.skip ?_ | refine AW.exit ?_ | refine fin_r ?_ | refine fin_n ?_ | refine AW.block ?_ | refine blockQ_n ?_ | refine blockQ_r ?_ | refine blockQ_e ?_ | refine blockQ_o rfl ?_)
    refine OutOK.callX [] (by simp [*]; rfl) (by simp [*]; rfl) (by simp [*]; rfl) hb64 (by apply x_pickN <;> first | assumption | exact Hd.out (by assumption) | ((try (clear e0)); (try (clear e1)); (try (clear e2)); (try (clear e3)); (try (clear e4)); (try (clear e5)); (try (clear e6)); (try (clear e7)); (try (clear e8)); (try (clear e9)); (try (clear e10)); (try (clear e11)); omega)) ⟨by simp [*], by simp [*], by simp [*]⟩ (by simp [*]) (fun x hx => ?_)
    obtain ⟨a1, s1, v⟩ := x
    simp only at hx
    obtain ⟨p1, p2, p3⟩ := hx
    obtain ⟨k, hk1, hk2, e1⟩ : ∃ k : Nat, 4 ≤ k ∧ k ≤ 5 ∧ wrap64 (4 + wrap64 ((v : Int) / 11)) = (k : Int) := ⟨4 + v / 11, by omega, by omega, by rw [w64 (x := (v : Int) / 11) (by omega) (by omega), w64 (by omega) (by omega)]; omega⟩
    have hk3 : (k : Int) ≤ 5 := by ((try (clear e0)); (try (clear e1)); (try (clear e2)); (try (clear e3)); (try (clear e4)); (try (clear e5)); (try (clear e6)); (try (clear e7)); (try (clear e8)); (try (clear e9)); (try (clear e10)); (try (clear e11)); omega)
    refine CallX.mk' ⟨by simp [*], by simp [*], by simp [*], by simp [*], by simp [*]⟩ (by simp [*]; rfl) ?_
    repeat' (first | with_reducible refine OutOK.done ?_ | refine thenQ_n ?_ | refine thenQ_r ?_ | refine thenQ_e ?_ | refine AW.seq ?_ | refine AW.reg tok (by simp [*]; rfl) ?_ | refine AW.ifB (by simp [*]; rfl) ?_ | refine IfG.t ?_ | refine IfG.f ?_ | (refine IfG.p (fun hg => ?_) (fun hg => ?_) <;> (try (have hg' := hg; simp at hg'))) | (refine IfG.n (fun hg => ?_) (fun hg => ?_) <;> (try (have hg' := hg; simp at hg'))) | (refine OutOK.gateP (fun hg => ?_) (fun hg => ?_) <;> (try (have hg' := hg; simp at hg'))) | (refine OutOK.gateN (fun hg => ?_) (fun hg => ?_) <;> (try (have hg' := hg; simp at hg'))) | (refine IfG.g (fun hg => ?_) (fun hg => ?_) <;> (try (have hg' := hg; simp at hg'))) | (refine OutOK.gate (fun hg => ?_) (fun hg => ?_) <;> (try (have hg' := hg; simp at hg'))) | refine OutOK.run (by simp [*]; rfl) ?_ | refine AW.ret ?_ | refine AW.skip ?_ | refine AW.exit ?_ | refine fin_r ?_ | refine fin_n ?_ | refine AW.block ?_ | refine blockQ_n ?_ | refine blockQ_r ?_ | refine blockQ_e ?_ | refine blockQ_o rfl ?_)
    refine OutOK.own (by simp [*]; rfl) ?_; refine OutOK.callX [false, true] (by simp [*]; rfl) (by simp [*]; rfl) (by simp [*]; rfl) hb63 (by apply cam1 <;> first | assumption | exact Hd.out (by assumption) | ((try (clear e0)); (try (clear e1)); (try (clear e2)); (try (clear e3)); (try (clear e4)); (try (clear e5)); (try (clear e6)); (try (clear e7)); (try (clear e8)); (try (clear e9)); (try (clear e10)); (try (clear e11)); omega)) ⟨by simp [*], by simp [*], by simp [*]⟩ (by simp [*]) (fun x hx => ?_)
    obtain ⟨a2, s2, sm⟩ := x
    simp only at hx
    obtain ⟨q1, q2, -⟩ := hx
    clear hk1 hk2 hk3 e1
    refine CallX.mk' ⟨by simp [*], by simp [*], by simp [*], by simp [*], by simp [*]⟩ (by simp [*]; rfl) ?_
    repeat' (first | with_reducible refine OutOK.done ?_ | refine thenQ_n ?_ | refine thenQ_r ?_ | refine thenQ_e ?_ | refine AW.seq ?_ | refine AW.reg tok (by simp [*]; rfl) ?_ | refine AW.ifB (by simp [*]; rfl) ?_ | refine IfG.t ?_ | refine IfG.f ?_ | (refine IfG.p (fun hg => ?_) (fun hg => ?_) <;> (try (have hg' := hg; simp at hg'))) | (refine IfG.n (fun hg => ?_) (fun hg => ?_) <;> (try (have hg' := hg; simp at hg'))) | (refine OutOK.gateP (fun hg => ?_) (fun hg => ?_) <;> (try (have hg' := hg; simp at hg'))) | (refine OutOK.gateN (fun hg => ?_) (fun hg => ?_) <;> (try (have hg' := hg; simp at hg'))) | (refine IfG.g (fun hg => ?_) (fun hg => ?_) <;> (try (have hg' := hg; simp at hg'))) | (refine OutOK.gate (fun hg => ?_) (fun hg => ?_) <;> (try (have hg' := hg; simp at hg'))) | refine OutOK.run (by simp [*]; rfl) ?_ | refine AW.ret ?_ | refine AW.skip ?_ | refine AW.exit ?_ | refine fin_r ?_ | refine fin_n ?_ | refine AW.block ?_ | refine blockQ_n ?_ | refine blockQ_r ?_ | refine blockQ_e ?_ | refine blockQ_o rfl ?_)
    refine OutOK.callX [] (by simp [*]; rfl) (by simp [*]; rfl) (by simp [*]; rfl) hb64 (by apply x_pickN <;> first | assumption | exact Hd.out (by assumption) | ((try (clear e0)); (try (clear e1)); (try (clear e2)); (try (clear e3)); (try (clear e4)); (try (clear e5)); (try (clear e6)); (try (clear e7)); (try (clear e8)); (try (clear e9)); (try (clear e10)); (try (clear e11)); omega)) ⟨by simp [*], by simp [*], by simp [*]⟩ (by simp [*]) (fun x hx => ?_)
    obtain ⟨a3, s3, v2⟩ := x
    simp only at hx
    obtain ⟨r1, r2, r3⟩ := hx
    obtain ⟨k, hk1, hk2, e1⟩ : ∃ k : Nat, 4 ≤ k ∧ k ≤ 6 ∧ wrap64 (4 + wrap64 ((v2 : Int) / 5)) = (k : Int) := ⟨4 + v2 / 5, by omega, by omega, by rw [w64 (x := (v2 : Int) / 5) (by omega) (by omega), w64 (by omega) (by omega)]; omega⟩
    have hk3 : (k : Int) ≤ 6 := by ((try (clear e0)); (try (clear e1)); (try (clear e2)); (try (clear e3)); (try (clear e4)); (try (clear e5)); (try (clear e6)); (try (clear e7)); (try (clear e8)); (try (clear e9)); (try (clear e10)); (try (clear e11)); omega)
    refine CallX.mk' ⟨by simp [*], by simp [*], by simp [*], by simp [*], by simp [*]⟩ (by simp [*]; rfl) ?_
    repeat' (first | with_reducible refine OutOK.done ?_ | refine thenQ_n ?_ | refine thenQ_r ?_ | refine thenQ_e ?_ | refine AW.seq ?_ | refine AW.reg tok (by simp [*]; rfl) ?_ | refine AW.ifB (by simp [*]; rfl) ?_ | refine IfG.t ?_ | refine IfG.f ?_ | (refine IfG.p (fun hg => ?_) (fun hg => ?_) <;> (try (have hg' := hg; simp at hg'))) | (refine IfG.n (fun hg => ?_) (fun hg => ?_) <;> (try (have hg' := hg; simp at hg'))) | (refine OutOK.gateP (fun hg => ?_) (fun hg => ?_) <;> (try (have hg' := hg; simp at hg'))) | (refine OutOK.gateN (fun hg => ?_) (fun hg => ?_) <;> (try (have hg' := hg; simp at hg'))) | (refine IfG.g (fun hg => ?_) (fun hg => ?_) <;> (try (have hg' := hg; simp at hg'))) | (refine OutOK.gate (fun hg => ?_) (fun hg => ?_) <;> (try (have hg' := hg; simp at hg'))) | refine OutOK.run (by simp [*]; rfl) ?_ | refine AW.ret ?_ | refine AW.skip ?_ | refine AW.exit ?_ | refine fin_r ?_ | refine fin_n ?_ | refine AW.block ?_ | refine blockQ_n ?_ | refine blockQ_r ?_ | refine blockQ_e ?_ | refine blockQ_o rfl ?_)
    refine OutOK.own (by simp [*]; rfl) ?_; refine OutOK.callX [false, true] (by simp [*]; rfl) (by simp [*]; rfl) (by simp [*]; rfl) hb63 (by apply cam2 <;> first | assumption | exact Hd.out (by assumption) | ((try (clear e0)); (try (clear e1)); (try (clear e2)); (try (clear e3)); (try (clear e4)); (try (clear e5)); (try (clear e6)); (try (clear e7)); (try (clear e8)); (try (clear e9)); (try (clear e10)); (try (clear e11)); omega)) ⟨by simp [*], by simp [*], by simp [*]⟩ (by simp [*]) (fun x hx => ?_)
    obtain ⟨a4, s4, am⟩ := x
    simp only at hx
    obtain ⟨t1, t2, -⟩ := hx
    clear hk1 hk2 hk3 e1
    refine CallX.mk' ⟨by simp [*], by simp [*], by simp [*], by simp [*], by simp [*]⟩ (by simp [*]; rfl) ?_
    repeat' (first | with_reducible refine OutOK.done ?_ | refine thenQ_n ?_ | refine thenQ_r ?_ | refine thenQ_e ?_ | refine AW.seq ?_ | refine AW.reg tok (by simp [*]; rfl) ?_ | refine AW.ifB (by simp [*]; rfl) ?_ | refine IfG.t ?_ | refine IfG.f ?_ | (refine IfG.p (fun hg => ?_) (fun hg => ?_) <;> (try (have hg' := hg; simp at hg'))) | (refine IfG.n (fun hg => ?_) (fun hg => ?_) <;> (try (have hg' := hg; simp at hg'))) | (refine OutOK.gateP (fun hg => ?_) (fun hg => ?_) <;> (try (have hg' := hg; simp at hg'))) | (refine OutOK.gateN (fun hg => ?_) (fun hg => ?_) <;> (try (have hg' := hg; simp at hg'))) | (refine IfG.g (fun hg => ?_) (fun hg => ?_) <;> (try (have hg' := hg; simp at hg'))) | (refine OutOK.gate (fun hg => ?_) (fun hg => ?_) <;> (try (have hg' := hg; simp at hg'))) | (refine OutOK.callX [] (by simp [*]; rfl) (by simp [*]; rfl) (by simp [*]; rfl) hb103 (by apply x_spec_l1Cur_holder <;> first | assumption | exact Hd.out (by assumption) | ((try (clear e0)); (try (clear e1)); (try (clear e2)); (try (clear e3)); (try (clear e4)); (try (clear e5)); (try (clear e6)); (try (clear e7)); (try (clear e8)); (try (clear e9)); (try (clear e10)); (try (clear e11)); omega)) ⟨by simp [*], by simp [*], by simp [*]⟩ (by simp [*]) (fun x hx => CallX.mk' ⟨by simp [*], by simp [*], by simp [*], by simp [*], by simp [*]⟩ (by simp [*]; rfl) ?_)) | refine OutOK.run (by simp [*]; rfl) ?_ | refine AW.ret ?_ | refine AW.skip ?_ | refine AW.exit ?_ | refine fin_r ?_ | refine fin_n ?_ | refine AW.block ?_ | refine blockQ_n ?_ | refine blockQ_r ?_ | refine blockQ_e ?_ | refine blockQ_o rfl ?_)
    exact ⟨(x.1, x.2.1, 1, sm, am, x.2.2), ⟨by simp only; ((try (clear e0)); (try (clear e1)); (try (clear e2)); (try (clear e3)); (try (clear e4)); (try (clear e5)); (try (clear e6)); (try (clear e7)); (try (clear e8)); (try (clear e9)); (try (clear e10)); (try (clear e11)); omega), by simp only; ((try (clear e0)); (try (clear e1)); (try (clear e2)); (try (clear e3)); (try (clear e4)); (try (clear e5)); (try (clear e6)); (try (clear e7)); (try (clear e8)); (try (clear e9)); (try (clear e10)); (try (clear e11)); omega), hx.2.2⟩, by simp [Try.f100]⟩
  | false =>
    refine CallX.mk' ⟨by simp [*], by simp [*], by simp [*], by simp [*], by simp [*]⟩ (by simp [*]; rfl) ?_
    repeat' (first | with_reducible refine OutOK.done ?_ | refine thenQ_n ?_ | refine thenQ_r ?_ | refine thenQ_e ?_ | refine AW.seq ?_ | refine AW.reg tok (by simp [*]; rfl) ?_ | refine AW.ifB (by simp [*]; rfl) ?_ | refine IfG.t ?_ | refine IfG.f ?_ | (refine IfG.p (fun hg => ?_) (fun hg => ?_) <;> (try (have hg' := hg; simp at hg'))) | (refine IfG.n (fun hg => ?_) (fun hg => ?_) <;> (try (have hg' := hg; simp at hg'))) | (refine OutOK.gateP (fun hg => ?_) (fun hg => ?_) <;> (try (have hg' := hg; simp at hg'))) | (refine OutOK.gateN (fun hg => ?_) (fun hg => ?_) <;> (try (have hg' := hg; simp at hg'))) | (refine IfG.g (fun hg => ?_) (fun hg => ?_) <;> (try (have hg' := hg; simp at hg'))) | (refine OutOK.gate (fun hg => ?_) (fun hg => ?_) <;> (try (have hg' := hg; simp at hg'))) | refine OutOK.run (by simp [*]; rfl) ?_ | refine AW.ret ?_ | refine AW.skip ?_ | refine AW.exit ?_ | refine fin_r ?_ | refine fin_n ?_ | refine AW.block ?_ | refine blockQ_n ?_ | refine blockQ_r ?_ | refine blockQ_e ?_ | refine blockQ_o rfl ?_)
    refine OutOK.callX [] (by simp [*]; rfl) (by simp [*]; rfl) (by simp [*]; rfl) hb64 (by apply x_pickN <;> first | assumption | exact Hd.out (by assumption) | ((try (clear e0)); (try (clear e1)); (try (clear e2)); (try (clear e3)); (try (clear e4)); (try (clear e5)); (try (clear e6)); (try (clear e7)); (try (clear e8)); (try (clear e9)); (try (clear e10)); (try (clear e11)); omega)) ⟨by simp [*], by simp [*], by simp [*]⟩ (by simp [*]) (fun x hx => ?_)
    obtain ⟨a1, s1, v⟩ := x
    simp only at hx
    obtain ⟨p1, p2, p3⟩ := hx
    obtain ⟨w, hw⟩ : ∃ w : Int, wrap64 (1 + (v : Int)) = w := ⟨_, rfl⟩
    refine CallX.mk' ⟨by simp [*], by simp [*], by simp [*], by simp [*], by simp [*]⟩ (by simp [*]; rfl) ?_
    repeat' (first | with_reducible refine OutOK.done ?_ | refine thenQ_n ?_ | refine thenQ_r ?_ | refine thenQ_e ?_ | refine AW.seq ?_ | refine AW.reg tok (by simp [*]; rfl) ?_ | refine AW.ifB (by simp [*]; rfl) ?_ | refine IfG.t ?_ | refine IfG.f ?_ | (refine IfG.p (fun hg => ?_) (fun hg => ?_) <;> (try (have hg' := hg; simp at hg'))) | (refine IfG.n (fun hg => ?_) (fun hg => ?_) <;> (try (have hg' := hg; simp at hg'))) | (refine OutOK.gateP (fun hg => ?_) (fun hg => ?_) <;> (try (have hg' := hg; simp at hg'))) | (refine OutOK.gateN (fun hg => ?_) (fun hg => ?_) <;> (try (have hg' := hg; simp at hg'))) | (refine IfG.g (fun hg => ?_) (fun hg => ?_) <;> (try (have hg' := hg; simp at hg'))) | (refine OutOK.gate (fun hg => ?_) (fun hg => ?_) <;> (try (have hg' := hg; simp at hg'))) | refine OutOK.run (by simp [*]; rfl) ?_ | refine AW.ret ?_ | refine AW.skip ?_ | refine AW.exit ?_ | refine fin_r ?_ | refine fin_n ?_ | refine AW.block ?_ | refine blockQ_n ?_ | refine blockQ_r ?_ | refine blockQ_e ?_ | refine blockQ_o rfl ?_)
    refine OutOK.callX [] (by simp [*]; rfl) (by simp [*]; rfl) (by simp [*]; rfl) hb64 (by apply x_pickN <;> first | assumption | exact Hd.out (by assumption) | ((try (clear e0)); (try (clear e1)); (try (clear e2)); (try (clear e3)); (try (clear e4)); (try (clear e5)); (try (clear e6)); (try (clear e7)); (try (clear e8)); (try (clear e9)); (try (clear e10)); (try (clear e11)); omega)) ⟨by simp [*], by simp [*], by simp [*]⟩ (by simp [*]) (fun x hx => ?_)
    obtain ⟨a2, s2, v2⟩ := x
    simp only at hx
    obtain ⟨q1, q2, q3⟩ := hx
    clear p3 hw
    by_cases c0 : v2 = 0
    · subst c0
      refine CallX.mk' ⟨by simp [*], by simp [*], by simp [*], by simp [*], by simp [*]⟩ (by simp [*]; rfl) ?_
      repeat' (first | with_reducible refine OutOK.done ?_ | refine thenQ_n ?_ | refine thenQ_r ?_ | refine thenQ_e ?_ | refine AW.seq ?_ | refine AW.reg tok (by simp [*]; rfl) ?_ | refine AW.ifB (by simp [*]; rfl) ?_ | refine IfG.t ?_ | refine IfG.f ?_ | (refine IfG.p (fun hg => ?_) (fun hg => ?_) <;> (try (have hg' := hg; simp at hg'))) | (refine IfG.n (fun hg => ?_) (fun hg => ?_) <;> (try (have hg' := hg; simp at hg'))) | (refine OutOK.gateP (fun hg => ?_) (fun hg => ?_) <;> (try (have hg' := hg; simp at hg'))) | (refine OutOK.gateN (fun hg => ?_) (fun hg => ?_) <;> (try (have hg' := hg; simp at hg'))) | (refine IfG.g (fun hg => ?_) (fun hg => ?_) <;> (try (have hg' := hg; simp at hg'))) | (refine OutOK.gate (fun hg => ?_) (fun hg => ?_) <;> (try (have hg' := hg; simp at hg'))) | (refine OutOK.callX [] (by simp [*]; rfl) (by simp [*]; rfl) (by simp [*]; rfl) hb103 (by apply x_spec_l1Cur_holder <;> first | assumption | exact Hd.out (by assumption) | ((try (clear e0)); (try (clear e1)); (try (clear e2)); (try (clear e3)); (try (clear e4)); (try (clear e5)); (try (clear e6)); (try (clear e7)); (try (clear e8)); (try (clear e9)); (try (clear e10)); (try (clear e11)); omega)) ⟨by simp [*], by simp [*], by simp [*]⟩ (by simp [*]) (fun x hx => CallX.mk' ⟨by simp [*], by simp [*], by simp [*], by simp [*], by simp [*]⟩ (by simp [*]; rfl) ?_)) | refine OutOK.run (by simp [*]; rfl) ?_ | refine AW.ret ?_ | refine AW.skip ?_ | refine AW.exit ?_ | refine fin_r ?_ | refine fin_n ?_ | refine AW.block ?_ | refine blockQ_n ?_ | refine blockQ_r ?_ | refine blockQ_e ?_ | refine blockQ_o rfl ?_)
      exact ⟨(x.1, x.2.1, 2, w, 0, x.2.2), ⟨by simp only; ((try (clear e0)); (try (clear e1)); (try (clear e2)); (try (clear e3)); (try (clear e4)); (try (clear e5)); (try (clear e6)); (try (clear e7)); (try (clear e8)); (try (clear e9)); (try (clear e10)); (try (clear e11)); omega), by simp only; ((try (clear e0)); (try (clear e1)); (try (clear e2)); (try (clear e3)); (try (clear e4)); (try (clear e5)); (try (clear e6)); (try (clear e7)); (try (clear e8)); (try (clear e9)); (try (clear e10)); (try (clear e11)); omega), hx.2.2⟩, by simp [Try.f100]⟩
    by_cases c1 : v2 = 1
    · subst c1
      refine CallX.mk' ⟨by simp [*], by simp [*], by simp [*], by simp [*], by simp [*]⟩ (by simp [*]; rfl) ?_
      repeat' (first | with_reducible refine OutOK.done ?_ | refine thenQ_n ?_ | refine thenQ_r ?_ | refine thenQ_e ?_ | refine AW.seq ?_ | refine AW.reg tok (by simp [*]; rfl) ?_ | refine AW.ifB (by simp [*]; rfl) ?_ | refine IfG.t ?_ | refine IfG.f ?_ | (refine IfG.p (fun hg => ?_) (fun hg => ?_) <;> (try (have hg' := hg; simp at hg'))) | (refine IfG.n (fun hg => ?_) (fun hg => ?_) <;> (try (have hg' := hg; simp at hg'))) | (refine OutOK.gateP (fun hg => ?_) (fun hg => ?_) <;> (try (have hg' := hg; simp at hg'))) | (refine OutOK.gateN (fun hg => ?_) (fun hg => ?_) <;> (try (have hg' := hg; simp at hg'))) | (refine IfG.g (fun hg => ?_) (fun hg => ?_) <;> (try (have hg' := hg; simp at hg'))) | (refine OutOK.gate (fun hg => ?_) (fun hg => ?_) <;> (try (have hg' := hg; simp at hg'))) | refine OutOK.run (by simp [*]; rfl) ?_ | refine AW.ret ?_ | refine AW.skip ?_ | refine AW.exit ?_ | refine fin_r ?_ | refine fin_n ?_ | refine AW.block ?_ | refine blockQ_n ?_ | refine blockQ_r ?_ | refine blockQ_e ?_ | refine blockQ_o rfl ?_)
      refine OutOK.callX [] (by simp [*]; rfl) (by simp [*]; rfl) (by simp [*]; rfl) hb64 (by apply x_pickN <;> first | assumption | exact Hd.out (by assumption) | ((try (clear e0)); (try (clear e1)); (try (clear e2)); (try (clear e3)); (try (clear e4)); (try (clear e5)); (try (clear e6)); (try (clear e7)); (try (clear e8)); (try (clear e9)); (try (clear e10)); (try (clear e11)); omega)) ⟨by simp [*], by simp [*], by simp [*]⟩ (by simp [*]) (fun x hx => ?_)
      obtain ⟨a3, s3, u⟩ := x
      simp only at hx
      obtain ⟨r1, r2, -⟩ := hx
      obtain ⟨z, hz⟩ : ∃ z : Int, wrap64 (1 + (u : Int)) = z := ⟨_, rfl⟩
      refine CallX.mk' ⟨by simp [*], by simp [*], by simp [*], by simp [*], by simp [*]⟩ (by simp [*]; rfl) ?_
      repeat' (first | with_reducible refine OutOK.done ?_ | refine thenQ_n ?_ | refine thenQ_r ?_ | refine thenQ_e ?_ | refine AW.seq ?_ | refine AW.reg tok (by simp [*]; rfl) ?_ | refine AW.ifB (by simp [*]; rfl) ?_ | refine IfG.t ?_ | refine IfG.f ?_ | (refine IfG.p (fun hg => ?_) (fun hg => ?_) <;> (try (have hg' := hg; simp at hg'))) | (refine IfG.n (fun hg => ?_) (fun hg => ?_) <;> (try (have hg' := hg; simp at hg'))) | (refine OutOK.gateP (fun hg => ?_) (fun hg => ?_) <;> (try (have hg' := hg; simp at hg'))) | (refine OutOK.gateN (fun hg => ?_) (fun hg => ?_) <;> (try (have hg' := hg; simp at hg'))) | (refine IfG.g (fun hg => ?_) (fun hg => ?_) <;> (try (have hg' := hg; simp at hg'))) | (refine OutOK.gate (fun hg => ?_) (fun hg => ?_) <;> (try (have hg' := hg; simp at hg'))) | refine OutOK.run (by simp [*]; rfl) ?_ | refine AW.ret ?_ | refine AW.skip ?_ | refine AW.exit ?_ | refine fin_r ?_ | refine fin_n ?_ | refine AW.block ?_ | refine blockQ_n ?_ | refine blockQ_r ?_ | refine blockQ_e ?_ | refine blockQ_o rfl ?_)
      clear hz
      refine OutOK.callX [] (by simp [*]; rfl) (by simp [*]; rfl) (by simp [*]; rfl) hb103 (by apply x_spec_l1Cur_holder <;> first | assumption | exact Hd.out (by assumption) | ((try (clear e0)); (try (clear e1)); (try (clear e2)); (try (clear e3)); (try (clear e4)); (try (clear e5)); (try (clear e6)); (try (clear e7)); (try (clear e8)); (try (clear e9)); (try (clear e10)); (try (clear e11)); omega)) ⟨by simp [*], by simp [*], by simp [*]⟩ (by simp [*]) (fun x hx => ?_)
      refine CallX.mk' ⟨by simp [*], by simp [*], by simp [*], by simp [*], by simp [*]⟩ (by simp [*]; rfl) ?_
      repeat' (first | with_reducible refine OutOK.done ?_ | refine thenQ_n ?_ | refine thenQ_r ?_ | refine thenQ_e ?_ | refine AW.seq ?_ | refine AW.reg tok (by simp [*]; rfl) ?_ | refine AW.ifB (by simp [*]; rfl) ?_ | refine IfG.t ?_ | refine IfG.f ?_ | (refine IfG.p (fun hg => ?_) (fun hg => ?_) <;> (try (have hg' := hg; simp at hg'))) | (refine IfG.n (fun hg => ?_) (fun hg => ?_) <;> (try (have hg' := hg; simp at hg'))) | (refine OutOK.gateP (fun hg => ?_) (fun hg => ?_) <;> (try (have hg' := hg; simp at hg'))) | (refine OutOK.gateN (fun hg => ?_) (fun hg => ?_) <;> (try (have hg' := hg; simp at hg'))) | (refine IfG.g (fun hg => ?_) (fun hg => ?_) <;> (try (have hg' := hg; simp at hg'))) | (refine OutOK.gate (fun hg => ?_) (fun hg => ?_) <;> (try (have hg' := hg; simp at hg'))) | refine OutOK.run (by simp [*]; rfl) ?_ | refine AW.ret ?_ | refine AW.skip ?_ | refine AW.exit ?_ | refine fin_r ?_ | refine fin_n ?_ | refine AW.block ?_ | refine blockQ_n ?_ | refine blockQ_r ?_ | refine blockQ_e ?_ | refine blockQ_o rfl ?_)
      exact ⟨(x.1, x.2.1, 3, w, z, x.2.2), ⟨by simp only; ((try (clear e0)); (try (clear e1)); (try (clear e2)); (try (clear e3)); (try (clear e4)); (try (clear e5)); (try (clear e6)); (try (clear e7)); (try (clear e8)); (try (clear e9)); (try (clear e10)); (try (clear e11)); omega), by simp only; ((try (clear e0)); (try (clear e1)); (try (clear e2)); (try (clear e3)); (try (clear e4)); (try (clear e5)); (try (clear e6)); (try (clear e7)); (try (clear e8)); (try (clear e9)); (try (clear e10)); (try (clear e11)); omega), hx.2.2⟩, by simp [Try.f100]⟩
    by_cases c2 : v2 = 2
    · subst c2
      refine CallX.mk' ⟨by simp [*], by simp [*], by simp [*], by simp [*], by simp [*]⟩ (by simp [*]; rfl) ?_
      repeat' (first | with_reducible refine OutOK.done ?_ | refine thenQ_n ?_ | refine thenQ_r ?_ | refine thenQ_e ?_ | refine AW.seq ?_ | refine AW.reg tok (by simp [*]; rfl) ?_ | refine AW.ifB (by simp [*]; rfl) ?_ | refine IfG.t ?_ | refine IfG.f ?_ | (refine IfG.p (fun hg => ?_) (fun hg => ?_) <;> (try (have hg' := hg; simp at hg'))) | (refine IfG.n (fun hg => ?_) (fun hg => ?_) <;> (try (have hg' := hg; simp at hg'))) | (refine OutOK.gateP (fun hg => ?_) (fun hg => ?_) <;> (try (have hg' := hg; simp at hg'))) | (refine OutOK.gateN (fun hg => ?_) (fun hg => ?_) <;> (try (have hg' := hg; simp at hg'))) | (refine IfG.g (fun hg => ?_) (fun hg => ?_) <;> (try (have hg' := hg; simp at hg'))) | (refine OutOK.gate (fun hg => ?_) (fun hg => ?_) <;> (try (have hg' := hg; simp at hg'))) | (refine OutOK.callX [] (by simp [*]; rfl) (by simp [*]; rfl) (by simp [*]; rfl) hb64 (by apply x_pickN <;> first | assumption | exact Hd.out (by assumption) | ((try (clear e0)); (try (clear e1)); (try (clear e2)); (try (clear e3)); (try (clear e4)); (try (clear e5)); (try (clear e6)); (try (clear e7)); (try (clear e8)); (try (clear e9)); (try (clear e10)); (try (clear e11)); omega)) ⟨by simp [*], by simp [*], by simp [*]⟩ (by simp [*]) (fun x hx => CallX.mk' ⟨by simp [*], by simp [*], by simp [*], by simp [*], by simp [*]⟩ (by simp [*]; rfl) ?_)) | refine OutOK.run (by simp [*]; rfl) ?_ | refine AW.ret ?_ | refine AW.skip ?_ | refine AW.exit ?_ | refine fin_r ?_ | refine fin_n ?_ | refine AW.block ?_ | refine blockQ_n ?_ | refine blockQ_r ?_ | refine blockQ_e ?_ | refine blockQ_o rfl ?_)
      exact ⟨(x.1, x.2.1, 4, w, wrap64 (1 + x.2.2), ⟨#[]⟩), ⟨by simp only; ((try (clear e0)); (try (clear e1)); (try (clear e2)); (try (clear e3)); (try (clear e4)); (try (clear e5)); (try (clear e6)); (try (clear e7)); (try (clear e8)); (try (clear e9)); (try (clear e10)); (try (clear e11)); omega), by simp only; ((try (clear e0)); (try (clear e1)); (try (clear e2)); (try (clear e3)); (try (clear e4)); (try (clear e5)); (try (clear e6)); (try (clear e7)); (try (clear e8)); (try (clear e9)); (try (clear e10)); (try (clear e11)); omega), by simp⟩, by simp [Try.f100]⟩
    · have c0' : ¬ (v2 : Int) = 0 := by ((try (clear e0)); (try (clear e1)); (try (clear e2)); (try (clear e3)); (try (clear e4)); (try (clear e5)); (try (clear e6)); (try (clear e7)); (try (clear e8)); (try (clear e9)); (try (clear e10)); (try (clear e11)); omega)
      have c1' : ¬ (v2 : Int) = 1 := by ((try (clear e0)); (try (clear e1)); (try (clear e2)); (try (clear e3)); (try (clear e4)); (try (clear e5)); (try (clear e6)); (try (clear e7)); (try (clear e8)); (try (clear e9)); (try (clear e10)); (try (clear e11)); omega)
      have c2' : ¬ (v2 : Int) = 2 := by ((try (clear e0)); (try (clear e1)); (try (clear e2)); (try (clear e3)); (try (clear e4)); (try (clear e5)); (try (clear e6)); (try (clear e7)); (try (clear e8)); (try (clear e9)); (try (clear e10)); (try (clear e11)); omega)
      refine CallX.mk' ⟨by simp [*], by simp [*], by simp [*], by simp [*], by simp [*]⟩ (by simp [*]; rfl) ?_
      repeat' (first | with_reducible refine OutOK.done ?_ | refine thenQ_n ?_ | refine thenQ_r ?_ | refine thenQ_e ?_ | refine AW.seq ?_ | refine AW.reg tok (by simp [*]; rfl) ?_ | refine AW.ifB (by simp [*]; rfl) ?_ | refine IfG.t ?_ | refine IfG.f ?_ | (refine IfG.p (fun hg => ?_) (fun hg => ?_) <;> (try (have hg' := hg; simp at hg'))) | (refine IfG.n (fun hg => ?_) (fun hg => ?_) <;> (try (have hg' := hg; simp at hg'))) | (refine OutOK.gateP (fun hg => ?_) (fun hg => ?_) <;> (try (have hg' := hg; simp at hg'))) | (refine OutOK.gateN (fun hg => ?_) (fun hg => ?_) <;> (try (have hg' := hg; simp at hg'))) | (refine IfG.g (fun hg => ?_) (fun hg => ?_) <;> (try (have hg' := hg; simp at hg'))) | (refine OutOK.gate (fun hg => ?_) (fun hg => ?_) <;> (try (have hg' := hg; simp at hg'))) | (refine OutOK.callX [] (by simp [*]; rfl) (by simp [*]; rfl) (by simp [*]; rfl) hb64 (by apply x_pickH <;> first | assumption | exact Hd.out (by assumption) | ((try (clear e0)); (try (clear e1)); (try (clear e2)); (try (clear e3)); (try (clear e4)); (try (clear e5)); (try (clear e6)); (try (clear e7)); (try (clear e8)); (try (clear e9)); (try (clear e10)); (try (clear e11)); omega)) ⟨by simp [*], by simp [*], by simp [*]⟩ (by simp [*]) (fun x hx => CallX.mk' ⟨by simp [*], by simp [*], by simp [*], by simp [*], by simp [*]⟩ (by simp [*]; rfl) ?_)) | (refine OutOK.callX [false, true] (by simp [*]; rfl) (by simp [*]; rfl) (by simp [*]; rfl) hb115 (by apply cof <;> first | assumption | exact Hd.out (by assumption) | ((try (clear e0)); (try (clear e1)); (try (clear e2)); (try (clear e3)); (try (clear e4)); (try (clear e5)); (try (clear e6)); (try (clear e7)); (try (clear e8)); (try (clear e9)); (try (clear e10)); (try (clear e11)); omega)) ⟨by simp [*], by simp [*], by simp [*]⟩ (by simp [*]) (fun x hx => CallX.mk' ⟨by simp [*], by simp [*], by simp [*], by simp [*], by simp [*]⟩ (by simp [*]; rfl) ?_)) | refine OutOK.run (by simp [*]; rfl) ?_ | refine AW.ret ?_ | refine AW.skip ?_ | refine AW.exit ?_ | refine fin_r ?_ | refine fin_n ?_ | refine AW.block ?_ | refine blockQ_n ?_ | refine blockQ_r ?_ | refine blockQ_e ?_ | refine blockQ_o rfl ?_)
      rename_i u1 hu1 u2 hu2 u3 hu3
      exact ⟨(x.1, x.2.1, u1.2.2, u2.2.2, u3.2.2, x.2.2), ⟨by simp only; ((try (clear e0)); (try (clear e1)); (try (clear e2)); (try (clear e3)); (try (clear e4)); (try (clear e5)); (try (clear e6)); (try (clear e7)); (try (clear e8)); (try (clear e9)); (try (clear e10)); (try (clear e11)); omega), by simp only; ((try (clear e0)); (try (clear e1)); (try (clear e2)); (try (clear e3)); (try (clear e4)); (try (clear e5)); (try (clear e6)); (try (clear e7)); (try (clear e8)); (try (clear e9)); (try (clear e10)); (try (clear e11)); omega), hx.2.2⟩, by simp [Try.f100]⟩
end Go.Proofs.Ytlphkfkcfomlbaa.EngS

