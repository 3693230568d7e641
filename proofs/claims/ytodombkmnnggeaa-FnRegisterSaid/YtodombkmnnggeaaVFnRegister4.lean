-- Written by this session's texts and program for this claim. Lean checks it.
import Derived.Test.YtodombkmnnggeaaVFnRegister3
set_option autoImplicit true
set_option relaxedAutoImplicit true
set_option linter.unusedSimpArgs false
set_option linter.unusedVariables false
set_option maxHeartbeats 4000000
set_option maxRecDepth 100000
namespace Go.Proofs.Ytodombkmnnggeaa.EngS
open Go Go.Proofs Go.Eng Go.RowKit
attribute [local irreducible] Go.RowKit.wrap64
def playE (its : List Itm) (e : Ent) : Option (List Itm) :=
  if nameOK e.itm = true ∧ textOK e.txt = true then
    if fnd its e.itm < 0 then (if e.kd = 1 then some (its ++ [⟨e.itm, e.txt, false⟩]) else none)
    else
      if e.kd = 2 ∧ (its[(fnd its e.itm).toNat]?.getD default).vd = false then some (its.set (fnd its e.itm).toNat ⟨(its[(fnd its e.itm).toNat]?.getD default).nm, e.txt, (its[(fnd its e.itm).toNat]?.getD default).vd⟩)
      else if e.kd = 3 ∧ e.txt.toList = [] ∧ (its[(fnd its e.itm).toNat]?.getD default).vd = false then some (its.set (fnd its e.itm).toNat ⟨(its[(fnd its e.itm).toNat]?.getD default).nm, (its[(fnd its e.itm).toNat]?.getD default).tx, true⟩)
      else if e.kd = 4 ∧ e.txt.toList = [] ∧ (its[(fnd its e.itm).toNat]?.getD default).vd = true then some (its.set (fnd its e.itm).toNat ⟨(its[(fnd its e.itm).toNat]?.getD default).nm, (its[(fnd its e.itm).toNat]?.getD default).tx, false⟩)
      else none
  else none
def playL : List Itm → List Ent → Option (List Itm)
  | its, [] => some its
  | its, e :: es => match playE its e with
    | some m => playL m es
    | none => none
theorem playL_go {its m : List Itm} {l : List Ent} {i : Nat} (h : i < l.length) (hp : playE its l[i] = some m) : playL its (l.drop i) = playL m (l.drop (i + 1)) := by
  rw [List.drop_eq_getElem_cons h, playL, hp]
theorem playL_no {its : List Itm} {l : List Ent} {i : Nat} (h : i < l.length) (hp : playE its l[i] = none) : playL its (l.drop i) = none := by
  rw [List.drop_eq_getElem_cons h, playL, hp]
theorem playL_end {its : List Itm} {l : List Ent} {i : Nat} (h : l.length ≤ i) : playL its (l.drop i) = some its := by
  rw [List.drop_eq_nil_of_le h, playL]
theorem idx_cases {α : Type} (p : α → Bool) (xs : List α) : idx p xs < 0 ∨ ∃ k : Nat, idx p xs = (k : Int) ∧ k < xs.length := by
  unfold idx
  cases h : xs.findIdx? p with
  | none => left; simp
  | some k =>
    right
    refine ⟨k, by simp, ?_⟩
    rw [List.findIdx?_eq_some_iff_getElem] at h
    exact h.1
theorem play_not {its : List Itm} {e : Ent} (h : ¬ (nameOK e.itm = true ∧ textOK e.txt = true)) : playE its e = none := by rw [playE, if_neg h]
theorem play_new {its : List Itm} {e : Ent} (h : nameOK e.itm = true ∧ textOK e.txt = true) (hf : fnd its e.itm < 0) : playE its e = if e.kd = 1 then some (its ++ [⟨e.itm, e.txt, false⟩]) else none := by rw [playE, if_pos h, if_pos hf]
theorem play_at {its : List Itm} {e : Ent} {k : Nat} (h : nameOK e.itm = true ∧ textOK e.txt = true) (hf : fnd its e.itm = (k : Int)) (hk : k < its.length) : playE its e =
      if e.kd = 2 ∧ its[k].vd = false then some (its.set k ⟨its[k].nm, e.txt, its[k].vd⟩)
      else if e.kd = 3 ∧ e.txt.toList = [] ∧ its[k].vd = false then some (its.set k ⟨its[k].nm, its[k].tx, true⟩)
      else if e.kd = 4 ∧ e.txt.toList = [] ∧ its[k].vd = true then some (its.set k ⟨its[k].nm, its[k].tx, false⟩)
      else none := by
  rw [playE, if_pos h, if_neg (by omega), hf]
  simp only [Int.toNat_natCast, List.getElem?_eq_getElem hk, Option.getD_some]
def RepQ (l : List Ent) (its : List Itm) (i : Nat) (e : Exit) (st : St) : Prop :=
  (e = .ret ∧ playE its (l[i]?.getD default) = none ∧ FinP T Try.f89.results.toList [.v (.sl true 3 (ents l))] [.x] [.v (.sl false 3 []), boo false] st) ∨
  (e = .normal ∧ ∃ m : List Itm, playE its (l[i]?.getD default) = some m ∧ m.length ≤ its.length + 1 ∧
    LessL st [(4, .rf 48000 []), (12, .c (.sl true 3 (ents l))), (13, .c (.sc (.int .i64 (l.length : Int)))), (14, .c (.sc (.int .i64 ((i + 1 : Nat) : Int))))] [(48000, .sv (.sl false 3 (itms m)))])
theorem s_rep_n (l : List Ent) (its : List Itm) (i : Nat) (kd : Int) (nm tx : ByteArray) (hl : i < l.length) (he : l[i] = ⟨kd, nm, tx⟩) (h40 : l.length ≤ 40) (hil : its.length ≤ 40) (hw : nm.size ≤ 9223372036854775807 ∧ tx.size ≤ 9223372036854775807) (hN : nameOK nm = false) : AW Try.prog 88 (cAt Try.f89 [2, 2, 2, 1, 2, 5, 7]) (mk [(4, .rf 48000 []), (12, .c (.sl true 3 (ents l))), (13, .c (.sc (.int .i64 (l.length : Int)))), (14, .c (.sc (.int .i64 (i : Int))))] [(48000, .sv (.sl false 3 (itms its)))]) (RepQ l its i) := by
  have e1 : wrap64 ((i : Int) + 1) = ((i + 1 : Nat) : Int) := by rw [w64 (by omega) (by omega)]; omega
  have hge : l[i]?.getD default = ⟨kd, nm, tx⟩ := by rw [List.getElem?_eq_getElem hl, Option.getD_some, he]
  have cn := c_impl_isName nm hw.1
  have ct := c_impl_isText tx hw.2
  have cf := c_slices_IndexFunc_item its 114 [.sc (.int .i64 kd), .sc (.string nm), .sc (.string tx)] (fun x => decide (x.nm.toList = nm.toList)) (by omega) (by simp) (fun x => c_impl_replayed_1 x kd nm tx)
  rw [show idx (fun x : Itm => decide (x.nm.toList = nm.toList)) its = fnd its nm from rfl] at cf
  have b1 : (its.length + 1) * 40 ≤ 140737488355328 := by omega
  have b2 : its.length + 1 ≤ 4611686018427387904 := by omega
  have hn : playE its (l[i]?.getD default) = none := by rw [hge]; exact play_not (by simp [hN])
  rw [hN] at cn
  replace hn : Hd _ := hn
  clear hge hw
  repeat' (first | with_reducible refine OutOK.done ?_ | refine thenQ_n ?_ | refine thenQ_r ?_ | refine thenQ_e ?_ | refine AW.seq ?_ | refine AW.dreg tok mixed [10, 11]  [(0, false), (1, false), (2, false), (3, false), (4, false), (5, false), (6, false), (7, false), (9, false), (8, false), (10, true), (11, true), (12, false), (13, false)] (by decide +kernel) rfl (by simp [*]; rfl) ?_ | refine AW.reg tok (by simp [*]; rfl) ?_ | refine AW.ifB (by simp [*]; rfl) ?_ | refine IfG.t ?_ | refine IfG.f ?_ | (refine IfG.p (fun hg => ?_) (fun hg => ?_) <;> (try (have hg' := hg; simp at hg'))) | (refine IfG.n (fun hg => ?_) (fun hg => ?_) <;> (try (have hg' := hg; simp at hg'))) | (refine OutOK.gateP (fun hg => ?_) (fun hg => ?_) <;> (try (have hg' := hg; simp at hg'))) | (refine OutOK.gateN (fun hg => ?_) (fun hg => ?_) <;> (try (have hg' := hg; simp at hg'))) | (refine IfG.g (fun hg => ?_) (fun hg => ?_) <;> (try (have hg' := hg; simp at hg'))) | (refine OutOK.gate (fun hg => ?_) (fun hg => ?_) <;> (try (have hg' := hg; simp at hg'))) | (refine OutOK.callF [] (by simp [*]; rfl) (by simp [*]; rfl) (by simp [*]; rfl) hb111 (by apply cn <;> first | assumption | exact Hd.out (by assumption) | ((try (clear e0)); (try (clear e1)); (try (clear e2)); (try (clear e3)); (try (clear e4)); (try (clear e5)); (try (clear e6)); (try (clear e7)); (try (clear e8)); (try (clear e9)); (try (clear e10)); (try (clear e11)); omega)) ⟨by simp [*], by simp [*], by simp [*], by simp [*], by simp [*]⟩ (by simp [*]) (by simp [*]; rfl) ?_) | (refine OutOK.callF [] (by simp [*]; rfl) (by simp [*]; rfl) (by simp [*]; rfl) hb113 (by apply ct <;> first | assumption | exact Hd.out (by assumption) | ((try (clear e0)); (try (clear e1)); (try (clear e2)); (try (clear e3)); (try (clear e4)); (try (clear e5)); (try (clear e6)); (try (clear e7)); (try (clear e8)); (try (clear e9)); (try (clear e10)); (try (clear e11)); omega)) ⟨by simp [*], by simp [*], by simp [*], by simp [*], by simp [*]⟩ (by simp [*]) (by simp [*]; rfl) ?_) | (refine OutOK.callF [] (by simp [*]; rfl) (by simp [*]; rfl) (by simp [*]; rfl) hb93 (by apply cf <;> first | assumption | exact Hd.out (by assumption) | ((try (clear e0)); (try (clear e1)); (try (clear e2)); (try (clear e3)); (try (clear e4)); (try (clear e5)); (try (clear e6)); (try (clear e7)); (try (clear e8)); (try (clear e9)); (try (clear e10)); (try (clear e11)); omega)) ⟨by simp [*], by simp [*], by simp [*], by simp [*], by simp [*]⟩ (by simp [*]) (by simp [*]; rfl) ?_) | refine OutOK.run (by simp [*]; rfl) ?_ | refine AW.ret ?_ | refine AW.skip ?_ | refine AW.exit ?_ | refine fin_r ?_ | refine fin_n ?_ | refine AW.block ?_ | refine blockQ_n ?_ | refine blockQ_r ?_ | refine blockQ_e ?_ | refine blockQ_o rfl ?_)
  exact .inl ⟨rfl, hn.out, by simp [Try.f89]⟩
theorem s_rep_t (l : List Ent) (its : List Itm) (i : Nat) (kd : Int) (nm tx : ByteArray) (hl : i < l.length) (he : l[i] = ⟨kd, nm, tx⟩) (h40 : l.length ≤ 40) (hil : its.length ≤ 40) (hw : nm.size ≤ 9223372036854775807 ∧ tx.size ≤ 9223372036854775807) (hN : nameOK nm = true) (hT : textOK tx = false) : AW Try.prog 88 (cAt Try.f89 [2, 2, 2, 1, 2, 5, 7]) (mk [(4, .rf 48000 []), (12, .c (.sl true 3 (ents l))), (13, .c (.sc (.int .i64 (l.length : Int)))), (14, .c (.sc (.int .i64 (i : Int))))] [(48000, .sv (.sl false 3 (itms its)))]) (RepQ l its i) := by
  have e1 : wrap64 ((i : Int) + 1) = ((i + 1 : Nat) : Int) := by rw [w64 (by omega) (by omega)]; omega
  have hge : l[i]?.getD default = ⟨kd, nm, tx⟩ := by rw [List.getElem?_eq_getElem hl, Option.getD_some, he]
  have cn := c_impl_isName nm hw.1
  have ct := c_impl_isText tx hw.2
  have cf := c_slices_IndexFunc_item its 114 [.sc (.int .i64 kd), .sc (.string nm), .sc (.string tx)] (fun x => decide (x.nm.toList = nm.toList)) (by omega) (by simp) (fun x => c_impl_replayed_1 x kd nm tx)
  rw [show idx (fun x : Itm => decide (x.nm.toList = nm.toList)) its = fnd its nm from rfl] at cf
  have b1 : (its.length + 1) * 40 ≤ 140737488355328 := by omega
  have b2 : its.length + 1 ≤ 4611686018427387904 := by omega
  have hn : playE its (l[i]?.getD default) = none := by rw [hge]; exact play_not (by simp [hT])
  rw [hN] at cn
  rw [hT] at ct
  replace hn : Hd _ := hn
  clear hge hw
  repeat' (first | with_reducible refine OutOK.done ?_ | refine thenQ_n ?_ | refine thenQ_r ?_ | refine thenQ_e ?_ | refine AW.seq ?_ | refine AW.dreg tok mixed [10, 11]  [(0, false), (1, false), (2, false), (3, false), (4, false), (5, false), (6, false), (7, false), (9, false), (8, false), (10, true), (11, true), (12, false), (13, false)] (by decide +kernel) rfl (by simp [*]; rfl) ?_ | refine AW.reg tok (by simp [*]; rfl) ?_ | refine AW.ifB (by simp [*]; rfl) ?_ | refine IfG.t ?_ | refine IfG.f ?_ | (refine IfG.p (fun hg => ?_) (fun hg => ?_) <;> (try (have hg' := hg; simp at hg'))) | (refine IfG.n (fun hg => ?_) (fun hg => ?_) <;> (try (have hg' := hg; simp at hg'))) | (refine OutOK.gateP (fun hg => ?_) (fun hg => ?_) <;> (try (have hg' := hg; simp at hg'))) | (refine OutOK.gateN (fun hg => ?_) (fun hg => ?_) <;> (try (have hg' := hg; simp at hg'))) | (refine IfG.g (fun hg => ?_) (fun hg => ?_) <;> (try (have hg' := hg; simp at hg'))) | (refine OutOK.gate (fun hg => ?_) (fun hg => ?_) <;> (try (have hg' := hg; simp at hg'))) | (refine OutOK.callF [] (by simp [*]; rfl) (by simp [*]; rfl) (by simp [*]; rfl) hb111 (by apply cn <;> first | assumption | exact Hd.out (by assumption) | ((try (clear e0)); (try (clear e1)); (try (clear e2)); (try (clear e3)); (try (clear e4)); (try (clear e5)); (try (clear e6)); (try (clear e7)); (try (clear e8)); (try (clear e9)); (try (clear e10)); (try (clear e11)); omega)) ⟨by simp [*], by simp [*], by simp [*], by simp [*], by simp [*]⟩ (by simp [*]) (by simp [*]; rfl) ?_) | (refine OutOK.callF [] (by simp [*]; rfl) (by simp [*]; rfl) (by simp [*]; rfl) hb113 (by apply ct <;> first | assumption | exact Hd.out (by assumption) | ((try (clear e0)); (try (clear e1)); (try (clear e2)); (try (clear e3)); (try (clear e4)); (try (clear e5)); (try (clear e6)); (try (clear e7)); (try (clear e8)); (try (clear e9)); (try (clear e10)); (try (clear e11)); omega)) ⟨by simp [*], by simp [*], by simp [*], by simp [*], by simp [*]⟩ (by simp [*]) (by simp [*]; rfl) ?_) | (refine OutOK.callF [] (by simp [*]; rfl) (by simp [*]; rfl) (by simp [*]; rfl) hb93 (by apply cf <;> first | assumption | exact Hd.out (by assumption) | ((try (clear e0)); (try (clear e1)); (try (clear e2)); (try (clear e3)); (try (clear e4)); (try (clear e5)); (try (clear e6)); (try (clear e7)); (try (clear e8)); (try (clear e9)); (try (clear e10)); (try (clear e11)); omega)) ⟨by simp [*], by simp [*], by simp [*], by simp [*], by simp [*]⟩ (by simp [*]) (by simp [*]; rfl) ?_) | refine OutOK.run (by simp [*]; rfl) ?_ | refine AW.ret ?_ | refine AW.skip ?_ | refine AW.exit ?_ | refine fin_r ?_ | refine fin_n ?_ | refine AW.block ?_ | refine blockQ_n ?_ | refine blockQ_r ?_ | refine blockQ_e ?_ | refine blockQ_o rfl ?_)
  exact .inl ⟨rfl, hn.out, by simp [Try.f89]⟩
theorem s_rep_1 (l : List Ent) (its : List Itm) (i : Nat) (kd : Int) (nm tx : ByteArray) (hl : i < l.length) (he : l[i] = ⟨kd, nm, tx⟩) (h40 : l.length ≤ 40) (hil : its.length ≤ 40) (hw : nm.size ≤ 9223372036854775807 ∧ tx.size ≤ 9223372036854775807) (hnt : nameOK nm = true ∧ textOK tx = true) (hf : fnd its nm < 0) (hk : kd = 1) : AW Try.prog 88 (cAt Try.f89 [2, 2, 2, 1, 2, 5, 7]) (mk [(4, .rf 48000 []), (12, .c (.sl true 3 (ents l))), (13, .c (.sc (.int .i64 (l.length : Int)))), (14, .c (.sc (.int .i64 (i : Int))))] [(48000, .sv (.sl false 3 (itms its)))]) (RepQ l its i) := by
  have e1 : wrap64 ((i : Int) + 1) = ((i + 1 : Nat) : Int) := by rw [w64 (by omega) (by omega)]; omega
  have hge : l[i]?.getD default = ⟨kd, nm, tx⟩ := by rw [List.getElem?_eq_getElem hl, Option.getD_some, he]
  have cn := c_impl_isName nm hw.1
  have ct := c_impl_isText tx hw.2
  have cf := c_slices_IndexFunc_item its 114 [.sc (.int .i64 kd), .sc (.string nm), .sc (.string tx)] (fun x => decide (x.nm.toList = nm.toList)) (by omega) (by simp) (fun x => c_impl_replayed_1 x kd nm tx)
  rw [show idx (fun x : Itm => decide (x.nm.toList = nm.toList)) its = fnd its nm from rfl] at cf
  have b1 : (its.length + 1) * 40 ≤ 140737488355328 := by omega
  have b2 : its.length + 1 ≤ 4611686018427387904 := by omega
  have hn : playE its (l[i]?.getD default) = some (its ++ [⟨nm, tx, false⟩]) := by rw [hge, play_new hnt hf, if_pos hk]
  obtain ⟨hN, hT⟩ := hnt
  rw [hN] at cn
  rw [hT] at ct
  obtain ⟨z, hz⟩ : ∃ z : Int, fnd its nm = z := ⟨_, rfl⟩
  rw [hz] at cf
  have hz0 : z < 0 := by omega
  clear hz hf
  subst hk
  replace hn : Hd _ := hn
  clear hge hw
  repeat' (first | with_reducible refine OutOK.done ?_ | refine thenQ_n ?_ | refine thenQ_r ?_ | refine thenQ_e ?_ | refine AW.seq ?_ | refine AW.dreg tok mixed [10, 11]  [(0, false), (1, false), (2, false), (3, false), (4, false), (5, false), (6, false), (7, false), (9, false), (8, false), (10, true), (11, true), (12, false), (13, false)] (by decide +kernel) rfl (by simp [*]; rfl) ?_ | refine AW.reg tok (by simp [*]; rfl) ?_ | refine AW.ifB (by simp [*]; rfl) ?_ | refine IfG.t ?_ | refine IfG.f ?_ | (refine IfG.p (fun hg => ?_) (fun hg => ?_) <;> (try (have hg' := hg; simp at hg'))) | (refine IfG.n (fun hg => ?_) (fun hg => ?_) <;> (try (have hg' := hg; simp at hg'))) | (refine OutOK.gateP (fun hg => ?_) (fun hg => ?_) <;> (try (have hg' := hg; simp at hg'))) | (refine OutOK.gateN (fun hg => ?_) (fun hg => ?_) <;> (try (have hg' := hg; simp at hg'))) | (refine IfG.g (fun hg => ?_) (fun hg => ?_) <;> (try (have hg' := hg; simp at hg'))) | (refine OutOK.gate (fun hg => ?_) (fun hg => ?_) <;> (try (have hg' := hg; simp at hg'))) | (refine OutOK.callF [] (by simp [*]; rfl) (by simp [*]; rfl) (by simp [*]; rfl) hb111 (by apply cn <;> first | assumption | exact Hd.out (by assumption) | ((try (clear e0)); (try (clear e1)); (try (clear e2)); (try (clear e3)); (try (clear e4)); (try (clear e5)); (try (clear e6)); (try (clear e7)); (try (clear e8)); (try (clear e9)); (try (clear e10)); (try (clear e11)); omega)) ⟨by simp [*], by simp [*], by simp [*], by simp [*], by simp [*]⟩ (by simp [*]) (by simp [*]; rfl) ?_) | (refine OutOK.callF [] (by simp [*]; rfl) (by simp [*]; rfl) (by simp [*]; rfl) hb113 (by apply ct <;> first | assumption | exact Hd.out (by assumption) | ((try (clear e0)); (try (clear e1)); (try (clear e2)); (try (clear e3)); (try (clear e4)); (try (clear e5)); (try (clear e6)); (try (clear e7)); (try (clear e8)); (try (clear e9)); (try (clear e10)); (try (clear e11)); omega)) ⟨by simp [*], by simp [*], by simp [*], by simp [*], by simp [*]⟩ (by simp [*]) (by simp [*]; rfl) ?_) | (refine OutOK.callF [] (by simp [*]; rfl) (by simp [*]; rfl) (by simp [*]; rfl) hb93 (by apply cf <;> first | assumption | exact Hd.out (by assumption) | ((try (clear e0)); (try (clear e1)); (try (clear e2)); (try (clear e3)); (try (clear e4)); (try (clear e5)); (try (clear e6)); (try (clear e7)); (try (clear e8)); (try (clear e9)); (try (clear e10)); (try (clear e11)); omega)) ⟨by simp [*], by simp [*], by simp [*], by simp [*], by simp [*]⟩ (by simp [*]) (by simp [*]; rfl) ?_) | refine OutOK.run (by simp [*]; rfl) ?_ | refine AW.ret ?_ | refine AW.skip ?_ | refine AW.exit ?_ | refine fin_r ?_ | refine fin_n ?_ | refine AW.block ?_ | refine blockQ_n ?_ | refine blockQ_r ?_ | refine blockQ_e ?_ | refine blockQ_o rfl ?_)
  exact .inr ⟨rfl, its ++ [⟨nm, tx, false⟩], hn.out, by simp, ⟨by simp, by simp, by simp⟩⟩
theorem s_rep_1n (l : List Ent) (its : List Itm) (i : Nat) (kd : Int) (nm tx : ByteArray) (hl : i < l.length) (he : l[i] = ⟨kd, nm, tx⟩) (h40 : l.length ≤ 40) (hil : its.length ≤ 40) (hw : nm.size ≤ 9223372036854775807 ∧ tx.size ≤ 9223372036854775807) (hnt : nameOK nm = true ∧ textOK tx = true) (hf : fnd its nm < 0) (hk : ¬ kd = 1) : AW Try.prog 88 (cAt Try.f89 [2, 2, 2, 1, 2, 5, 7]) (mk [(4, .rf 48000 []), (12, .c (.sl true 3 (ents l))), (13, .c (.sc (.int .i64 (l.length : Int)))), (14, .c (.sc (.int .i64 (i : Int))))] [(48000, .sv (.sl false 3 (itms its)))]) (RepQ l its i) := by
  have e1 : wrap64 ((i : Int) + 1) = ((i + 1 : Nat) : Int) := by rw [w64 (by omega) (by omega)]; omega
  have hge : l[i]?.getD default = ⟨kd, nm, tx⟩ := by rw [List.getElem?_eq_getElem hl, Option.getD_some, he]
  have cn := c_impl_isName nm hw.1
  have ct := c_impl_isText tx hw.2
  have cf := c_slices_IndexFunc_item its 114 [.sc (.int .i64 kd), .sc (.string nm), .sc (.string tx)] (fun x => decide (x.nm.toList = nm.toList)) (by omega) (by simp) (fun x => c_impl_replayed_1 x kd nm tx)
  rw [show idx (fun x : Itm => decide (x.nm.toList = nm.toList)) its = fnd its nm from rfl] at cf
  have b1 : (its.length + 1) * 40 ≤ 140737488355328 := by omega
  have b2 : its.length + 1 ≤ 4611686018427387904 := by omega
  have hn : playE its (l[i]?.getD default) = none := by rw [hge, play_new hnt hf, if_neg hk]
  obtain ⟨hN, hT⟩ := hnt
  rw [hN] at cn
  rw [hT] at ct
  obtain ⟨z, hz⟩ : ∃ z : Int, fnd its nm = z := ⟨_, rfl⟩
  rw [hz] at cf
  have hz0 : z < 0 := by omega
  clear hz hf
  replace hn : Hd _ := hn
  clear hge hw
  repeat' (first | with_reducible refine OutOK.done ?_ | refine thenQ_n ?_ | refine thenQ_r ?_ | refine thenQ_e ?_ | refine AW.seq ?_ | refine AW.dreg tok mixed [10, 11]  [(0, false), (1, false), (2, false), (3, false), (4, false), (5, false), (6, false), (7, false), (9, false), (8, false), (10, true), (11, true), (12, false), (13, false)] (by decide +kernel) rfl (by simp [*]; rfl) ?_ | refine AW.reg tok (by simp [*]; rfl) ?_ | refine AW.ifB (by simp [*]; rfl) ?_ | refine IfG.t ?_ | refine IfG.f ?_ | (refine IfG.p (fun hg => ?_) (fun hg => ?_) <;> (try (have hg' := hg; simp at hg'))) | (refine IfG.n (fun hg => ?_) (fun hg => ?_) <;> (try (have hg' := hg; simp at hg'))) | (refine OutOK.gateP (fun hg => ?_) (fun hg => ?_) <;> (try (have hg' := hg; simp at hg'))) | (refine OutOK.gateN (fun hg => ?_) (fun hg => ?_) <;> (try (have hg' := hg; simp at hg'))) | (refine IfG.g (fun hg => ?_) (fun hg => ?_) <;> (try (have hg' := hg; simp at hg'))) | (refine OutOK.gate (fun hg => ?_) (fun hg => ?_) <;> (try (have hg' := hg; simp at hg'))) | (refine OutOK.callF [] (by simp [*]; rfl) (by simp [*]; rfl) (by simp [*]; rfl) hb111 (by apply cn <;> first | assumption | exact Hd.out (by assumption) | ((try (clear e0)); (try (clear e1)); (try (clear e2)); (try (clear e3)); (try (clear e4)); (try (clear e5)); (try (clear e6)); (try (clear e7)); (try (clear e8)); (try (clear e9)); (try (clear e10)); (try (clear e11)); omega)) ⟨by simp [*], by simp [*], by simp [*], by simp [*], by simp [*]⟩ (by simp [*]) (by simp [*]; rfl) ?_) | (refine OutOK.callF [] (by simp [*]; rfl) (by simp [*]; rfl) (by simp [*]; rfl) hb113 (by apply ct <;> first | assumption | exact Hd.out (by assumption) | ((try (clear e0)); (try (clear e1)); (try (clear e2)); (try (clear e3)); (try (clear e4)); (try (clear e5)); (try (clear e6)); (try (clear e7)); (try (clear e8)); (try (clear e9)); (try (clear e10)); (try (clear e11)); omega)) ⟨by simp [*], by simp [*], by simp [*], by simp [*], by simp [*]⟩ (by simp [*]) (by simp [*]; rfl) ?_) | (refine OutOK.callF [] (by simp [*]; rfl) (by simp [*]; rfl) (by simp [*]; rfl) hb93 (by apply cf <;> first | assumption | exact Hd.out (by assumption) | ((try (clear e0)); (try (clear e1)); (try (clear e2)); (try (clear e3)); (try (clear e4)); (try (clear e5)); (try (clear e6)); (try (clear e7)); (try (clear e8)); (try (clear e9)); (try (clear e10)); (try (clear e11)); omega)) ⟨by simp [*], by simp [*], by simp [*], by simp [*], by simp [*]⟩ (by simp [*]) (by simp [*]; rfl) ?_) | refine OutOK.run (by simp [*]; rfl) ?_ | refine AW.ret ?_ | refine AW.skip ?_ | refine AW.exit ?_ | refine fin_r ?_ | refine fin_n ?_ | refine AW.block ?_ | refine blockQ_n ?_ | refine blockQ_r ?_ | refine blockQ_e ?_ | refine blockQ_o rfl ?_)
  exact .inl ⟨rfl, hn.out, by simp [Try.f89]⟩
theorem s_rep_o (l : List Ent) (its : List Itm) (i : Nat) (kd : Int) (nm tx : ByteArray) (hl : i < l.length) (he : l[i] = ⟨kd, nm, tx⟩) (h40 : l.length ≤ 40) (hil : its.length ≤ 40) (hw : nm.size ≤ 9223372036854775807 ∧ tx.size ≤ 9223372036854775807) (hnt : nameOK nm = true ∧ textOK tx = true) (k : Nat) (hf : fnd its nm = (k : Int)) (hkl : k < its.length) (hk : kd = 1) : AW Try.prog 88 (cAt Try.f89 [2, 2, 2, 1, 2, 5, 7]) (mk [(4, .rf 48000 []), (12, .c (.sl true 3 (ents l))), (13, .c (.sc (.int .i64 (l.length : Int)))), (14, .c (.sc (.int .i64 (i : Int))))] [(48000, .sv (.sl false 3 (itms its)))]) (RepQ l its i) := by
  have e1 : wrap64 ((i : Int) + 1) = ((i + 1 : Nat) : Int) := by rw [w64 (by omega) (by omega)]; omega
  have hge : l[i]?.getD default = ⟨kd, nm, tx⟩ := by rw [List.getElem?_eq_getElem hl, Option.getD_some, he]
  have cn := c_impl_isName nm hw.1
  have ct := c_impl_isText tx hw.2
  have cf := c_slices_IndexFunc_item its 114 [.sc (.int .i64 kd), .sc (.string nm), .sc (.string tx)] (fun x => decide (x.nm.toList = nm.toList)) (by omega) (by simp) (fun x => c_impl_replayed_1 x kd nm tx)
  rw [show idx (fun x : Itm => decide (x.nm.toList = nm.toList)) its = fnd its nm from rfl] at cf
  have b1 : (its.length + 1) * 40 ≤ 140737488355328 := by omega
  have b2 : its.length + 1 ≤ 4611686018427387904 := by omega
  have hn : playE its (l[i]?.getD default) = none := by rw [hge, play_at hnt hf hkl]; simp [hk]
  obtain ⟨hN, hT⟩ := hnt
  rw [hN] at cn
  rw [hT] at ct
  rw [hf] at cf
  have hz0 : ¬ (k : Int) < 0 := by omega
  clear hf
  subst hk
  replace hn : Hd _ := hn
  clear hge hw
  repeat' (first | with_reducible refine OutOK.done ?_ | refine thenQ_n ?_ | refine thenQ_r ?_ | refine thenQ_e ?_ | refine AW.seq ?_ | refine AW.dreg tok mixed [10, 11]  [(0, false), (1, false), (2, false), (3, false), (4, false), (5, false), (6, false), (7, false), (9, false), (8, false), (10, true), (11, true), (12, false), (13, false)] (by decide +kernel) rfl (by simp [*]; rfl) ?_ | refine AW.reg tok (by simp [*]; rfl) ?_ | refine AW.ifB (by simp [*]; rfl) ?_ | refine IfG.t ?_ | refine IfG.f ?_ | (refine IfG.p (fun hg => ?_) (fun hg => ?_) <;> (try (have hg' := hg; simp at hg'))) | (refine IfG.n (fun hg => ?_) (fun hg => ?_) <;> (try (have hg' := hg; simp at hg'))) | (refine OutOK.gateP (fun hg => ?_) (fun hg => ?_) <;> (try (have hg' := hg; simp at hg'))) | (refine OutOK.gateN (fun hg => ?_) (fun hg => ?_) <;> (try (have hg' := hg; simp at hg'))) | (refine IfG.g (fun hg => ?_) (fun hg => ?_) <;> (try (have hg' := hg; simp at hg'))) | (refine OutOK.gate (fun hg => ?_) (fun hg => ?_) <;> (try (have hg' := hg; simp at hg'))) | (refine OutOK.callF [] (by simp [*]; rfl) (by simp [*]; rfl) (by simp [*]; rfl) hb111 (by apply cn <;> first | assumption | exact Hd.out (by assumption) | ((try (clear e0)); (try (clear e1)); (try (clear e2)); (try (clear e3)); (try (clear e4)); (try (clear e5)); (try (clear e6)); (try (clear e7)); (try (clear e8)); (try (clear e9)); (try (clear e10)); (try (clear e11)); omega)) ⟨by simp [*], by simp [*], by simp [*], by simp [*], by simp [*]⟩ (by simp [*]) (by simp [*]; rfl) ?_) | (refine OutOK.callF [] (by simp [*]; rfl) (by simp [*]; rfl) (by simp [*]; rfl) hb113 (by apply ct <;> first | assumption | exact Hd.out (by assumption) | ((try (clear e0)); (try (clear e1)); (try (clear e2)); (try (clear e3)); (try (clear e4)); (try (clear e5)); (try (clear e6)); (try (clear e7)); (try (clear e8)); (try (clear e9)); (try (clear e10)); (try (clear e11)); omega)) ⟨by simp [*], by simp [*], by simp [*], by simp [*], by simp [*]⟩ (by simp [*]) (by simp [*]; rfl) ?_) | (refine OutOK.callF [] (by simp [*]; rfl) (by simp [*]; rfl) (by simp [*]; rfl) hb93 (by apply cf <;> first | assumption | exact Hd.out (by assumption) | ((try (clear e0)); (try (clear e1)); (try (clear e2)); (try (clear e3)); (try (clear e4)); (try (clear e5)); (try (clear e6)); (try (clear e7)); (try (clear e8)); (try (clear e9)); (try (clear e10)); (try (clear e11)); omega)) ⟨by simp [*], by simp [*], by simp [*], by simp [*], by simp [*]⟩ (by simp [*]) (by simp [*]; rfl) ?_) | refine OutOK.run (by simp [*]; rfl) ?_ | refine AW.ret ?_ | refine AW.skip ?_ | refine AW.exit ?_ | refine fin_r ?_ | refine fin_n ?_ | refine AW.block ?_ | refine blockQ_n ?_ | refine blockQ_r ?_ | refine blockQ_e ?_ | refine blockQ_o rfl ?_)
  exact .inl ⟨rfl, hn.out, by simp [Try.f89]⟩
theorem s_rep_2n (l : List Ent) (its : List Itm) (i : Nat) (kd : Int) (nm tx : ByteArray) (hl : i < l.length) (he : l[i] = ⟨kd, nm, tx⟩) (h40 : l.length ≤ 40) (hil : its.length ≤ 40) (hw : nm.size ≤ 9223372036854775807 ∧ tx.size ≤ 9223372036854775807) (hnt : nameOK nm = true ∧ textOK tx = true) (k : Nat) (hf : fnd its nm = (k : Int)) (hkl : k < its.length) (hk : kd = 2) (hv : its[k].vd = true) : AW Try.prog 88 (cAt Try.f89 [2, 2, 2, 1, 2, 5, 7]) (mk [(4, .rf 48000 []), (12, .c (.sl true 3 (ents l))), (13, .c (.sc (.int .i64 (l.length : Int)))), (14, .c (.sc (.int .i64 (i : Int))))] [(48000, .sv (.sl false 3 (itms its)))]) (RepQ l its i) := by
  have e1 : wrap64 ((i : Int) + 1) = ((i + 1 : Nat) : Int) := by rw [w64 (by omega) (by omega)]; omega
  have hge : l[i]?.getD default = ⟨kd, nm, tx⟩ := by rw [List.getElem?_eq_getElem hl, Option.getD_some, he]
  have cn := c_impl_isName nm hw.1
  have ct := c_impl_isText tx hw.2
  have cf := c_slices_IndexFunc_item its 114 [.sc (.int .i64 kd), .sc (.string nm), .sc (.string tx)] (fun x => decide (x.nm.toList = nm.toList)) (by omega) (by simp) (fun x => c_impl_replayed_1 x kd nm tx)
  rw [show idx (fun x : Itm => decide (x.nm.toList = nm.toList)) its = fnd its nm from rfl] at cf
  have b1 : (its.length + 1) * 40 ≤ 140737488355328 := by omega
  have b2 : its.length + 1 ≤ 4611686018427387904 := by omega
  have hn : playE its (l[i]?.getD default) = none := by rw [hge, play_at hnt hf hkl]; simp [hk, hv]
  obtain ⟨hN, hT⟩ := hnt
  rw [hN] at cn
  rw [hT] at ct
  rw [hf] at cf
  have hz0 : ¬ (k : Int) < 0 := by omega
  clear hf
  subst hk
  replace hn : Hd _ := hn
  clear hge hw
  repeat' (first | with_reducible refine OutOK.done ?_ | refine thenQ_n ?_ | refine thenQ_r ?_ | refine thenQ_e ?_ | refine AW.seq ?_ | refine AW.dreg tok mixed [10, 11]  [(0, false), (1, false), (2, false), (3, false), (4, false), (5, false), (6, false), (7, false), (9, false), (8, false), (10, true), (11, true), (12, false), (13, false)] (by decide +kernel) rfl (by simp [*]; rfl) ?_ | refine AW.reg tok (by simp [*]; rfl) ?_ | refine AW.ifB (by simp [*]; rfl) ?_ | refine IfG.t ?_ | refine IfG.f ?_ | (refine IfG.p (fun hg => ?_) (fun hg => ?_) <;> (try (have hg' := hg; simp at hg'))) | (refine IfG.n (fun hg => ?_) (fun hg => ?_) <;> (try (have hg' := hg; simp at hg'))) | (refine OutOK.gateP (fun hg => ?_) (fun hg => ?_) <;> (try (have hg' := hg; simp at hg'))) | (refine OutOK.gateN (fun hg => ?_) (fun hg => ?_) <;> (try (have hg' := hg; simp at hg'))) | (refine IfG.g (fun hg => ?_) (fun hg => ?_) <;> (try (have hg' := hg; simp at hg'))) | (refine OutOK.gate (fun hg => ?_) (fun hg => ?_) <;> (try (have hg' := hg; simp at hg'))) | (refine OutOK.callF [] (by simp [*]; rfl) (by simp [*]; rfl) (by simp [*]; rfl) hb111 (by apply cn <;> first | assumption | exact Hd.out (by assumption) | ((try (clear e0)); (try (clear e1)); (try (clear e2)); (try (clear e3)); (try (clear e4)); (try (clear e5)); (try (clear e6)); (try (clear e7)); (try (clear e8)); (try (clear e9)); (try (clear e10)); (try (clear e11)); omega)) ⟨by simp [*], by simp [*], by simp [*], by simp [*], by simp [*]⟩ (by simp [*]) (by simp [*]; rfl) ?_) | (refine OutOK.callF [] (by simp [*]; rfl) (by simp [*]; rfl) (by simp [*]; rfl) hb113 (by apply ct <;> first | assumption | exact Hd.out (by assumption) | ((try (clear e0)); (try (clear e1)); (try (clear e2)); (try (clear e3)); (try (clear e4)); (try (clear e5)); (try (clear e6)); (try (clear e7)); (try (clear e8)); (try (clear e9)); (try (clear e10)); (try (clear e11)); omega)) ⟨by simp [*], by simp [*], by simp [*], by simp [*], by simp [*]⟩ (by simp [*]) (by simp [*]; rfl) ?_) | (refine OutOK.callF [] (by simp [*]; rfl) (by simp [*]; rfl) (by simp [*]; rfl) hb93 (by apply cf <;> first | assumption | exact Hd.out (by assumption) | ((try (clear e0)); (try (clear e1)); (try (clear e2)); (try (clear e3)); (try (clear e4)); (try (clear e5)); (try (clear e6)); (try (clear e7)); (try (clear e8)); (try (clear e9)); (try (clear e10)); (try (clear e11)); omega)) ⟨by simp [*], by simp [*], by simp [*], by simp [*], by simp [*]⟩ (by simp [*]) (by simp [*]; rfl) ?_) | refine OutOK.run (by simp [*]; rfl) ?_ | refine AW.ret ?_ | refine AW.skip ?_ | refine AW.exit ?_ | refine fin_r ?_ | refine fin_n ?_ | refine AW.block ?_ | refine blockQ_n ?_ | refine blockQ_r ?_ | refine blockQ_e ?_ | refine blockQ_o rfl ?_)
  exact .inl ⟨rfl, hn.out, by simp [Try.f89]⟩
theorem s_rep_2 (l : List Ent) (its : List Itm) (i : Nat) (kd : Int) (nm tx : ByteArray) (hl : i < l.length) (he : l[i] = ⟨kd, nm, tx⟩) (h40 : l.length ≤ 40) (hil : its.length ≤ 40) (hw : nm.size ≤ 9223372036854775807 ∧ tx.size ≤ 9223372036854775807) (hnt : nameOK nm = true ∧ textOK tx = true) (k : Nat) (hf : fnd its nm = (k : Int)) (hkl : k < its.length) (hk : kd = 2) (hv : its[k].vd = false) : AW Try.prog 88 (cAt Try.f89 [2, 2, 2, 1, 2, 5, 7]) (mk [(4, .rf 48000 []), (12, .c (.sl true 3 (ents l))), (13, .c (.sc (.int .i64 (l.length : Int)))), (14, .c (.sc (.int .i64 (i : Int))))] [(48000, .sv (.sl false 3 (itms its)))]) (RepQ l its i) := by
  have e1 : wrap64 ((i : Int) + 1) = ((i + 1 : Nat) : Int) := by rw [w64 (by omega) (by omega)]; omega
  have hge : l[i]?.getD default = ⟨kd, nm, tx⟩ := by rw [List.getElem?_eq_getElem hl, Option.getD_some, he]
  have cn := c_impl_isName nm hw.1
  have ct := c_impl_isText tx hw.2
  have cf := c_slices_IndexFunc_item its 114 [.sc (.int .i64 kd), .sc (.string nm), .sc (.string tx)] (fun x => decide (x.nm.toList = nm.toList)) (by omega) (by simp) (fun x => c_impl_replayed_1 x kd nm tx)
  rw [show idx (fun x : Itm => decide (x.nm.toList = nm.toList)) its = fnd its nm from rfl] at cf
  have b1 : (its.length + 1) * 40 ≤ 140737488355328 := by omega
  have b2 : its.length + 1 ≤ 4611686018427387904 := by omega
  have hn : playE its (l[i]?.getD default) = some (its.set k ⟨its[k].nm, tx, false⟩) := by rw [hge, play_at hnt hf hkl]; simp [hk, hv]
  obtain ⟨hN, hT⟩ := hnt
  rw [hN] at cn
  rw [hT] at ct
  rw [hf] at cf
  have hz0 : ¬ (k : Int) < 0 := by omega
  clear hf
  subst hk
  replace hn : Hd _ := hn
  clear hge hw
  repeat' (first | with_reducible refine OutOK.done ?_ | refine thenQ_n ?_ | refine thenQ_r ?_ | refine thenQ_e ?_ | refine AW.seq ?_ | refine AW.dreg tok mixed [10, 11]  [(0, false), (1, false), (2, false), (3, false), (4, false), (5, false), (6, false), (7, false), (9, false), (8, false), (10, true), (11, true), (12, false), (13, false)] (by decide +kernel) rfl (by simp [*]; rfl) ?_ | refine AW.reg tok (by simp [*]; rfl) ?_ | refine AW.ifB (by simp [*]; rfl) ?_ | refine IfG.t ?_ | refine IfG.f ?_ | (refine IfG.p (fun hg => ?_) (fun hg => ?_) <;> (try (have hg' := hg; simp at hg'))) | (refine IfG.n (fun hg => ?_) (fun hg => ?_) <;> (try (have hg' := hg; simp at hg'))) | (refine OutOK.gateP (fun hg => ?_) (fun hg => ?_) <;> (try (have hg' := hg; simp at hg'))) | (refine OutOK.gateN (fun hg => ?_) (fun hg => ?_) <;> (try (have hg' := hg; simp at hg'))) | (refine IfG.g (fun hg => ?_) (fun hg => ?_) <;> (try (have hg' := hg; simp at hg'))) | (refine OutOK.gate (fun hg => ?_) (fun hg => ?_) <;> (try (have hg' := hg; simp at hg'))) | (refine OutOK.callF [] (by simp [*]; rfl) (by simp [*]; rfl) (by simp [*]; rfl) hb111 (by apply cn <;> first | assumption | exact Hd.out (by assumption) | ((try (clear e0)); (try (clear e1)); (try (clear e2)); (try (clear e3)); (try (clear e4)); (try (clear e5)); (try (clear e6)); (try (clear e7)); (try (clear e8)); (try (clear e9)); (try (clear e10)); (try (clear e11)); omega)) ⟨by simp [*], by simp [*], by simp [*], by simp [*], by simp [*]⟩ (by simp [*]) (by simp [*]; rfl) ?_) | (refine OutOK.callF [] (by simp [*]; rfl) (by simp [*]; rfl) (by simp [*]; rfl) hb113 (by apply ct <;> first | assumption | exact Hd.out (by assumption) | ((try (clear e0)); (try (clear e1)); (try (clear e2)); (try (clear e3)); (try (clear e4)); (try (clear e5)); (try (clear e6)); (try (clear e7)); (try (clear e8)); (try (clear e9)); (try (clear e10)); (try (clear e11)); omega)) ⟨by simp [*], by simp [*], by simp [*], by simp [*], by simp [*]⟩ (by simp [*]) (by simp [*]; rfl) ?_) | (refine OutOK.callF [] (by simp [*]; rfl) (by simp [*]; rfl) (by simp [*]; rfl) hb93 (by apply cf <;> first | assumption | exact Hd.out (by assumption) | ((try (clear e0)); (try (clear e1)); (try (clear e2)); (try (clear e3)); (try (clear e4)); (try (clear e5)); (try (clear e6)); (try (clear e7)); (try (clear e8)); (try (clear e9)); (try (clear e10)); (try (clear e11)); omega)) ⟨by simp [*], by simp [*], by simp [*], by simp [*], by simp [*]⟩ (by simp [*]) (by simp [*]; rfl) ?_) | refine OutOK.run (by simp [*]; rfl) ?_ | refine AW.ret ?_ | refine AW.skip ?_ | refine AW.exit ?_ | refine fin_r ?_ | refine fin_n ?_ | refine AW.block ?_ | refine blockQ_n ?_ | refine blockQ_r ?_ | refine blockQ_e ?_ | refine blockQ_o rfl ?_)
  exact .inr ⟨rfl, its.set k ⟨its[k].nm, tx, false⟩, hn.out, by simp, ⟨by simp, by simp, by simp⟩⟩
theorem s_rep_3t (l : List Ent) (its : List Itm) (i : Nat) (kd : Int) (nm tx : ByteArray) (hl : i < l.length) (he : l[i] = ⟨kd, nm, tx⟩) (h40 : l.length ≤ 40) (hil : its.length ≤ 40) (hw : nm.size ≤ 9223372036854775807 ∧ tx.size ≤ 9223372036854775807) (hnt : nameOK nm = true ∧ textOK tx = true) (k : Nat) (hf : fnd its nm = (k : Int)) (hkl : k < its.length) (hk : kd = 3 ∨ kd = 4) (hx : ¬ tx.toList = []) : AW Try.prog 88 (cAt Try.f89 [2, 2, 2, 1, 2, 5, 7]) (mk [(4, .rf 48000 []), (12, .c (.sl true 3 (ents l))), (13, .c (.sc (.int .i64 (l.length : Int)))), (14, .c (.sc (.int .i64 (i : Int))))] [(48000, .sv (.sl false 3 (itms its)))]) (RepQ l its i) := by
  have e1 : wrap64 ((i : Int) + 1) = ((i + 1 : Nat) : Int) := by rw [w64 (by omega) (by omega)]; omega
  have hge : l[i]?.getD default = ⟨kd, nm, tx⟩ := by rw [List.getElem?_eq_getElem hl, Option.getD_some, he]
  have cn := c_impl_isName nm hw.1
  have ct := c_impl_isText tx hw.2
  have cf := c_slices_IndexFunc_item its 114 [.sc (.int .i64 kd), .sc (.string nm), .sc (.string tx)] (fun x => decide (x.nm.toList = nm.toList)) (by omega) (by simp) (fun x => c_impl_replayed_1 x kd nm tx)
  rw [show idx (fun x : Itm => decide (x.nm.toList = nm.toList)) its = fnd its nm from rfl] at cf
  have b1 : (its.length + 1) * 40 ≤ 140737488355328 := by omega
  have b2 : its.length + 1 ≤ 4611686018427387904 := by omega
  have hn : playE its (l[i]?.getD default) = none := by rw [hge, play_at hnt hf hkl]; rcases hk with hk | hk <;> simp [hk, hx]
  obtain ⟨hN, hT⟩ := hnt
  rw [hN] at cn
  rw [hT] at ct
  rw [hf] at cf
  have hz0 : ¬ (k : Int) < 0 := by omega
  clear hf
  replace hn : Hd _ := hn
  clear hge hw
  rcases hk with rfl | rfl
  all_goals
    repeat' (first | with_reducible refine OutOK.done ?_ | refine thenQ_n ?_ | refine thenQ_r ?_ | refine thenQ_e ?_ | refine AW.seq ?_ | refine AW.dreg tok mixed [10, 11]  [(0, false), (1, false), (2, false), (3, false), (4, false), (5, false), (6, false), (7, false), (9, false), (8, false), (10, true), (11, true), (12, false), (13, false)] (by decide +kernel) rfl (by simp [*]; rfl) ?_ | refine AW.reg tok (by simp [*]; rfl) ?_ | refine AW.ifB (by simp [*]; rfl) ?_ | refine IfG.t ?_ | refine IfG.f ?_ | (refine IfG.p (fun hg => ?_) (fun hg => ?_) <;> (try (have hg' := hg; simp at hg'))) | (refine IfG.n (fun hg => ?_) (fun hg => ?_) <;> (try (have hg' := hg; simp at hg'))) | (refine OutOK.gateP (fun hg => ?_) (fun hg => ?_) <;> (try (have hg' := hg; simp at hg'))) | (refine OutOK.gateN (fun hg => ?_) (fun hg => ?_) <;> (try (have hg' := hg; simp at hg'))) | (refine IfG.g (fun hg => ?_) (fun hg => ?_) <;> (try (have hg' := hg; simp at hg'))) | (refine OutOK.gate (fun hg => ?_) (fun hg => ?_) <;> (try (have hg' := hg; simp at hg'))) | (refine OutOK.callF [] (by simp [*]; rfl) (by simp [*]; rfl) (by simp [*]; rfl) hb111 (by apply cn <;> first | assumption | exact Hd.out (by assumption) | ((try (clear e0)); (try (clear e1)); (try (clear e2)); (try (clear e3)); (try (clear e4)); (try (clear e5)); (try (clear e6)); (try (clear e7)); (try (clear e8)); (try (clear e9)); (try (clear e10)); (try (clear e11)); omega)) ⟨by simp [*], by simp [*], by simp [*], by simp [*], by simp [*]⟩ (by simp [*]) (by simp [*]; rfl) ?_) | (refine OutOK.callF [] (by simp [*]; rfl) (by simp [*]; rfl) (by simp [*]; rfl) hb113 (by apply ct <;> first | assumption | exact Hd.out (by assumption) | ((try (clear e0)); (try (clear e1)); (try (clear e2)); (try (clear e3)); (try (clear e4)); (try (clear e5)); (try (clear e6)); (try (clear e7)); (try (clear e8)); (try (clear e9)); (try (clear e10)); (try (clear e11)); omega)) ⟨by simp [*], by simp [*], by simp [*], by simp [*], by simp [*]⟩ (by simp [*]) (by simp [*]; rfl) ?_) | (refine OutOK.callF [] (by simp [*]; rfl) (by simp [*]; rfl) (by simp [*]; rfl) hb93 (by apply cf <;> first | assumption | exact Hd.out (by assumption) | ((try (clear e0)); (try (clear e1)); (try (clear e2)); (try (clear e3)); (try (clear e4)); (try (clear e5)); (try (clear e6)); (try (clear e7)); (try (clear e8)); (try (clear e9)); (try (clear e10)); (try (clear e11)); omega)) ⟨by simp [*], by simp [*], by simp [*], by simp [*], by simp [*]⟩ (by simp [*]) (by simp [*]; rfl) ?_) | refine OutOK.run (by simp [*]; rfl) ?_ | refine AW.ret ?_ | refine AW.skip ?_ | refine AW.exit ?_ | refine fin_r ?_ | refine fin_n ?_ | refine AW.block ?_ | refine blockQ_n ?_ | refine blockQ_r ?_ | refine blockQ_e ?_ | refine blockQ_o rfl ?_)
    exact .inl ⟨rfl, hn.out, by simp [Try.f89]⟩
theorem s_rep_3n (l : List Ent) (its : List Itm) (i : Nat) (kd : Int) (nm tx : ByteArray) (hl : i < l.length) (he : l[i] = ⟨kd, nm, tx⟩) (h40 : l.length ≤ 40) (hil : its.length ≤ 40) (hw : nm.size ≤ 9223372036854775807 ∧ tx.size ≤ 9223372036854775807) (hnt : nameOK nm = true ∧ textOK tx = true) (k : Nat) (hf : fnd its nm = (k : Int)) (hkl : k < its.length) (hk : kd = 3) (hx : tx.toList = []) (hv : its[k].vd = true) : AW Try.prog 88 (cAt Try.f89 [2, 2, 2, 1, 2, 5, 7]) (mk [(4, .rf 48000 []), (12, .c (.sl true 3 (ents l))), (13, .c (.sc (.int .i64 (l.length : Int)))), (14, .c (.sc (.int .i64 (i : Int))))] [(48000, .sv (.sl false 3 (itms its)))]) (RepQ l its i) := by
  have e1 : wrap64 ((i : Int) + 1) = ((i + 1 : Nat) : Int) := by rw [w64 (by omega) (by omega)]; omega
  have hge : l[i]?.getD default = ⟨kd, nm, tx⟩ := by rw [List.getElem?_eq_getElem hl, Option.getD_some, he]
  have cn := c_impl_isName nm hw.1
  have ct := c_impl_isText tx hw.2
  have cf := c_slices_IndexFunc_item its 114 [.sc (.int .i64 kd), .sc (.string nm), .sc (.string tx)] (fun x => decide (x.nm.toList = nm.toList)) (by omega) (by simp) (fun x => c_impl_replayed_1 x kd nm tx)
  rw [show idx (fun x : Itm => decide (x.nm.toList = nm.toList)) its = fnd its nm from rfl] at cf
  have b1 : (its.length + 1) * 40 ≤ 140737488355328 := by omega
  have b2 : its.length + 1 ≤ 4611686018427387904 := by omega
  have hn : playE its (l[i]?.getD default) = none := by rw [hge, play_at hnt hf hkl]; simp [hk, hv, hx]
  obtain ⟨hN, hT⟩ := hnt
  rw [hN] at cn
  rw [hT] at ct
  rw [hf] at cf
  have hz0 : ¬ (k : Int) < 0 := by omega
  clear hf
  subst hk
  replace hn : Hd _ := hn
  clear hge hw
  repeat' (first | with_reducible refine OutOK.done ?_ | refine thenQ_n ?_ | refine thenQ_r ?_ | refine thenQ_e ?_ | refine AW.seq ?_ | refine AW.dreg tok mixed [10, 11]  [(0, false), (1, false), (2, false), (3, false), (4, false), (5, false), (6, false), (7, false), (9, false), (8, false), (10, true), (11, true), (12, false), (13, false)] (by decide +kernel) rfl (by simp [*]; rfl) ?_ | refine AW.reg tok (by simp [*]; rfl) ?_ | refine AW.ifB (by simp [*]; rfl) ?_ | refine IfG.t ?_ | refine IfG.f ?_ | (refine IfG.p (fun hg => ?_) (fun hg => ?_) <;> (try (have hg' := hg; simp at hg'))) | (refine IfG.n (fun hg => ?_) (fun hg => ?_) <;> (try (have hg' := hg; simp at hg'))) | (refine OutOK.gateP (fun hg => ?_) (fun hg => ?_) <;> (try (have hg' := hg; simp at hg'))) | (refine OutOK.gateN (fun hg => ?_) (fun hg => ?_) <;> (try (have hg' := hg; simp at hg'))) | (refine IfG.g (fun hg => ?_) (fun hg => ?_) <;> (try (have hg' := hg; simp at hg'))) | (refine OutOK.gate (fun hg => ?_) (fun hg => ?_) <;> (try (have hg' := hg; simp at hg'))) | (refine OutOK.callF [] (by simp [*]; rfl) (by simp [*]; rfl) (by simp [*]; rfl) hb111 (by apply cn <;> first | assumption | exact Hd.out (by assumption) | ((try (clear e0)); (try (clear e1)); (try (clear e2)); (try (clear e3)); (try (clear e4)); (try (clear e5)); (try (clear e6)); (try (clear e7)); (try (clear e8)); (try (clear e9)); (try (clear e10)); (try (clear e11)); omega)) ⟨by simp [*], by simp [*], by simp [*], by simp [*], by simp [*]⟩ (by simp [*]) (by simp [*]; rfl) ?_) | (refine OutOK.callF [] (by simp [*]; rfl) (by simp [*]; rfl) (by simp [*]; rfl) hb113 (by apply ct <;> first | assumption | exact Hd.out (by assumption) | ((try (clear e0)); (try (clear e1)); (try (clear e2)); (try (clear e3)); (try (clear e4)); (try (clear e5)); (try (clear e6)); (try (clear e7)); (try (clear e8)); (try (clear e9)); (try (clear e10)); (try (clear e11)); omega)) ⟨by simp [*], by simp [*], by simp [*], by simp [*], by simp [*]⟩ (by simp [*]) (by simp [*]; rfl) ?_) | (refine OutOK.callF [] (by simp [*]; rfl) (by simp [*]; rfl) (by simp [*]; rfl) hb93 (by apply cf <;> first | assumption | exact Hd.out (by assumption) | ((try (clear e0)); (try (clear e1)); (try (clear e2)); (try (clear e3)); (try (clear e4)); (try (clear e5)); (try (clear e6)); (try (clear e7)); (try (clear e8)); (try (clear e9)); (try (clear e10)); (try (clear e11)); omega)) ⟨by simp [*], by simp [*], by simp [*], by simp [*], by simp [*]⟩ (by simp [*]) (by simp [*]; rfl) ?_) | refine OutOK.run (by simp [*]; rfl) ?_ | refine AW.ret ?_ | refine AW.skip ?_ | refine AW.exit ?_ | refine fin_r ?_ | refine fin_n ?_ | refine AW.block ?_ | refine blockQ_n ?_ | refine blockQ_r ?_ | refine blockQ_e ?_ | refine blockQ_o rfl ?_)
  exact .inl ⟨rfl, hn.out, by simp [Try.f89]⟩
theorem s_rep_3 (l : List Ent) (its : List Itm) (i : Nat) (kd : Int) (nm tx : ByteArray) (hl : i < l.length) (he : l[i] = ⟨kd, nm, tx⟩) (h40 : l.length ≤ 40) (hil : its.length ≤ 40) (hw : nm.size ≤ 9223372036854775807 ∧ tx.size ≤ 9223372036854775807) (hnt : nameOK nm = true ∧ textOK tx = true) (k : Nat) (hf : fnd its nm = (k : Int)) (hkl : k < its.length) (hk : kd = 3) (hx : tx.toList = []) (hv : its[k].vd = false) : AW Try.prog 88 (cAt Try.f89 [2, 2, 2, 1, 2, 5, 7]) (mk [(4, .rf 48000 []), (12, .c (.sl true 3 (ents l))), (13, .c (.sc (.int .i64 (l.length : Int)))), (14, .c (.sc (.int .i64 (i : Int))))] [(48000, .sv (.sl false 3 (itms its)))]) (RepQ l its i) := by
  have e1 : wrap64 ((i : Int) + 1) = ((i + 1 : Nat) : Int) := by rw [w64 (by omega) (by omega)]; omega
  have hge : l[i]?.getD default = ⟨kd, nm, tx⟩ := by rw [List.getElem?_eq_getElem hl, Option.getD_some, he]
  have cn := c_impl_isName nm hw.1
  have ct := c_impl_isText tx hw.2
  have cf := c_slices_IndexFunc_item its 114 [.sc (.int .i64 kd), .sc (.string nm), .sc (.string tx)] (fun x => decide (x.nm.toList = nm.toList)) (by omega) (by simp) (fun x => c_impl_replayed_1 x kd nm tx)
  rw [show idx (fun x : Itm => decide (x.nm.toList = nm.toList)) its = fnd its nm from rfl] at cf
  have b1 : (its.length + 1) * 40 ≤ 140737488355328 := by omega
  have b2 : its.length + 1 ≤ 4611686018427387904 := by omega
  have hn : playE its (l[i]?.getD default) = some (its.set k ⟨its[k].nm, its[k].tx, true⟩) := by rw [hge, play_at hnt hf hkl]; simp [hk, hv, hx]
  obtain ⟨hN, hT⟩ := hnt
  rw [hN] at cn
  rw [hT] at ct
  rw [hf] at cf
  have hz0 : ¬ (k : Int) < 0 := by omega
  clear hf
  subst hk
  replace hn : Hd _ := hn
  clear hge hw
  repeat' (first | with_reducible refine OutOK.done ?_ | refine thenQ_n ?_ | refine thenQ_r ?_ | refine thenQ_e ?_ | refine AW.seq ?_ | refine AW.dreg tok mixed [10, 11]  [(0, false), (1, false), (2, false), (3, false), (4, false), (5, false), (6, false), (7, false), (9, false), (8, false), (10, true), (11, true), (12, false), (13, false)] (by decide +kernel) rfl (by simp [*]; rfl) ?_ | refine AW.reg tok (by simp [*]; rfl) ?_ | refine AW.ifB (by simp [*]; rfl) ?_ | refine IfG.t ?_ | refine IfG.f ?_ | (refine IfG.p (fun hg => ?_) (fun hg => ?_) <;> (try (have hg' := hg; simp at hg'))) | (refine IfG.n (fun hg => ?_) (fun hg => ?_) <;> (try (have hg' := hg; simp at hg'))) | (refine OutOK.gateP (fun hg => ?_) (fun hg => ?_) <;> (try (have hg' := hg; simp at hg'))) | (refine OutOK.gateN (fun hg => ?_) (fun hg => ?_) <;> (try (have hg' := hg; simp at hg'))) | (refine IfG.g (fun hg => ?_) (fun hg => ?_) <;> (try (have hg' := hg; simp at hg'))) | (refine OutOK.gate (fun hg => ?_) (fun hg => ?_) <;> (try (have hg' := hg; simp at hg'))) | (refine OutOK.callF [] (by simp [*]; rfl) (by simp [*]; rfl) (by simp [*]; rfl) hb111 (by apply cn <;> first | assumption | exact Hd.out (by assumption) | ((try (clear e0)); (try (clear e1)); (try (clear e2)); (try (clear e3)); (try (clear e4)); (try (clear e5)); (try (clear e6)); (try (clear e7)); (try (clear e8)); (try (clear e9)); (try (clear e10)); (try (clear e11)); omega)) ⟨by simp [*], by simp [*], by simp [*], by simp [*], by simp [*]⟩ (by simp [*]) (by simp [*]; rfl) ?_) | (refine OutOK.callF [] (by simp [*]; rfl) (by simp [*]; rfl) (by simp [*]; rfl) hb113 (by apply ct <;> first | assumption | exact Hd.out (by assumption) | ((try (clear e0)); (try (clear e1)); (try (clear e2)); (try (clear e3)); (try (clear e4)); (try (clear e5)); (try (clear e6)); (try (clear e7)); (try (clear e8)); (try (clear e9)); (try (clear e10)); (try (clear e11)); omega)) ⟨by simp [*], by simp [*], by simp [*], by simp [*], by simp [*]⟩ (by simp [*]) (by simp [*]; rfl) ?_) | (refine OutOK.callF [] (by simp [*]; rfl) (by simp [*]; rfl) (by simp [*]; rfl) hb93 (by apply cf <;> first | assumption | exact Hd.out (by assumption) | ((try (clear e0)); (try (clear e1)); (try (clear e2)); (try (clear e3)); (try (clear e4)); (try (clear e5)); (try (clear e6)); (try (clear e7)); (try (clear e8)); (try (clear e9)); (try (clear e10)); (try (clear e11)); omega)) ⟨by simp [*], by simp [*], by simp [*], by simp [*], by simp [*]⟩ (by simp [*]) (by simp [*]; rfl) ?_) | refine OutOK.run (by simp [*]; rfl) ?_ | refine AW.ret ?_ | refine AW.skip ?_ | refine AW.exit ?_ | refine fin_r ?_ | refine fin_n ?_ | refine AW.block ?_ | refine blockQ_n ?_ | refine blockQ_r ?_ | refine blockQ_e ?_ | refine blockQ_o rfl ?_)
  exact .inr ⟨rfl, its.set k ⟨its[k].nm, its[k].tx, true⟩, hn.out, by simp, ⟨by simp, by simp, by simp⟩⟩
theorem s_rep_4n (l : List Ent) (its : List Itm) (i : Nat) (kd : Int) (nm tx : ByteArray) (hl : i < l.length) (he : l[i] = ⟨kd, nm, tx⟩) (h40 : l.length ≤ 40) (hil : its.length ≤ 40) (hw : nm.size ≤ 9223372036854775807 ∧ tx.size ≤ 9223372036854775807) (hnt : nameOK nm = true ∧ textOK tx = true) (k : Nat) (hf : fnd its nm = (k : Int)) (hkl : k < its.length) (hk : kd = 4) (hx : tx.toList = []) (hv : its[k].vd = false) : AW Try.prog 88 (cAt Try.f89 [2, 2, 2, 1, 2, 5, 7]) (mk [(4, .rf 48000 []), (12, .c (.sl true 3 (ents l))), (13, .c (.sc (.int .i64 (l.length : Int)))), (14, .c (.sc (.int .i64 (i : Int))))] [(48000, .sv (.sl false 3 (itms its)))]) (RepQ l its i) := by
  have e1 : wrap64 ((i : Int) + 1) = ((i + 1 : Nat) : Int) := by rw [w64 (by omega) (by omega)]; omega
  have hge : l[i]?.getD default = ⟨kd, nm, tx⟩ := by rw [List.getElem?_eq_getElem hl, Option.getD_some, he]
  have cn := c_impl_isName nm hw.1
  have ct := c_impl_isText tx hw.2
  have cf := c_slices_IndexFunc_item its 114 [.sc (.int .i64 kd), .sc (.string nm), .sc (.string tx)] (fun x => decide (x.nm.toList = nm.toList)) (by omega) (by simp) (fun x => c_impl_replayed_1 x kd nm tx)
  rw [show idx (fun x : Itm => decide (x.nm.toList = nm.toList)) its = fnd its nm from rfl] at cf
  have b1 : (its.length + 1) * 40 ≤ 140737488355328 := by omega
  have b2 : its.length + 1 ≤ 4611686018427387904 := by omega
  have hn : playE its (l[i]?.getD default) = none := by rw [hge, play_at hnt hf hkl]; simp [hk, hv, hx]
  obtain ⟨hN, hT⟩ := hnt
  rw [hN] at cn
  rw [hT] at ct
  rw [hf] at cf
  have hz0 : ¬ (k : Int) < 0 := by omega
  clear hf
  subst hk
  replace hn : Hd _ := hn
  clear hge hw
  repeat' (first | with_reducible refine OutOK.done ?_ | refine thenQ_n ?_ | refine thenQ_r ?_ | refine thenQ_e ?_ | refine AW.seq ?_ | refine AW.dreg tok mixed [10, 11]  [(0, false), (1, false), (2, false), (3, false), (4, false), (5, false), (6, false), (7, false), (9, false), (8, false), (10, true), (11, true), (12, false), (13, false)] (by decide +kernel) rfl (by simp [*]; rfl) ?_ | refine AW.reg tok (by simp [*]; rfl) ?_ | refine AW.ifB (by simp [*]; rfl) ?_ | refine IfG.t ?_ | refine IfG.f ?_ | (refine IfG.p (fun hg => ?_) (fun hg => ?_) <;> (try (have hg' := hg; simp at hg'))) | (refine IfG.n (fun hg => ?_) (fun hg => ?_) <;> (try (have hg' := hg; simp at hg'))) | (refine OutOK.gateP (fun hg => ?_) (fun hg => ?_) <;> (try (have hg' := hg; simp at hg'))) | (refine OutOK.gateN (fun hg => ?_) (fun hg => ?_) <;> (try (have hg' := hg; simp at hg'))) | (refine IfG.g (fun hg => ?_) (fun hg => ?_) <;> (try (have hg' := hg; simp at hg'))) | (refine OutOK.gate (fun hg => ?_) (fun hg => ?_) <;> (try (have hg' := hg; simp at hg'))) | (refine OutOK.callF [] (by simp [*]; rfl) (by simp [*]; rfl) (by simp [*]; rfl) hb111 (by apply cn <;> first | assumption | exact Hd.out (by assumption) | ((try (clear e0)); (try (clear e1)); (try (clear e2)); (try (clear e3)); (try (clear e4)); (try (clear e5)); (try (clear e6)); (try (clear e7)); (try (clear e8)); (try (clear e9)); (try (clear e10)); (try (clear e11)); omega)) ⟨by simp [*], by simp [*], by simp [*], by simp [*], by simp [*]⟩ (by simp [*]) (by simp [*]; rfl) ?_) | (refine OutOK.callF [] (by simp [*]; rfl) (by simp [*]; rfl) (by simp [*]; rfl) hb113 (by apply ct <;> first | assumption | exact Hd.out (by assumption) | ((try (clear e0)); (try (clear e1)); (try (clear e2)); (try (clear e3)); (try (clear e4)); (try (clear e5)); (try (clear e6)); (try (clear e7)); (try (clear e8)); (try (clear e9)); (try (clear e10)); (try (clear e11)); omega)) ⟨by simp [*], by simp [*], by simp [*], by simp [*], by simp [*]⟩ (by simp [*]) (by simp [*]; rfl) ?_) | (refine OutOK.callF [] (by simp [*]; rfl) (by simp [*]; rfl) (by simp [*]; rfl) hb93 (by apply cf <;> first | assumption | exact Hd.out (by assumption) | ((try (clear e0)); (try (clear e1)); (try (clear e2)); (try (clear e3)); (try (clear e4)); (try (clear e5)); (try (clear e6)); (try (clear e7)); (try (clear e8)); (try (clear e9)); (try (clear e10)); (try (clear e11)); omega)) ⟨by simp [*], by simp [*], by simp [*], by simp [*], by simp [*]⟩ (by simp [*]) (by simp [*]; rfl) ?_) | refine OutOK.run (by simp [*]; rfl) ?_ | refine AW.ret ?_ | refine AW.skip ?_ | refine AW.exit ?_ | refine fin_r ?_ | refine fin_n ?_ | refine AW.block ?_ | refine blockQ_n ?_ | refine blockQ_r ?_ | refine blockQ_e ?_ | refine blockQ_o rfl ?_)
  exact .inl ⟨rfl, hn.out, by simp [Try.f89]⟩
theorem s_rep_4 (l : List Ent) (its : List Itm) (i : Nat) (kd : Int) (nm tx : ByteArray) (hl : i < l.length) (he : l[i] = ⟨kd, nm, tx⟩) (h40 : l.length ≤ 40) (hil : its.length ≤ 40) (hw : nm.size ≤ 9223372036854775807 ∧ tx.size ≤ 9223372036854775807) (hnt : nameOK nm = true ∧ textOK tx = true) (k : Nat) (hf : fnd its nm = (k : Int)) (hkl : k < its.length) (hk : kd = 4) (hx : tx.toList = []) (hv : its[k].vd = true) : AW Try.prog 88 (cAt Try.f89 [2, 2, 2, 1, 2, 5, 7]) (mk [(4, .rf 48000 []), (12, .c (.sl true 3 (ents l))), (13, .c (.sc (.int .i64 (l.length : Int)))), (14, .c (.sc (.int .i64 (i : Int))))] [(48000, .sv (.sl false 3 (itms its)))]) (RepQ l its i) := by
  have e1 : wrap64 ((i : Int) + 1) = ((i + 1 : Nat) : Int) := by rw [w64 (by omega) (by omega)]; omega
  have hge : l[i]?.getD default = ⟨kd, nm, tx⟩ := by rw [List.getElem?_eq_getElem hl, Option.getD_some, he]
  have cn := c_impl_isName nm hw.1
  have ct := c_impl_isText tx hw.2
  have cf := c_slices_IndexFunc_item its 114 [.sc (.int .i64 kd), .sc (.string nm), .sc (.string tx)] (fun x => decide (x.nm.toList = nm.toList)) (by omega) (by simp) (fun x => c_impl_replayed_1 x kd nm tx)
  rw [show idx (fun x : Itm => decide (x.nm.toList = nm.toList)) its = fnd its nm from rfl] at cf
  have b1 : (its.length + 1) * 40 ≤ 140737488355328 := by omega
  have b2 : its.length + 1 ≤ 4611686018427387904 := by omega
  have hn : playE its (l[i]?.getD default) = some (its.set k ⟨its[k].nm, its[k].tx, false⟩) := by rw [hge, play_at hnt hf hkl]; simp [hk, hv, hx]
  obtain ⟨hN, hT⟩ := hnt
  rw [hN] at cn
  rw [hT] at ct
  rw [hf] at cf
  have hz0 : ¬ (k : Int) < 0 := by omega
  clear hf
  subst hk
  replace hn : Hd _ := hn
  clear hge hw
  repeat' (first | with_reducible refine OutOK.done ?_ | refine thenQ_n ?_ | refine thenQ_r ?_ | refine thenQ_e ?_ | refine AW.seq ?_ | refine AW.dreg tok mixed [10, 11]  [(0, false), (1, false), (2, false), (3, false), (4, false), (5, false), (6, false), (7, false), (9, false), (8, false), (10, true), (11, true), (12, false), (13, false)] (by decide +kernel) rfl (by simp [*]; rfl) ?_ | refine AW.reg tok (by simp [*]; rfl) ?_ | refine AW.ifB (by simp [*]; rfl) ?_ | refine IfG.t ?_ | refine IfG.f ?_ | (refine IfG.p (fun hg => ?_) (fun hg => ?_) <;> (try (have hg' := hg; simp at hg'))) | (refine IfG.n (fun hg => ?_) (fun hg => ?_) <;> (try (have hg' := hg; simp at hg'))) | (refine OutOK.gateP (fun hg => ?_) (fun hg => ?_) <;> (try (have hg' := hg; simp at hg'))) | (refine OutOK.gateN (fun hg => ?_) (fun hg => ?_) <;> (try (have hg' := hg; simp at hg'))) | (refine IfG.g (fun hg => ?_) (fun hg => ?_) <;> (try (have hg' := hg; simp at hg'))) | (refine OutOK.gate (fun hg => ?_) (fun hg => ?_) <;> (try (have hg' := hg; simp at hg'))) | (refine OutOK.callF [] (by simp [*]; rfl) (by simp [*]; rfl) (by simp [*]; rfl) hb111 (by apply cn <;> first | assumption | exact Hd.out (by assumption) | ((try (clear e0)); (try (clear e1)); (try (clear e2)); (try (clear e3)); (try (clear e4)); (try (clear e5)); (try (clear e6)); (try (clear e7)); (try (clear e8)); (try (clear e9)); (try (clear e10)); (try (clear e11)); omega)) ⟨by simp [*], by simp [*], by simp [*], by simp [*], by simp [*]⟩ (by simp [*]) (by simp [*]; rfl) ?_) | (refine OutOK.callF [] (by simp [*]; rfl) (by simp [*]; rfl) (by simp [*]; rfl) hb113 (by apply ct <;> first | assumption | exact Hd.out (by assumption) | ((try (clear e0)); (try (clear e1)); (try (clear e2)); (try (clear e3)); (try (clear e4)); (try (clear e5)); (try (clear e6)); (try (clear e7)); (try (clear e8)); (try (clear e9)); (try (clear e10)); (try (clear e11)); omega)) ⟨by simp [*], by simp [*], by simp [*], by simp [*], by simp [*]⟩ (by simp [*]) (by simp [*]; rfl) ?_) | (refine OutOK.callF [] (by simp [*]; rfl) (by simp [*]; rfl) (by simp [*]; rfl) hb93 (by apply cf <;> first | assumption | exact Hd.out (by assumption) | ((try (clear e0)); (try (clear e1)); (try (clear e2)); (try (clear e3)); (try (clear e4)); (try (clear e5)); (try (clear e6)); (try (clear e7)); (try (clear e8)); (try (clear e9)); (try (clear e10)); (try (clear e11)); omega)) ⟨by simp [*], by simp [*], by simp [*], by simp [*], by simp [*]⟩ (by simp [*]) (by simp [*]; rfl) ?_) | refine OutOK.run (by simp [*]; rfl) ?_ | refine AW.ret ?_ | refine AW.skip ?_ | refine AW.exit ?_ | refine fin_r ?_ | refine fin_n ?_ | refine AW.block ?_ | refine blockQ_n ?_ | refine blockQ_r ?_ | refine blockQ_e ?_ | refine blockQ_o rfl ?_)
  exact .inr ⟨rfl, its.set k ⟨its[k].nm, its[k].tx, false⟩, hn.out, by simp, ⟨by simp, by simp, by simp⟩⟩
theorem s_rep_z (l : List Ent) (its : List Itm) (i : Nat) (kd : Int) (nm tx : ByteArray) (hl : i < l.length) (he : l[i] = ⟨kd, nm, tx⟩) (h40 : l.length ≤ 40) (hil : its.length ≤ 40) (hw : nm.size ≤ 9223372036854775807 ∧ tx.size ≤ 9223372036854775807) (hnt : nameOK nm = true ∧ textOK tx = true) (k : Nat) (hf : fnd its nm = (k : Int)) (hkl : k < its.length) (h1 : ¬ kd = 1) (h2 : ¬ kd = 2) (h3 : ¬ kd = 3) (h4 : ¬ kd = 4) : AW Try.prog 88 (cAt Try.f89 [2, 2, 2, 1, 2, 5, 7]) (mk [(4, .rf 48000 []), (12, .c (.sl true 3 (ents l))), (13, .c (.sc (.int .i64 (l.length : Int)))), (14, .c (.sc (.int .i64 (i : Int))))] [(48000, .sv (.sl false 3 (itms its)))]) (RepQ l its i) := by
  have e1 : wrap64 ((i : Int) + 1) = ((i + 1 : Nat) : Int) := by rw [w64 (by omega) (by omega)]; omega
  have hge : l[i]?.getD default = ⟨kd, nm, tx⟩ := by rw [List.getElem?_eq_getElem hl, Option.getD_some, he]
  have cn := c_impl_isName nm hw.1
  have ct := c_impl_isText tx hw.2
  have cf := c_slices_IndexFunc_item its 114 [.sc (.int .i64 kd), .sc (.string nm), .sc (.string tx)] (fun x => decide (x.nm.toList = nm.toList)) (by omega) (by simp) (fun x => c_impl_replayed_1 x kd nm tx)
  rw [show idx (fun x : Itm => decide (x.nm.toList = nm.toList)) its = fnd its nm from rfl] at cf
  have b1 : (its.length + 1) * 40 ≤ 140737488355328 := by omega
  have b2 : its.length + 1 ≤ 4611686018427387904 := by omega
  have hn : playE its (l[i]?.getD default) = none := by rw [hge, play_at hnt hf hkl]; simp [h2, h3, h4]
  obtain ⟨hN, hT⟩ := hnt
  rw [hN] at cn
  rw [hT] at ct
  rw [hf] at cf
  have hz0 : ¬ (k : Int) < 0 := by omega
  clear hf
  replace hn : Hd _ := hn
  clear hge hw
  repeat' (first | with_reducible refine OutOK.done ?_ | refine thenQ_n ?_ | refine thenQ_r ?_ | refine thenQ_e ?_ | refine AW.seq ?_ | refine AW.dreg tok mixed [10, 11]  [(0, false), (1, false), (2, false), (3, false), (4, false), (5, false), (6, false), (7, false), (9, false), (8, false), (10, true), (11, true), (12, false), (13, false)] (by decide +kernel) rfl (by simp [*]; rfl) ?_ | refine AW.reg tok (by simp [*]; rfl) ?_ | refine AW.ifB (by simp [*]; rfl) ?_ | refine IfG.t ?_ | refine IfG.f ?_ | (refine IfG.p (fun hg => ?_) (fun hg => ?_) <;> (try (have hg' := hg; simp at hg'))) | (refine IfG.n (fun hg => ?_) (fun hg => ?_) <;> (try (have hg' := hg; simp at hg'))) | (refine OutOK.gateP (fun hg => ?_) (fun hg => ?_) <;> (try (have hg' := hg; simp at hg'))) | (refine OutOK.gateN (fun hg => ?_) (fun hg => ?_) <;> (try (have hg' := hg; simp at hg'))) | (refine IfG.g (fun hg => ?_) (fun hg => ?_) <;> (try (have hg' := hg; simp at hg'))) | (refine OutOK.gate (fun hg => ?_) (fun hg => ?_) <;> (try (have hg' := hg; simp at hg'))) | (refine OutOK.callF [] (by simp [*]; rfl) (by simp [*]; rfl) (by simp [*]; rfl) hb111 (by apply cn <;> first | assumption | exact Hd.out (by assumption) | ((try (clear e0)); (try (clear e1)); (try (clear e2)); (try (clear e3)); (try (clear e4)); (try (clear e5)); (try (clear e6)); (try (clear e7)); (try (clear e8)); (try (clear e9)); (try (clear e10)); (try (clear e11)); omega)) ⟨by simp [*], by simp [*], by simp [*], by simp [*], by simp [*]⟩ (by simp [*]) (by simp [*]; rfl) ?_) | (refine OutOK.callF [] (by simp [*]; rfl) (by simp [*]; rfl) (by simp [*]; rfl) hb113 (by apply ct <;> first | assumption | exact Hd.out (by assumption) | ((try (clear e0)); (try (clear e1)); (try (clear e2)); (try (clear e3)); (try (clear e4)); (try (clear e5)); (try (clear e6)); (try (clear e7)); (try (clear e8)); (try (clear e9)); (try (clear e10)); (try (clear e11)); omega)) ⟨by simp [*], by simp [*], by simp [*], by simp [*], by simp [*]⟩ (by simp [*]) (by simp [*]; rfl) ?_) | (refine OutOK.callF [] (by simp [*]; rfl) (by simp [*]; rfl) (by simp [*]; rfl) hb93 (by apply cf <;> first | assumption | exact Hd.out (by assumption) | ((try (clear e0)); (try (clear e1)); (try (clear e2)); (try (clear e3)); (try (clear e4)); (try (clear e5)); (try (clear e6)); (try (clear e7)); (try (clear e8)); (try (clear e9)); (try (clear e10)); (try (clear e11)); omega)) ⟨by simp [*], by simp [*], by simp [*], by simp [*], by simp [*]⟩ (by simp [*]) (by simp [*]; rfl) ?_) | refine OutOK.run (by simp [*]; rfl) ?_ | refine AW.ret ?_ | refine AW.skip ?_ | refine AW.exit ?_ | refine fin_r ?_ | refine fin_n ?_ | refine AW.block ?_ | refine blockQ_n ?_ | refine blockQ_r ?_ | refine blockQ_e ?_ | refine blockQ_o rfl ?_)
  exact .inl ⟨rfl, hn.out, by simp [Try.f89]⟩
end Go.Proofs.Ytodombkmnnggeaa.EngS


set_option linter.unusedSimpArgs false
set_option linter.unusedVariables false
set_option maxHeartbeats 4000000
set_option maxRecDepth 100000
namespace Go.Proofs.Ytodombkmnnggeaa.EngS
open Go Go.Proofs Go.Eng Go.RowKit
attribute [local irreducible] Go.RowKit.wrap64
def EntW (e : Ent) : Prop := e.itm.size ≤ 9223372036854775807 ∧ e.txt.size ≤ 9223372036854775807
theorem w_rep (l : List Ent) (its : List Itm) (i : Nat) (hl : i < l.length) (h40 : l.length ≤ 40) (hil : its.length ≤ 40) (hw : ∀ e ∈ l, EntW e) :
    AW Try.prog 88 (cAt Try.f89 [2, 2, 2, 1, 2, 5, 7]) (mk [(4, .rf 48000 []), (12, .c (.sl true 3 (ents l))), (13, .c (.sc (.int .i64 (l.length : Int)))), (14, .c (.sc (.int .i64 (i : Int))))] [(48000, .sv (.sl false 3 (itms its)))]) (RepQ l its i) := by
  have hw := hw l[i] (List.getElem_mem hl)
  obtain ⟨kd, nm, tx, he⟩ : ∃ kd nm tx, l[i] = ⟨kd, nm, tx⟩ := ⟨_, _, _, rfl⟩
  rw [he] at hw
  cases hN : nameOK nm with
  | false => exact s_rep_n l its i kd nm tx hl he h40 hil hw hN
  | true =>
    cases hT : textOK tx with
    | false => exact s_rep_t l its i kd nm tx hl he h40 hil hw hN hT
    | true =>
      rcases idx_cases (fun x : Itm => decide (x.nm.toList = nm.toList)) its with hf | ⟨k, hf, hkl⟩
      · by_cases h1 : kd = 1
        · exact s_rep_1 l its i kd nm tx hl he h40 hil hw ⟨hN, hT⟩ hf h1
        · exact s_rep_1n l its i kd nm tx hl he h40 hil hw ⟨hN, hT⟩ hf h1
      by_cases h1 : kd = 1
      · exact s_rep_o l its i kd nm tx hl he h40 hil hw ⟨hN, hT⟩ k hf hkl h1
      by_cases h2 : kd = 2
      · cases hv : its[k].vd
        · exact s_rep_2 l its i kd nm tx hl he h40 hil hw ⟨hN, hT⟩ k hf hkl h2 hv
        · exact s_rep_2n l its i kd nm tx hl he h40 hil hw ⟨hN, hT⟩ k hf hkl h2 hv
      by_cases h3 : kd = 3
      · by_cases hx : tx.toList = []
        · cases hv : its[k].vd
          · exact s_rep_3 l its i kd nm tx hl he h40 hil hw ⟨hN, hT⟩ k hf hkl h3 hx hv
          · exact s_rep_3n l its i kd nm tx hl he h40 hil hw ⟨hN, hT⟩ k hf hkl h3 hx hv
        · exact s_rep_3t l its i kd nm tx hl he h40 hil hw ⟨hN, hT⟩ k hf hkl (.inl h3) hx
      by_cases h4 : kd = 4
      · by_cases hx : tx.toList = []
        · cases hv : its[k].vd
          · exact s_rep_4n l its i kd nm tx hl he h40 hil hw ⟨hN, hT⟩ k hf hkl h4 hx hv
          · exact s_rep_4 l its i kd nm tx hl he h40 hil hw ⟨hN, hT⟩ k hf hkl h4 hx hv
        · exact s_rep_3t l its i kd nm tx hl he h40 hil hw ⟨hN, hT⟩ k hf hkl (.inr h4) hx
      · exact s_rep_z l its i kd nm tx hl he h40 hil hw ⟨hN, hT⟩ k hf hkl h1 h2 h3 h4
def regOK (l : List Ent) : Bool := decide (l.length ≤ 40) && (playL [] l).isSome
def regI (l : List Ent) : List Itm := if regOK l = true then (playL [] l).getD [] else []
theorem c_impl_replayed (l : List Ent) (h : l.length ≤ 9223372036854775807) (hw : ∀ e ∈ l, EntW e) : ACall Try.prog 89 [.v (.sl true 3 (ents l))] [.x] [.v (.sl false 3 (itms (regI l))), boo (regOK l)] := by
  rcases Nat.lt_or_ge 40 l.length with h40 | h40
  · have hb : regOK l = false := by simp [regOK]; omega
    rw [show regI l = [] by simp [regI, hb], hb]
    have h40' : (40 : Int) < l.length := by omega
    clear hw hb
    refine ACall.of (N := 88) tok Try.func89 rfl rfl rfl (by simp) ?_
    repeat' (first | with_reducible refine OutOK.done ?_ | refine thenQ_n ?_ | refine thenQ_r ?_ | refine thenQ_e ?_ | refine AW.seq ?_ | refine AW.dreg tok mixed [10, 11]  [(0, false), (1, false), (2, false), (3, false), (4, false), (5, false), (6, false), (7, false), (9, false), (8, false), (10, true), (11, true), (12, false), (13, false)] (by decide +kernel) rfl (by simp [*]; rfl) ?_ | refine AW.reg tok (by simp [*]; rfl) ?_ | refine AW.ifB (by simp [*]; rfl) ?_ | refine IfG.t ?_ | refine IfG.f ?_ | (refine IfG.p (fun hg => ?_) (fun hg => ?_) <;> (try (have hg' := hg; simp at hg'))) | (refine IfG.n (fun hg => ?_) (fun hg => ?_) <;> (try (have hg' := hg; simp at hg'))) | (refine OutOK.gateP (fun hg => ?_) (fun hg => ?_) <;> (try (have hg' := hg; simp at hg'))) | (refine OutOK.gateN (fun hg => ?_) (fun hg => ?_) <;> (try (have hg' := hg; simp at hg'))) | (refine IfG.g (fun hg => ?_) (fun hg => ?_) <;> (try (have hg' := hg; simp at hg'))) | (refine OutOK.gate (fun hg => ?_) (fun hg => ?_) <;> (try (have hg' := hg; simp at hg'))) | refine OutOK.run (by simp [*]; rfl) ?_ | refine AW.ret ?_ | refine AW.skip ?_ | refine AW.exit ?_ | refine fin_r ?_ | refine fin_n ?_ | refine AW.block ?_ | refine blockQ_n ?_ | refine blockQ_r ?_ | refine blockQ_e ?_ | refine blockQ_o rfl ?_)
    simp [Try.f89, itms]
  have h40' : ¬ (40 : Int) < l.length := by omega
  have hP : Hd (playL [] l = playL [] (l.drop 0)) := by simp [Hd]
  have hw' : Hd _ := hw
  have hno : Hd (playL [] l = none → regOK l = false ∧ regI l = []) := by
    intro e
    have : regOK l = false := by simp [regOK, e]
    exact ⟨this, by simp [regI, this]⟩
  have hyes : Hd (∀ m, playL [] l = some m → regOK l = true ∧ regI l = m) := by
    intro m e
    have : regOK l = true := by simp [regOK, e, h40]
    exact ⟨this, by simp [regI, this, e]⟩
  generalize regOK l = R at *
  generalize regI l = RI at *
  generalize playL [] l = pl at *
  clear hw
  refine ACall.of (N := 88) tok Try.func89 rfl rfl rfl (by simp) ?_
  repeat' (first | with_reducible refine OutOK.done ?_ | refine thenQ_n ?_ | refine thenQ_r ?_ | refine thenQ_e ?_ | refine AW.seq ?_ | refine AW.dreg tok mixed [10, 11]  [(0, false), (1, false), (2, false), (3, false), (4, false), (5, false), (6, false), (7, false), (9, false), (8, false), (10, true), (11, true), (12, false), (13, false)] (by decide +kernel) rfl (by simp [*]; rfl) ?_ | refine AW.reg tok (by simp [*]; rfl) ?_ | refine AW.ifB (by simp [*]; rfl) ?_ | refine IfG.t ?_ | refine IfG.f ?_ | (refine IfG.p (fun hg => ?_) (fun hg => ?_) <;> (try (have hg' := hg; simp at hg'))) | (refine IfG.n (fun hg => ?_) (fun hg => ?_) <;> (try (have hg' := hg; simp at hg'))) | (refine OutOK.gateP (fun hg => ?_) (fun hg => ?_) <;> (try (have hg' := hg; simp at hg'))) | (refine OutOK.gateN (fun hg => ?_) (fun hg => ?_) <;> (try (have hg' := hg; simp at hg'))) | (refine IfG.g (fun hg => ?_) (fun hg => ?_) <;> (try (have hg' := hg; simp at hg'))) | (refine OutOK.gate (fun hg => ?_) (fun hg => ?_) <;> (try (have hg' := hg; simp at hg'))) | refine OutOK.run (by simp [*]; rfl) ?_ | refine AW.ret ?_ | refine AW.skip ?_ | refine AW.exit ?_ | refine fin_r ?_ | refine fin_n ?_ | refine AW.block ?_ | refine blockQ_n ?_ | refine blockQ_r ?_ | refine blockQ_e ?_ | refine blockQ_o rfl ?_)
  refine AW.loopS (α := Nat × List Itm) (fun q => q.1 ≤ l.length ∧ q.2.length ≤ q.1 ∧ Hd (pl = playL q.2 (l.drop q.1))) (fun q => [(4, .rf 48000 []), (12, .c (.sl true 3 (ents l))), (13, .c (.sc (.int .i64 (l.length : Int)))), (14, .c (.sc (.int .i64 (q.1 : Int))))])
    (fun q => [(48000, .sv (.sl false 3 (itms q.2)))]) (fun q => l.length - q.1) (0, []) ⟨Nat.zero_le _, by simp, hP⟩ [(8000, 48000)] (by simp) ⟨by simp, by simp, by simp⟩ ?_
  rintro ⟨i, its⟩ ⟨hi, hil, hp⟩
  simp only at hi hil hp
  rcases Nat.lt_or_ge i l.length with hl | hl
  · refine (w_rep l its i hl h40 (by omega) hw'.out).mono fun e st hq => ?_
    have hge : l[i]?.getD default = l[i] := by rw [List.getElem?_eq_getElem hl, Option.getD_some]
    rcases hq with ⟨rfl, hn, hq⟩ | ⟨rfl, m, hm, hml, hq⟩
    · rw [hge] at hn
      obtain ⟨r1, r2⟩ := hno.out (by rw [hp.out, playL_no hl hn])
      subst r1 r2
      exact ⟨.inr rfl, hq⟩
    · rw [hge] at hm
      exact ⟨(i + 1, m), ⟨hl, by simp only; omega, by rw [Hd, hp.out, playL_go hl hm]⟩, ⟨[], by simp, hq⟩, by simp only; omega⟩
  · have hii : i = l.length := by omega
    subst hii
    obtain ⟨r1, r2⟩ := hyes.out its (by rw [hp.out, playL_end (Nat.le_refl _)])
    subst r1 r2
    clear hno hyes hP hp
    repeat' (first | with_reducible refine OutOK.done ?_ | refine thenQ_n ?_ | refine thenQ_r ?_ | refine thenQ_e ?_ | refine AW.seq ?_ | refine AW.dreg tok mixed [10, 11]  [(0, false), (1, false), (2, false), (3, false), (4, false), (5, false), (6, false), (7, false), (9, false), (8, false), (10, true), (11, true), (12, false), (13, false)] (by decide +kernel) rfl (by simp [*]; rfl) ?_ | refine AW.reg tok (by simp [*]; rfl) ?_ | refine AW.ifB (by simp [*]; rfl) ?_ | refine IfG.t ?_ | refine IfG.f ?_ | (refine IfG.p (fun hg => ?_) (fun hg => ?_) <;> (try (have hg' := hg; simp at hg'))) | (refine IfG.n (fun hg => ?_) (fun hg => ?_) <;> (try (have hg' := hg; simp at hg'))) | (refine OutOK.gateP (fun hg => ?_) (fun hg => ?_) <;> (try (have hg' := hg; simp at hg'))) | (refine OutOK.gateN (fun hg => ?_) (fun hg => ?_) <;> (try (have hg' := hg; simp at hg'))) | (refine IfG.g (fun hg => ?_) (fun hg => ?_) <;> (try (have hg' := hg; simp at hg'))) | (refine OutOK.gate (fun hg => ?_) (fun hg => ?_) <;> (try (have hg' := hg; simp at hg'))) | refine OutOK.run (by simp [*]; rfl) ?_ | refine AW.ret ?_ | refine AW.skip ?_ | refine AW.exit ?_ | refine fin_r ?_ | refine fin_n ?_ | refine AW.block ?_ | refine blockQ_n ?_ | refine blockQ_r ?_ | refine blockQ_e ?_ | refine blockQ_o rfl ?_)
    simp [Try.f89]
theorem c_impl_IsValidRegister (l : List Ent) (h : l.length ≤ 9223372036854775807) (hw : ∀ e ∈ l, EntW e) : ACall Try.prog 36 [.v (.sl true 3 (ents l))] [.x] [boo (regOK l)] := by
  have cr := c_impl_replayed l h hw
  generalize regI l = RI at *
  generalize regOK l = R at *
  clear hw
  refine ACall.of (N := 11) tok Try.func36 rfl rfl rfl (by simp) ?_
  repeat' (first | with_reducible refine OutOK.done ?_ | refine thenQ_n ?_ | refine thenQ_r ?_ | refine thenQ_e ?_ | refine AW.seq ?_ | refine AW.reg tok (by simp [*]; rfl) ?_ | refine AW.ifB (by simp [*]; rfl) ?_ | refine IfG.t ?_ | refine IfG.f ?_ | (refine IfG.p (fun hg => ?_) (fun hg => ?_) <;> (try (have hg' := hg; simp at hg'))) | (refine IfG.n (fun hg => ?_) (fun hg => ?_) <;> (try (have hg' := hg; simp at hg'))) | (refine OutOK.gateP (fun hg => ?_) (fun hg => ?_) <;> (try (have hg' := hg; simp at hg'))) | (refine OutOK.gateN (fun hg => ?_) (fun hg => ?_) <;> (try (have hg' := hg; simp at hg'))) | (refine IfG.g (fun hg => ?_) (fun hg => ?_) <;> (try (have hg' := hg; simp at hg'))) | (refine OutOK.gate (fun hg => ?_) (fun hg => ?_) <;> (try (have hg' := hg; simp at hg'))) | (refine OutOK.callF [] (by simp [*]; rfl) (by simp [*]; rfl) (by simp [*]; rfl) hb89 (by apply cr <;> first | assumption | exact Hd.out (by assumption) | ((try (clear e0)); (try (clear e1)); (try (clear e2)); (try (clear e3)); (try (clear e4)); (try (clear e5)); (try (clear e6)); (try (clear e7)); (try (clear e8)); (try (clear e9)); (try (clear e10)); (try (clear e11)); omega)) ⟨by simp [*], by simp [*], by simp [*], by simp [*], by simp [*]⟩ (by simp [*]) (by simp [*]; rfl) ?_) | refine OutOK.run (by simp [*]; rfl) ?_ | refine AW.ret ?_ | refine AW.skip ?_ | refine AW.exit ?_ | refine fin_r ?_ | refine fin_n ?_ | refine AW.block ?_ | refine blockQ_n ?_ | refine blockQ_r ?_ | refine blockQ_e ?_ | refine blockQ_o rfl ?_)
  all_goals (try simp [*, Try.f36])
end Go.Proofs.Ytodombkmnnggeaa.EngS


set_option linter.unusedSimpArgs false
set_option linter.unusedVariables false
set_option maxHeartbeats 4000000
set_option maxRecDepth 100000
namespace Go.Proofs.Ytodombkmnnggeaa.EngS
open Go Go.Proofs Go.Eng Go.RowKit
attribute [local irreducible] Go.RowKit.wrap64
def PlyQ (l : List Ent) (its : List Itm) (i : Nat) (e : Exit) (st : St) : Prop :=
  (e = .ret ∧ playE its (l[i]?.getD default) = none ∧ FinP T Try.f91.results.toList [.v (.sl true 3 (ents l))] [.x] [.v (.sl false 3 (itms its)), boo false] st) ∨
  (e = .normal ∧ ∃ m : List Itm, playE its (l[i]?.getD default) = some m ∧ m.length ≤ its.length + 1 ∧
    LessL st [(0, .c (.sl true 3 (ents l))), (4, .rf 58000 []), (5, .c (.sc (.int .i64 ((i + 1 : Nat) : Int))))] [(58000, .sv (.sl false 3 (itms m)))])
theorem s_ply_n (l : List Ent) (its : List Itm) (i : Nat) (kd : Int) (nm tx : ByteArray) (hl : i < l.length) (he : l[i] = ⟨kd, nm, tx⟩) (h40 : l.length ≤ 40) (hil : its.length ≤ 40) (hw : nm.size ≤ 9223372036854775807 ∧ tx.size ≤ 9223372036854775807) (hN : nameOK nm = false) : AW Try.prog 98 (cAt Try.f91 [2, 2, 1, 2, 5, 7]) (mk [(0, .c (.sl true 3 (ents l))), (4, .rf 58000 []), (5, .c (.sc (.int .i64 (i : Int))))] [(58000, .sv (.sl false 3 (itms its)))]) (PlyQ l its i) := by
  have e1 : wrap64 ((i : Int) + 1) = ((i + 1 : Nat) : Int) := by rw [w64 (by omega) (by omega)]; omega
  have hge : l[i]?.getD default = ⟨kd, nm, tx⟩ := by rw [List.getElem?_eq_getElem hl, Option.getD_some, he]
  have cn := c_spec_l7Name nm hw.1
  have ct := c_spec_l21Text tx hw.2
  have cf := c_spec_l21Find its nm (by omega)
  have b1 : (its.length + 1) * 40 ≤ 140737488355328 := by omega
  have b2 : its.length + 1 ≤ 4611686018427387904 := by omega
  have hn : playE its (l[i]?.getD default) = none := by rw [hge]; exact play_not (by simp [hN])
  rw [hN] at cn
  obtain ⟨z, hz⟩ : ∃ z : Int, fnd its nm = z := ⟨_, rfl⟩
  rw [hz] at cf
  clear hz
  replace hn : Hd _ := hn
  clear hge hw
  repeat' (first | with_reducible refine OutOK.done ?_ | refine thenQ_n ?_ | refine thenQ_r ?_ | refine thenQ_e ?_ | refine AW.seq ?_ | refine AW.dreg tok mixed [15, 16]  [(0, false), (1, false), (2, false), (3, false), (4, false), (5, false), (6, false), (7, false), (8, false), (9, false), (10, false), (11, false), (12, false), (14, false), (13, false), (15, true), (16, true), (17, false), (18, false)] (by decide +kernel) rfl (by simp [*]; rfl) ?_ | refine AW.reg tok (by simp [*]; rfl) ?_ | refine AW.ifB (by simp [*]; rfl) ?_ | refine IfG.t ?_ | refine IfG.f ?_ | (refine IfG.p (fun hg => ?_) (fun hg => ?_) <;> (try (have hg' := hg; simp at hg'))) | (refine IfG.n (fun hg => ?_) (fun hg => ?_) <;> (try (have hg' := hg; simp at hg'))) | (refine OutOK.gateP (fun hg => ?_) (fun hg => ?_) <;> (try (have hg' := hg; simp at hg'))) | (refine OutOK.gateN (fun hg => ?_) (fun hg => ?_) <;> (try (have hg' := hg; simp at hg'))) | (refine IfG.g (fun hg => ?_) (fun hg => ?_) <;> (try (have hg' := hg; simp at hg'))) | (refine OutOK.gate (fun hg => ?_) (fun hg => ?_) <;> (try (have hg' := hg; simp at hg'))) | (refine OutOK.callF [] (by simp [*]; rfl) (by simp [*]; rfl) (by simp [*]; rfl) hb115 (by apply cn <;> first | assumption | exact Hd.out (by assumption) | ((try (clear e0)); (try (clear e1)); (try (clear e2)); (try (clear e3)); (try (clear e4)); (try (clear e5)); (try (clear e6)); (try (clear e7)); (try (clear e8)); (try (clear e9)); (try (clear e10)); (try (clear e11)); omega)) ⟨by simp [*], by simp [*], by simp [*], by simp [*], by simp [*]⟩ (by simp [*]) (by simp [*]; rfl) ?_) | (refine OutOK.callF [] (by simp [*]; rfl) (by simp [*]; rfl) (by simp [*]; rfl) hb116 (by apply ct <;> first | assumption | exact Hd.out (by assumption) | ((try (clear e0)); (try (clear e1)); (try (clear e2)); (try (clear e3)); (try (clear e4)); (try (clear e5)); (try (clear e6)); (try (clear e7)); (try (clear e8)); (try (clear e9)); (try (clear e10)); (try (clear e11)); omega)) ⟨by simp [*], by simp [*], by simp [*], by simp [*], by simp [*]⟩ (by simp [*]) (by simp [*]; rfl) ?_) | (refine OutOK.callF [] (by simp [*]; rfl) (by simp [*]; rfl) (by simp [*]; rfl) hb92 (by apply cf <;> first | assumption | exact Hd.out (by assumption) | ((try (clear e0)); (try (clear e1)); (try (clear e2)); (try (clear e3)); (try (clear e4)); (try (clear e5)); (try (clear e6)); (try (clear e7)); (try (clear e8)); (try (clear e9)); (try (clear e10)); (try (clear e11)); omega)) ⟨by simp [*], by simp [*], by simp [*], by simp [*], by simp [*]⟩ (by simp [*]) (by simp [*]; rfl) ?_) | (refine OutOK.callF [] (by simp [*]; rfl) (by simp [*]; rfl) (by simp [*]; rfl) hb95 (by apply c_spec_l1In <;> first | assumption | exact Hd.out (by assumption) | ((try (clear e0)); (try (clear e1)); (try (clear e2)); (try (clear e3)); (try (clear e4)); (try (clear e5)); (try (clear e6)); (try (clear e7)); (try (clear e8)); (try (clear e9)); (try (clear e10)); (try (clear e11)); omega)) ⟨by simp [*], by simp [*], by simp [*], by simp [*], by simp [*]⟩ (by simp [*]) (by simp [*]; rfl) ?_) | refine OutOK.run (by simp [*]; rfl) ?_ | refine AW.ret ?_ | refine AW.skip ?_ | refine AW.exit ?_ | refine fin_r ?_ | refine fin_n ?_ | refine AW.block ?_ | refine blockQ_n ?_ | refine blockQ_r ?_ | refine blockQ_e ?_ | refine blockQ_o rfl ?_)
  exact .inl ⟨rfl, hn.out, by simp [Try.f91]⟩
theorem s_ply_t (l : List Ent) (its : List Itm) (i : Nat) (kd : Int) (nm tx : ByteArray) (hl : i < l.length) (he : l[i] = ⟨kd, nm, tx⟩) (h40 : l.length ≤ 40) (hil : its.length ≤ 40) (hw : nm.size ≤ 9223372036854775807 ∧ tx.size ≤ 9223372036854775807) (hN : nameOK nm = true) (hT : textOK tx = false) : AW Try.prog 98 (cAt Try.f91 [2, 2, 1, 2, 5, 7]) (mk [(0, .c (.sl true 3 (ents l))), (4, .rf 58000 []), (5, .c (.sc (.int .i64 (i : Int))))] [(58000, .sv (.sl false 3 (itms its)))]) (PlyQ l its i) := by
  have e1 : wrap64 ((i : Int) + 1) = ((i + 1 : Nat) : Int) := by rw [w64 (by omega) (by omega)]; omega
  have hge : l[i]?.getD default = ⟨kd, nm, tx⟩ := by rw [List.getElem?_eq_getElem hl, Option.getD_some, he]
  have cn := c_spec_l7Name nm hw.1
  have ct := c_spec_l21Text tx hw.2
  have cf := c_spec_l21Find its nm (by omega)
  have b1 : (its.length + 1) * 40 ≤ 140737488355328 := by omega
  have b2 : its.length + 1 ≤ 4611686018427387904 := by omega
  have hn : playE its (l[i]?.getD default) = none := by rw [hge]; exact play_not (by simp [hT])
  rw [hN] at cn
  rw [hT] at ct
  obtain ⟨z, hz⟩ : ∃ z : Int, fnd its nm = z := ⟨_, rfl⟩
  rw [hz] at cf
  clear hz
  replace hn : Hd _ := hn
  clear hge hw
  repeat' (first | with_reducible refine OutOK.done ?_ | refine thenQ_n ?_ | refine thenQ_r ?_ | refine thenQ_e ?_ | refine AW.seq ?_ | refine AW.dreg tok mixed [15, 16]  [(0, false), (1, false), (2, false), (3, false), (4, false), (5, false), (6, false), (7, false), (8, false), (9, false), (10, false), (11, false), (12, false), (14, false), (13, false), (15, true), (16, true), (17, false), (18, false)] (by decide +kernel) rfl (by simp [*]; rfl) ?_ | refine AW.reg tok (by simp [*]; rfl) ?_ | refine AW.ifB (by simp [*]; rfl) ?_ | refine IfG.t ?_ | refine IfG.f ?_ | (refine IfG.p (fun hg => ?_) (fun hg => ?_) <;> (try (have hg' := hg; simp at hg'))) | (refine IfG.n (fun hg => ?_) (fun hg => ?_) <;> (try (have hg' := hg; simp at hg'))) | (refine OutOK.gateP (fun hg => ?_) (fun hg => ?_) <;> (try (have hg' := hg; simp at hg'))) | (refine OutOK.gateN (fun hg => ?_) (fun hg => ?_) <;> (try (have hg' := hg; simp at hg'))) | (refine IfG.g (fun hg => ?_) (fun hg => ?_) <;> (try (have hg' := hg; simp at hg'))) | (refine OutOK.gate (fun hg => ?_) (fun hg => ?_) <;> (try (have hg' := hg; simp at hg'))) | (refine OutOK.callF [] (by simp [*]; rfl) (by simp [*]; rfl) (by simp [*]; rfl) hb115 (by apply cn <;> first | assumption | exact Hd.out (by assumption) | ((try (clear e0)); (try (clear e1)); (try (clear e2)); (try (clear e3)); (try (clear e4)); (try (clear e5)); (try (clear e6)); (try (clear e7)); (try (clear e8)); (try (clear e9)); (try (clear e10)); (try (clear e11)); omega)) ⟨by simp [*], by simp [*], by simp [*], by simp [*], by simp [*]⟩ (by simp [*]) (by simp [*]; rfl) ?_) | (refine OutOK.callF [] (by simp [*]; rfl) (by simp [*]; rfl) (by simp [*]; rfl) hb116 (by apply ct <;> first | assumption | exact Hd.out (by assumption) | ((try (clear e0)); (try (clear e1)); (try (clear e2)); (try (clear e3)); (try (clear e4)); (try (clear e5)); (try (clear e6)); (try (clear e7)); (try (clear e8)); (try (clear e9)); (try (clear e10)); (try (clear e11)); omega)) ⟨by simp [*], by simp [*], by simp [*], by simp [*], by simp [*]⟩ (by simp [*]) (by simp [*]; rfl) ?_) | (refine OutOK.callF [] (by simp [*]; rfl) (by simp [*]; rfl) (by simp [*]; rfl) hb92 (by apply cf <;> first | assumption | exact Hd.out (by assumption) | ((try (clear e0)); (try (clear e1)); (try (clear e2)); (try (clear e3)); (try (clear e4)); (try (clear e5)); (try (clear e6)); (try (clear e7)); (try (clear e8)); (try (clear e9)); (try (clear e10)); (try (clear e11)); omega)) ⟨by simp [*], by simp [*], by simp [*], by simp [*], by simp [*]⟩ (by simp [*]) (by simp [*]; rfl) ?_) | (refine OutOK.callF [] (by simp [*]; rfl) (by simp [*]; rfl) (by simp [*]; rfl) hb95 (by apply c_spec_l1In <;> first | assumption | exact Hd.out (by assumption) | ((try (clear e0)); (try (clear e1)); (try (clear e2)); (try (clear e3)); (try (clear e4)); (try (clear e5)); (try (clear e6)); (try (clear e7)); (try (clear e8)); (try (clear e9)); (try (clear e10)); (try (clear e11)); omega)) ⟨by simp [*], by simp [*], by simp [*], by simp [*], by simp [*]⟩ (by simp [*]) (by simp [*]; rfl) ?_) | refine OutOK.run (by simp [*]; rfl) ?_ | refine AW.ret ?_ | refine AW.skip ?_ | refine AW.exit ?_ | refine fin_r ?_ | refine fin_n ?_ | refine AW.block ?_ | refine blockQ_n ?_ | refine blockQ_r ?_ | refine blockQ_e ?_ | refine blockQ_o rfl ?_)
  exact .inl ⟨rfl, hn.out, by simp [Try.f91]⟩
theorem s_ply_x (l : List Ent) (its : List Itm) (i : Nat) (kd : Int) (nm tx : ByteArray) (hl : i < l.length) (he : l[i] = ⟨kd, nm, tx⟩) (h40 : l.length ≤ 40) (hil : its.length ≤ 40) (hw : nm.size ≤ 9223372036854775807 ∧ tx.size ≤ 9223372036854775807) (hnt : nameOK nm = true ∧ textOK tx = true) (hn : playE its ⟨kd, nm, tx⟩ = none) (h3 : 3 ≤ kd) (hx : ¬ tx.toList = []) : AW Try.prog 98 (cAt Try.f91 [2, 2, 1, 2, 5, 7]) (mk [(0, .c (.sl true 3 (ents l))), (4, .rf 58000 []), (5, .c (.sc (.int .i64 (i : Int))))] [(58000, .sv (.sl false 3 (itms its)))]) (PlyQ l its i) := by
  have e1 : wrap64 ((i : Int) + 1) = ((i + 1 : Nat) : Int) := by rw [w64 (by omega) (by omega)]; omega
  have hge : l[i]?.getD default = ⟨kd, nm, tx⟩ := by rw [List.getElem?_eq_getElem hl, Option.getD_some, he]
  have cn := c_spec_l7Name nm hw.1
  have ct := c_spec_l21Text tx hw.2
  have cf := c_spec_l21Find its nm (by omega)
  have b1 : (its.length + 1) * 40 ≤ 140737488355328 := by omega
  have b2 : its.length + 1 ≤ 4611686018427387904 := by omega
  rw [← hge] at hn
  obtain ⟨hN, hT⟩ := hnt
  rw [hN] at cn
  rw [hT] at ct
  obtain ⟨z, hz⟩ : ∃ z : Int, fnd its nm = z := ⟨_, rfl⟩
  rw [hz] at cf
  clear hz
  replace hn : Hd _ := hn
  clear hge hw
  repeat' (first | with_reducible refine OutOK.done ?_ | refine thenQ_n ?_ | refine thenQ_r ?_ | refine thenQ_e ?_ | refine AW.seq ?_ | refine AW.dreg tok mixed [15, 16]  [(0, false), (1, false), (2, false), (3, false), (4, false), (5, false), (6, false), (7, false), (8, false), (9, false), (10, false), (11, false), (12, false), (14, false), (13, false), (15, true), (16, true), (17, false), (18, false)] (by decide +kernel) rfl (by simp [*]; rfl) ?_ | refine AW.reg tok (by simp [*]; rfl) ?_ | refine AW.ifB (by simp [*]; rfl) ?_ | refine IfG.t ?_ | refine IfG.f ?_ | (refine IfG.p (fun hg => ?_) (fun hg => ?_) <;> (try (have hg' := hg; simp at hg'))) | (refine IfG.n (fun hg => ?_) (fun hg => ?_) <;> (try (have hg' := hg; simp at hg'))) | (refine OutOK.gateP (fun hg => ?_) (fun hg => ?_) <;> (try (have hg' := hg; simp at hg'))) | (refine OutOK.gateN (fun hg => ?_) (fun hg => ?_) <;> (try (have hg' := hg; simp at hg'))) | (refine IfG.g (fun hg => ?_) (fun hg => ?_) <;> (try (have hg' := hg; simp at hg'))) | (refine OutOK.gate (fun hg => ?_) (fun hg => ?_) <;> (try (have hg' := hg; simp at hg'))) | (refine OutOK.callF [] (by simp [*]; rfl) (by simp [*]; rfl) (by simp [*]; rfl) hb115 (by apply cn <;> first | assumption | exact Hd.out (by assumption) | ((try (clear e0)); (try (clear e1)); (try (clear e2)); (try (clear e3)); (try (clear e4)); (try (clear e5)); (try (clear e6)); (try (clear e7)); (try (clear e8)); (try (clear e9)); (try (clear e10)); (try (clear e11)); omega)) ⟨by simp [*], by simp [*], by simp [*], by simp [*], by simp [*]⟩ (by simp [*]) (by simp [*]; rfl) ?_) | (refine OutOK.callF [] (by simp [*]; rfl) (by simp [*]; rfl) (by simp [*]; rfl) hb116 (by apply ct <;> first | assumption | exact Hd.out (by assumption) | ((try (clear e0)); (try (clear e1)); (try (clear e2)); (try (clear e3)); (try (clear e4)); (try (clear e5)); (try (clear e6)); (try (clear e7)); (try (clear e8)); (try (clear e9)); (try (clear e10)); (try (clear e11)); omega)) ⟨by simp [*], by simp [*], by simp [*], by simp [*], by simp [*]⟩ (by simp [*]) (by simp [*]; rfl) ?_) | (refine OutOK.callF [] (by simp [*]; rfl) (by simp [*]; rfl) (by simp [*]; rfl) hb92 (by apply cf <;> first | assumption | exact Hd.out (by assumption) | ((try (clear e0)); (try (clear e1)); (try (clear e2)); (try (clear e3)); (try (clear e4)); (try (clear e5)); (try (clear e6)); (try (clear e7)); (try (clear e8)); (try (clear e9)); (try (clear e10)); (try (clear e11)); omega)) ⟨by simp [*], by simp [*], by simp [*], by simp [*], by simp [*]⟩ (by simp [*]) (by simp [*]; rfl) ?_) | (refine OutOK.callF [] (by simp [*]; rfl) (by simp [*]; rfl) (by simp [*]; rfl) hb95 (by apply c_spec_l1In <;> first | assumption | exact Hd.out (by assumption) | ((try (clear e0)); (try (clear e1)); (try (clear e2)); (try (clear e3)); (try (clear e4)); (try (clear e5)); (try (clear e6)); (try (clear e7)); (try (clear e8)); (try (clear e9)); (try (clear e10)); (try (clear e11)); omega)) ⟨by simp [*], by simp [*], by simp [*], by simp [*], by simp [*]⟩ (by simp [*]) (by simp [*]; rfl) ?_) | refine OutOK.run (by simp [*]; rfl) ?_ | refine AW.ret ?_ | refine AW.skip ?_ | refine AW.exit ?_ | refine fin_r ?_ | refine fin_n ?_ | refine AW.block ?_ | refine blockQ_n ?_ | refine blockQ_r ?_ | refine blockQ_e ?_ | refine blockQ_o rfl ?_)
  exact .inl ⟨rfl, hn.out, by simp [Try.f91]⟩
theorem s_ply_1 (l : List Ent) (its : List Itm) (i : Nat) (kd : Int) (nm tx : ByteArray) (hl : i < l.length) (he : l[i] = ⟨kd, nm, tx⟩) (h40 : l.length ≤ 40) (hil : its.length ≤ 40) (hw : nm.size ≤ 9223372036854775807 ∧ tx.size ≤ 9223372036854775807) (hnt : nameOK nm = true ∧ textOK tx = true) (hf : fnd its nm < 0) (hk : kd = 1) : AW Try.prog 98 (cAt Try.f91 [2, 2, 1, 2, 5, 7]) (mk [(0, .c (.sl true 3 (ents l))), (4, .rf 58000 []), (5, .c (.sc (.int .i64 (i : Int))))] [(58000, .sv (.sl false 3 (itms its)))]) (PlyQ l its i) := by
  have e1 : wrap64 ((i : Int) + 1) = ((i + 1 : Nat) : Int) := by rw [w64 (by omega) (by omega)]; omega
  have hge : l[i]?.getD default = ⟨kd, nm, tx⟩ := by rw [List.getElem?_eq_getElem hl, Option.getD_some, he]
  have cn := c_spec_l7Name nm hw.1
  have ct := c_spec_l21Text tx hw.2
  have cf := c_spec_l21Find its nm (by omega)
  have b1 : (its.length + 1) * 40 ≤ 140737488355328 := by omega
  have b2 : its.length + 1 ≤ 4611686018427387904 := by omega
  have hn : playE its (l[i]?.getD default) = some (its ++ [⟨nm, tx, false⟩]) := by rw [hge, play_new hnt hf, if_pos hk]
  obtain ⟨hN, hT⟩ := hnt
  rw [hN] at cn
  rw [hT] at ct
  obtain ⟨z, hz⟩ : ∃ z : Int, fnd its nm = z := ⟨_, rfl⟩
  rw [hz] at cf
  have hz0 : z < 0 := by omega
  have hz1 : ¬ 0 ≤ z := by omega
  clear hz hf
  subst hk
  replace hn : Hd _ := hn
  clear hge hw
  repeat' (first | with_reducible refine OutOK.done ?_ | refine thenQ_n ?_ | refine thenQ_r ?_ | refine thenQ_e ?_ | refine AW.seq ?_ | refine AW.dreg tok mixed [15, 16]  [(0, false), (1, false), (2, false), (3, false), (4, false), (5, false), (6, false), (7, false), (8, false), (9, false), (10, false), (11, false), (12, false), (14, false), (13, false), (15, true), (16, true), (17, false), (18, false)] (by decide +kernel) rfl (by simp [*]; rfl) ?_ | refine AW.reg tok (by simp [*]; rfl) ?_ | refine AW.ifB (by simp [*]; rfl) ?_ | refine IfG.t ?_ | refine IfG.f ?_ | (refine IfG.p (fun hg => ?_) (fun hg => ?_) <;> (try (have hg' := hg; simp at hg'))) | (refine IfG.n (fun hg => ?_) (fun hg => ?_) <;> (try (have hg' := hg; simp at hg'))) | (refine OutOK.gateP (fun hg => ?_) (fun hg => ?_) <;> (try (have hg' := hg; simp at hg'))) | (refine OutOK.gateN (fun hg => ?_) (fun hg => ?_) <;> (try (have hg' := hg; simp at hg'))) | (refine IfG.g (fun hg => ?_) (fun hg => ?_) <;> (try (have hg' := hg; simp at hg'))) | (refine OutOK.gate (fun hg => ?_) (fun hg => ?_) <;> (try (have hg' := hg; simp at hg'))) | (refine OutOK.callF [] (by simp [*]; rfl) (by simp [*]; rfl) (by simp [*]; rfl) hb115 (by apply cn <;> first | assumption | exact Hd.out (by assumption) | ((try (clear e0)); (try (clear e1)); (try (clear e2)); (try (clear e3)); (try (clear e4)); (try (clear e5)); (try (clear e6)); (try (clear e7)); (try (clear e8)); (try (clear e9)); (try (clear e10)); (try (clear e11)); omega)) ⟨by simp [*], by simp [*], by simp [*], by simp [*], by simp [*]⟩ (by simp [*]) (by simp [*]; rfl) ?_) | (refine OutOK.callF [] (by simp [*]; rfl) (by simp [*]; rfl) (by simp [*]; rfl) hb116 (by apply ct <;> first | assumption | exact Hd.out (by assumption) | ((try (clear e0)); (try (clear e1)); (try (clear e2)); (try (clear e3)); (try (clear e4)); (try (clear e5)); (try (clear e6)); (try (clear e7)); (try (clear e8)); (try (clear e9)); (try (clear e10)); (try (clear e11)); omega)) ⟨by simp [*], by simp [*], by simp [*], by simp [*], by simp [*]⟩ (by simp [*]) (by simp [*]; rfl) ?_) | (refine OutOK.callF [] (by simp [*]; rfl) (by simp [*]; rfl) (by simp [*]; rfl) hb92 (by apply cf <;> first | assumption | exact Hd.out (by assumption) | ((try (clear e0)); (try (clear e1)); (try (clear e2)); (try (clear e3)); (try (clear e4)); (try (clear e5)); (try (clear e6)); (try (clear e7)); (try (clear e8)); (try (clear e9)); (try (clear e10)); (try (clear e11)); omega)) ⟨by simp [*], by simp [*], by simp [*], by simp [*], by simp [*]⟩ (by simp [*]) (by simp [*]; rfl) ?_) | (refine OutOK.callF [] (by simp [*]; rfl) (by simp [*]; rfl) (by simp [*]; rfl) hb95 (by apply c_spec_l1In <;> first | assumption | exact Hd.out (by assumption) | ((try (clear e0)); (try (clear e1)); (try (clear e2)); (try (clear e3)); (try (clear e4)); (try (clear e5)); (try (clear e6)); (try (clear e7)); (try (clear e8)); (try (clear e9)); (try (clear e10)); (try (clear e11)); omega)) ⟨by simp [*], by simp [*], by simp [*], by simp [*], by simp [*]⟩ (by simp [*]) (by simp [*]; rfl) ?_) | refine OutOK.run (by simp [*]; rfl) ?_ | refine AW.ret ?_ | refine AW.skip ?_ | refine AW.exit ?_ | refine fin_r ?_ | refine fin_n ?_ | refine AW.block ?_ | refine blockQ_n ?_ | refine blockQ_r ?_ | refine blockQ_e ?_ | refine blockQ_o rfl ?_)
  exact .inr ⟨rfl, its ++ [⟨nm, tx, false⟩], hn.out, by simp, ⟨by simp, by simp, by simp⟩⟩
theorem s_ply_1n (l : List Ent) (its : List Itm) (i : Nat) (kd : Int) (nm tx : ByteArray) (hl : i < l.length) (he : l[i] = ⟨kd, nm, tx⟩) (h40 : l.length ≤ 40) (hil : its.length ≤ 40) (hw : nm.size ≤ 9223372036854775807 ∧ tx.size ≤ 9223372036854775807) (hnt : nameOK nm = true ∧ textOK tx = true) (hf : fnd its nm < 0) (hk : ¬ kd = 1) (hx : 3 ≤ kd → tx.toList = []) : AW Try.prog 98 (cAt Try.f91 [2, 2, 1, 2, 5, 7]) (mk [(0, .c (.sl true 3 (ents l))), (4, .rf 58000 []), (5, .c (.sc (.int .i64 (i : Int))))] [(58000, .sv (.sl false 3 (itms its)))]) (PlyQ l its i) := by
  have e1 : wrap64 ((i : Int) + 1) = ((i + 1 : Nat) : Int) := by rw [w64 (by omega) (by omega)]; omega
  have hge : l[i]?.getD default = ⟨kd, nm, tx⟩ := by rw [List.getElem?_eq_getElem hl, Option.getD_some, he]
  have cn := c_spec_l7Name nm hw.1
  have ct := c_spec_l21Text tx hw.2
  have cf := c_spec_l21Find its nm (by omega)
  have b1 : (its.length + 1) * 40 ≤ 140737488355328 := by omega
  have b2 : its.length + 1 ≤ 4611686018427387904 := by omega
  have hn : playE its (l[i]?.getD default) = none := by rw [hge, play_new hnt hf, if_neg hk]
  obtain ⟨hN, hT⟩ := hnt
  rw [hN] at cn
  rw [hT] at ct
  obtain ⟨z, hz⟩ : ∃ z : Int, fnd its nm = z := ⟨_, rfl⟩
  rw [hz] at cf
  have hz0 : z < 0 := by omega
  have hz1 : ¬ 0 ≤ z := by omega
  clear hz hf
  by_cases h3 : 3 ≤ kd
  · replace hx := hx h3
    replace hn : Hd _ := hn
    clear hge hw
    repeat' (first | with_reducible refine OutOK.done ?_ | refine thenQ_n ?_ | refine thenQ_r ?_ | refine thenQ_e ?_ | refine AW.seq ?_ | refine AW.dreg tok mixed [15, 16]  [(0, false), (1, false), (2, false), (3, false), (4, false), (5, false), (6, false), (7, false), (8, false), (9, false), (10, false), (11, false), (12, false), (14, false), (13, false), (15, true), (16, true), (17, false), (18, false)] (by decide +kernel) rfl (by simp [*]; rfl) ?_ | refine AW.reg tok (by simp [*]; rfl) ?_ | refine AW.ifB (by simp [*]; rfl) ?_ | refine IfG.t ?_ | refine IfG.f ?_ | (refine IfG.p (fun hg => ?_) (fun hg => ?_) <;> (try (have hg' := hg; simp at hg'))) | (refine IfG.n (fun hg => ?_) (fun hg => ?_) <;> (try (have hg' := hg; simp at hg'))) | (refine OutOK.gateP (fun hg => ?_) (fun hg => ?_) <;> (try (have hg' := hg; simp at hg'))) | (refine OutOK.gateN (fun hg => ?_) (fun hg => ?_) <;> (try (have hg' := hg; simp at hg'))) | (refine IfG.g (fun hg => ?_) (fun hg => ?_) <;> (try (have hg' := hg; simp at hg'))) | (refine OutOK.gate (fun hg => ?_) (fun hg => ?_) <;> (try (have hg' := hg; simp at hg'))) | (refine OutOK.callF [] (by simp [*]; rfl) (by simp [*]; rfl) (by simp [*]; rfl) hb115 (by apply cn <;> first | assumption | exact Hd.out (by assumption) | ((try (clear e0)); (try (clear e1)); (try (clear e2)); (try (clear e3)); (try (clear e4)); (try (clear e5)); (try (clear e6)); (try (clear e7)); (try (clear e8)); (try (clear e9)); (try (clear e10)); (try (clear e11)); omega)) ⟨by simp [*], by simp [*], by simp [*], by simp [*], by simp [*]⟩ (by simp [*]) (by simp [*]; rfl) ?_) | (refine OutOK.callF [] (by simp [*]; rfl) (by simp [*]; rfl) (by simp [*]; rfl) hb116 (by apply ct <;> first | assumption | exact Hd.out (by assumption) | ((try (clear e0)); (try (clear e1)); (try (clear e2)); (try (clear e3)); (try (clear e4)); (try (clear e5)); (try (clear e6)); (try (clear e7)); (try (clear e8)); (try (clear e9)); (try (clear e10)); (try (clear e11)); omega)) ⟨by simp [*], by simp [*], by simp [*], by simp [*], by simp [*]⟩ (by simp [*]) (by simp [*]; rfl) ?_) | (refine OutOK.callF [] (by simp [*]; rfl) (by simp [*]; rfl) (by simp [*]; rfl) hb92 (by apply cf <;> first | assumption | exact Hd.out (by assumption) | ((try (clear e0)); (try (clear e1)); (try (clear e2)); (try (clear e3)); (try (clear e4)); (try (clear e5)); (try (clear e6)); (try (clear e7)); (try (clear e8)); (try (clear e9)); (try (clear e10)); (try (clear e11)); omega)) ⟨by simp [*], by simp [*], by simp [*], by simp [*], by simp [*]⟩ (by simp [*]) (by simp [*]; rfl) ?_) | (refine OutOK.callF [] (by simp [*]; rfl) (by simp [*]; rfl) (by simp [*]; rfl) hb95 (by apply c_spec_l1In <;> first | assumption | exact Hd.out (by assumption) | ((try (clear e0)); (try (clear e1)); (try (clear e2)); (try (clear e3)); (try (clear e4)); (try (clear e5)); (try (clear e6)); (try (clear e7)); (try (clear e8)); (try (clear e9)); (try (clear e10)); (try (clear e11)); omega)) ⟨by simp [*], by simp [*], by simp [*], by simp [*], by simp [*]⟩ (by simp [*]) (by simp [*]; rfl) ?_) | refine OutOK.run (by simp [*]; rfl) ?_ | refine AW.ret ?_ | refine AW.skip ?_ | refine AW.exit ?_ | refine fin_r ?_ | refine fin_n ?_ | refine AW.block ?_ | refine blockQ_n ?_ | refine blockQ_r ?_ | refine blockQ_e ?_ | refine blockQ_o rfl ?_)
    exact .inl ⟨rfl, hn.out, by simp [Try.f91]⟩
  clear hx
  replace hn : Hd _ := hn
  clear hge hw
  repeat' (first | with_reducible refine OutOK.done ?_ | refine thenQ_n ?_ | refine thenQ_r ?_ | refine thenQ_e ?_ | refine AW.seq ?_ | refine AW.dreg tok mixed [15, 16]  [(0, false), (1, false), (2, false), (3, false), (4, false), (5, false), (6, false), (7, false), (8, false), (9, false), (10, false), (11, false), (12, false), (14, false), (13, false), (15, true), (16, true), (17, false), (18, false)] (by decide +kernel) rfl (by simp [*]; rfl) ?_ | refine AW.reg tok (by simp [*]; rfl) ?_ | refine AW.ifB (by simp [*]; rfl) ?_ | refine IfG.t ?_ | refine IfG.f ?_ | (refine IfG.p (fun hg => ?_) (fun hg => ?_) <;> (try (have hg' := hg; simp at hg'))) | (refine IfG.n (fun hg => ?_) (fun hg => ?_) <;> (try (have hg' := hg; simp at hg'))) | (refine OutOK.gateP (fun hg => ?_) (fun hg => ?_) <;> (try (have hg' := hg; simp at hg'))) | (refine OutOK.gateN (fun hg => ?_) (fun hg => ?_) <;> (try (have hg' := hg; simp at hg'))) | (refine IfG.g (fun hg => ?_) (fun hg => ?_) <;> (try (have hg' := hg; simp at hg'))) | (refine OutOK.gate (fun hg => ?_) (fun hg => ?_) <;> (try (have hg' := hg; simp at hg'))) | (refine OutOK.callF [] (by simp [*]; rfl) (by simp [*]; rfl) (by simp [*]; rfl) hb115 (by apply cn <;> first | assumption | exact Hd.out (by assumption) | ((try (clear e0)); (try (clear e1)); (try (clear e2)); (try (clear e3)); (try (clear e4)); (try (clear e5)); (try (clear e6)); (try (clear e7)); (try (clear e8)); (try (clear e9)); (try (clear e10)); (try (clear e11)); omega)) ⟨by simp [*], by simp [*], by simp [*], by simp [*], by simp [*]⟩ (by simp [*]) (by simp [*]; rfl) ?_) | (refine OutOK.callF [] (by simp [*]; rfl) (by simp [*]; rfl) (by simp [*]; rfl) hb116 (by apply ct <;> first | assumption | exact Hd.out (by assumption) | ((try (clear e0)); (try (clear e1)); (try (clear e2)); (try (clear e3)); (try (clear e4)); (try (clear e5)); (try (clear e6)); (try (clear e7)); (try (clear e8)); (try (clear e9)); (try (clear e10)); (try (clear e11)); omega)) ⟨by simp [*], by simp [*], by simp [*], by simp [*], by simp [*]⟩ (by simp [*]) (by simp [*]; rfl) ?_) | (refine OutOK.callF [] (by simp [*]; rfl) (by simp [*]; rfl) (by simp [*]; rfl) hb92 (by apply cf <;> first | assumption | exact Hd.out (by assumption) | ((try (clear e0)); (try (clear e1)); (try (clear e2)); (try (clear e3)); (try (clear e4)); (try (clear e5)); (try (clear e6)); (try (clear e7)); (try (clear e8)); (try (clear e9)); (try (clear e10)); (try (clear e11)); omega)) ⟨by simp [*], by simp [*], by simp [*], by simp [*], by simp [*]⟩ (by simp [*]) (by simp [*]; rfl) ?_) | (refine OutOK.callF [] (by simp [*]; rfl) (by simp [*]; rfl) (by simp [*]; rfl) hb95 (by apply c_spec_l1In <;> first | assumption | exact Hd.out (by assumption) | ((try (clear e0)); (try (clear e1)); (try (clear e2)); (try (clear e3)); (try (clear e4)); (try (clear e5)); (try (clear e6)); (try (clear e7)); (try (clear e8)); (try (clear e9)); (try (clear e10)); (try (clear e11)); omega)) ⟨by simp [*], by simp [*], by simp [*], by simp [*], by simp [*]⟩ (by simp [*]) (by simp [*]; rfl) ?_) | refine OutOK.run (by simp [*]; rfl) ?_ | refine AW.ret ?_ | refine AW.skip ?_ | refine AW.exit ?_ | refine fin_r ?_ | refine fin_n ?_ | refine AW.block ?_ | refine blockQ_n ?_ | refine blockQ_r ?_ | refine blockQ_e ?_ | refine blockQ_o rfl ?_)
  exact .inl ⟨rfl, hn.out, by simp [Try.f91]⟩
theorem s_ply_o (l : List Ent) (its : List Itm) (i : Nat) (kd : Int) (nm tx : ByteArray) (hl : i < l.length) (he : l[i] = ⟨kd, nm, tx⟩) (h40 : l.length ≤ 40) (hil : its.length ≤ 40) (hw : nm.size ≤ 9223372036854775807 ∧ tx.size ≤ 9223372036854775807) (hnt : nameOK nm = true ∧ textOK tx = true) (k : Nat) (hf : fnd its nm = (k : Int)) (hkl : k < its.length) (hk : kd = 1) : AW Try.prog 98 (cAt Try.f91 [2, 2, 1, 2, 5, 7]) (mk [(0, .c (.sl true 3 (ents l))), (4, .rf 58000 []), (5, .c (.sc (.int .i64 (i : Int))))] [(58000, .sv (.sl false 3 (itms its)))]) (PlyQ l its i) := by
  have e1 : wrap64 ((i : Int) + 1) = ((i + 1 : Nat) : Int) := by rw [w64 (by omega) (by omega)]; omega
  have hge : l[i]?.getD default = ⟨kd, nm, tx⟩ := by rw [List.getElem?_eq_getElem hl, Option.getD_some, he]
  have cn := c_spec_l7Name nm hw.1
  have ct := c_spec_l21Text tx hw.2
  have cf := c_spec_l21Find its nm (by omega)
  have b1 : (its.length + 1) * 40 ≤ 140737488355328 := by omega
  have b2 : its.length + 1 ≤ 4611686018427387904 := by omega
  have hn : playE its (l[i]?.getD default) = none := by rw [hge, play_at hnt hf hkl]; simp [hk]
  obtain ⟨hN, hT⟩ := hnt
  rw [hN] at cn
  rw [hT] at ct
  rw [hf] at cf
  have hz0 : ¬ (k : Int) < 0 := by omega
  have hz1 : (0 : Int) ≤ k := by omega
  clear hf
  subst hk
  replace hn : Hd _ := hn
  clear hge hw
  repeat' (first | with_reducible refine OutOK.done ?_ | refine thenQ_n ?_ | refine thenQ_r ?_ | refine thenQ_e ?_ | refine AW.seq ?_ | refine AW.dreg tok mixed [15, 16]  [(0, false), (1, false), (2, false), (3, false), (4, false), (5, false), (6, false), (7, false), (8, false), (9, false), (10, false), (11, false), (12, false), (14, false), (13, false), (15, true), (16, true), (17, false), (18, false)] (by decide +kernel) rfl (by simp [*]; rfl) ?_ | refine AW.reg tok (by simp [*]; rfl) ?_ | refine AW.ifB (by simp [*]; rfl) ?_ | refine IfG.t ?_ | refine IfG.f ?_ | (refine IfG.p (fun hg => ?_) (fun hg => ?_) <;> (try (have hg' := hg; simp at hg'))) | (refine IfG.n (fun hg => ?_) (fun hg => ?_) <;> (try (have hg' := hg; simp at hg'))) | (refine OutOK.gateP (fun hg => ?_) (fun hg => ?_) <;> (try (have hg' := hg; simp at hg'))) | (refine OutOK.gateN (fun hg => ?_) (fun hg => ?_) <;> (try (have hg' := hg; simp at hg'))) | (refine IfG.g (fun hg => ?_) (fun hg => ?_) <;> (try (have hg' := hg; simp at hg'))) | (refine OutOK.gate (fun hg => ?_) (fun hg => ?_) <;> (try (have hg' := hg; simp at hg'))) | (refine OutOK.callF [] (by simp [*]; rfl) (by simp [*]; rfl) (by simp [*]; rfl) hb115 (by apply cn <;> first | assumption | exact Hd.out (by assumption) | ((try (clear e0)); (try (clear e1)); (try (clear e2)); (try (clear e3)); (try (clear e4)); (try (clear e5)); (try (clear e6)); (try (clear e7)); (try (clear e8)); (try (clear e9)); (try (clear e10)); (try (clear e11)); omega)) ⟨by simp [*], by simp [*], by simp [*], by simp [*], by simp [*]⟩ (by simp [*]) (by simp [*]; rfl) ?_) | (refine OutOK.callF [] (by simp [*]; rfl) (by simp [*]; rfl) (by simp [*]; rfl) hb116 (by apply ct <;> first | assumption | exact Hd.out (by assumption) | ((try (clear e0)); (try (clear e1)); (try (clear e2)); (try (clear e3)); (try (clear e4)); (try (clear e5)); (try (clear e6)); (try (clear e7)); (try (clear e8)); (try (clear e9)); (try (clear e10)); (try (clear e11)); omega)) ⟨by simp [*], by simp [*], by simp [*], by simp [*], by simp [*]⟩ (by simp [*]) (by simp [*]; rfl) ?_) | (refine OutOK.callF [] (by simp [*]; rfl) (by simp [*]; rfl) (by simp [*]; rfl) hb92 (by apply cf <;> first | assumption | exact Hd.out (by assumption) | ((try (clear e0)); (try (clear e1)); (try (clear e2)); (try (clear e3)); (try (clear e4)); (try (clear e5)); (try (clear e6)); (try (clear e7)); (try (clear e8)); (try (clear e9)); (try (clear e10)); (try (clear e11)); omega)) ⟨by simp [*], by simp [*], by simp [*], by simp [*], by simp [*]⟩ (by simp [*]) (by simp [*]; rfl) ?_) | (refine OutOK.callF [] (by simp [*]; rfl) (by simp [*]; rfl) (by simp [*]; rfl) hb95 (by apply c_spec_l1In <;> first | assumption | exact Hd.out (by assumption) | ((try (clear e0)); (try (clear e1)); (try (clear e2)); (try (clear e3)); (try (clear e4)); (try (clear e5)); (try (clear e6)); (try (clear e7)); (try (clear e8)); (try (clear e9)); (try (clear e10)); (try (clear e11)); omega)) ⟨by simp [*], by simp [*], by simp [*], by simp [*], by simp [*]⟩ (by simp [*]) (by simp [*]; rfl) ?_) | refine OutOK.run (by simp [*]; rfl) ?_ | refine AW.ret ?_ | refine AW.skip ?_ | refine AW.exit ?_ | refine fin_r ?_ | refine fin_n ?_ | refine AW.block ?_ | refine blockQ_n ?_ | refine blockQ_r ?_ | refine blockQ_e ?_ | refine blockQ_o rfl ?_)
  exact .inl ⟨rfl, hn.out, by simp [Try.f91]⟩
theorem s_ply_2n (l : List Ent) (its : List Itm) (i : Nat) (kd : Int) (nm tx : ByteArray) (hl : i < l.length) (he : l[i] = ⟨kd, nm, tx⟩) (h40 : l.length ≤ 40) (hil : its.length ≤ 40) (hw : nm.size ≤ 9223372036854775807 ∧ tx.size ≤ 9223372036854775807) (hnt : nameOK nm = true ∧ textOK tx = true) (k : Nat) (hf : fnd its nm = (k : Int)) (hkl : k < its.length) (hk : kd = 2) (hv : its[k].vd = true) : AW Try.prog 98 (cAt Try.f91 [2, 2, 1, 2, 5, 7]) (mk [(0, .c (.sl true 3 (ents l))), (4, .rf 58000 []), (5, .c (.sc (.int .i64 (i : Int))))] [(58000, .sv (.sl false 3 (itms its)))]) (PlyQ l its i) := by
  have e1 : wrap64 ((i : Int) + 1) = ((i + 1 : Nat) : Int) := by rw [w64 (by omega) (by omega)]; omega
  have hge : l[i]?.getD default = ⟨kd, nm, tx⟩ := by rw [List.getElem?_eq_getElem hl, Option.getD_some, he]
  have cn := c_spec_l7Name nm hw.1
  have ct := c_spec_l21Text tx hw.2
  have cf := c_spec_l21Find its nm (by omega)
  have b1 : (its.length + 1) * 40 ≤ 140737488355328 := by omega
  have b2 : its.length + 1 ≤ 4611686018427387904 := by omega
  have hn : playE its (l[i]?.getD default) = none := by rw [hge, play_at hnt hf hkl]; simp [hk, hv]
  obtain ⟨hN, hT⟩ := hnt
  rw [hN] at cn
  rw [hT] at ct
  rw [hf] at cf
  have hz0 : ¬ (k : Int) < 0 := by omega
  have hz1 : (0 : Int) ≤ k := by omega
  clear hf
  have r1 : inR 2 4 2 = true := inR_iff.2 ⟨by omega, by omega⟩
  have r2 : inR 2 4 3 = true := inR_iff.2 ⟨by omega, by omega⟩
  have r3 : inR 2 4 4 = true := inR_iff.2 ⟨by omega, by omega⟩
  subst hk
  replace hn : Hd _ := hn
  clear hge hw
  repeat' (first | with_reducible refine OutOK.done ?_ | refine thenQ_n ?_ | refine thenQ_r ?_ | refine thenQ_e ?_ | refine AW.seq ?_ | refine AW.dreg tok mixed [15, 16]  [(0, false), (1, false), (2, false), (3, false), (4, false), (5, false), (6, false), (7, false), (8, false), (9, false), (10, false), (11, false), (12, false), (14, false), (13, false), (15, true), (16, true), (17, false), (18, false)] (by decide +kernel) rfl (by simp [*]; rfl) ?_ | refine AW.reg tok (by simp [*]; rfl) ?_ | refine AW.ifB (by simp [*]; rfl) ?_ | refine IfG.t ?_ | refine IfG.f ?_ | (refine IfG.p (fun hg => ?_) (fun hg => ?_) <;> (try (have hg' := hg; simp at hg'))) | (refine IfG.n (fun hg => ?_) (fun hg => ?_) <;> (try (have hg' := hg; simp at hg'))) | (refine OutOK.gateP (fun hg => ?_) (fun hg => ?_) <;> (try (have hg' := hg; simp at hg'))) | (refine OutOK.gateN (fun hg => ?_) (fun hg => ?_) <;> (try (have hg' := hg; simp at hg'))) | (refine IfG.g (fun hg => ?_) (fun hg => ?_) <;> (try (have hg' := hg; simp at hg'))) | (refine OutOK.gate (fun hg => ?_) (fun hg => ?_) <;> (try (have hg' := hg; simp at hg'))) | (refine OutOK.callF [] (by simp [*]; rfl) (by simp [*]; rfl) (by simp [*]; rfl) hb115 (by apply cn <;> first | assumption | exact Hd.out (by assumption) | ((try (clear e0)); (try (clear e1)); (try (clear e2)); (try (clear e3)); (try (clear e4)); (try (clear e5)); (try (clear e6)); (try (clear e7)); (try (clear e8)); (try (clear e9)); (try (clear e10)); (try (clear e11)); omega)) ⟨by simp [*], by simp [*], by simp [*], by simp [*], by simp [*]⟩ (by simp [*]) (by simp [*]; rfl) ?_) | (refine OutOK.callF [] (by simp [*]; rfl) (by simp [*]; rfl) (by simp [*]; rfl) hb116 (by apply ct <;> first | assumption | exact Hd.out (by assumption) | ((try (clear e0)); (try (clear e1)); (try (clear e2)); (try (clear e3)); (try (clear e4)); (try (clear e5)); (try (clear e6)); (try (clear e7)); (try (clear e8)); (try (clear e9)); (try (clear e10)); (try (clear e11)); omega)) ⟨by simp [*], by simp [*], by simp [*], by simp [*], by simp [*]⟩ (by simp [*]) (by simp [*]; rfl) ?_) | (refine OutOK.callF [] (by simp [*]; rfl) (by simp [*]; rfl) (by simp [*]; rfl) hb92 (by apply cf <;> first | assumption | exact Hd.out (by assumption) | ((try (clear e0)); (try (clear e1)); (try (clear e2)); (try (clear e3)); (try (clear e4)); (try (clear e5)); (try (clear e6)); (try (clear e7)); (try (clear e8)); (try (clear e9)); (try (clear e10)); (try (clear e11)); omega)) ⟨by simp [*], by simp [*], by simp [*], by simp [*], by simp [*]⟩ (by simp [*]) (by simp [*]; rfl) ?_) | (refine OutOK.callF [] (by simp [*]; rfl) (by simp [*]; rfl) (by simp [*]; rfl) hb95 (by apply c_spec_l1In <;> first | assumption | exact Hd.out (by assumption) | ((try (clear e0)); (try (clear e1)); (try (clear e2)); (try (clear e3)); (try (clear e4)); (try (clear e5)); (try (clear e6)); (try (clear e7)); (try (clear e8)); (try (clear e9)); (try (clear e10)); (try (clear e11)); omega)) ⟨by simp [*], by simp [*], by simp [*], by simp [*], by simp [*]⟩ (by simp [*]) (by simp [*]; rfl) ?_) | refine OutOK.run (by simp [*]; rfl) ?_ | refine AW.ret ?_ | refine AW.skip ?_ | refine AW.exit ?_ | refine fin_r ?_ | refine fin_n ?_ | refine AW.block ?_ | refine blockQ_n ?_ | refine blockQ_r ?_ | refine blockQ_e ?_ | refine blockQ_o rfl ?_)
  exact .inl ⟨rfl, hn.out, by simp [Try.f91]⟩
theorem s_ply_2 (l : List Ent) (its : List Itm) (i : Nat) (kd : Int) (nm tx : ByteArray) (hl : i < l.length) (he : l[i] = ⟨kd, nm, tx⟩) (h40 : l.length ≤ 40) (hil : its.length ≤ 40) (hw : nm.size ≤ 9223372036854775807 ∧ tx.size ≤ 9223372036854775807) (hnt : nameOK nm = true ∧ textOK tx = true) (k : Nat) (hf : fnd its nm = (k : Int)) (hkl : k < its.length) (hk : kd = 2) (hv : its[k].vd = false) : AW Try.prog 98 (cAt Try.f91 [2, 2, 1, 2, 5, 7]) (mk [(0, .c (.sl true 3 (ents l))), (4, .rf 58000 []), (5, .c (.sc (.int .i64 (i : Int))))] [(58000, .sv (.sl false 3 (itms its)))]) (PlyQ l its i) := by
  have e1 : wrap64 ((i : Int) + 1) = ((i + 1 : Nat) : Int) := by rw [w64 (by omega) (by omega)]; omega
  have hge : l[i]?.getD default = ⟨kd, nm, tx⟩ := by rw [List.getElem?_eq_getElem hl, Option.getD_some, he]
  have cn := c_spec_l7Name nm hw.1
  have ct := c_spec_l21Text tx hw.2
  have cf := c_spec_l21Find its nm (by omega)
  have b1 : (its.length + 1) * 40 ≤ 140737488355328 := by omega
  have b2 : its.length + 1 ≤ 4611686018427387904 := by omega
  have hn : playE its (l[i]?.getD default) = some (its.set k ⟨its[k].nm, tx, false⟩) := by rw [hge, play_at hnt hf hkl]; simp [hk, hv]
  obtain ⟨hN, hT⟩ := hnt
  rw [hN] at cn
  rw [hT] at ct
  rw [hf] at cf
  have hz0 : ¬ (k : Int) < 0 := by omega
  have hz1 : (0 : Int) ≤ k := by omega
  clear hf
  have r1 : inR 2 4 2 = true := inR_iff.2 ⟨by omega, by omega⟩
  have r2 : inR 2 4 3 = true := inR_iff.2 ⟨by omega, by omega⟩
  have r3 : inR 2 4 4 = true := inR_iff.2 ⟨by omega, by omega⟩
  subst hk
  replace hn : Hd _ := hn
  clear hge hw
  repeat' (first | with_reducible refine OutOK.done ?_ | refine thenQ_n ?_ | refine thenQ_r ?_ | refine thenQ_e ?_ | refine AW.seq ?_ | refine AW.dreg tok mixed [15, 16]  [(0, false), (1, false), (2, false), (3, false), (4, false), (5, false), (6, false), (7, false), (8, false), (9, false), (10, false), (11, false), (12, false), (14, false), (13, false), (15, true), (16, true), (17, false), (18, false)] (by decide +kernel) rfl (by simp [*]; rfl) ?_ | refine AW.reg tok (by simp [*]; rfl) ?_ | refine AW.ifB (by simp [*]; rfl) ?_ | refine IfG.t ?_ | refine IfG.f ?_ | (refine IfG.p (fun hg => ?_) (fun hg => ?_) <;> (try (have hg' := hg; simp at hg'))) | (refine IfG.n (fun hg => ?_) (fun hg => ?_) <;> (try (have hg' := hg; simp at hg'))) | (refine OutOK.gateP (fun hg => ?_) (fun hg => ?_) <;> (try (have hg' := hg; simp at hg'))) | (refine OutOK.gateN (fun hg => ?_) (fun hg => ?_) <;> (try (have hg' := hg; simp at hg'))) | (refine IfG.g (fun hg => ?_) (fun hg => ?_) <;> (try (have hg' := hg; simp at hg'))) | (refine OutOK.gate (fun hg => ?_) (fun hg => ?_) <;> (try (have hg' := hg; simp at hg'))) | (refine OutOK.callF [] (by simp [*]; rfl) (by simp [*]; rfl) (by simp [*]; rfl) hb115 (by apply cn <;> first | assumption | exact Hd.out (by assumption) | ((try (clear e0)); (try (clear e1)); (try (clear e2)); (try (clear e3)); (try (clear e4)); (try (clear e5)); (try (clear e6)); (try (clear e7)); (try (clear e8)); (try (clear e9)); (try (clear e10)); (try (clear e11)); omega)) ⟨by simp [*], by simp [*], by simp [*], by simp [*], by simp [*]⟩ (by simp [*]) (by simp [*]; rfl) ?_) | (refine OutOK.callF [] (by simp [*]; rfl) (by simp [*]; rfl) (by simp [*]; rfl) hb116 (by apply ct <;> first | assumption | exact Hd.out (by assumption) | ((try (clear e0)); (try (clear e1)); (try (clear e2)); (try (clear e3)); (try (clear e4)); (try (clear e5)); (try (clear e6)); (try (clear e7)); (try (clear e8)); (try (clear e9)); (try (clear e10)); (try (clear e11)); omega)) ⟨by simp [*], by simp [*], by simp [*], by simp [*], by simp [*]⟩ (by simp [*]) (by simp [*]; rfl) ?_) | (refine OutOK.callF [] (by simp [*]; rfl) (by simp [*]; rfl) (by simp [*]; rfl) hb92 (by apply cf <;> first | assumption | exact Hd.out (by assumption) | ((try (clear e0)); (try (clear e1)); (try (clear e2)); (try (clear e3)); (try (clear e4)); (try (clear e5)); (try (clear e6)); (try (clear e7)); (try (clear e8)); (try (clear e9)); (try (clear e10)); (try (clear e11)); omega)) ⟨by simp [*], by simp [*], by simp [*], by simp [*], by simp [*]⟩ (by simp [*]) (by simp [*]; rfl) ?_) | (refine OutOK.callF [] (by simp [*]; rfl) (by simp [*]; rfl) (by simp [*]; rfl) hb95 (by apply c_spec_l1In <;> first | assumption | exact Hd.out (by assumption) | ((try (clear e0)); (try (clear e1)); (try (clear e2)); (try (clear e3)); (try (clear e4)); (try (clear e5)); (try (clear e6)); (try (clear e7)); (try (clear e8)); (try (clear e9)); (try (clear e10)); (try (clear e11)); omega)) ⟨by simp [*], by simp [*], by simp [*], by simp [*], by simp [*]⟩ (by simp [*]) (by simp [*]; rfl) ?_) | refine OutOK.run (by simp [*]; rfl) ?_ | refine AW.ret ?_ | refine AW.skip ?_ | refine AW.exit ?_ | refine fin_r ?_ | refine fin_n ?_ | refine AW.block ?_ | refine blockQ_n ?_ | refine blockQ_r ?_ | refine blockQ_e ?_ | refine blockQ_o rfl ?_)
  exact .inr ⟨rfl, its.set k ⟨its[k].nm, tx, false⟩, hn.out, by simp, ⟨by simp, by simp, by simp⟩⟩
theorem s_ply_3n (l : List Ent) (its : List Itm) (i : Nat) (kd : Int) (nm tx : ByteArray) (hl : i < l.length) (he : l[i] = ⟨kd, nm, tx⟩) (h40 : l.length ≤ 40) (hil : its.length ≤ 40) (hw : nm.size ≤ 9223372036854775807 ∧ tx.size ≤ 9223372036854775807) (hnt : nameOK nm = true ∧ textOK tx = true) (k : Nat) (hf : fnd its nm = (k : Int)) (hkl : k < its.length) (hk : kd = 3) (hx : tx.toList = []) (hv : its[k].vd = true) : AW Try.prog 98 (cAt Try.f91 [2, 2, 1, 2, 5, 7]) (mk [(0, .c (.sl true 3 (ents l))), (4, .rf 58000 []), (5, .c (.sc (.int .i64 (i : Int))))] [(58000, .sv (.sl false 3 (itms its)))]) (PlyQ l its i) := by
  have e1 : wrap64 ((i : Int) + 1) = ((i + 1 : Nat) : Int) := by rw [w64 (by omega) (by omega)]; omega
  have hge : l[i]?.getD default = ⟨kd, nm, tx⟩ := by rw [List.getElem?_eq_getElem hl, Option.getD_some, he]
  have cn := c_spec_l7Name nm hw.1
  have ct := c_spec_l21Text tx hw.2
  have cf := c_spec_l21Find its nm (by omega)
  have b1 : (its.length + 1) * 40 ≤ 140737488355328 := by omega
  have b2 : its.length + 1 ≤ 4611686018427387904 := by omega
  have hn : playE its (l[i]?.getD default) = none := by rw [hge, play_at hnt hf hkl]; simp [hk, hv, hx]
  obtain ⟨hN, hT⟩ := hnt
  rw [hN] at cn
  rw [hT] at ct
  rw [hf] at cf
  have hz0 : ¬ (k : Int) < 0 := by omega
  have hz1 : (0 : Int) ≤ k := by omega
  clear hf
  have r1 : inR 2 4 2 = true := inR_iff.2 ⟨by omega, by omega⟩
  have r2 : inR 2 4 3 = true := inR_iff.2 ⟨by omega, by omega⟩
  have r3 : inR 2 4 4 = true := inR_iff.2 ⟨by omega, by omega⟩
  subst hk
  replace hn : Hd _ := hn
  clear hge hw
  repeat' (first | with_reducible refine OutOK.done ?_ | refine thenQ_n ?_ | refine thenQ_r ?_ | refine thenQ_e ?_ | refine AW.seq ?_ | refine AW.dreg tok mixed [15, 16]  [(0, false), (1, false), (2, false), (3, false), (4, false), (5, false), (6, false), (7, false), (8, false), (9, false), (10, false), (11, false), (12, false), (14, false), (13, false), (15, true), (16, true), (17, false), (18, false)] (by decide +kernel) rfl (by simp [*]; rfl) ?_ | refine AW.reg tok (by simp [*]; rfl) ?_ | refine AW.ifB (by simp [*]; rfl) ?_ | refine IfG.t ?_ | refine IfG.f ?_ | (refine IfG.p (fun hg => ?_) (fun hg => ?_) <;> (try (have hg' := hg; simp at hg'))) | (refine IfG.n (fun hg => ?_) (fun hg => ?_) <;> (try (have hg' := hg; simp at hg'))) | (refine OutOK.gateP (fun hg => ?_) (fun hg => ?_) <;> (try (have hg' := hg; simp at hg'))) | (refine OutOK.gateN (fun hg => ?_) (fun hg => ?_) <;> (try (have hg' := hg; simp at hg'))) | (refine IfG.g (fun hg => ?_) (fun hg => ?_) <;> (try (have hg' := hg; simp at hg'))) | (refine OutOK.gate (fun hg => ?_) (fun hg => ?_) <;> (try (have hg' := hg; simp at hg'))) | (refine OutOK.callF [] (by simp [*]; rfl) (by simp [*]; rfl) (by simp [*]; rfl) hb115 (by apply cn <;> first | assumption | exact Hd.out (by assumption) | ((try (clear e0)); (try (clear e1)); (try (clear e2)); (try (clear e3)); (try (clear e4)); (try (clear e5)); (try (clear e6)); (try (clear e7)); (try (clear e8)); (try (clear e9)); (try (clear e10)); (try (clear e11)); omega)) ⟨by simp [*], by simp [*], by simp [*], by simp [*], by simp [*]⟩ (by simp [*]) (by simp [*]; rfl) ?_) | (refine OutOK.callF [] (by simp [*]; rfl) (by simp [*]; rfl) (by simp [*]; rfl) hb116 (by apply ct <;> first | assumption | exact Hd.out (by assumption) | ((try (clear e0)); (try (clear e1)); (try (clear e2)); (try (clear e3)); (try (clear e4)); (try (clear e5)); (try (clear e6)); (try (clear e7)); (try (clear e8)); (try (clear e9)); (try (clear e10)); (try (clear e11)); omega)) ⟨by simp [*], by simp [*], by simp [*], by simp [*], by simp [*]⟩ (by simp [*]) (by simp [*]; rfl) ?_) | (refine OutOK.callF [] (by simp [*]; rfl) (by simp [*]; rfl) (by simp [*]; rfl) hb92 (by apply cf <;> first | assumption | exact Hd.out (by assumption) | ((try (clear e0)); (try (clear e1)); (try (clear e2)); (try (clear e3)); (try (clear e4)); (try (clear e5)); (try (clear e6)); (try (clear e7)); (try (clear e8)); (try (clear e9)); (try (clear e10)); (try (clear e11)); omega)) ⟨by simp [*], by simp [*], by simp [*], by simp [*], by simp [*]⟩ (by simp [*]) (by simp [*]; rfl) ?_) | (refine OutOK.callF [] (by simp [*]; rfl) (by simp [*]; rfl) (by simp [*]; rfl) hb95 (by apply c_spec_l1In <;> first | assumption | exact Hd.out (by assumption) | ((try (clear e0)); (try (clear e1)); (try (clear e2)); (try (clear e3)); (try (clear e4)); (try (clear e5)); (try (clear e6)); (try (clear e7)); (try (clear e8)); (try (clear e9)); (try (clear e10)); (try (clear e11)); omega)) ⟨by simp [*], by simp [*], by simp [*], by simp [*], by simp [*]⟩ (by simp [*]) (by simp [*]; rfl) ?_) | refine OutOK.run (by simp [*]; rfl) ?_ | refine AW.ret ?_ | refine AW.skip ?_ | refine AW.exit ?_ | refine fin_r ?_ | refine fin_n ?_ | refine AW.block ?_ | refine blockQ_n ?_ | refine blockQ_r ?_ | refine blockQ_e ?_ | refine blockQ_o rfl ?_)
  exact .inl ⟨rfl, hn.out, by simp [Try.f91]⟩
theorem s_ply_3 (l : List Ent) (its : List Itm) (i : Nat) (kd : Int) (nm tx : ByteArray) (hl : i < l.length) (he : l[i] = ⟨kd, nm, tx⟩) (h40 : l.length ≤ 40) (hil : its.length ≤ 40) (hw : nm.size ≤ 9223372036854775807 ∧ tx.size ≤ 9223372036854775807) (hnt : nameOK nm = true ∧ textOK tx = true) (k : Nat) (hf : fnd its nm = (k : Int)) (hkl : k < its.length) (hk : kd = 3) (hx : tx.toList = []) (hv : its[k].vd = false) : AW Try.prog 98 (cAt Try.f91 [2, 2, 1, 2, 5, 7]) (mk [(0, .c (.sl true 3 (ents l))), (4, .rf 58000 []), (5, .c (.sc (.int .i64 (i : Int))))] [(58000, .sv (.sl false 3 (itms its)))]) (PlyQ l its i) := by
  have e1 : wrap64 ((i : Int) + 1) = ((i + 1 : Nat) : Int) := by rw [w64 (by omega) (by omega)]; omega
  have hge : l[i]?.getD default = ⟨kd, nm, tx⟩ := by rw [List.getElem?_eq_getElem hl, Option.getD_some, he]
  have cn := c_spec_l7Name nm hw.1
  have ct := c_spec_l21Text tx hw.2
  have cf := c_spec_l21Find its nm (by omega)
  have b1 : (its.length + 1) * 40 ≤ 140737488355328 := by omega
  have b2 : its.length + 1 ≤ 4611686018427387904 := by omega
  have hn : playE its (l[i]?.getD default) = some (its.set k ⟨its[k].nm, its[k].tx, true⟩) := by rw [hge, play_at hnt hf hkl]; simp [hk, hv, hx]
  obtain ⟨hN, hT⟩ := hnt
  rw [hN] at cn
  rw [hT] at ct
  rw [hf] at cf
  have hz0 : ¬ (k : Int) < 0 := by omega
  have hz1 : (0 : Int) ≤ k := by omega
  clear hf
  have r1 : inR 2 4 2 = true := inR_iff.2 ⟨by omega, by omega⟩
  have r2 : inR 2 4 3 = true := inR_iff.2 ⟨by omega, by omega⟩
  have r3 : inR 2 4 4 = true := inR_iff.2 ⟨by omega, by omega⟩
  subst hk
  replace hn : Hd _ := hn
  clear hge hw
  repeat' (first | with_reducible refine OutOK.done ?_ | refine thenQ_n ?_ | refine thenQ_r ?_ | refine thenQ_e ?_ | refine AW.seq ?_ | refine AW.dreg tok mixed [15, 16]  [(0, false), (1, false), (2, false), (3, false), (4, false), (5, false), (6, false), (7, false), (8, false), (9, false), (10, false), (11, false), (12, false), (14, false), (13, false), (15, true), (16, true), (17, false), (18, false)] (by decide +kernel) rfl (by simp [*]; rfl) ?_ | refine AW.reg tok (by simp [*]; rfl) ?_ | refine AW.ifB (by simp [*]; rfl) ?_ | refine IfG.t ?_ | refine IfG.f ?_ | (refine IfG.p (fun hg => ?_) (fun hg => ?_) <;> (try (have hg' := hg; simp at hg'))) | (refine IfG.n (fun hg => ?_) (fun hg => ?_) <;> (try (have hg' := hg; simp at hg'))) | (refine OutOK.gateP (fun hg => ?_) (fun hg => ?_) <;> (try (have hg' := hg; simp at hg'))) | (refine OutOK.gateN (fun hg => ?_) (fun hg => ?_) <;> (try (have hg' := hg; simp at hg'))) | (refine IfG.g (fun hg => ?_) (fun hg => ?_) <;> (try (have hg' := hg; simp at hg'))) | (refine OutOK.gate (fun hg => ?_) (fun hg => ?_) <;> (try (have hg' := hg; simp at hg'))) | (refine OutOK.callF [] (by simp [*]; rfl) (by simp [*]; rfl) (by simp [*]; rfl) hb115 (by apply cn <;> first | assumption | exact Hd.out (by assumption) | ((try (clear e0)); (try (clear e1)); (try (clear e2)); (try (clear e3)); (try (clear e4)); (try (clear e5)); (try (clear e6)); (try (clear e7)); (try (clear e8)); (try (clear e9)); (try (clear e10)); (try (clear e11)); omega)) ⟨by simp [*], by simp [*], by simp [*], by simp [*], by simp [*]⟩ (by simp [*]) (by simp [*]; rfl) ?_) | (refine OutOK.callF [] (by simp [*]; rfl) (by simp [*]; rfl) (by simp [*]; rfl) hb116 (by apply ct <;> first | assumption | exact Hd.out (by assumption) | ((try (clear e0)); (try (clear e1)); (try (clear e2)); (try (clear e3)); (try (clear e4)); (try (clear e5)); (try (clear e6)); (try (clear e7)); (try (clear e8)); (try (clear e9)); (try (clear e10)); (try (clear e11)); omega)) ⟨by simp [*], by simp [*], by simp [*], by simp [*], by simp [*]⟩ (by simp [*]) (by simp [*]; rfl) ?_) | (refine OutOK.callF [] (by simp [*]; rfl) (by simp [*]; rfl) (by simp [*]; rfl) hb92 (by apply cf <;> first | assumption | exact Hd.out (by assumption) | ((try (clear e0)); (try (clear e1)); (try (clear e2)); (try (clear e3)); (try (clear e4)); (try (clear e5)); (try (clear e6)); (try (clear e7)); (try (clear e8)); (try (clear e9)); (try (clear e10)); (try (clear e11)); omega)) ⟨by simp [*], by simp [*], by simp [*], by simp [*], by simp [*]⟩ (by simp [*]) (by simp [*]; rfl) ?_) | (refine OutOK.callF [] (by simp [*]; rfl) (by simp [*]; rfl) (by simp [*]; rfl) hb95 (by apply c_spec_l1In <;> first | assumption | exact Hd.out (by assumption) | ((try (clear e0)); (try (clear e1)); (try (clear e2)); (try (clear e3)); (try (clear e4)); (try (clear e5)); (try (clear e6)); (try (clear e7)); (try (clear e8)); (try (clear e9)); (try (clear e10)); (try (clear e11)); omega)) ⟨by simp [*], by simp [*], by simp [*], by simp [*], by simp [*]⟩ (by simp [*]) (by simp [*]; rfl) ?_) | refine OutOK.run (by simp [*]; rfl) ?_ | refine AW.ret ?_ | refine AW.skip ?_ | refine AW.exit ?_ | refine fin_r ?_ | refine fin_n ?_ | refine AW.block ?_ | refine blockQ_n ?_ | refine blockQ_r ?_ | refine blockQ_e ?_ | refine blockQ_o rfl ?_)
  exact .inr ⟨rfl, its.set k ⟨its[k].nm, its[k].tx, true⟩, hn.out, by simp, ⟨by simp, by simp, by simp⟩⟩
theorem s_ply_4n (l : List Ent) (its : List Itm) (i : Nat) (kd : Int) (nm tx : ByteArray) (hl : i < l.length) (he : l[i] = ⟨kd, nm, tx⟩) (h40 : l.length ≤ 40) (hil : its.length ≤ 40) (hw : nm.size ≤ 9223372036854775807 ∧ tx.size ≤ 9223372036854775807) (hnt : nameOK nm = true ∧ textOK tx = true) (k : Nat) (hf : fnd its nm = (k : Int)) (hkl : k < its.length) (hk : kd = 4) (hx : tx.toList = []) (hv : its[k].vd = false) : AW Try.prog 98 (cAt Try.f91 [2, 2, 1, 2, 5, 7]) (mk [(0, .c (.sl true 3 (ents l))), (4, .rf 58000 []), (5, .c (.sc (.int .i64 (i : Int))))] [(58000, .sv (.sl false 3 (itms its)))]) (PlyQ l its i) := by
  have e1 : wrap64 ((i : Int) + 1) = ((i + 1 : Nat) : Int) := by rw [w64 (by omega) (by omega)]; omega
  have hge : l[i]?.getD default = ⟨kd, nm, tx⟩ := by rw [List.getElem?_eq_getElem hl, Option.getD_some, he]
  have cn := c_spec_l7Name nm hw.1
  have ct := c_spec_l21Text tx hw.2
  have cf := c_spec_l21Find its nm (by omega)
  have b1 : (its.length + 1) * 40 ≤ 140737488355328 := by omega
  have b2 : its.length + 1 ≤ 4611686018427387904 := by omega
  have hn : playE its (l[i]?.getD default) = none := by rw [hge, play_at hnt hf hkl]; simp [hk, hv, hx]
  obtain ⟨hN, hT⟩ := hnt
  rw [hN] at cn
  rw [hT] at ct
  rw [hf] at cf
  have hz0 : ¬ (k : Int) < 0 := by omega
  have hz1 : (0 : Int) ≤ k := by omega
  clear hf
  have r1 : inR 2 4 2 = true := inR_iff.2 ⟨by omega, by omega⟩
  have r2 : inR 2 4 3 = true := inR_iff.2 ⟨by omega, by omega⟩
  have r3 : inR 2 4 4 = true := inR_iff.2 ⟨by omega, by omega⟩
  subst hk
  replace hn : Hd _ := hn
  clear hge hw
  repeat' (first | with_reducible refine OutOK.done ?_ | refine thenQ_n ?_ | refine thenQ_r ?_ | refine thenQ_e ?_ | refine AW.seq ?_ | refine AW.dreg tok mixed [15, 16]  [(0, false), (1, false), (2, false), (3, false), (4, false), (5, false), (6, false), (7, false), (8, false), (9, false), (10, false), (11, false), (12, false), (14, false), (13, false), (15, true), (16, true), (17, false), (18, false)] (by decide +kernel) rfl (by simp [*]; rfl) ?_ | refine AW.reg tok (by simp [*]; rfl) ?_ | refine AW.ifB (by simp [*]; rfl) ?_ | refine IfG.t ?_ | refine IfG.f ?_ | (refine IfG.p (fun hg => ?_) (fun hg => ?_) <;> (try (have hg' := hg; simp at hg'))) | (refine IfG.n (fun hg => ?_) (fun hg => ?_) <;> (try (have hg' := hg; simp at hg'))) | (refine OutOK.gateP (fun hg => ?_) (fun hg => ?_) <;> (try (have hg' := hg; simp at hg'))) | (refine OutOK.gateN (fun hg => ?_) (fun hg => ?_) <;> (try (have hg' := hg; simp at hg'))) | (refine IfG.g (fun hg => ?_) (fun hg => ?_) <;> (try (have hg' := hg; simp at hg'))) | (refine OutOK.gate (fun hg => ?_) (fun hg => ?_) <;> (try (have hg' := hg; simp at hg'))) | (refine OutOK.callF [] (by simp [*]; rfl) (by simp [*]; rfl) (by simp [*]; rfl) hb115 (by apply cn <;> first | assumption | exact Hd.out (by assumption) | ((try (clear e0)); (try (clear e1)); (try (clear e2)); (try (clear e3)); (try (clear e4)); (try (clear e5)); (try (clear e6)); (try (clear e7)); (try (clear e8)); (try (clear e9)); (try (clear e10)); (try (clear e11)); omega)) ⟨by simp [*], by simp [*], by simp [*], by simp [*], by simp [*]⟩ (by simp [*]) (by simp [*]; rfl) ?_) | (refine OutOK.callF [] (by simp [*]; rfl) (by simp [*]; rfl) (by simp [*]; rfl) hb116 (by apply ct <;> first | assumption | exact Hd.out (by assumption) | ((try (clear e0)); (try (clear e1)); (try (clear e2)); (try (clear e3)); (try (clear e4)); (try (clear e5)); (try (clear e6)); (try (clear e7)); (try (clear e8)); (try (clear e9)); (try (clear e10)); (try (clear e11)); omega)) ⟨by simp [*], by simp [*], by simp [*], by simp [*], by simp [*]⟩ (by simp [*]) (by simp [*]; rfl) ?_) | (refine OutOK.callF [] (by simp [*]; rfl) (by simp [*]; rfl) (by simp [*]; rfl) hb92 (by apply cf <;> first | assumption | exact Hd.out (by assumption) | ((try (clear e0)); (try (clear e1)); (try (clear e2)); (try (clear e3)); (try (clear e4)); (try (clear e5)); (try (clear e6)); (try (clear e7)); (try (clear e8)); (try (clear e9)); (try (clear e10)); (try (clear e11)); omega)) ⟨by simp [*], by simp [*], by simp [*], by simp [*], by simp [*]⟩ (by simp [*]) (by simp [*]; rfl) ?_) | (refine OutOK.callF [] (by simp [*]; rfl) (by simp [*]; rfl) (by simp [*]; rfl) hb95 (by apply c_spec_l1In <;> first | assumption | exact Hd.out (by assumption) | ((try (clear e0)); (try (clear e1)); (try (clear e2)); (try (clear e3)); (try (clear e4)); (try (clear e5)); (try (clear e6)); (try (clear e7)); (try (clear e8)); (try (clear e9)); (try (clear e10)); (try (clear e11)); omega)) ⟨by simp [*], by simp [*], by simp [*], by simp [*], by simp [*]⟩ (by simp [*]) (by simp [*]; rfl) ?_) | refine OutOK.run (by simp [*]; rfl) ?_ | refine AW.ret ?_ | refine AW.skip ?_ | refine AW.exit ?_ | refine fin_r ?_ | refine fin_n ?_ | refine AW.block ?_ | refine blockQ_n ?_ | refine blockQ_r ?_ | refine blockQ_e ?_ | refine blockQ_o rfl ?_)
  exact .inl ⟨rfl, hn.out, by simp [Try.f91]⟩
theorem s_ply_4 (l : List Ent) (its : List Itm) (i : Nat) (kd : Int) (nm tx : ByteArray) (hl : i < l.length) (he : l[i] = ⟨kd, nm, tx⟩) (h40 : l.length ≤ 40) (hil : its.length ≤ 40) (hw : nm.size ≤ 9223372036854775807 ∧ tx.size ≤ 9223372036854775807) (hnt : nameOK nm = true ∧ textOK tx = true) (k : Nat) (hf : fnd its nm = (k : Int)) (hkl : k < its.length) (hk : kd = 4) (hx : tx.toList = []) (hv : its[k].vd = true) : AW Try.prog 98 (cAt Try.f91 [2, 2, 1, 2, 5, 7]) (mk [(0, .c (.sl true 3 (ents l))), (4, .rf 58000 []), (5, .c (.sc (.int .i64 (i : Int))))] [(58000, .sv (.sl false 3 (itms its)))]) (PlyQ l its i) := by
  have e1 : wrap64 ((i : Int) + 1) = ((i + 1 : Nat) : Int) := by rw [w64 (by omega) (by omega)]; omega
  have hge : l[i]?.getD default = ⟨kd, nm, tx⟩ := by rw [List.getElem?_eq_getElem hl, Option.getD_some, he]
  have cn := c_spec_l7Name nm hw.1
  have ct := c_spec_l21Text tx hw.2
  have cf := c_spec_l21Find its nm (by omega)
  have b1 : (its.length + 1) * 40 ≤ 140737488355328 := by omega
  have b2 : its.length + 1 ≤ 4611686018427387904 := by omega
  have hn : playE its (l[i]?.getD default) = some (its.set k ⟨its[k].nm, its[k].tx, false⟩) := by rw [hge, play_at hnt hf hkl]; simp [hk, hv, hx]
  obtain ⟨hN, hT⟩ := hnt
  rw [hN] at cn
  rw [hT] at ct
  rw [hf] at cf
  have hz0 : ¬ (k : Int) < 0 := by omega
  have hz1 : (0 : Int) ≤ k := by omega
  clear hf
  have r1 : inR 2 4 2 = true := inR_iff.2 ⟨by omega, by omega⟩
  have r2 : inR 2 4 3 = true := inR_iff.2 ⟨by omega, by omega⟩
  have r3 : inR 2 4 4 = true := inR_iff.2 ⟨by omega, by omega⟩
  subst hk
  replace hn : Hd _ := hn
  clear hge hw
  repeat' (first | with_reducible refine OutOK.done ?_ | refine thenQ_n ?_ | refine thenQ_r ?_ | refine thenQ_e ?_ | refine AW.seq ?_ | refine AW.dreg tok mixed [15, 16]  [(0, false), (1, false), (2, false), (3, false), (4, false), (5, false), (6, false), (7, false), (8, false), (9, false), (10, false), (11, false), (12, false), (14, false), (13, false), (15, true), (16, true), (17, false), (18, false)] (by decide +kernel) rfl (by simp [*]; rfl) ?_ | refine AW.reg tok (by simp [*]; rfl) ?_ | refine AW.ifB (by simp [*]; rfl) ?_ | refine IfG.t ?_ | refine IfG.f ?_ | (refine IfG.p (fun hg => ?_) (fun hg => ?_) <;> (try (have hg' := hg; simp at hg'))) | (refine IfG.n (fun hg => ?_) (fun hg => ?_) <;> (try (have hg' := hg; simp at hg'))) | (refine OutOK.gateP (fun hg => ?_) (fun hg => ?_) <;> (try (have hg' := hg; simp at hg'))) | (refine OutOK.gateN (fun hg => ?_) (fun hg => ?_) <;> (try (have hg' := hg; simp at hg'))) | (refine IfG.g (fun hg => ?_) (fun hg => ?_) <;> (try (have hg' := hg; simp at hg'))) | (refine OutOK.gate (fun hg => ?_) (fun hg => ?_) <;> (try (have hg' := hg; simp at hg'))) | (refine OutOK.callF [] (by simp [*]; rfl) (by simp [*]; rfl) (by simp [*]; rfl) hb115 (by apply cn <;> first | assumption | exact Hd.out (by assumption) | ((try (clear e0)); (try (clear e1)); (try (clear e2)); (try (clear e3)); (try (clear e4)); (try (clear e5)); (try (clear e6)); (try (clear e7)); (try (clear e8)); (try (clear e9)); (try (clear e10)); (try (clear e11)); omega)) ⟨by simp [*], by simp [*], by simp [*], by simp [*], by simp [*]⟩ (by simp [*]) (by simp [*]; rfl) ?_) | (refine OutOK.callF [] (by simp [*]; rfl) (by simp [*]; rfl) (by simp [*]; rfl) hb116 (by apply ct <;> first | assumption | exact Hd.out (by assumption) | ((try (clear e0)); (try (clear e1)); (try (clear e2)); (try (clear e3)); (try (clear e4)); (try (clear e5)); (try (clear e6)); (try (clear e7)); (try (clear e8)); (try (clear e9)); (try (clear e10)); (try (clear e11)); omega)) ⟨by simp [*], by simp [*], by simp [*], by simp [*], by simp [*]⟩ (by simp [*]) (by simp [*]; rfl) ?_) | (refine OutOK.callF [] (by simp [*]; rfl) (by simp [*]; rfl) (by simp [*]; rfl) hb92 (by apply cf <;> first | assumption | exact Hd.out (by assumption) | ((try (clear e0)); (try (clear e1)); (try (clear e2)); (try (clear e3)); (try (clear e4)); (try (clear e5)); (try (clear e6)); (try (clear e7)); (try (clear e8)); (try (clear e9)); (try (clear e10)); (try (clear e11)); omega)) ⟨by simp [*], by simp [*], by simp [*], by simp [*], by simp [*]⟩ (by simp [*]) (by simp [*]; rfl) ?_) | (refine OutOK.callF [] (by simp [*]; rfl) (by simp [*]; rfl) (by simp [*]; rfl) hb95 (by apply c_spec_l1In <;> first | assumption | exact Hd.out (by assumption) | ((try (clear e0)); (try (clear e1)); (try (clear e2)); (try (clear e3)); (try (clear e4)); (try (clear e5)); (try (clear e6)); (try (clear e7)); (try (clear e8)); (try (clear e9)); (try (clear e10)); (try (clear e11)); omega)) ⟨by simp [*], by simp [*], by simp [*], by simp [*], by simp [*]⟩ (by simp [*]) (by simp [*]; rfl) ?_) | refine OutOK.run (by simp [*]; rfl) ?_ | refine AW.ret ?_ | refine AW.skip ?_ | refine AW.exit ?_ | refine fin_r ?_ | refine fin_n ?_ | refine AW.block ?_ | refine blockQ_n ?_ | refine blockQ_r ?_ | refine blockQ_e ?_ | refine blockQ_o rfl ?_)
  exact .inr ⟨rfl, its.set k ⟨its[k].nm, its[k].tx, false⟩, hn.out, by simp, ⟨by simp, by simp, by simp⟩⟩
theorem s_ply_z (l : List Ent) (its : List Itm) (i : Nat) (kd : Int) (nm tx : ByteArray) (hl : i < l.length) (he : l[i] = ⟨kd, nm, tx⟩) (h40 : l.length ≤ 40) (hil : its.length ≤ 40) (hw : nm.size ≤ 9223372036854775807 ∧ tx.size ≤ 9223372036854775807) (hnt : nameOK nm = true ∧ textOK tx = true) (k : Nat) (hf : fnd its nm = (k : Int)) (hkl : k < its.length) (h1 : ¬ kd = 1) (h2 : inR 2 4 kd = false) (hx : 3 ≤ kd → tx.toList = []) : AW Try.prog 98 (cAt Try.f91 [2, 2, 1, 2, 5, 7]) (mk [(0, .c (.sl true 3 (ents l))), (4, .rf 58000 []), (5, .c (.sc (.int .i64 (i : Int))))] [(58000, .sv (.sl false 3 (itms its)))]) (PlyQ l its i) := by
  have e1 : wrap64 ((i : Int) + 1) = ((i + 1 : Nat) : Int) := by rw [w64 (by omega) (by omega)]; omega
  have hge : l[i]?.getD default = ⟨kd, nm, tx⟩ := by rw [List.getElem?_eq_getElem hl, Option.getD_some, he]
  have cn := c_spec_l7Name nm hw.1
  have ct := c_spec_l21Text tx hw.2
  have cf := c_spec_l21Find its nm (by omega)
  have b1 : (its.length + 1) * 40 ≤ 140737488355328 := by omega
  have b2 : its.length + 1 ≤ 4611686018427387904 := by omega
  have hn : playE its (l[i]?.getD default) = none := by
    rw [inR_not] at h2
    rw [hge, play_at hnt hf hkl, if_neg (by simp only; omega), if_neg (by simp only; omega), if_neg (by simp only; omega)]
  obtain ⟨hN, hT⟩ := hnt
  rw [hN] at cn
  rw [hT] at ct
  rw [hf] at cf
  have hz0 : ¬ (k : Int) < 0 := by omega
  have hz1 : (0 : Int) ≤ k := by omega
  clear hf
  by_cases h3 : 3 ≤ kd
  · replace hx := hx h3
    replace hn : Hd _ := hn
    clear hge hw
    repeat' (first | with_reducible refine OutOK.done ?_ | refine thenQ_n ?_ | refine thenQ_r ?_ | refine thenQ_e ?_ | refine AW.seq ?_ | refine AW.dreg tok mixed [15, 16]  [(0, false), (1, false), (2, false), (3, false), (4, false), (5, false), (6, false), (7, false), (8, false), (9, false), (10, false), (11, false), (12, false), (14, false), (13, false), (15, true), (16, true), (17, false), (18, false)] (by decide +kernel) rfl (by simp [*]; rfl) ?_ | refine AW.reg tok (by simp [*]; rfl) ?_ | refine AW.ifB (by simp [*]; rfl) ?_ | refine IfG.t ?_ | refine IfG.f ?_ | (refine IfG.p (fun hg => ?_) (fun hg => ?_) <;> (try (have hg' := hg; simp at hg'))) | (refine IfG.n (fun hg => ?_) (fun hg => ?_) <;> (try (have hg' := hg; simp at hg'))) | (refine OutOK.gateP (fun hg => ?_) (fun hg => ?_) <;> (try (have hg' := hg; simp at hg'))) | (refine OutOK.gateN (fun hg => ?_) (fun hg => ?_) <;> (try (have hg' := hg; simp at hg'))) | (refine IfG.g (fun hg => ?_) (fun hg => ?_) <;> (try (have hg' := hg; simp at hg'))) | (refine OutOK.gate (fun hg => ?_) (fun hg => ?_) <;> (try (have hg' := hg; simp at hg'))) | (refine OutOK.callF [] (by simp [*]; rfl) (by simp [*]; rfl) (by simp [*]; rfl) hb115 (by apply cn <;> first | assumption | exact Hd.out (by assumption) | ((try (clear e0)); (try (clear e1)); (try (clear e2)); (try (clear e3)); (try (clear e4)); (try (clear e5)); (try (clear e6)); (try (clear e7)); (try (clear e8)); (try (clear e9)); (try (clear e10)); (try (clear e11)); omega)) ⟨by simp [*], by simp [*], by simp [*], by simp [*], by simp [*]⟩ (by simp [*]) (by simp [*]; rfl) ?_) | (refine OutOK.callF [] (by simp [*]; rfl) (by simp [*]; rfl) (by simp [*]; rfl) hb116 (by apply ct <;> first | assumption | exact Hd.out (by assumption) | ((try (clear e0)); (try (clear e1)); (try (clear e2)); (try (clear e3)); (try (clear e4)); (try (clear e5)); (try (clear e6)); (try (clear e7)); (try (clear e8)); (try (clear e9)); (try (clear e10)); (try (clear e11)); omega)) ⟨by simp [*], by simp [*], by simp [*], by simp [*], by simp [*]⟩ (by simp [*]) (by simp [*]; rfl) ?_) | (refine OutOK.callF [] (by simp [*]; rfl) (by simp [*]; rfl) (by simp [*]; rfl) hb92 (by apply cf <;> first | assumption | exact Hd.out (by assumption) | ((try (clear e0)); (try (clear e1)); (try (clear e2)); (try (clear e3)); (try (clear e4)); (try (clear e5)); (try (clear e6)); (try (clear e7)); (try (clear e8)); (try (clear e9)); (try (clear e10)); (try (clear e11)); omega)) ⟨by simp [*], by simp [*], by simp [*], by simp [*], by simp [*]⟩ (by simp [*]) (by simp [*]; rfl) ?_) | (refine OutOK.callF [] (by simp [*]; rfl) (by simp [*]; rfl) (by simp [*]; rfl) hb95 (by apply c_spec_l1In <;> first | assumption | exact Hd.out (by assumption) | ((try (clear e0)); (try (clear e1)); (try (clear e2)); (try (clear e3)); (try (clear e4)); (try (clear e5)); (try (clear e6)); (try (clear e7)); (try (clear e8)); (try (clear e9)); (try (clear e10)); (try (clear e11)); omega)) ⟨by simp [*], by simp [*], by simp [*], by simp [*], by simp [*]⟩ (by simp [*]) (by simp [*]; rfl) ?_) | refine OutOK.run (by simp [*]; rfl) ?_ | refine AW.ret ?_ | refine AW.skip ?_ | refine AW.exit ?_ | refine fin_r ?_ | refine fin_n ?_ | refine AW.block ?_ | refine blockQ_n ?_ | refine blockQ_r ?_ | refine blockQ_e ?_ | refine blockQ_o rfl ?_)
    exact .inl ⟨rfl, hn.out, by simp [Try.f91]⟩
  clear hx
  replace hn : Hd _ := hn
  clear hge hw
  repeat' (first | with_reducible refine OutOK.done ?_ | refine thenQ_n ?_ | refine thenQ_r ?_ | refine thenQ_e ?_ | refine AW.seq ?_ | refine AW.dreg tok mixed [15, 16]  [(0, false), (1, false), (2, false), (3, false), (4, false), (5, false), (6, false), (7, false), (8, false), (9, false), (10, false), (11, false), (12, false), (14, false), (13, false), (15, true), (16, true), (17, false), (18, false)] (by decide +kernel) rfl (by simp [*]; rfl) ?_ | refine AW.reg tok (by simp [*]; rfl) ?_ | refine AW.ifB (by simp [*]; rfl) ?_ | refine IfG.t ?_ | refine IfG.f ?_ | (refine IfG.p (fun hg => ?_) (fun hg => ?_) <;> (try (have hg' := hg; simp at hg'))) | (refine IfG.n (fun hg => ?_) (fun hg => ?_) <;> (try (have hg' := hg; simp at hg'))) | (refine OutOK.gateP (fun hg => ?_) (fun hg => ?_) <;> (try (have hg' := hg; simp at hg'))) | (refine OutOK.gateN (fun hg => ?_) (fun hg => ?_) <;> (try (have hg' := hg; simp at hg'))) | (refine IfG.g (fun hg => ?_) (fun hg => ?_) <;> (try (have hg' := hg; simp at hg'))) | (refine OutOK.gate (fun hg => ?_) (fun hg => ?_) <;> (try (have hg' := hg; simp at hg'))) | (refine OutOK.callF [] (by simp [*]; rfl) (by simp [*]; rfl) (by simp [*]; rfl) hb115 (by apply cn <;> first | assumption | exact Hd.out (by assumption) | ((try (clear e0)); (try (clear e1)); (try (clear e2)); (try (clear e3)); (try (clear e4)); (try (clear e5)); (try (clear e6)); (try (clear e7)); (try (clear e8)); (try (clear e9)); (try (clear e10)); (try (clear e11)); omega)) ⟨by simp [*], by simp [*], by simp [*], by simp [*], by simp [*]⟩ (by simp [*]) (by simp [*]; rfl) ?_) | (refine OutOK.callF [] (by simp [*]; rfl) (by simp [*]; rfl) (by simp [*]; rfl) hb116 (by apply ct <;> first | assumption | exact Hd.out (by assumption) | ((try (clear e0)); (try (clear e1)); (try (clear e2)); (try (clear e3)); (try (clear e4)); (try (clear e5)); (try (clear e6)); (try (clear e7)); (try (clear e8)); (try (clear e9)); (try (clear e10)); (try (clear e11)); omega)) ⟨by simp [*], by simp [*], by simp [*], by simp [*], by simp [*]⟩ (by simp [*]) (by simp [*]; rfl) ?_) | (refine OutOK.callF [] (by simp [*]; rfl) (by simp [*]; rfl) (by simp [*]; rfl) hb92 (by apply cf <;> first | assumption | exact Hd.out (by assumption) | ((try (clear e0)); (try (clear e1)); (try (clear e2)); (try (clear e3)); (try (clear e4)); (try (clear e5)); (try (clear e6)); (try (clear e7)); (try (clear e8)); (try (clear e9)); (try (clear e10)); (try (clear e11)); omega)) ⟨by simp [*], by simp [*], by simp [*], by simp [*], by simp [*]⟩ (by simp [*]) (by simp [*]; rfl) ?_) | (refine OutOK.callF [] (by simp [*]; rfl) (by simp [*]; rfl) (by simp [*]; rfl) hb95 (by apply c_spec_l1In <;> first | assumption | exact Hd.out (by assumption) | ((try (clear e0)); (try (clear e1)); (try (clear e2)); (try (clear e3)); (try (clear e4)); (try (clear e5)); (try (clear e6)); (try (clear e7)); (try (clear e8)); (try (clear e9)); (try (clear e10)); (try (clear e11)); omega)) ⟨by simp [*], by simp [*], by simp [*], by simp [*], by simp [*]⟩ (by simp [*]) (by simp [*]; rfl) ?_) | refine OutOK.run (by simp [*]; rfl) ?_ | refine AW.ret ?_ | refine AW.skip ?_ | refine AW.exit ?_ | refine fin_r ?_ | refine fin_n ?_ | refine AW.block ?_ | refine blockQ_n ?_ | refine blockQ_r ?_ | refine blockQ_e ?_ | refine blockQ_o rfl ?_)
  exact .inl ⟨rfl, hn.out, by simp [Try.f91]⟩
end Go.Proofs.Ytodombkmnnggeaa.EngS


set_option linter.unusedSimpArgs false
set_option linter.unusedVariables false
set_option maxHeartbeats 4000000
set_option maxRecDepth 100000
namespace Go.Proofs.Ytodombkmnnggeaa.EngS
open Go Go.Proofs Go.Eng Go.RowKit
attribute [local irreducible] Go.RowKit.wrap64
theorem play_bad {its : List Itm} {kd : Int} {nm tx : ByteArray} (h3 : 3 ≤ kd) (hx : ¬ tx.toList = []) : playE its ⟨kd, nm, tx⟩ = none := by
  unfold playE
  split
  · split
    · rw [if_neg (by simp only; omega)]
    · rw [if_neg (by simp only; omega), if_neg (by simp [hx]), if_neg (by simp [hx])]
  · rfl
theorem w_ply (l : List Ent) (its : List Itm) (i : Nat) (hl : i < l.length) (h40 : l.length ≤ 40) (hil : its.length ≤ 40) (hw : ∀ e ∈ l, EntW e) :
    AW Try.prog 98 (cAt Try.f91 [2, 2, 1, 2, 5, 7]) (mk [(0, .c (.sl true 3 (ents l))), (4, .rf 58000 []), (5, .c (.sc (.int .i64 (i : Int))))] [(58000, .sv (.sl false 3 (itms its)))]) (PlyQ l its i) := by
  have hw := hw l[i] (List.getElem_mem hl)
  obtain ⟨kd, nm, tx, he⟩ : ∃ kd nm tx, l[i] = ⟨kd, nm, tx⟩ := ⟨_, _, _, rfl⟩
  rw [he] at hw
  cases hN : nameOK nm with
  | false => exact s_ply_n l its i kd nm tx hl he h40 hil hw hN
  | true =>
    cases hT : textOK tx with
    | false => exact s_ply_t l its i kd nm tx hl he h40 hil hw hN hT
    | true =>
      by_cases hb : 3 ≤ kd ∧ ¬ tx.toList = []
      · exact s_ply_x l its i kd nm tx hl he h40 hil hw ⟨hN, hT⟩ (play_bad hb.1 hb.2) hb.1 hb.2
      have hx : 3 ≤ kd → tx.toList = [] := fun h => Classical.byContradiction fun e => hb ⟨h, e⟩
      rcases idx_cases (fun x : Itm => decide (x.nm.toList = nm.toList)) its with hf | ⟨k, hf, hkl⟩
      · by_cases h1 : kd = 1
        · exact s_ply_1 l its i kd nm tx hl he h40 hil hw ⟨hN, hT⟩ hf h1
        · exact s_ply_1n l its i kd nm tx hl he h40 hil hw ⟨hN, hT⟩ hf h1 hx
      by_cases h1 : kd = 1
      · exact s_ply_o l its i kd nm tx hl he h40 hil hw ⟨hN, hT⟩ k hf hkl h1
      by_cases h2 : kd = 2
      · cases hv : its[k].vd
        · exact s_ply_2 l its i kd nm tx hl he h40 hil hw ⟨hN, hT⟩ k hf hkl h2 hv
        · exact s_ply_2n l its i kd nm tx hl he h40 hil hw ⟨hN, hT⟩ k hf hkl h2 hv
      by_cases h3 : kd = 3
      · cases hv : its[k].vd
        · exact s_ply_3 l its i kd nm tx hl he h40 hil hw ⟨hN, hT⟩ k hf hkl h3 (hx (by omega)) hv
        · exact s_ply_3n l its i kd nm tx hl he h40 hil hw ⟨hN, hT⟩ k hf hkl h3 (hx (by omega)) hv
      by_cases h4 : kd = 4
      · cases hv : its[k].vd
        · exact s_ply_4n l its i kd nm tx hl he h40 hil hw ⟨hN, hT⟩ k hf hkl h4 (hx (by omega)) hv
        · exact s_ply_4 l its i kd nm tx hl he h40 hil hw ⟨hN, hT⟩ k hf hkl h4 (hx (by omega)) hv
      · exact s_ply_z l its i kd nm tx hl he h40 hil hw ⟨hN, hT⟩ k hf hkl h1 (by rw [inR_not]; omega) hx
theorem x_spec_l21Play (l : List Ent) (h40 : l.length ≤ 40) (hw : ∀ e ∈ l, EntW e) : ACallX Try.prog 91 [.v (.sl true 3 (ents l))] (fun x : List Itm => x.length ≤ l.length ∧ ∀ m, playL [] l = some m → x = m) (fun _ => [.x]) (fun x => [.v (.sl false 3 (itms x)), boo (playL [] l).isSome]) := by
  have hP : Hd (playL [] l = playL [] (l.drop 0)) := by simp [Hd]
  have hw' : Hd _ := hw
  generalize playL [] l = pl at *
  clear hw
  refine ACallX.of (N := 98) tok Try.func91 rfl rfl rfl (by simp) ?_
  repeat' (first | with_reducible refine OutOK.done ?_ | refine thenQ_n ?_ | refine thenQ_r ?_ | refine thenQ_e ?_ | refine AW.seq ?_ | refine AW.dreg tok mixed [15, 16]  [(0, false), (1, false), (2, false), (3, false), (4, false), (5, false), (6, false), (7, false), (8, false), (9, false), (10, false), (11, false), (12, false), (14, false), (13, false), (15, true), (16, true), (17, false), (18, false)] (by decide +kernel) rfl (by simp [*]; rfl) ?_ | refine AW.reg tok (by simp [*]; rfl) ?_ | refine AW.ifB (by simp [*]; rfl) ?_ | refine IfG.t ?_ | refine IfG.f ?_ | (refine IfG.p (fun hg => ?_) (fun hg => ?_) <;> (try (have hg' := hg; simp at hg'))) | (refine IfG.n (fun hg => ?_) (fun hg => ?_) <;> (try (have hg' := hg; simp at hg'))) | (refine OutOK.gateP (fun hg => ?_) (fun hg => ?_) <;> (try (have hg' := hg; simp at hg'))) | (refine OutOK.gateN (fun hg => ?_) (fun hg => ?_) <;> (try (have hg' := hg; simp at hg'))) | (refine IfG.g (fun hg => ?_) (fun hg => ?_) <;> (try (have hg' := hg; simp at hg'))) | (refine OutOK.gate (fun hg => ?_) (fun hg => ?_) <;> (try (have hg' := hg; simp at hg'))) | refine OutOK.run (by simp [*]; rfl) ?_ | refine AW.ret ?_ | refine AW.skip ?_ | refine AW.exit ?_ | refine fin_r ?_ | refine fin_n ?_ | refine AW.block ?_ | refine blockQ_n ?_ | refine blockQ_r ?_ | refine blockQ_e ?_ | refine blockQ_o rfl ?_)
  refine AW.loopS (α := Nat × List Itm) (fun q => q.1 ≤ l.length ∧ q.2.length ≤ q.1 ∧ Hd (pl = playL q.2 (l.drop q.1))) (fun q => [(0, .c (.sl true 3 (ents l))), (4, .rf 58000 []), (5, .c (.sc (.int .i64 (q.1 : Int))))])
    (fun q => [(58000, .sv (.sl false 3 (itms q.2)))]) (fun q => l.length - q.1) (0, []) ⟨Nat.zero_le _, by simp, hP⟩ [(9000, 58000)] (by simp) ⟨by simp, by simp, by simp⟩ ?_
  rintro ⟨i, its⟩ ⟨hi, hil, hp⟩
  simp only at hi hil hp
  rcases Nat.lt_or_ge i l.length with hl | hl
  · refine (w_ply l its i hl h40 (by omega) hw'.out).mono fun e st hq => ?_
    have hge : l[i]?.getD default = l[i] := by rw [List.getElem?_eq_getElem hl, Option.getD_some]
    rcases hq with ⟨rfl, hn, hq⟩ | ⟨rfl, m, hm, hml, hq⟩
    · rw [hge] at hn
      have hpn : pl = none := by rw [hp.out, playL_no hl hn]
      subst hpn
      exact ⟨.inr rfl, its, ⟨by omega, fun m e => by cases e⟩, hq⟩
    · rw [hge] at hm
      exact ⟨(i + 1, m), ⟨hl, by simp only; omega, by rw [Hd, hp.out, playL_go hl hm]⟩, ⟨[], by simp, hq⟩, by simp only; omega⟩
  · have hii : i = l.length := by omega
    subst hii
    have hps : pl = some its := by rw [hp.out, playL_end (Nat.le_refl _)]
    subst hps
    clear hP hp
    repeat' (first | with_reducible refine OutOK.done ?_ | refine thenQ_n ?_ | refine thenQ_r ?_ | refine thenQ_e ?_ | refine AW.seq ?_ | refine AW.dreg tok mixed [15, 16]  [(0, false), (1, false), (2, false), (3, false), (4, false), (5, false), (6, false), (7, false), (8, false), (9, false), (10, false), (11, false), (12, false), (14, false), (13, false), (15, true), (16, true), (17, false), (18, false)] (by decide +kernel) rfl (by simp [*]; rfl) ?_ | refine AW.reg tok (by simp [*]; rfl) ?_ | refine AW.ifB (by simp [*]; rfl) ?_ | refine IfG.t ?_ | refine IfG.f ?_ | (refine IfG.p (fun hg => ?_) (fun hg => ?_) <;> (try (have hg' := hg; simp at hg'))) | (refine IfG.n (fun hg => ?_) (fun hg => ?_) <;> (try (have hg' := hg; simp at hg'))) | (refine OutOK.gateP (fun hg => ?_) (fun hg => ?_) <;> (try (have hg' := hg; simp at hg'))) | (refine OutOK.gateN (fun hg => ?_) (fun hg => ?_) <;> (try (have hg' := hg; simp at hg'))) | (refine IfG.g (fun hg => ?_) (fun hg => ?_) <;> (try (have hg' := hg; simp at hg'))) | (refine OutOK.gate (fun hg => ?_) (fun hg => ?_) <;> (try (have hg' := hg; simp at hg'))) | refine OutOK.run (by simp [*]; rfl) ?_ | refine AW.ret ?_ | refine AW.skip ?_ | refine AW.exit ?_ | refine fin_r ?_ | refine fin_n ?_ | refine AW.block ?_ | refine blockQ_n ?_ | refine blockQ_r ?_ | refine blockQ_e ?_ | refine blockQ_o rfl ?_)
    exact ⟨its, ⟨hil, fun m e => by cases e; rfl⟩, by simp [Try.f91]⟩
theorem c_spec_l21Good (l : List Ent) (h : l.length ≤ 9223372036854775807) (hw : ∀ e ∈ l, EntW e) : ACall Try.prog 88 [.v (.sl true 3 (ents l))] [.x] [boo (regOK l)] := by
  rcases Nat.lt_or_ge 40 l.length with h40 | h40
  · have hb : regOK l = false := by simp [regOK]; omega
    rw [hb]
    have h40' : (40 : Int) < l.length := by omega
    clear hw hb
    refine ACall.of (N := 14) tok Try.func88 rfl rfl rfl (by simp) ?_
    repeat' (first | with_reducible refine OutOK.done ?_ | refine thenQ_n ?_ | refine thenQ_r ?_ | refine thenQ_e ?_ | refine AW.seq ?_ | refine AW.reg tok (by simp [*]; rfl) ?_ | refine AW.ifB (by simp [*]; rfl) ?_ | refine IfG.t ?_ | refine IfG.f ?_ | (refine IfG.p (fun hg => ?_) (fun hg => ?_) <;> (try (have hg' := hg; simp at hg'))) | (refine IfG.n (fun hg => ?_) (fun hg => ?_) <;> (try (have hg' := hg; simp at hg'))) | (refine OutOK.gateP (fun hg => ?_) (fun hg => ?_) <;> (try (have hg' := hg; simp at hg'))) | (refine OutOK.gateN (fun hg => ?_) (fun hg => ?_) <;> (try (have hg' := hg; simp at hg'))) | (refine IfG.g (fun hg => ?_) (fun hg => ?_) <;> (try (have hg' := hg; simp at hg'))) | (refine OutOK.gate (fun hg => ?_) (fun hg => ?_) <;> (try (have hg' := hg; simp at hg'))) | refine OutOK.run (by simp [*]; rfl) ?_ | refine AW.ret ?_ | refine AW.skip ?_ | refine AW.exit ?_ | refine fin_r ?_ | refine fin_n ?_ | refine AW.block ?_ | refine blockQ_n ?_ | refine blockQ_r ?_ | refine blockQ_e ?_ | refine blockQ_o rfl ?_)
    simp [Try.f88]
  have h40' : ¬ (40 : Int) < l.length := by omega
  refine ACallX.one ?_
  have cp := x_spec_l21Play l h40 hw
  have hb : regOK l = (playL [] l).isSome := by simp [regOK, h40]
  rw [hb]
  generalize (playL [] l).isSome = b at *
  generalize playL [] l = pl at *
  clear hw hb
  refine ACallX.of (N := 14) tok Try.func88 rfl rfl rfl (by simp) ?_
  repeat' (first | with_reducible refine OutOK.done ?_ | refine thenQ_n ?_ | refine thenQ_r ?_ | refine thenQ_e ?_ | refine AW.seq ?_ | refine AW.reg tok (by simp [*]; rfl) ?_ | refine AW.ifB (by simp [*]; rfl) ?_ | refine IfG.t ?_ | refine IfG.f ?_ | (refine IfG.p (fun hg => ?_) (fun hg => ?_) <;> (try (have hg' := hg; simp at hg'))) | (refine IfG.n (fun hg => ?_) (fun hg => ?_) <;> (try (have hg' := hg; simp at hg'))) | (refine OutOK.gateP (fun hg => ?_) (fun hg => ?_) <;> (try (have hg' := hg; simp at hg'))) | (refine OutOK.gateN (fun hg => ?_) (fun hg => ?_) <;> (try (have hg' := hg; simp at hg'))) | (refine IfG.g (fun hg => ?_) (fun hg => ?_) <;> (try (have hg' := hg; simp at hg'))) | (refine OutOK.gate (fun hg => ?_) (fun hg => ?_) <;> (try (have hg' := hg; simp at hg'))) | refine OutOK.run (by simp [*]; rfl) ?_ | refine AW.ret ?_ | refine AW.skip ?_ | refine AW.exit ?_ | refine fin_r ?_ | refine fin_n ?_ | refine AW.block ?_ | refine blockQ_n ?_ | refine blockQ_r ?_ | refine blockQ_e ?_ | refine blockQ_o rfl ?_)
  refine OutOK.callX [] (by simp [*]; rfl) (by simp [*]; rfl) (by simp [*]; rfl) hb91 (by apply cp <;> first | assumption | exact Hd.out (by assumption) | ((try (clear e0)); (try (clear e1)); (try (clear e2)); (try (clear e3)); (try (clear e4)); (try (clear e5)); (try (clear e6)); (try (clear e7)); (try (clear e8)); (try (clear e9)); (try (clear e10)); (try (clear e11)); omega)) ⟨by simp [*], by simp [*], by simp [*]⟩ (by simp [*]) (fun x hx => ?_)
  clear cp hx
  refine CallX.mk' ⟨by simp [*], by simp [*], by simp [*], by simp [*], by simp [*]⟩ (by simp [*]; rfl) ?_
  repeat' (first | with_reducible refine OutOK.done ?_ | refine thenQ_n ?_ | refine thenQ_r ?_ | refine thenQ_e ?_ | refine AW.seq ?_ | refine AW.reg tok (by simp [*]; rfl) ?_ | refine AW.ifB (by simp [*]; rfl) ?_ | refine IfG.t ?_ | refine IfG.f ?_ | (refine IfG.p (fun hg => ?_) (fun hg => ?_) <;> (try (have hg' := hg; simp at hg'))) | (refine IfG.n (fun hg => ?_) (fun hg => ?_) <;> (try (have hg' := hg; simp at hg'))) | (refine OutOK.gateP (fun hg => ?_) (fun hg => ?_) <;> (try (have hg' := hg; simp at hg'))) | (refine OutOK.gateN (fun hg => ?_) (fun hg => ?_) <;> (try (have hg' := hg; simp at hg'))) | (refine IfG.g (fun hg => ?_) (fun hg => ?_) <;> (try (have hg' := hg; simp at hg'))) | (refine OutOK.gate (fun hg => ?_) (fun hg => ?_) <;> (try (have hg' := hg; simp at hg'))) | refine OutOK.run (by simp [*]; rfl) ?_ | refine AW.ret ?_ | refine AW.skip ?_ | refine AW.exit ?_ | refine fin_r ?_ | refine fin_n ?_ | refine AW.block ?_ | refine blockQ_n ?_ | refine blockQ_r ?_ | refine blockQ_e ?_ | refine blockQ_o rfl ?_)
  exact ⟨(), trivial, by simp [Try.f88]⟩
theorem c_spec_IsValidRegister (l : List Ent) (h : l.length ≤ 9223372036854775807) (hw : ∀ e ∈ l, EntW e) : ACall Try.prog 34 [.v (.sl true 3 (ents l))] [.x] [boo (regOK l)] := by
  have cr := c_spec_l21Good l h hw
  generalize regOK l = R at *
  clear hw
  refine ACall.of (N := 5) tok Try.func34 rfl rfl rfl (by simp) ?_
  repeat' (first | with_reducible refine OutOK.done ?_ | refine thenQ_n ?_ | refine thenQ_r ?_ | refine thenQ_e ?_ | refine AW.seq ?_ | refine AW.reg tok (by simp [*]; rfl) ?_ | refine AW.ifB (by simp [*]; rfl) ?_ | refine IfG.t ?_ | refine IfG.f ?_ | (refine IfG.p (fun hg => ?_) (fun hg => ?_) <;> (try (have hg' := hg; simp at hg'))) | (refine IfG.n (fun hg => ?_) (fun hg => ?_) <;> (try (have hg' := hg; simp at hg'))) | (refine OutOK.gateP (fun hg => ?_) (fun hg => ?_) <;> (try (have hg' := hg; simp at hg'))) | (refine OutOK.gateN (fun hg => ?_) (fun hg => ?_) <;> (try (have hg' := hg; simp at hg'))) | (refine IfG.g (fun hg => ?_) (fun hg => ?_) <;> (try (have hg' := hg; simp at hg'))) | (refine OutOK.gate (fun hg => ?_) (fun hg => ?_) <;> (try (have hg' := hg; simp at hg'))) | (refine OutOK.callF [] (by simp [*]; rfl) (by simp [*]; rfl) (by simp [*]; rfl) hb88 (by apply cr <;> first | assumption | exact Hd.out (by assumption) | ((try (clear e0)); (try (clear e1)); (try (clear e2)); (try (clear e3)); (try (clear e4)); (try (clear e5)); (try (clear e6)); (try (clear e7)); (try (clear e8)); (try (clear e9)); (try (clear e10)); (try (clear e11)); omega)) ⟨by simp [*], by simp [*], by simp [*], by simp [*], by simp [*]⟩ (by simp [*]) (by simp [*]; rfl) ?_) | refine OutOK.run (by simp [*]; rfl) ?_ | refine AW.ret ?_ | refine AW.skip ?_ | refine AW.exit ?_ | refine fin_r ?_ | refine fin_n ?_ | refine AW.block ?_ | refine blockQ_n ?_ | refine blockQ_r ?_ | refine blockQ_e ?_ | refine blockQ_o rfl ?_)
  all_goals (try simp [*, Try.f34])
end Go.Proofs.Ytodombkmnnggeaa.EngS


set_option linter.unusedSimpArgs false
set_option linter.unusedVariables false
set_option maxHeartbeats 4000000
set_option maxRecDepth 10000
namespace Go.Proofs.Ytodombkmnnggeaa.EngS
open Go Go.Proofs Go.Eng Go.RowKit
attribute [local irreducible] Go.RowKit.wrap64
def bys (xs : List Int) : List PV := xs.map fun x => .sc (.int .u8 x)
@[simp] theorem bys_len (xs) : (bys xs).length = xs.length := by simp [bys]
@[simp] theorem bys_get (xs : List Int) (i : Nat) : (bys xs)[i]? = (xs[i]?).map fun x => .sc (.int .u8 x) := by simp [bys]
@[simp] theorem bys_at (xs : List Int) (i : Nat) (h : i < (bys xs).length) : (bys xs)[i] = .sc (.int .u8 (xs[i]'(by simpa using h))) := by simp [bys]
@[simp] theorem bys_frz (xs) : PV.frzs (bys xs) = bys xs := by simp [bys]
abbrev curP (code : List Int) (a s : Int) : List PV := [.sl true 1 (bys code), .sc (.int .i64 a), .sc (.int .u64 s)]
def nxB (code : List Int) (a : Int) : Int := if a < (code.length : Int) then wrap64 (code[a.toNat]?.getD 0) else 0
def nxS (code : List Int) (a s : Int) : Int := IntKind.u64.wrap (IntKind.u64.wrap (IntKind.u64.wrap (s * 6364136223846793005) + IntKind.u64.wrap (nxB code a)) + 876876)
def nxV (code : List Int) (a s : Int) : Int := if a + 1 ≤ (code.length : Int) then nxB code a else wrap64 (IntKind.u64.wrap (((((nxS code a s).fdiv (2 ^ min 40 IntKind.u64.bits) % 2 ^ IntKind.u64.bits).toNat &&& 255 % 2 ^ IntKind.u64.bits : Nat)) : Int))
theorem u64_small (n : Nat) (h : n ≤ 255) : wrap64 (IntKind.u64.wrap (n : Int)) = (n : Int) := by
  have : IntKind.u64.wrap (n : Int) = (n : Int) := by
    simp [IntKind.wrap, IntKind.signed, IntKind.bits]
    omega
  rw [this]
  exact w64 (by omega) (by omega)
def BytesOK (code : List Int) : Prop := ∀ x ∈ code, 0 ≤ x ∧ x ≤ 255
theorem nxB_le {code : List Int} (hb : BytesOK code) (a : Int) (h0 : 0 ≤ a) : 0 ≤ nxB code a ∧ nxB code a ≤ 255 := by
  unfold nxB
  split
  · have hl : a.toNat < code.length := by omega
    rw [List.getElem?_eq_getElem hl]
    have := hb code[a.toNat] (List.getElem_mem hl)
    simp only [Option.getD_some]
    rw [w64 (by omega) (by omega)]
    exact this
  · omega
theorem nxV_le {code : List Int} (hb : BytesOK code) (a s : Int) (h0 : 0 ≤ a) : 0 ≤ nxV code a s ∧ nxV code a s ≤ 255 := by
  unfold nxV
  split
  · exact nxB_le hb a h0
  · have h := Nat.and_le_right (n := ((nxS code a s).fdiv (2 ^ min 40 IntKind.u64.bits) % 2 ^ IntKind.u64.bits).toNat) (m := 255 % 2 ^ IntKind.u64.bits)
    have h2 : 255 % 2 ^ IntKind.u64.bits = 255 := by decide
    rw [h2] at h ⊢
    rw [u64_small _ h]
    omega
theorem c_spec_l1Cur_next (code : List Int) (a s : Int) (h0 : 0 ≤ a) (h1 : a ≤ 1000000000000000) (hc : code.length ≤ 9223372036854775807) : ACall Try.prog 107 [.p (curP code a s)] [.p (curP code (a + 1) (nxS code a s))] [int (nxV code a s)] := by
  have e1 : wrap64 (a + 1) = a + 1 := w64 (by omega) (by omega)
  refine ACall.of (N := 62) tok Try.func107 rfl rfl rfl (by simp) ?_
  repeat' (first | with_reducible refine OutOK.done ?_ | refine thenQ_n ?_ | refine thenQ_r ?_ | refine thenQ_e ?_ | refine AW.seq ?_ | refine AW.dreg tok mixed [7, 8]  [(0, false), (1, false), (2, false), (4, false), (5, false), (6, false), (3, false), (7, true), (8, true), (9, false)] (by decide +kernel) rfl (by simp [*]; rfl) ?_ | refine AW.dreg tok mixed [7]  [(0, false), (1, false), (2, false), (4, false), (5, false), (6, false), (3, false), (7, true), (8, false), (9, false), (10, false), (11, false)] (by decide +kernel) rfl (by simp [*]; rfl) ?_ | refine AW.dreg tok mixed [7, 8]  [(0, false), (1, false), (2, false), (4, false), (5, false), (6, false), (3, false), (7, true), (8, true), (9, false)] (by decide +kernel) rfl (by simp [*]; rfl) ?_ | refine AW.reg tok (by simp [*]; rfl) ?_ | refine AW.ifB (by simp [*]; rfl) ?_ | refine IfG.t ?_ | refine IfG.f ?_ | (refine IfG.p (fun hg => ?_) (fun hg => ?_) <;> (try (have hg' := hg; simp at hg'))) | (refine IfG.n (fun hg => ?_) (fun hg => ?_) <;> (try (have hg' := hg; simp at hg'))) | (refine OutOK.gateP (fun hg => ?_) (fun hg => ?_) <;> (try (have hg' := hg; simp at hg'))) | (refine OutOK.gateN (fun hg => ?_) (fun hg => ?_) <;> (try (have hg' := hg; simp at hg'))) | (refine IfG.g (fun hg => ?_) (fun hg => ?_) <;> (try (have hg' := hg; simp at hg'))) | (refine OutOK.gate (fun hg => ?_) (fun hg => ?_) <;> (try (have hg' := hg; simp at hg'))) | refine OutOK.run (by simp [*]; rfl) ?_ | refine AW.ret ?_ | refine AW.skip ?_ | refine AW.exit ?_ | refine fin_r ?_ | refine fin_n ?_ | refine AW.block ?_ | refine blockQ_n ?_ | refine blockQ_r ?_ | refine blockQ_e ?_ | refine blockQ_o rfl ?_)
  all_goals simp [Try.f107, nxV, nxS, nxB, *]
theorem x_spec_l1Cur_next (code : List Int) (a s : Int) (h0 : 0 ≤ a) (h1 : a ≤ 1000000000000) (hc : code.length ≤ 9223372036854775807) (hb : BytesOK code) :
    ACallX Try.prog 107 [.p (curP code a s)] (fun x : Int × Int => 0 ≤ x.2 ∧ x.2 ≤ 255) (fun x => [.p (curP code (a + 1) x.1)]) (fun x => [int x.2]) :=
  ACallX.imp (c_spec_l1Cur_next code a s h0 (by omega) hc).x (fun _ => (nxS code a s, nxV code a s)) (fun _ _ => nxV_le hb a s h0) (fun _ _ => rfl) (fun _ _ => rfl)
theorem tmod_in {v n : Int} (h : 0 ≤ v) (hn : 0 < n) : 0 ≤ Int.tmod v n ∧ Int.tmod v n < n := by
  rw [Int.tmod_eq_emod_of_nonneg h]
  exact ⟨Int.emod_nonneg _ (by omega), Int.emod_lt_of_pos _ hn⟩
theorem x_spec_l1Cur_pick (code : List Int) (a s n : Int) (h0 : 0 ≤ a) (h1 : a ≤ 900000000000) (hc : code.length ≤ 9223372036854775807) (hb : BytesOK code) (hn : 1 < n) (hn' : n ≤ 1000000) :
    ACallX Try.prog 67 [.p (curP code a s), int n] (fun x : Int × Int × Int => a ≤ x.1 ∧ x.1 ≤ a + 2 ∧ 0 ≤ x.2.2 ∧ x.2.2 < n) (fun x => [.p (curP code x.1 x.2.1), .x]) (fun x => [int x.2.2]) := by
  have e1 : ¬ n ≤ 1 := by omega
  have e3 : ¬ n = 0 := by omega
  by_cases e2 : 200 < n
  · refine ACallX.of (N := 20) tok Try.func67 rfl rfl rfl (by simp) ?_
    repeat' (first | with_reducible refine OutOK.done ?_ | refine thenQ_n ?_ | refine thenQ_r ?_ | refine thenQ_e ?_ | refine AW.seq ?_ | refine AW.reg tok (by simp [*]; rfl) ?_ | refine AW.ifB (by simp [*]; rfl) ?_ | refine IfG.t ?_ | refine IfG.f ?_ | (refine IfG.p (fun hg => ?_) (fun hg => ?_) <;> (try (have hg' := hg; simp at hg'))) | (refine IfG.n (fun hg => ?_) (fun hg => ?_) <;> (try (have hg' := hg; simp at hg'))) | (refine OutOK.gateP (fun hg => ?_) (fun hg => ?_) <;> (try (have hg' := hg; simp at hg'))) | (refine OutOK.gateN (fun hg => ?_) (fun hg => ?_) <;> (try (have hg' := hg; simp at hg'))) | (refine IfG.g (fun hg => ?_) (fun hg => ?_) <;> (try (have hg' := hg; simp at hg'))) | (refine OutOK.gate (fun hg => ?_) (fun hg => ?_) <;> (try (have hg' := hg; simp at hg'))) | (refine OutOK.callX [] (by simp [*]; rfl) (by simp [*]; rfl) (by simp [*]; rfl) hb107 (by apply x_spec_l1Cur_next <;> first | assumption | exact Hd.out (by assumption) | ((try (clear e0)); (try (clear e1)); (try (clear e2)); (try (clear e3)); (try (clear e4)); (try (clear e5)); (try (clear e6)); (try (clear e7)); (try (clear e8)); (try (clear e9)); (try (clear e10)); (try (clear e11)); omega)) ⟨by simp [*], by simp [*], by simp [*]⟩ (by simp [*]) (fun x hx => CallX.mk' ⟨by simp [*], by simp [*], by simp [*], by simp [*], by simp [*]⟩ (by simp [*]; rfl) ?_)) | refine OutOK.run (by simp [*]; rfl) ?_ | refine AW.ret ?_ | refine AW.skip ?_ | refine AW.exit ?_ | refine fin_r ?_ | refine fin_n ?_ | refine AW.block ?_ | refine blockQ_n ?_ | refine blockQ_r ?_ | refine blockQ_e ?_ | refine blockQ_o rfl ?_)
    rename_i x1 hx1
    have hv := tmod_in (v := wrap64 (wrap64 (x1.2 * 256) + x.2)) (n := n) (by rw [w64 (x := x1.2 * 256) (by omega) (by omega), w64 (by omega) (by omega)]; omega) (by omega)
    exact ⟨(a + 1 + 1, x.1, Int.tmod (wrap64 (wrap64 (x1.2 * 256) + x.2)) n), ⟨by simp only; omega, by simp only; omega, hv.1, hv.2⟩, by simp [Try.f67]⟩
  · refine ACallX.of (N := 20) tok Try.func67 rfl rfl rfl (by simp) ?_
    repeat' (first | with_reducible refine OutOK.done ?_ | refine thenQ_n ?_ | refine thenQ_r ?_ | refine thenQ_e ?_ | refine AW.seq ?_ | refine AW.reg tok (by simp [*]; rfl) ?_ | refine AW.ifB (by simp [*]; rfl) ?_ | refine IfG.t ?_ | refine IfG.f ?_ | (refine IfG.p (fun hg => ?_) (fun hg => ?_) <;> (try (have hg' := hg; simp at hg'))) | (refine IfG.n (fun hg => ?_) (fun hg => ?_) <;> (try (have hg' := hg; simp at hg'))) | (refine OutOK.gateP (fun hg => ?_) (fun hg => ?_) <;> (try (have hg' := hg; simp at hg'))) | (refine OutOK.gateN (fun hg => ?_) (fun hg => ?_) <;> (try (have hg' := hg; simp at hg'))) | (refine IfG.g (fun hg => ?_) (fun hg => ?_) <;> (try (have hg' := hg; simp at hg'))) | (refine OutOK.gate (fun hg => ?_) (fun hg => ?_) <;> (try (have hg' := hg; simp at hg'))) | (refine OutOK.callX [] (by simp [*]; rfl) (by simp [*]; rfl) (by simp [*]; rfl) hb107 (by apply x_spec_l1Cur_next <;> first | assumption | exact Hd.out (by assumption) | ((try (clear e0)); (try (clear e1)); (try (clear e2)); (try (clear e3)); (try (clear e4)); (try (clear e5)); (try (clear e6)); (try (clear e7)); (try (clear e8)); (try (clear e9)); (try (clear e10)); (try (clear e11)); omega)) ⟨by simp [*], by simp [*], by simp [*]⟩ (by simp [*]) (fun x hx => CallX.mk' ⟨by simp [*], by simp [*], by simp [*], by simp [*], by simp [*]⟩ (by simp [*]; rfl) ?_)) | refine OutOK.run (by simp [*]; rfl) ?_ | refine AW.ret ?_ | refine AW.skip ?_ | refine AW.exit ?_ | refine fin_r ?_ | refine fin_n ?_ | refine AW.block ?_ | refine blockQ_n ?_ | refine blockQ_r ?_ | refine blockQ_e ?_ | refine blockQ_o rfl ?_)
    have hv := tmod_in (v := x.2) (n := n) (by omega) (by omega)
    exact ⟨(a + 1, x.1, Int.tmod x.2 n), ⟨by simp only; omega, by simp only; omega, hv.1, hv.2⟩, by simp [Try.f67]⟩
theorem x_pickG (code : List Int) (a s n : Int) (h0 : 0 ≤ a) (h1 : a ≤ 900000000000) (hc : code.length ≤ 9223372036854775807) (hb : BytesOK code) (hn' : n ≤ 1000000) :
    ACallX Try.prog 67 [.p (curP code a s), int n] (fun x : Int × Int × Int => a ≤ x.1 ∧ x.1 ≤ a + 2 ∧ 0 ≤ x.2.2 ∧ (x.2.2 < n ∨ x.2.2 = 0)) (fun x => [.p (curP code x.1 x.2.1), .x]) (fun x => [int x.2.2]) := by
  by_cases hn : 1 < n
  · exact (x_spec_l1Cur_pick code a s n h0 h1 hc hb hn hn').imp id (fun x hx => ⟨hx.1, hx.2.1, hx.2.2.1, .inl hx.2.2.2⟩) (fun _ _ => rfl) (fun _ _ => rfl)
  · have e1 : n ≤ 1 := by omega
    refine ACallX.of (N := 20) tok Try.func67 rfl rfl rfl (by simp) ?_
    repeat' (first | with_reducible refine OutOK.done ?_ | refine thenQ_n ?_ | refine thenQ_r ?_ | refine thenQ_e ?_ | refine AW.seq ?_ | refine AW.reg tok (by simp [*]; rfl) ?_ | refine AW.ifB (by simp [*]; rfl) ?_ | refine IfG.t ?_ | refine IfG.f ?_ | (refine IfG.p (fun hg => ?_) (fun hg => ?_) <;> (try (have hg' := hg; simp at hg'))) | (refine IfG.n (fun hg => ?_) (fun hg => ?_) <;> (try (have hg' := hg; simp at hg'))) | (refine OutOK.gateP (fun hg => ?_) (fun hg => ?_) <;> (try (have hg' := hg; simp at hg'))) | (refine OutOK.gateN (fun hg => ?_) (fun hg => ?_) <;> (try (have hg' := hg; simp at hg'))) | (refine IfG.g (fun hg => ?_) (fun hg => ?_) <;> (try (have hg' := hg; simp at hg'))) | (refine OutOK.gate (fun hg => ?_) (fun hg => ?_) <;> (try (have hg' := hg; simp at hg'))) | refine OutOK.run (by simp [*]; rfl) ?_ | refine AW.ret ?_ | refine AW.skip ?_ | refine AW.exit ?_ | refine fin_r ?_ | refine fin_n ?_ | refine AW.block ?_ | refine blockQ_n ?_ | refine blockQ_r ?_ | refine blockQ_e ?_ | refine blockQ_o rfl ?_)
    exact ⟨(a, s, 0), ⟨by simp, by simp only; omega, by simp, .inr rfl⟩, by simp [Try.f67]⟩
theorem x_spec_l1Cur_one (code : List Int) (a s n : Int) (h0 : 0 ≤ a) (h1 : a ≤ 900000000000) (hc : code.length ≤ 9223372036854775807) (hb : BytesOK code) (hn : 1 < n) (hn' : n ≤ 1000000) :
    ACallX Try.prog 71 [.p (curP code a s), int n] (fun x : Int × Int × Bool => a ≤ x.1 ∧ x.1 ≤ a + 2) (fun x => [.p (curP code x.1 x.2.1), .x]) (fun x => [boo x.2.2]) := by
  refine ACallX.of (N := 9) tok Try.func71 rfl rfl rfl (by simp) ?_
  repeat' (first | with_reducible refine OutOK.done ?_ | refine thenQ_n ?_ | refine thenQ_r ?_ | refine thenQ_e ?_ | refine AW.seq ?_ | refine AW.reg tok (by simp [*]; rfl) ?_ | refine AW.ifB (by simp [*]; rfl) ?_ | refine IfG.t ?_ | refine IfG.f ?_ | (refine IfG.p (fun hg => ?_) (fun hg => ?_) <;> (try (have hg' := hg; simp at hg'))) | (refine IfG.n (fun hg => ?_) (fun hg => ?_) <;> (try (have hg' := hg; simp at hg'))) | (refine OutOK.gateP (fun hg => ?_) (fun hg => ?_) <;> (try (have hg' := hg; simp at hg'))) | (refine OutOK.gateN (fun hg => ?_) (fun hg => ?_) <;> (try (have hg' := hg; simp at hg'))) | (refine IfG.g (fun hg => ?_) (fun hg => ?_) <;> (try (have hg' := hg; simp at hg'))) | (refine OutOK.gate (fun hg => ?_) (fun hg => ?_) <;> (try (have hg' := hg; simp at hg'))) | (refine OutOK.callX [] (by simp [*]; rfl) (by simp [*]; rfl) (by simp [*]; rfl) hb67 (by apply x_spec_l1Cur_pick <;> first | assumption | exact Hd.out (by assumption) | ((try (clear e0)); (try (clear e1)); (try (clear e2)); (try (clear e3)); (try (clear e4)); (try (clear e5)); (try (clear e6)); (try (clear e7)); (try (clear e8)); (try (clear e9)); (try (clear e10)); (try (clear e11)); omega)) ⟨by simp [*], by simp [*], by simp [*]⟩ (by simp [*]) (fun x hx => CallX.mk' ⟨by simp [*], by simp [*], by simp [*], by simp [*], by simp [*]⟩ (by simp [*]; rfl) ?_)) | refine OutOK.run (by simp [*]; rfl) ?_ | refine AW.ret ?_ | refine AW.skip ?_ | refine AW.exit ?_ | refine fin_r ?_ | refine fin_n ?_ | refine AW.block ?_ | refine blockQ_n ?_ | refine blockQ_r ?_ | refine blockQ_e ?_ | refine blockQ_o rfl ?_)
  exact ⟨(x.1, x.2.1, decide (x.2.2 = 0)), ⟨hx.1, hx.2.1⟩, by simp [Try.f71]⟩
def strs (xs : List ByteArray) : List PV := xs.map fun x => .sc (.string x)
@[simp] theorem strs_len (xs) : (strs xs).length = xs.length := by simp [strs]
@[simp] theorem strs_get (xs : List ByteArray) (i : Nat) : (strs xs)[i]? = (xs[i]?).map fun x => .sc (.string x) := by simp [strs]
@[simp] theorem strs_at (xs : List ByteArray) (i : Nat) (h : i < (strs xs).length) : (strs xs)[i] = .sc (.string (xs[i]'(by simpa using h))) := by simp [strs]
@[simp] theorem strs_frz (xs) : PV.frzs (strs xs) = strs xs := by simp [strs]
theorem x_spec_l1Cur_of (code : List Int) (a s : Int) (xs : List ByteArray) (q : ByteArray → Prop) (h0 : 0 ≤ a) (h1 : a ≤ 900000000000) (hc : code.length ≤ 9223372036854775807) (hb : BytesOK code) (hn : 1 < xs.length) (hn' : xs.length ≤ 1000000) (hq : ∀ y ∈ xs, q y) :
    ACallX Try.prog 106 [.p (curP code a s), .v (.sl false 1 (strs xs))] (fun x : Int × Int × ByteArray => a ≤ x.1 ∧ x.1 ≤ a + 2 ∧ q x.2.2) (fun x => [.p (curP code x.1 x.2.1), .x]) (fun x => [.v (.sc (.string x.2.2))]) := by
  replace hq : Hd _ := hq
  have hn2 : (1 : Int) < xs.length := by omega
  refine ACallX.of (N := 12) tok Try.func106 rfl rfl rfl (by simp) ?_
  repeat' (first | with_reducible refine OutOK.done ?_ | refine thenQ_n ?_ | refine thenQ_r ?_ | refine thenQ_e ?_ | refine AW.seq ?_ | refine AW.reg tok (by simp [*]; rfl) ?_ | refine AW.ifB (by simp [*]; rfl) ?_ | refine IfG.t ?_ | refine IfG.f ?_ | (refine IfG.p (fun hg => ?_) (fun hg => ?_) <;> (try (have hg' := hg; simp at hg'))) | (refine IfG.n (fun hg => ?_) (fun hg => ?_) <;> (try (have hg' := hg; simp at hg'))) | (refine OutOK.gateP (fun hg => ?_) (fun hg => ?_) <;> (try (have hg' := hg; simp at hg'))) | (refine OutOK.gateN (fun hg => ?_) (fun hg => ?_) <;> (try (have hg' := hg; simp at hg'))) | (refine IfG.g (fun hg => ?_) (fun hg => ?_) <;> (try (have hg' := hg; simp at hg'))) | (refine OutOK.gate (fun hg => ?_) (fun hg => ?_) <;> (try (have hg' := hg; simp at hg'))) | refine OutOK.run (by simp [*]; rfl) ?_ | refine AW.ret ?_ | refine AW.skip ?_ | refine AW.exit ?_ | refine fin_r ?_ | refine fin_n ?_ | refine AW.block ?_ | refine blockQ_n ?_ | refine blockQ_r ?_ | refine blockQ_e ?_ | refine blockQ_o rfl ?_)
  refine OutOK.callX [] (by simp [*]; rfl) (by simp [*]; rfl) (by simp [*]; rfl) hb67 (by apply x_spec_l1Cur_pick <;> first | assumption | exact Hd.out (by assumption) | ((try (clear e0)); (try (clear e1)); (try (clear e2)); (try (clear e3)); (try (clear e4)); (try (clear e5)); (try (clear e6)); (try (clear e7)); (try (clear e8)); (try (clear e9)); (try (clear e10)); (try (clear e11)); omega)) ⟨by simp [*], by simp [*], by simp [*]⟩ (by simp [*]) (fun x hx => ?_)
  have hk : x.2.2.toNat < xs.length := by omega
  refine CallX.mk' ⟨by simp [*], by simp [*], by simp [*], by simp [*], by simp [*]⟩ (by simp [*]; rfl) ?_
  repeat' (first | with_reducible refine OutOK.done ?_ | refine thenQ_n ?_ | refine thenQ_r ?_ | refine thenQ_e ?_ | refine AW.seq ?_ | refine AW.reg tok (by simp [*]; rfl) ?_ | refine AW.ifB (by simp [*]; rfl) ?_ | refine IfG.t ?_ | refine IfG.f ?_ | (refine IfG.p (fun hg => ?_) (fun hg => ?_) <;> (try (have hg' := hg; simp at hg'))) | (refine IfG.n (fun hg => ?_) (fun hg => ?_) <;> (try (have hg' := hg; simp at hg'))) | (refine OutOK.gateP (fun hg => ?_) (fun hg => ?_) <;> (try (have hg' := hg; simp at hg'))) | (refine OutOK.gateN (fun hg => ?_) (fun hg => ?_) <;> (try (have hg' := hg; simp at hg'))) | (refine IfG.g (fun hg => ?_) (fun hg => ?_) <;> (try (have hg' := hg; simp at hg'))) | (refine OutOK.gate (fun hg => ?_) (fun hg => ?_) <;> (try (have hg' := hg; simp at hg'))) | refine OutOK.run (by simp [*]; rfl) ?_ | refine AW.ret ?_ | refine AW.skip ?_ | refine AW.exit ?_ | refine fin_r ?_ | refine fin_n ?_ | refine AW.block ?_ | refine blockQ_n ?_ | refine blockQ_r ?_ | refine blockQ_e ?_ | refine blockQ_o rfl ?_)
  exact ⟨(x.1, x.2.1, xs[x.2.2.toNat]), ⟨hx.1, hx.2.1, hq.out _ (List.getElem_mem hk)⟩, by simp [Try.f106]⟩
theorem c_laws_vBig (code : List Int) : ACall Try.prog 15 [.v (.sl true 1 (bys code))] [.x] [boo (decide (65536 < (code.length : Int)))] := by
  refine ACall.of (N := 6) tok Try.func15 rfl rfl rfl (by simp) ?_
  repeat' (first | with_reducible refine OutOK.done ?_ | refine thenQ_n ?_ | refine thenQ_r ?_ | refine thenQ_e ?_ | refine AW.seq ?_ | refine AW.reg tok (by simp [*]; rfl) ?_ | refine AW.ifB (by simp [*]; rfl) ?_ | refine IfG.t ?_ | refine IfG.f ?_ | (refine IfG.p (fun hg => ?_) (fun hg => ?_) <;> (try (have hg' := hg; simp at hg'))) | (refine IfG.n (fun hg => ?_) (fun hg => ?_) <;> (try (have hg' := hg; simp at hg'))) | (refine OutOK.gateP (fun hg => ?_) (fun hg => ?_) <;> (try (have hg' := hg; simp at hg'))) | (refine OutOK.gateN (fun hg => ?_) (fun hg => ?_) <;> (try (have hg' := hg; simp at hg'))) | (refine IfG.g (fun hg => ?_) (fun hg => ?_) <;> (try (have hg' := hg; simp at hg'))) | (refine OutOK.gate (fun hg => ?_) (fun hg => ?_) <;> (try (have hg' := hg; simp at hg'))) | refine OutOK.run (by simp [*]; rfl) ?_ | refine AW.ret ?_ | refine AW.skip ?_ | refine AW.exit ?_ | refine fin_r ?_ | refine fin_n ?_ | refine AW.block ?_ | refine blockQ_n ?_ | refine blockQ_r ?_ | refine blockQ_e ?_ | refine blockQ_o rfl ?_)
  all_goals (try simp [*, Try.f15])
end Go.Proofs.Ytodombkmnnggeaa.EngS


set_option linter.unusedSimpArgs false
set_option linter.unusedVariables false
set_option maxHeartbeats 4000000
set_option maxRecDepth 100000
namespace Go.Proofs.Ytodombkmnnggeaa.EngS
open Go Go.Proofs Go.Eng Go.RowKit
attribute [local irreducible] Go.RowKit.wrap64
@[simp] theorem strs_snoc (l : List ByteArray) (a : ByteArray) : strs l ++ [.sc (.string a)] = strs (l ++ [a]) := by simp [strs]
@[simp] theorem strs_nil : strs [] = [] := rfl
@[simp] theorem strs_coks (xs) : PV.coks (strs xs) = true := by
  induction xs with
  | nil => rfl
  | cons x xs ih => simp only [strs, List.map_cons, PV.coks, PV.cok] at ih ⊢; rw [ih]; rfl
@[simp] theorem strs_nofz (xs) : PV.nofzs (strs xs) = true := by
  induction xs with
  | nil => rfl
  | cons x xs ih => simp only [strs, List.map_cons, PV.nofzs, PV.nofz] at ih ⊢; rw [ih]; rfl
@[simp] theorem strs_flat (xs) : (strs xs).all PV.flat1 = true := by
  induction xs with
  | nil => rfl
  | cons x xs ih => simp only [strs, List.map_cons, List.all_cons] at ih ⊢; rw [ih]; rfl
@[simp] theorem strs_flat' (xs) : (∀ x ∈ strs xs, x.flat1 = true) ↔ True := by
  have := strs_flat xs
  rw [List.all_eq_true] at this
  exact ⟨fun _ => trivial, fun _ => this⟩
theorem playL_len {m : List Itm} : ∀ {l : List Ent} {its : List Itm}, playL its l = some m → m.length ≤ its.length + l.length
  | [], its, h => by simp [playL] at h; subst h; simp
  | e :: es, its, h => by
    rw [playL] at h
    cases hp : playE its e with
    | none => rw [hp] at h; cases h
    | some m1 =>
      rw [hp] at h
      have h1 := playL_len h
      have h2 : m1.length ≤ its.length + 1 := by
        unfold playE at hp
        split at hp
        · split at hp
          · split at hp
            · cases hp; simp
            · cases hp
          · split at hp
            · cases hp; simp
            · split at hp
              · cases hp; simp
              · split at hp
                · cases hp; simp
                · cases hp
        · cases hp
      simp only [List.length_cons]; omega
theorem regI_len (l : List Ent) : (regI l).length ≤ 40 := by
  unfold regI
  split
  · rename_i h
    simp only [regOK, Bool.and_eq_true, decide_eq_true_eq] at h
    cases hp : playL [] l with
    | none => simp
    | some m => have := playL_len (its := []) hp; simp at this ⊢; omega
  · simp
theorem c_slices_Clone_entry (l : List Ent) (h : l.length ≤ 1000) : ACall Try.prog 96 [.v (.sl true 3 (ents l))] [.x] [.v (.sl false 3 (ents l))] := by
  have h1 : (l.length : Int) * 40 ≤ 140737488355328 := by omega
  have h2 : (l.length : Int) ≤ 4611686018427387904 := by omega
  have h3 : l.length * 40 ≤ 140737488355328 := by omega
  have h4 : l.length ≤ 4611686018427387904 := by omega
  refine ACall.of (N := 8) tok Try.func96 rfl rfl rfl (by simp) ?_
  repeat' (first | with_reducible refine OutOK.done ?_ | refine thenQ_n ?_ | refine thenQ_r ?_ | refine thenQ_e ?_ | refine AW.seq ?_ | (refine AW.isNil tok rfl rfl rfl (by simp [*]; rfl) (by simp [*]; done) (by decide) ?_; intro hb hc; cases hb <;> simp at hc) | refine AW.reg tok (by simp [*]; rfl) ?_ | refine AW.ifB (by simp [*]; rfl) ?_ | refine IfG.t ?_ | refine IfG.f ?_ | (refine IfG.p (fun hg => ?_) (fun hg => ?_) <;> (try (have hg' := hg; simp at hg'))) | (refine IfG.n (fun hg => ?_) (fun hg => ?_) <;> (try (have hg' := hg; simp at hg'))) | (refine OutOK.gateP (fun hg => ?_) (fun hg => ?_) <;> (try (have hg' := hg; simp at hg'))) | (refine OutOK.gateN (fun hg => ?_) (fun hg => ?_) <;> (try (have hg' := hg; simp at hg'))) | (refine IfG.g (fun hg => ?_) (fun hg => ?_) <;> (try (have hg' := hg; simp at hg'))) | (refine OutOK.gate (fun hg => ?_) (fun hg => ?_) <;> (try (have hg' := hg; simp at hg'))) | refine OutOK.run (by simp [*]; rfl) ?_ | refine AW.ret ?_ | refine AW.skip ?_ | refine AW.exit ?_ | refine fin_r ?_ | refine fin_n ?_ | refine AW.block ?_ | refine blockQ_n ?_ | refine blockQ_r ?_ | refine blockQ_e ?_ | refine blockQ_o rfl ?_)
  all_goals (try simp [*, Try.f96])
def namL (p : Itm → Bool) (l : List Itm) : List ByteArray := (l.filter p).map (·.nm)
theorem namL_yes {p : Itm → Bool} {l : List Itm} {i : Nat} (h : i < l.length) (hp : p l[i] = true) : namL p (l.take (i + 1)) = namL p (l.take i) ++ [l[i].nm] := by
  rw [namL, List.take_succ_eq_append_getElem h, List.filter_append, List.map_append]; simp [namL, hp]
theorem namL_no {p : Itm → Bool} {l : List Itm} {i : Nat} (h : i < l.length) (hp : p l[i] = false) : namL p (l.take (i + 1)) = namL p (l.take i) := by
  rw [namL, List.take_succ_eq_append_getElem h, List.filter_append, List.map_append]; simp [namL, hp]
theorem namL_len (p : Itm → Bool) (l : List Itm) : (namL p l).length ≤ l.length := by simp only [namL, List.length_map]; exact List.length_filter_le _ _
theorem c_impl_namesOf (l : List Itm) (f : Nat) (C : List PV) (p : Itm → Bool) (h : l.length ≤ 40) (hbf : HasBody Try.prog f) (cf : ∀ x ∈ l, ACall Try.prog f [itmD x, .p C] [.x, .p C] [boo (p x)]) :
    ACall Try.prog 97 [.v (.sl true 3 (itms l)), .f f [C]] [.x, .f f [C]] [.v (.sl false 1 (strs (namL p l)))] := by
  replace cf : Hd _ := cf
  refine ACall.of (N := 25) tok Try.func97 rfl rfl rfl (by simp) ?_
  repeat' (first | with_reducible refine OutOK.done ?_ | refine thenQ_n ?_ | refine thenQ_r ?_ | refine thenQ_e ?_ | refine AW.seq ?_ | refine AW.reg tok (by simp [*]; rfl) ?_ | refine AW.ifB (by simp [*]; rfl) ?_ | refine IfG.t ?_ | refine IfG.f ?_ | (refine IfG.p (fun hg => ?_) (fun hg => ?_) <;> (try (have hg' := hg; simp at hg'))) | (refine IfG.n (fun hg => ?_) (fun hg => ?_) <;> (try (have hg' := hg; simp at hg'))) | (refine OutOK.gateP (fun hg => ?_) (fun hg => ?_) <;> (try (have hg' := hg; simp at hg'))) | (refine OutOK.gateN (fun hg => ?_) (fun hg => ?_) <;> (try (have hg' := hg; simp at hg'))) | (refine IfG.g (fun hg => ?_) (fun hg => ?_) <;> (try (have hg' := hg; simp at hg'))) | (refine OutOK.gate (fun hg => ?_) (fun hg => ?_) <;> (try (have hg' := hg; simp at hg'))) | refine OutOK.run (by simp [*]; rfl) ?_ | refine AW.ret ?_ | refine AW.skip ?_ | refine AW.exit ?_ | refine fin_r ?_ | refine fin_n ?_ | refine AW.block ?_ | refine blockQ_n ?_ | refine blockQ_r ?_ | refine blockQ_e ?_ | refine blockQ_o rfl ?_)
  refine AW.loopS (fun i => i ≤ l.length) (fun i => [(1, .fn f [.pt 100000051 [] 0]), (5, .rf 22000 []), (9, .c (.sl true 3 (itms l))), (10, .c (.sc (.int .i64 (l.length : Int)))), (11, .c (.sc (.int .i64 (i : Int))))])
    (fun i => [(22000, .sv (.sl false 1 (strs (namL p (l.take i))))), (100000051, .bx C)]) (fun i => l.length - i) 0 (Nat.zero_le _) [(8000, 22000)] (by simp) ⟨by simp, by simp [namL], by simp⟩ ?_
  intro i hi
  rcases Nat.lt_or_ge i l.length with hl | hl
  · have e1 : wrap64 ((i : Int) + 1) = ((i + 1 : Nat) : Int) := by rw [w64 (by omega) (by omega)]; omega
    have cs := cf.out l[i] (List.getElem_mem hl)
    have hln := namL_len p (l.take i)
    have hln2 : (namL p (l.take i)).length ≤ 40 := by rw [List.length_take] at hln; ((try (clear e0)); (try (clear e1)); (try (clear e2)); (try (clear e3)); (try (clear e4)); (try (clear e5)); (try (clear e6)); (try (clear e7)); (try (clear e8)); (try (clear e9)); (try (clear e10)); (try (clear e11)); omega)
    have b1 : ((namL p (l.take i)).length + 1) * 16 ≤ 140737488355328 := by ((try (clear e0)); (try (clear e1)); (try (clear e2)); (try (clear e3)); (try (clear e4)); (try (clear e5)); (try (clear e6)); (try (clear e7)); (try (clear e8)); (try (clear e9)); (try (clear e10)); (try (clear e11)); omega)
    have b2 : (namL p (l.take i)).length + 1 ≤ 4611686018427387904 := by ((try (clear e0)); (try (clear e1)); (try (clear e2)); (try (clear e3)); (try (clear e4)); (try (clear e5)); (try (clear e6)); (try (clear e7)); (try (clear e8)); (try (clear e9)); (try (clear e10)); (try (clear e11)); omega)
    have hy : Hd (p l[i] = true → namL p (l.take (i + 1)) = namL p (l.take i) ++ [l[i].nm]) := namL_yes hl
    have hno : Hd (p l[i] = false → namL p (l.take (i + 1)) = namL p (l.take i)) := namL_no hl
    generalize hsn : namL p (l.take (i + 1)) = sn at *
    have hsn' : Hd _ := hsn
    clear hsn
    generalize hso : namL p (l.take i) = so at *
    have hso' : Hd _ := hso
    clear hso hln
    repeat' (first | with_reducible refine OutOK.done ?_ | refine thenQ_n ?_ | refine thenQ_r ?_ | refine thenQ_e ?_ | refine AW.seq ?_ | refine AW.reg tok (by simp [*]; rfl) ?_ | refine AW.ifB (by simp [*]; rfl) ?_ | refine IfG.t ?_ | refine IfG.f ?_ | (refine IfG.p (fun hg => ?_) (fun hg => ?_) <;> (try (have hg' := hg; simp at hg'))) | (refine IfG.n (fun hg => ?_) (fun hg => ?_) <;> (try (have hg' := hg; simp at hg'))) | (refine OutOK.gateP (fun hg => ?_) (fun hg => ?_) <;> (try (have hg' := hg; simp at hg'))) | (refine OutOK.gateN (fun hg => ?_) (fun hg => ?_) <;> (try (have hg' := hg; simp at hg'))) | (refine IfG.g (fun hg => ?_) (fun hg => ?_) <;> (try (have hg' := hg; simp at hg'))) | (refine OutOK.gate (fun hg => ?_) (fun hg => ?_) <;> (try (have hg' := hg; simp at hg'))) | (refine OutOK.callF [] (by simp [*]; rfl) (by simp [*]; rfl) (by simp [*]; rfl) hbf (by apply cs <;> first | assumption | exact Hd.out (by assumption) | ((try (clear e0)); (try (clear e1)); (try (clear e2)); (try (clear e3)); (try (clear e4)); (try (clear e5)); (try (clear e6)); (try (clear e7)); (try (clear e8)); (try (clear e9)); (try (clear e10)); (try (clear e11)); omega)) ⟨by simp [*], by simp [*], by simp [*], by simp [*], by simp [*]⟩ (by simp [*]) (by simp [*]; rfl) ?_) | refine OutOK.run (by simp [*]; rfl) ?_ | refine AW.ret ?_ | refine AW.skip ?_ | refine AW.exit ?_ | refine fin_r ?_ | refine fin_n ?_ | refine AW.block ?_ | refine blockQ_n ?_ | refine blockQ_r ?_ | refine blockQ_e ?_ | refine blockQ_o rfl ?_)
    · exact ⟨i + 1, hl, ⟨[], by simp, by simp, by simp [hsn'.out, hy.out (by assumption), hso'.out], by simp⟩, by ((try (clear e0)); (try (clear e1)); (try (clear e2)); (try (clear e3)); (try (clear e4)); (try (clear e5)); (try (clear e6)); (try (clear e7)); (try (clear e8)); (try (clear e9)); (try (clear e10)); (try (clear e11)); omega)⟩
    · exact ⟨i + 1, hl, ⟨[], by simp, by simp, by simp [hsn'.out, hno.out (by assumption), hso'.out], by simp⟩, by ((try (clear e0)); (try (clear e1)); (try (clear e2)); (try (clear e3)); (try (clear e4)); (try (clear e5)); (try (clear e6)); (try (clear e7)); (try (clear e8)); (try (clear e9)); (try (clear e10)); (try (clear e11)); omega)⟩
  · have hii : i = l.length := by omega
    subst hii
    repeat' (first | with_reducible refine OutOK.done ?_ | refine thenQ_n ?_ | refine thenQ_r ?_ | refine thenQ_e ?_ | refine AW.seq ?_ | refine AW.reg tok (by simp [*]; rfl) ?_ | refine AW.ifB (by simp [*]; rfl) ?_ | refine IfG.t ?_ | refine IfG.f ?_ | (refine IfG.p (fun hg => ?_) (fun hg => ?_) <;> (try (have hg' := hg; simp at hg'))) | (refine IfG.n (fun hg => ?_) (fun hg => ?_) <;> (try (have hg' := hg; simp at hg'))) | (refine OutOK.gateP (fun hg => ?_) (fun hg => ?_) <;> (try (have hg' := hg; simp at hg'))) | (refine OutOK.gateN (fun hg => ?_) (fun hg => ?_) <;> (try (have hg' := hg; simp at hg'))) | (refine IfG.g (fun hg => ?_) (fun hg => ?_) <;> (try (have hg' := hg; simp at hg'))) | (refine OutOK.gate (fun hg => ?_) (fun hg => ?_) <;> (try (have hg' := hg; simp at hg'))) | refine OutOK.run (by simp [*]; rfl) ?_ | refine AW.ret ?_ | refine AW.skip ?_ | refine AW.exit ?_ | refine fin_r ?_ | refine fin_n ?_ | refine AW.block ?_ | refine blockQ_n ?_ | refine blockQ_r ?_ | refine blockQ_e ?_ | refine blockQ_o rfl ?_)
    simp [Try.f97]
theorem c_impl_ItemNames_1 (x : Itm) (v : Bool) : ACall Try.prog 98 [itmD x, .p [.sc (.bool v)]] [.x, .p [.sc (.bool v)]] [boo ((x.vd == v))] := by
  refine ACall.of (N := 8) tok Try.func98 rfl rfl rfl (by simp) ?_
  repeat' (first | with_reducible refine OutOK.done ?_ | refine thenQ_n ?_ | refine thenQ_r ?_ | refine thenQ_e ?_ | refine AW.seq ?_ | refine AW.reg tok (by simp [*]; rfl) ?_ | refine AW.ifB (by simp [*]; rfl) ?_ | refine IfG.t ?_ | refine IfG.f ?_ | (refine IfG.p (fun hg => ?_) (fun hg => ?_) <;> (try (have hg' := hg; simp at hg'))) | (refine IfG.n (fun hg => ?_) (fun hg => ?_) <;> (try (have hg' := hg; simp at hg'))) | (refine OutOK.gateP (fun hg => ?_) (fun hg => ?_) <;> (try (have hg' := hg; simp at hg'))) | (refine OutOK.gateN (fun hg => ?_) (fun hg => ?_) <;> (try (have hg' := hg; simp at hg'))) | (refine IfG.g (fun hg => ?_) (fun hg => ?_) <;> (try (have hg' := hg; simp at hg'))) | (refine OutOK.gate (fun hg => ?_) (fun hg => ?_) <;> (try (have hg' := hg; simp at hg'))) | refine OutOK.run (by simp [*]; rfl) ?_ | refine AW.ret ?_ | refine AW.skip ?_ | refine AW.exit ?_ | refine fin_r ?_ | refine fin_n ?_ | refine AW.block ?_ | refine blockQ_n ?_ | refine blockQ_r ?_ | refine blockQ_e ?_ | refine blockQ_o rfl ?_)
  all_goals (try simp [*, Try.f98])
theorem c_impl_ItemNames (l : List Ent) (v : Bool) (h : l.length ≤ 9223372036854775807) (hw : ∀ e ∈ l, EntW e) (hr : regOK l = true) : ACall Try.prog 51 [.v (.sl true 3 (ents l)), boo v] [.x, .x] [.v (.sl false 1 (strs (namL (fun x => (x.vd == v)) (regI l)))), boo true] := by
  have cr := c_impl_replayed l h hw
  rw [hr] at cr
  have hl := regI_len l
  have cn := c_impl_namesOf (regI l) 98 [.sc (.bool v)] (fun x => (x.vd == v)) hl (by simp) (fun x _ => c_impl_ItemNames_1 x v)
  generalize namL (fun x : Itm => (x.vd == v)) (regI l) = nl at *
  generalize regI l = its at *
  clear hw hr
  refine ACall.of (N := 18) tok Try.func51 rfl rfl rfl (by simp) ?_
  repeat' (first | with_reducible refine OutOK.done ?_ | refine thenQ_n ?_ | refine thenQ_r ?_ | refine thenQ_e ?_ | refine AW.seq ?_ | refine AW.reg tok (by simp [*]; rfl) ?_ | refine AW.ifB (by simp [*]; rfl) ?_ | refine IfG.t ?_ | refine IfG.f ?_ | (refine IfG.p (fun hg => ?_) (fun hg => ?_) <;> (try (have hg' := hg; simp at hg'))) | (refine IfG.n (fun hg => ?_) (fun hg => ?_) <;> (try (have hg' := hg; simp at hg'))) | (refine OutOK.gateP (fun hg => ?_) (fun hg => ?_) <;> (try (have hg' := hg; simp at hg'))) | (refine OutOK.gateN (fun hg => ?_) (fun hg => ?_) <;> (try (have hg' := hg; simp at hg'))) | (refine IfG.g (fun hg => ?_) (fun hg => ?_) <;> (try (have hg' := hg; simp at hg'))) | (refine OutOK.gate (fun hg => ?_) (fun hg => ?_) <;> (try (have hg' := hg; simp at hg'))) | (refine OutOK.callF [] (by simp [*]; rfl) (by simp [*]; rfl) (by simp [*]; rfl) hb89 (by apply cr <;> first | assumption | exact Hd.out (by assumption) | ((try (clear e0)); (try (clear e1)); (try (clear e2)); (try (clear e3)); (try (clear e4)); (try (clear e5)); (try (clear e6)); (try (clear e7)); (try (clear e8)); (try (clear e9)); (try (clear e10)); (try (clear e11)); omega)) ⟨by simp [*], by simp [*], by simp [*], by simp [*], by simp [*]⟩ (by simp [*]) (by simp [*]; rfl) ?_) | (refine OutOK.callF [] (by simp [*]; rfl) (by simp [*]; rfl) (by simp [*]; rfl) hb97 (by apply cn <;> first | assumption | exact Hd.out (by assumption) | ((try (clear e0)); (try (clear e1)); (try (clear e2)); (try (clear e3)); (try (clear e4)); (try (clear e5)); (try (clear e6)); (try (clear e7)); (try (clear e8)); (try (clear e9)); (try (clear e10)); (try (clear e11)); omega)) ⟨by simp [*], by simp [*], by simp [*], by simp [*], by simp [*]⟩ (by simp [*]) (by simp [*]; rfl) ?_) | refine OutOK.run (by simp [*]; rfl) ?_ | refine AW.ret ?_ | refine AW.skip ?_ | refine AW.exit ?_ | refine fin_r ?_ | refine fin_n ?_ | refine AW.block ?_ | refine blockQ_n ?_ | refine blockQ_r ?_ | refine blockQ_e ?_ | refine blockQ_o rfl ?_)
  simp [Try.f51]
theorem c_impl_ItemState_1 (x : Itm) (nm : ByteArray) : ACall Try.prog 94 [itmD x, .p [.sc (.string nm)]] [.x, .p [.sc (.string nm)]] [boo (decide (x.nm.toList = nm.toList))] := by
  refine ACall.of (N := 8) tok Try.func94 rfl rfl rfl (by simp) ?_
  repeat' (first | with_reducible refine OutOK.done ?_ | refine thenQ_n ?_ | refine thenQ_r ?_ | refine thenQ_e ?_ | refine AW.seq ?_ | refine AW.reg tok (by simp [*]; rfl) ?_ | refine AW.ifB (by simp [*]; rfl) ?_ | refine IfG.t ?_ | refine IfG.f ?_ | (refine IfG.p (fun hg => ?_) (fun hg => ?_) <;> (try (have hg' := hg; simp at hg'))) | (refine IfG.n (fun hg => ?_) (fun hg => ?_) <;> (try (have hg' := hg; simp at hg'))) | (refine OutOK.gateP (fun hg => ?_) (fun hg => ?_) <;> (try (have hg' := hg; simp at hg'))) | (refine OutOK.gateN (fun hg => ?_) (fun hg => ?_) <;> (try (have hg' := hg; simp at hg'))) | (refine IfG.g (fun hg => ?_) (fun hg => ?_) <;> (try (have hg' := hg; simp at hg'))) | (refine OutOK.gate (fun hg => ?_) (fun hg => ?_) <;> (try (have hg' := hg; simp at hg'))) | refine OutOK.run (by simp [*]; rfl) ?_ | refine AW.ret ?_ | refine AW.skip ?_ | refine AW.exit ?_ | refine fin_r ?_ | refine fin_n ?_ | refine AW.block ?_ | refine blockQ_n ?_ | refine blockQ_r ?_ | refine blockQ_e ?_ | refine blockQ_o rfl ?_)
  all_goals (try simp [*, Try.f94])
theorem c_impl_ItemState (l : List Ent) (nm : ByteArray) (h : l.length ≤ 9223372036854775807) (hw : ∀ e ∈ l, EntW e) (hr : regOK l = true) (k : Nat) (hk : k < (regI l).length) (hf : fnd (regI l) nm = (k : Int)) :
    ACall Try.prog 39 [.v (.sl true 3 (ents l)), .v (.sc (.string nm))] [.x, .x] [.v (.sc (.string (regI l)[k].tx)), boo (regI l)[k].vd, boo true] := by
  have cr := c_impl_replayed l h hw
  rw [hr] at cr
  have hl := regI_len l
  have cf := c_slices_IndexFunc_item (regI l) 94 [.sc (.string nm)] (fun x => decide (x.nm.toList = nm.toList)) (by omega) (by simp) (fun x => c_impl_ItemState_1 x nm)
  rw [show idx (fun x : Itm => decide (x.nm.toList = nm.toList)) (regI l) = fnd (regI l) nm from rfl, hf] at cf
  clear hf
  generalize regI l = its at *
  have hk0 : ¬ (k : Int) < 0 := by omega
  clear hw hr
  refine ACall.of (N := 34) tok Try.func39 rfl rfl rfl (by simp) ?_
  repeat' (first | with_reducible refine OutOK.done ?_ | refine thenQ_n ?_ | refine thenQ_r ?_ | refine thenQ_e ?_ | refine AW.seq ?_ | refine AW.dreg tok mixed [9, 10]  [(0, false), (1, false), (2, false), (3, false), (5, false), (6, false), (7, false), (8, false), (4, false), (9, true), (10, true), (11, false), (12, false)] (by decide +kernel) rfl (by simp [*]; rfl) ?_ | refine AW.reg tok (by simp [*]; rfl) ?_ | refine AW.ifB (by simp [*]; rfl) ?_ | refine IfG.t ?_ | refine IfG.f ?_ | (refine IfG.p (fun hg => ?_) (fun hg => ?_) <;> (try (have hg' := hg; simp at hg'))) | (refine IfG.n (fun hg => ?_) (fun hg => ?_) <;> (try (have hg' := hg; simp at hg'))) | (refine OutOK.gateP (fun hg => ?_) (fun hg => ?_) <;> (try (have hg' := hg; simp at hg'))) | (refine OutOK.gateN (fun hg => ?_) (fun hg => ?_) <;> (try (have hg' := hg; simp at hg'))) | (refine IfG.g (fun hg => ?_) (fun hg => ?_) <;> (try (have hg' := hg; simp at hg'))) | (refine OutOK.gate (fun hg => ?_) (fun hg => ?_) <;> (try (have hg' := hg; simp at hg'))) | (refine OutOK.callF [] (by simp [*]; rfl) (by simp [*]; rfl) (by simp [*]; rfl) hb89 (by apply cr <;> first | assumption | exact Hd.out (by assumption) | ((try (clear e0)); (try (clear e1)); (try (clear e2)); (try (clear e3)); (try (clear e4)); (try (clear e5)); (try (clear e6)); (try (clear e7)); (try (clear e8)); (try (clear e9)); (try (clear e10)); (try (clear e11)); omega)) ⟨by simp [*], by simp [*], by simp [*], by simp [*], by simp [*]⟩ (by simp [*]) (by simp [*]; rfl) ?_) | (refine OutOK.callF [] (by simp [*]; rfl) (by simp [*]; rfl) (by simp [*]; rfl) hb93 (by apply cf <;> first | assumption | exact Hd.out (by assumption) | ((try (clear e0)); (try (clear e1)); (try (clear e2)); (try (clear e3)); (try (clear e4)); (try (clear e5)); (try (clear e6)); (try (clear e7)); (try (clear e8)); (try (clear e9)); (try (clear e10)); (try (clear e11)); omega)) ⟨by simp [*], by simp [*], by simp [*], by simp [*], by simp [*]⟩ (by simp [*]) (by simp [*]; rfl) ?_) | refine OutOK.run (by simp [*]; rfl) ?_ | refine AW.ret ?_ | refine AW.skip ?_ | refine AW.exit ?_ | refine fin_r ?_ | refine fin_n ?_ | refine AW.block ?_ | refine blockQ_n ?_ | refine blockQ_r ?_ | refine blockQ_e ?_ | refine blockQ_o rfl ?_)
  simp [Try.f39]
theorem c_laws_vTexts (l : List ByteArray) (h : l.length < 9223372036854775807) : ACall Try.prog 63 [.v (.sl true 1 (strs l)), .v (.sl true 1 (strs l))] [.x, .x] [boo true] := by
  refine ACall.of (N := 26) tok Try.func63 rfl rfl rfl (by simp) ?_
  repeat' (first | with_reducible refine OutOK.done ?_ | refine thenQ_n ?_ | refine thenQ_r ?_ | refine thenQ_e ?_ | refine AW.seq ?_ | refine AW.dreg tok mixed [7]  [(0, false), (1, false), (2, false), (4, false), (5, false), (6, false), (3, false), (7, true), (8, false)] (by decide +kernel) rfl (by simp [*]; rfl) ?_ | refine AW.reg tok (by simp [*]; rfl) ?_ | refine AW.ifB (by simp [*]; rfl) ?_ | refine IfG.t ?_ | refine IfG.f ?_ | (refine IfG.p (fun hg => ?_) (fun hg => ?_) <;> (try (have hg' := hg; simp at hg'))) | (refine IfG.n (fun hg => ?_) (fun hg => ?_) <;> (try (have hg' := hg; simp at hg'))) | (refine OutOK.gateP (fun hg => ?_) (fun hg => ?_) <;> (try (have hg' := hg; simp at hg'))) | (refine OutOK.gateN (fun hg => ?_) (fun hg => ?_) <;> (try (have hg' := hg; simp at hg'))) | (refine IfG.g (fun hg => ?_) (fun hg => ?_) <;> (try (have hg' := hg; simp at hg'))) | (refine OutOK.gate (fun hg => ?_) (fun hg => ?_) <;> (try (have hg' := hg; simp at hg'))) | refine OutOK.run (by simp [*]; rfl) ?_ | refine AW.ret ?_ | refine AW.skip ?_ | refine AW.exit ?_ | refine fin_r ?_ | refine fin_n ?_ | refine AW.block ?_ | refine blockQ_n ?_ | refine blockQ_r ?_ | refine blockQ_e ?_ | refine blockQ_o rfl ?_)
  refine AW.loopL (fun i => i ≤ l.length) (fun i => [(0, .c (.sl true 1 (strs l))), (1, .c (.sl true 1 (strs l))), (5, .c (.sc (.int .i64 (i : Int))))]) (fun _ => []) (fun i => l.length - i) 0 (Nat.zero_le _) ⟨by simp, by simp, by simp⟩ ?_
  intro i hi
  rcases Nat.lt_or_ge i l.length with hl | hl
  · have e1 : wrap64 ((i : Int) + 1) = ((i + 1 : Nat) : Int) := by rw [w64 (by omega) (by omega)]; omega
    repeat' (first | with_reducible refine OutOK.done ?_ | refine thenQ_n ?_ | refine thenQ_r ?_ | refine thenQ_e ?_ | refine AW.seq ?_ | refine AW.dreg tok mixed [7]  [(0, false), (1, false), (2, false), (4, false), (5, false), (6, false), (3, false), (7, true), (8, false)] (by decide +kernel) rfl (by simp [*]; rfl) ?_ | refine AW.reg tok (by simp [*]; rfl) ?_ | refine AW.ifB (by simp [*]; rfl) ?_ | refine IfG.t ?_ | refine IfG.f ?_ | (refine IfG.p (fun hg => ?_) (fun hg => ?_) <;> (try (have hg' := hg; simp at hg'))) | (refine IfG.n (fun hg => ?_) (fun hg => ?_) <;> (try (have hg' := hg; simp at hg'))) | (refine OutOK.gateP (fun hg => ?_) (fun hg => ?_) <;> (try (have hg' := hg; simp at hg'))) | (refine OutOK.gateN (fun hg => ?_) (fun hg => ?_) <;> (try (have hg' := hg; simp at hg'))) | (refine IfG.g (fun hg => ?_) (fun hg => ?_) <;> (try (have hg' := hg; simp at hg'))) | (refine OutOK.gate (fun hg => ?_) (fun hg => ?_) <;> (try (have hg' := hg; simp at hg'))) | refine OutOK.run (by simp [*]; rfl) ?_ | refine AW.ret ?_ | refine AW.skip ?_ | refine AW.exit ?_ | refine fin_r ?_ | refine fin_n ?_ | refine AW.block ?_ | refine blockQ_n ?_ | refine blockQ_r ?_ | refine blockQ_e ?_ | refine blockQ_o rfl ?_)
    exact ⟨i + 1, hl, ⟨by simp, by simp, by simp⟩, by ((try (clear e0)); (try (clear e1)); (try (clear e2)); (try (clear e3)); (try (clear e4)); (try (clear e5)); (try (clear e6)); (try (clear e7)); (try (clear e8)); (try (clear e9)); (try (clear e10)); (try (clear e11)); omega)⟩
  · have hn : ¬ i < l.length := by omega
    repeat' (first | with_reducible refine OutOK.done ?_ | refine thenQ_n ?_ | refine thenQ_r ?_ | refine thenQ_e ?_ | refine AW.seq ?_ | refine AW.dreg tok mixed [7]  [(0, false), (1, false), (2, false), (4, false), (5, false), (6, false), (3, false), (7, true), (8, false)] (by decide +kernel) rfl (by simp [*]; rfl) ?_ | refine AW.reg tok (by simp [*]; rfl) ?_ | refine AW.ifB (by simp [*]; rfl) ?_ | refine IfG.t ?_ | refine IfG.f ?_ | (refine IfG.p (fun hg => ?_) (fun hg => ?_) <;> (try (have hg' := hg; simp at hg'))) | (refine IfG.n (fun hg => ?_) (fun hg => ?_) <;> (try (have hg' := hg; simp at hg'))) | (refine OutOK.gateP (fun hg => ?_) (fun hg => ?_) <;> (try (have hg' := hg; simp at hg'))) | (refine OutOK.gateN (fun hg => ?_) (fun hg => ?_) <;> (try (have hg' := hg; simp at hg'))) | (refine IfG.g (fun hg => ?_) (fun hg => ?_) <;> (try (have hg' := hg; simp at hg'))) | (refine OutOK.gate (fun hg => ?_) (fun hg => ?_) <;> (try (have hg' := hg; simp at hg'))) | refine OutOK.run (by simp [*]; rfl) ?_ | refine AW.ret ?_ | refine AW.skip ?_ | refine AW.exit ?_ | refine fin_r ?_ | refine fin_n ?_ | refine AW.block ?_ | refine blockQ_n ?_ | refine blockQ_r ?_ | refine blockQ_e ?_ | refine blockQ_o rfl ?_)
    all_goals (try simp [*, Try.f63])
end Go.Proofs.Ytodombkmnnggeaa.EngS


set_option linter.unusedSimpArgs false
set_option linter.unusedVariables false
set_option maxHeartbeats 4000000
set_option maxRecDepth 100000
namespace Go.Proofs.Ytodombkmnnggeaa.EngS
open Go Go.Proofs Go.Eng Go.RowKit
attribute [local irreducible] Go.RowKit.wrap64
def ItOK (its : List Itm) : Prop := (∀ x ∈ its, nameOK x.nm = true ∧ textOK x.tx = true) ∧ its.Pairwise (fun a b => a.nm.toList ≠ b.nm.toList)
def cost : List Itm → Nat
  | [] => 0
  | x :: r => (if x.vd = true then 2 else 1) + cost r
theorem cost_app : ∀ a b, cost (a ++ b) = cost a + cost b
  | [], b => by simp [cost]
  | x :: r, b => by simp only [List.cons_append, cost]; rw [cost_app r b]; omega
theorem cost_set {its : List Itm} {k : Nat} (h : k < its.length) (x : Itm) : cost (its.set k x) + (if its[k].vd = true then 2 else 1) = cost its + (if x.vd = true then 2 else 1) := by
  induction its generalizing k with
  | nil => simp at h
  | cons y r ih =>
    cases k with
    | zero => simp only [List.set_cons_zero, cost, List.getElem_cons_zero]; omega
    | succ k =>
      have := ih (k := k) (by simpa using h)
      simp only [List.set_cons_succ, cost, List.getElem_cons_succ]; omega
theorem fnd_neg {its : List Itm} {nm : ByteArray} (h : fnd its nm < 0) : ∀ x ∈ its, x.nm.toList ≠ nm.toList := by
  intro x hx e
  unfold fnd idx at h
  cases hf : its.findIdx? (fun x => decide (x.nm.toList = nm.toList)) with
  | none =>
    rw [List.findIdx?_eq_none_iff] at hf
    have := hf x hx
    simp [e] at this
  | some k => rw [hf] at h; simp at h; omega
theorem fnd_of {its : List Itm} {k : Nat} (hp : its.Pairwise (fun a b => a.nm.toList ≠ b.nm.toList)) (hk : k < its.length) (nm : ByteArray) (hn : its[k].nm.toList = nm.toList) : fnd its nm = (k : Int) := by
  refine idx_at hk ?_ (by simp [hn])
  rw [List.any_eq_false]
  intro x hx
  obtain ⟨j, hj, rfl⟩ := List.getElem_of_mem hx
  simp only [List.getElem_take, decide_eq_true_eq]
  have hj' : j < k := by simp at hj; omega
  have := List.pairwise_iff_getElem.1 hp j k (by omega) hk hj'
  intro e
  exact this (e.trans hn.symm)
theorem ItOK_set {its : List Itm} {k : Nat} (h : ItOK its) (hk : k < its.length) (tx : ByteArray) (v : Bool) (ht : textOK tx = true) : ItOK (its.set k ⟨its[k].nm, tx, v⟩) := by
  refine ⟨fun x hx => ?_, ?_⟩
  · rcases List.mem_or_eq_of_mem_set hx with hx | hx
    · exact h.1 x hx
    · subst hx; exact ⟨(h.1 _ (List.getElem_mem hk)).1, ht⟩
  · rw [List.pairwise_iff_getElem]
    intro i j hi hj hij
    have h0 := List.pairwise_iff_getElem.1 h.2 i j (by simpa using hi) (by simpa using hj) hij
    rw [List.getElem_set, List.getElem_set]
    split <;> split
    · omega
    · rename_i e1 e2; subst e1; exact h0
    · rename_i e1 e2; subst e2; exact h0
    · exact h0
theorem playE_ok {its m : List Itm} {e : Ent} (h : ItOK its) (hp : playE its e = some m) : ItOK m ∧ cost m ≤ cost its + 1 ∧ ∀ x ∈ m, (∃ y ∈ its, y.nm = x.nm) ∨ e.itm = x.nm := by
  by_cases hnt : nameOK e.itm = true ∧ textOK e.txt = true
  · rcases idx_cases (fun x : Itm => decide (x.nm.toList = e.itm.toList)) its with hf | ⟨k, hf, hk⟩
    · rw [play_new hnt hf] at hp
      split at hp
      · cases hp
        refine ⟨⟨fun x hx => ?_, ?_⟩, by rw [cost_app]; simp [cost], fun x hx => ?_⟩
        · rw [List.mem_append] at hx
          rcases hx with hx | hx
          · exact h.1 x hx
          · simp at hx; subst hx; exact hnt
        · rw [List.pairwise_append]
          refine ⟨h.2, by simp, fun a ha b hb => ?_⟩
          simp at hb; subst hb
          exact fnd_neg hf a ha
        · rw [List.mem_append] at hx
          rcases hx with hx | hx
          · exact .inl ⟨x, hx, rfl⟩
          · simp at hx; subst hx; exact .inr rfl
      · cases hp
    · have hx0 := h.1 _ (List.getElem_mem hk)
      have key : ∀ tx v, textOK tx = true → (v = true → its[k].vd = true ∨ True) → ItOK (its.set k ⟨its[k].nm, tx, v⟩) ∧ cost (its.set k ⟨its[k].nm, tx, v⟩) ≤ cost its + 1 ∧ ∀ x ∈ its.set k ⟨its[k].nm, tx, v⟩, (∃ y ∈ its, y.nm = x.nm) ∨ e.itm = x.nm := by
        intro tx v ht _
        refine ⟨ItOK_set h hk tx v ht, ?_, fun x hx => ?_⟩
        · have := cost_set hk (⟨its[k].nm, tx, v⟩ : Itm)
          simp only at this
          split at this <;> split at this <;> omega
        · rcases List.mem_or_eq_of_mem_set hx with hx | hx
          · exact .inl ⟨x, hx, rfl⟩
          · subst hx; exact .inl ⟨_, List.getElem_mem hk, rfl⟩
      rw [play_at hnt hf hk] at hp
      split at hp
      · cases hp; exact key _ _ hnt.2 (fun _ => .inr trivial)
      · split at hp
        · cases hp; exact key _ _ hx0.2 (fun _ => .inr trivial)
        · split at hp
          · cases hp; exact key _ _ hx0.2 (fun _ => .inr trivial)
          · cases hp
  · rw [play_not hnt] at hp; cases hp
theorem playL_ok : ∀ {l : List Ent} {its m : List Itm}, ItOK its → playL its l = some m → ItOK m ∧ cost m ≤ cost its + l.length ∧ ∀ x ∈ m, (∃ y ∈ its, y.nm = x.nm) ∨ ∃ e ∈ l, e.itm = x.nm
  | [], its, m, h, hp => by
    rw [playL] at hp; cases hp
    exact ⟨h, by simp, fun x hx => .inl ⟨x, hx, rfl⟩⟩
  | e :: es, its, m, h, hp => by
    rw [playL] at hp
    cases hq : playE its e with
    | none => rw [hq] at hp; cases hp
    | some m1 =>
      rw [hq] at hp
      obtain ⟨a1, a2, a3⟩ := playE_ok h hq
      obtain ⟨b1, b2, b3⟩ := playL_ok a1 hp
      refine ⟨b1, by simp only [List.length_cons]; omega, fun x hx => ?_⟩
      rcases b3 x hx with ⟨y, hy, e1⟩ | ⟨e', he, e1⟩
      · rcases a3 y hy with ⟨z, hz, e2⟩ | e2
        · exact .inl ⟨z, hz, e2.trans e1⟩
        · exact .inr ⟨e, by simp, e2.trans e1⟩
      · exact .inr ⟨e', by simp [he], e1⟩
theorem playL_app : ∀ {a b : List Ent} {its : List Itm}, playL its (a ++ b) = (playL its a).bind fun m => playL m b
  | [], b, its => by simp [playL]
  | e :: es, b, its => by
    rw [List.cons_append, playL, playL]
    cases playE its e with
    | none => rfl
    | some m => exact playL_app
theorem regOK_take {l : List Ent} (h : regOK l = true) (n : Nat) : regOK (l.take n) = true := by
  simp only [regOK, Bool.and_eq_true, decide_eq_true_eq] at h ⊢
  refine ⟨by rw [List.length_take]; omega, ?_⟩
  have h2 := h.2
  rw [← List.take_append_drop n l, playL_app] at h2
  cases hp : playL [] (l.take n) with
  | none => rw [hp] at h2; simp at h2
  | some m => rfl
def cmpI (x : Itm) : List Ent := ⟨1, x.nm, x.tx⟩ :: (if x.vd = true then [⟨3, x.nm, ⟨#[]⟩⟩] else [])
def cmpL : List Itm → List Ent
  | [] => []
  | x :: r => cmpI x ++ cmpL r
theorem cmpL_len : ∀ its, (cmpL its).length = cost its
  | [] => rfl
  | x :: r => by
    simp only [cmpL, cost, List.length_append, cmpL_len r, cmpI, List.length_cons]
    split <;> simp <;> omega
theorem empty_list : (ByteArray.mk #[]).toList = [] := by
  first
    | (simp; done)
    | (simp [ByteArray.toList, ByteArray.toList.loop]; done)
    | (unfold ByteArray.toList; rw [ByteArray.toList.loop]; simp; done)
    | decide +kernel
theorem text_empty : textOK ⟨#[]⟩ = true := by rw [textOK]; rfl
theorem fnd_none {its : List Itm} {nm : ByteArray} (h : ∀ x ∈ its, x.nm.toList ≠ nm.toList) : fnd its nm < 0 := by
  have : fnd its nm = -1 := idx_none (by rw [List.any_eq_false]; intro x hx; simpa using h x hx)
  omega
theorem play_cmp : ∀ (its2 its1 : List Itm), ItOK (its1 ++ its2) → playL its1 (cmpL its2) = some (its1 ++ its2)
  | [], its1, h => by simp [cmpL, playL]
  | x :: r, its1, h => by
    obtain ⟨nm, tx, vd⟩ := x
    have hx := h.1 ⟨nm, tx, vd⟩ (by simp)
    have hpw := List.pairwise_append.1 h.2
    have hn : fnd its1 nm < 0 := fnd_none (fun y hy => hpw.2.2 y hy ⟨nm, tx, vd⟩ (by simp))
    have p1 : playE its1 ⟨1, nm, tx⟩ = some (its1 ++ [⟨nm, tx, false⟩]) := by rw [play_new hx hn, if_pos rfl]
    have hih := play_cmp r (its1 ++ [⟨nm, tx, vd⟩]) (by rw [List.append_assoc]; exact h)
    rw [List.append_assoc] at hih
    rw [cmpL, cmpI]
    cases vd with
    | false =>
      simp only [Bool.false_eq_true, if_false, List.cons_append, List.nil_append]
      rw [playL, p1]
      exact hih
    | true =>
      simp only [if_true, List.cons_append, List.nil_append]
      rw [playL, p1]
      simp only
      have hk : its1.length < (its1 ++ [(⟨nm, tx, false⟩ : Itm)]).length := by simp
      have hf : fnd (its1 ++ [(⟨nm, tx, false⟩ : Itm)]) nm = (its1.length : Int) := by
        refine idx_at hk ?_ (by simp)
        rw [List.take_left', List.any_eq_false]
        · intro y hy; simpa using fnd_neg hn y hy
        · rfl
      have p2 : playE (its1 ++ [(⟨nm, tx, false⟩ : Itm)]) ⟨3, nm, ⟨#[]⟩⟩ = some (its1 ++ [⟨nm, tx, true⟩]) := by
        rw [play_at ⟨hx.1, text_empty⟩ hf hk, if_neg (by simp), if_pos ⟨rfl, empty_list, by simp⟩]
        simp
      rw [playL, p2]
      exact hih
end Go.Proofs.Ytodombkmnnggeaa.EngS


set_option linter.unusedSimpArgs false
set_option linter.unusedVariables false
set_option maxHeartbeats 4000000
set_option maxRecDepth 100000
namespace Go.Proofs.Ytodombkmnnggeaa.EngS
open Go Go.Proofs Go.Eng Go.RowKit
attribute [local irreducible] Go.RowKit.wrap64
attribute [local simp] optO sliceV
@[simp] theorem els_take {α : Type} (c : α → List PV) (xs : List α) (n : Nat) : (els c xs).take n = els c (xs.take n) := by simp [els]
theorem c_impl_RegisterAt (l : List Ent) (n : Nat) (h : l.length ≤ 9223372036854775807) (hw : ∀ e ∈ l, EntW e) (hr : regOK l = true) (hn : n ≤ l.length) : ACall Try.prog 41 [.v (.sl true 3 (ents l)), int n] [.x, .x] [.v (.sl false 3 (ents (l.take n))), boo true] := by
  have cr := c_impl_IsValidRegister l h hw
  rw [hr] at cr
  have hR : inR 0 (l.length : Int) (n : Int) = true := inR_iff.2 ⟨by omega, by omega⟩
  have hnI : (n : Int) ≤ (l.length : Int) := by omega
  have h40 : l.length ≤ 40 := by simp only [regOK, Bool.and_eq_true, decide_eq_true_eq] at hr; exact hr.1
  have cc := c_slices_Clone_entry (l.take n) (by rw [List.length_take]; omega)
  clear hw hr
  refine ACall.of (N := 20) tok Try.func41 rfl rfl rfl (by simp) ?_
  repeat' (first | with_reducible refine OutOK.done ?_ | refine thenQ_n ?_ | refine thenQ_r ?_ | refine thenQ_e ?_ | refine AW.seq ?_ | refine AW.reg tok (by simp [*]; rfl) ?_ | refine AW.ifB (by simp [*]; rfl) ?_ | refine IfG.t ?_ | refine IfG.f ?_ | (refine IfG.p (fun hg => ?_) (fun hg => ?_) <;> (try (have hg' := hg; simp at hg'))) | (refine IfG.n (fun hg => ?_) (fun hg => ?_) <;> (try (have hg' := hg; simp at hg'))) | (refine OutOK.gateP (fun hg => ?_) (fun hg => ?_) <;> (try (have hg' := hg; simp at hg'))) | (refine OutOK.gateN (fun hg => ?_) (fun hg => ?_) <;> (try (have hg' := hg; simp at hg'))) | (refine IfG.g (fun hg => ?_) (fun hg => ?_) <;> (try (have hg' := hg; simp at hg'))) | (refine OutOK.gate (fun hg => ?_) (fun hg => ?_) <;> (try (have hg' := hg; simp at hg'))) | (refine OutOK.callF [] (by simp [*]; rfl) (by simp [*]; rfl) (by simp [*]; rfl) hb36 (by apply cr <;> first | assumption | exact Hd.out (by assumption) | ((try (clear e0)); (try (clear e1)); (try (clear e2)); (try (clear e3)); (try (clear e4)); (try (clear e5)); (try (clear e6)); (try (clear e7)); (try (clear e8)); (try (clear e9)); (try (clear e10)); (try (clear e11)); omega)) ⟨by simp [*], by simp [*], by simp [*], by simp [*], by simp [*]⟩ (by simp [*]) (by simp [*]; rfl) ?_) | (refine OutOK.callF [] (by simp [*]; rfl) (by simp [*]; rfl) (by simp [*]; rfl) hb76 (by apply c_impl_within <;> first | assumption | exact Hd.out (by assumption) | ((try (clear e0)); (try (clear e1)); (try (clear e2)); (try (clear e3)); (try (clear e4)); (try (clear e5)); (try (clear e6)); (try (clear e7)); (try (clear e8)); (try (clear e9)); (try (clear e10)); (try (clear e11)); omega)) ⟨by simp [*], by simp [*], by simp [*], by simp [*], by simp [*]⟩ (by simp [*]) (by simp [*]; rfl) ?_) | (refine OutOK.callF [] (by simp [*]; rfl) (by simp [*]; rfl) (by simp [*]; rfl) hb96 (by apply cc <;> first | assumption | exact Hd.out (by assumption) | ((try (clear e0)); (try (clear e1)); (try (clear e2)); (try (clear e3)); (try (clear e4)); (try (clear e5)); (try (clear e6)); (try (clear e7)); (try (clear e8)); (try (clear e9)); (try (clear e10)); (try (clear e11)); omega)) ⟨by simp [*], by simp [*], by simp [*], by simp [*], by simp [*]⟩ (by simp [*]) (by simp [*]; rfl) ?_) | refine OutOK.run (by simp [*]; rfl) ?_ | refine AW.ret ?_ | refine AW.skip ?_ | refine AW.exit ?_ | refine fin_r ?_ | refine fin_n ?_ | refine AW.block ?_ | refine blockQ_n ?_ | refine blockQ_r ?_ | refine blockQ_e ?_ | refine blockQ_o rfl ?_)
  simp [Try.f41]
theorem c_impl_CompactRegister (l : List Ent) (h : l.length ≤ 9223372036854775807) (hw : ∀ e ∈ l, EntW e) (hr : regOK l = true) : ACall Try.prog 45 [.v (.sl true 3 (ents l))] [.x] [.v (.sl false 3 (ents (cmpL (regI l)))), boo true] := by
  have cr := c_impl_replayed l h hw
  rw [hr] at cr
  have hl := regI_len l
  generalize regI l = its at *
  clear hw hr
  have hsn : ∀ i (hi : i < its.length), cmpL (its.take (i + 1)) = cmpL (its.take i) ++ cmpI its[i] := by
    intro i hi
    rw [List.take_succ_eq_append_getElem hi]
    have : ∀ a b : List Itm, cmpL (a ++ b) = cmpL a ++ cmpL b := by
      intro a b
      induction a with
      | nil => rfl
      | cons x r ih => simp [cmpL, ih]
    rw [this]; simp [cmpL]
  have hcl : ∀ i, (cmpL (its.take i)).length ≤ 80 := by
    intro i
    rw [cmpL_len]
    have : ∀ a : List Itm, cost a ≤ 2 * a.length := by
      intro a
      induction a with
      | nil => simp [cost]
      | cons x r ih => simp only [cost, List.length_cons]; split <;> omega
    have := this (its.take i)
    rw [List.length_take] at this
    omega
  replace hsn : Hd _ := hsn
  replace hcl : Hd _ := hcl
  refine ACall.of (N := 41) tok Try.func45 rfl rfl rfl (by simp) ?_
  repeat' (first | with_reducible refine OutOK.done ?_ | refine thenQ_n ?_ | refine thenQ_r ?_ | refine thenQ_e ?_ | refine AW.seq ?_ | refine AW.reg tok (by simp [*]; rfl) ?_ | refine AW.ifB (by simp [*]; rfl) ?_ | refine IfG.t ?_ | refine IfG.f ?_ | (refine IfG.p (fun hg => ?_) (fun hg => ?_) <;> (try (have hg' := hg; simp at hg'))) | (refine IfG.n (fun hg => ?_) (fun hg => ?_) <;> (try (have hg' := hg; simp at hg'))) | (refine OutOK.gateP (fun hg => ?_) (fun hg => ?_) <;> (try (have hg' := hg; simp at hg'))) | (refine OutOK.gateN (fun hg => ?_) (fun hg => ?_) <;> (try (have hg' := hg; simp at hg'))) | (refine IfG.g (fun hg => ?_) (fun hg => ?_) <;> (try (have hg' := hg; simp at hg'))) | (refine OutOK.gate (fun hg => ?_) (fun hg => ?_) <;> (try (have hg' := hg; simp at hg'))) | (refine OutOK.callF [] (by simp [*]; rfl) (by simp [*]; rfl) (by simp [*]; rfl) hb89 (by apply cr <;> first | assumption | exact Hd.out (by assumption) | ((try (clear e0)); (try (clear e1)); (try (clear e2)); (try (clear e3)); (try (clear e4)); (try (clear e5)); (try (clear e6)); (try (clear e7)); (try (clear e8)); (try (clear e9)); (try (clear e10)); (try (clear e11)); omega)) ⟨by simp [*], by simp [*], by simp [*], by simp [*], by simp [*]⟩ (by simp [*]) (by simp [*]; rfl) ?_) | refine OutOK.run (by simp [*]; rfl) ?_ | refine AW.ret ?_ | refine AW.skip ?_ | refine AW.exit ?_ | refine fin_r ?_ | refine fin_n ?_ | refine AW.block ?_ | refine blockQ_n ?_ | refine blockQ_r ?_ | refine blockQ_e ?_ | refine blockQ_o rfl ?_)
  refine AW.loopS (fun i => i ≤ its.length) (fun i => [(6, .rf 38000 []), (17, .rf 11000 []), (18, .c (.sc (.int .i64 (its.length : Int)))), (19, .c (.sc (.int .i64 (i : Int))))])
    (fun i => [(11000, .sv (.sl false 3 (itms its))), (38000, .sv (.sl false 3 (ents (cmpL (its.take i)))))]) (fun i => its.length - i) 0 (Nat.zero_le _) [(16000, 38000)] (by simp) ⟨by simp, by simp [cmpL], by simp⟩ ?_
  intro i hi
  rcases Nat.lt_or_ge i its.length with hli | hli
  · have e1 : wrap64 ((i : Int) + 1) = ((i + 1 : Nat) : Int) := by rw [w64 (by omega) (by omega)]; omega
    have h1 := hcl.out i
    have h2 := hsn.out i hli
    generalize hco : cmpL (its.take i) = co at *
    generalize hcn : cmpL (its.take (i + 1)) = cn at *
    have hco' : Hd _ := hco
    have hcn' : Hd _ := hcn
    replace h2 : Hd _ := h2
    clear hco hcn
    obtain ⟨b1, b2, b3, b4⟩ : (co.length + 1) * 40 ≤ 140737488355328 ∧ co.length + 1 ≤ 4611686018427387904 ∧ (co.length + 1 + 1) * 40 ≤ 140737488355328 ∧ co.length + 1 + 1 ≤ 4611686018427387904 :=
      ⟨by ((try (clear e0)); (try (clear e1)); (try (clear e2)); (try (clear e3)); (try (clear e4)); (try (clear e5)); (try (clear e6)); (try (clear e7)); (try (clear e8)); (try (clear e9)); (try (clear e10)); (try (clear e11)); omega), by ((try (clear e0)); (try (clear e1)); (try (clear e2)); (try (clear e3)); (try (clear e4)); (try (clear e5)); (try (clear e6)); (try (clear e7)); (try (clear e8)); (try (clear e9)); (try (clear e10)); (try (clear e11)); omega), by ((try (clear e0)); (try (clear e1)); (try (clear e2)); (try (clear e3)); (try (clear e4)); (try (clear e5)); (try (clear e6)); (try (clear e7)); (try (clear e8)); (try (clear e9)); (try (clear e10)); (try (clear e11)); omega), by ((try (clear e0)); (try (clear e1)); (try (clear e2)); (try (clear e3)); (try (clear e4)); (try (clear e5)); (try (clear e6)); (try (clear e7)); (try (clear e8)); (try (clear e9)); (try (clear e10)); (try (clear e11)); omega)⟩
    cases hv : its[i].vd
    · repeat' (first | with_reducible refine OutOK.done ?_ | refine thenQ_n ?_ | refine thenQ_r ?_ | refine thenQ_e ?_ | refine AW.seq ?_ | refine AW.reg tok (by simp [*]; rfl) ?_ | refine AW.ifB (by simp [*]; rfl) ?_ | refine IfG.t ?_ | refine IfG.f ?_ | (refine IfG.p (fun hg => ?_) (fun hg => ?_) <;> (try (have hg' := hg; simp at hg'))) | (refine IfG.n (fun hg => ?_) (fun hg => ?_) <;> (try (have hg' := hg; simp at hg'))) | (refine OutOK.gateP (fun hg => ?_) (fun hg => ?_) <;> (try (have hg' := hg; simp at hg'))) | (refine OutOK.gateN (fun hg => ?_) (fun hg => ?_) <;> (try (have hg' := hg; simp at hg'))) | (refine IfG.g (fun hg => ?_) (fun hg => ?_) <;> (try (have hg' := hg; simp at hg'))) | (refine OutOK.gate (fun hg => ?_) (fun hg => ?_) <;> (try (have hg' := hg; simp at hg'))) | refine OutOK.run (by simp [*]; rfl) ?_ | refine AW.ret ?_ | refine AW.skip ?_ | refine AW.exit ?_ | refine fin_r ?_ | refine fin_n ?_ | refine AW.block ?_ | refine blockQ_n ?_ | refine blockQ_r ?_ | refine blockQ_e ?_ | refine blockQ_o rfl ?_)
      exact ⟨i + 1, hli, ⟨[(30000, 38000)], by simp, by simp, by simp [hcn'.out, h2.out, hco'.out, cmpI, hv], by simp⟩, by ((try (clear e0)); (try (clear e1)); (try (clear e2)); (try (clear e3)); (try (clear e4)); (try (clear e5)); (try (clear e6)); (try (clear e7)); (try (clear e8)); (try (clear e9)); (try (clear e10)); (try (clear e11)); omega)⟩
    · repeat' (first | with_reducible refine OutOK.done ?_ | refine thenQ_n ?_ | refine thenQ_r ?_ | refine thenQ_e ?_ | refine AW.seq ?_ | refine AW.reg tok (by simp [*]; rfl) ?_ | refine AW.ifB (by simp [*]; rfl) ?_ | refine IfG.t ?_ | refine IfG.f ?_ | (refine IfG.p (fun hg => ?_) (fun hg => ?_) <;> (try (have hg' := hg; simp at hg'))) | (refine IfG.n (fun hg => ?_) (fun hg => ?_) <;> (try (have hg' := hg; simp at hg'))) | (refine OutOK.gateP (fun hg => ?_) (fun hg => ?_) <;> (try (have hg' := hg; simp at hg'))) | (refine OutOK.gateN (fun hg => ?_) (fun hg => ?_) <;> (try (have hg' := hg; simp at hg'))) | (refine IfG.g (fun hg => ?_) (fun hg => ?_) <;> (try (have hg' := hg; simp at hg'))) | (refine OutOK.gate (fun hg => ?_) (fun hg => ?_) <;> (try (have hg' := hg; simp at hg'))) | refine OutOK.run (by simp [*]; rfl) ?_ | refine AW.ret ?_ | refine AW.skip ?_ | refine AW.exit ?_ | refine fin_r ?_ | refine fin_n ?_ | refine AW.block ?_ | refine blockQ_n ?_ | refine blockQ_r ?_ | refine blockQ_e ?_ | refine blockQ_o rfl ?_)
      exact ⟨i + 1, hli, ⟨[], by simp, by simp, by simp [hcn'.out, h2.out, hco'.out, cmpI, hv], by simp⟩, by ((try (clear e0)); (try (clear e1)); (try (clear e2)); (try (clear e3)); (try (clear e4)); (try (clear e5)); (try (clear e6)); (try (clear e7)); (try (clear e8)); (try (clear e9)); (try (clear e10)); (try (clear e11)); omega)⟩
  · have hii : i = its.length := by omega
    subst hii
    repeat' (first | with_reducible refine OutOK.done ?_ | refine thenQ_n ?_ | refine thenQ_r ?_ | refine thenQ_e ?_ | refine AW.seq ?_ | refine AW.reg tok (by simp [*]; rfl) ?_ | refine AW.ifB (by simp [*]; rfl) ?_ | refine IfG.t ?_ | refine IfG.f ?_ | (refine IfG.p (fun hg => ?_) (fun hg => ?_) <;> (try (have hg' := hg; simp at hg'))) | (refine IfG.n (fun hg => ?_) (fun hg => ?_) <;> (try (have hg' := hg; simp at hg'))) | (refine OutOK.gateP (fun hg => ?_) (fun hg => ?_) <;> (try (have hg' := hg; simp at hg'))) | (refine OutOK.gateN (fun hg => ?_) (fun hg => ?_) <;> (try (have hg' := hg; simp at hg'))) | (refine IfG.g (fun hg => ?_) (fun hg => ?_) <;> (try (have hg' := hg; simp at hg'))) | (refine OutOK.gate (fun hg => ?_) (fun hg => ?_) <;> (try (have hg' := hg; simp at hg'))) | refine OutOK.run (by simp [*]; rfl) ?_ | refine AW.ret ?_ | refine AW.skip ?_ | refine AW.exit ?_ | refine fin_r ?_ | refine fin_n ?_ | refine AW.block ?_ | refine blockQ_n ?_ | refine blockQ_r ?_ | refine blockQ_e ?_ | refine blockQ_o rfl ?_)
    simp [Try.f45]
theorem x_impl_HistoryOf (l : List Ent) (nm : ByteArray) (h : l.length ≤ 9223372036854775807) (hw : ∀ e ∈ l, EntW e) (hr : regOK l = true) (j : Nat) (hj : j < l.length) (hn : l[j].itm.toList = nm.toList) :
    ACallX Try.prog 56 [.v (.sl true 3 (ents l)), .v (.sc (.string nm))] (fun x : List Int => 0 < x.length ∧ x.length ≤ 40) (fun _ => [.x, .x]) (fun x => [.v (.sl false 1 (ints x)), boo true]) := by
  have cr := c_impl_IsValidRegister l h hw
  rw [hr] at cr
  have h40 : l.length ≤ 40 := by simp only [regOK, Bool.and_eq_true, decide_eq_true_eq] at hr; exact hr.1
  clear hw hr
  replace hn : Hd _ := hn
  refine ACallX.of (N := 33) tok Try.func56 rfl rfl rfl (by simp) ?_
  repeat' (first | with_reducible refine OutOK.done ?_ | refine thenQ_n ?_ | refine thenQ_r ?_ | refine thenQ_e ?_ | refine AW.seq ?_ | refine AW.reg tok (by simp [*]; rfl) ?_ | refine AW.ifB (by simp [*]; rfl) ?_ | refine IfG.t ?_ | refine IfG.f ?_ | (refine IfG.p (fun hg => ?_) (fun hg => ?_) <;> (try (have hg' := hg; simp at hg'))) | (refine IfG.n (fun hg => ?_) (fun hg => ?_) <;> (try (have hg' := hg; simp at hg'))) | (refine OutOK.gateP (fun hg => ?_) (fun hg => ?_) <;> (try (have hg' := hg; simp at hg'))) | (refine OutOK.gateN (fun hg => ?_) (fun hg => ?_) <;> (try (have hg' := hg; simp at hg'))) | (refine IfG.g (fun hg => ?_) (fun hg => ?_) <;> (try (have hg' := hg; simp at hg'))) | (refine OutOK.gate (fun hg => ?_) (fun hg => ?_) <;> (try (have hg' := hg; simp at hg'))) | (refine OutOK.callF [] (by simp [*]; rfl) (by simp [*]; rfl) (by simp [*]; rfl) hb36 (by apply cr <;> first | assumption | exact Hd.out (by assumption) | ((try (clear e0)); (try (clear e1)); (try (clear e2)); (try (clear e3)); (try (clear e4)); (try (clear e5)); (try (clear e6)); (try (clear e7)); (try (clear e8)); (try (clear e9)); (try (clear e10)); (try (clear e11)); omega)) ⟨by simp [*], by simp [*], by simp [*], by simp [*], by simp [*]⟩ (by simp [*]) (by simp [*]; rfl) ?_) | refine OutOK.run (by simp [*]; rfl) ?_ | refine AW.ret ?_ | refine AW.skip ?_ | refine AW.exit ?_ | refine fin_r ?_ | refine fin_n ?_ | refine AW.block ?_ | refine blockQ_n ?_ | refine blockQ_r ?_ | refine blockQ_e ?_ | refine blockQ_o rfl ?_)
  refine AW.loopS (α := Nat × List Int) (fun q => q.1 ≤ l.length ∧ q.2.length ≤ q.1 ∧ Hd (j < q.1 → 0 < q.2.length)) (fun q => [(1, .c (.sc (.string nm))), (6, .rf 27000 []), (13, .c (.sl true 3 (ents l))), (14, .c (.sc (.int .i64 (l.length : Int)))), (15, .c (.sc (.int .i64 (q.1 : Int))))])
    (fun q => [(27000, .sv (.sl false 1 (ints q.2)))]) (fun q => l.length - q.1) (0, []) ⟨Nat.zero_le _, by simp, fun e => by simp at e⟩ [(12000, 27000)] (by simp) ⟨by simp, by simp, by simp⟩ ?_
  rintro ⟨i, hs⟩ ⟨hi, hil, hjs⟩
  simp only at hi hil hjs
  rcases Nat.lt_or_ge i l.length with hli | hli
  · have e1 : wrap64 ((i : Int) + 1) = ((i + 1 : Nat) : Int) := by rw [w64 (by omega) (by omega)]; omega
    have b1 : (hs.length + 1) * 8 ≤ 140737488355328 := by ((try (clear e0)); (try (clear e1)); (try (clear e2)); (try (clear e3)); (try (clear e4)); (try (clear e5)); (try (clear e6)); (try (clear e7)); (try (clear e8)); (try (clear e9)); (try (clear e10)); (try (clear e11)); omega)
    have b2 : hs.length + 1 ≤ 4611686018427387904 := by ((try (clear e0)); (try (clear e1)); (try (clear e2)); (try (clear e3)); (try (clear e4)); (try (clear e5)); (try (clear e6)); (try (clear e7)); (try (clear e8)); (try (clear e9)); (try (clear e10)); (try (clear e11)); omega)
    by_cases hc : l[i].itm.toList = nm.toList
    · repeat' (first | with_reducible refine OutOK.done ?_ | refine thenQ_n ?_ | refine thenQ_r ?_ | refine thenQ_e ?_ | refine AW.seq ?_ | refine AW.reg tok (by simp [*]; rfl) ?_ | refine AW.ifB (by simp [*]; rfl) ?_ | refine IfG.t ?_ | refine IfG.f ?_ | (refine IfG.p (fun hg => ?_) (fun hg => ?_) <;> (try (have hg' := hg; simp at hg'))) | (refine IfG.n (fun hg => ?_) (fun hg => ?_) <;> (try (have hg' := hg; simp at hg'))) | (refine OutOK.gateP (fun hg => ?_) (fun hg => ?_) <;> (try (have hg' := hg; simp at hg'))) | (refine OutOK.gateN (fun hg => ?_) (fun hg => ?_) <;> (try (have hg' := hg; simp at hg'))) | (refine IfG.g (fun hg => ?_) (fun hg => ?_) <;> (try (have hg' := hg; simp at hg'))) | (refine OutOK.gate (fun hg => ?_) (fun hg => ?_) <;> (try (have hg' := hg; simp at hg'))) | refine OutOK.run (by simp [*]; rfl) ?_ | refine AW.ret ?_ | refine AW.skip ?_ | refine AW.exit ?_ | refine fin_r ?_ | refine fin_n ?_ | refine AW.block ?_ | refine blockQ_n ?_ | refine blockQ_r ?_ | refine blockQ_e ?_ | refine blockQ_o rfl ?_)
      exact ⟨(i + 1, hs ++ [(i : Int)]), ⟨hli, by simp; ((try (clear e0)); (try (clear e1)); (try (clear e2)); (try (clear e3)); (try (clear e4)); (try (clear e5)); (try (clear e6)); (try (clear e7)); (try (clear e8)); (try (clear e9)); (try (clear e10)); (try (clear e11)); omega), fun _ => by simp⟩, ⟨[], by simp, by simp, by simp, by simp⟩, by simp only; ((try (clear e0)); (try (clear e1)); (try (clear e2)); (try (clear e3)); (try (clear e4)); (try (clear e5)); (try (clear e6)); (try (clear e7)); (try (clear e8)); (try (clear e9)); (try (clear e10)); (try (clear e11)); omega)⟩
    · have hji : ¬ j = i := by intro e; subst e; exact hc hn.out
      repeat' (first | with_reducible refine OutOK.done ?_ | refine thenQ_n ?_ | refine thenQ_r ?_ | refine thenQ_e ?_ | refine AW.seq ?_ | refine AW.reg tok (by simp [*]; rfl) ?_ | refine AW.ifB (by simp [*]; rfl) ?_ | refine IfG.t ?_ | refine IfG.f ?_ | (refine IfG.p (fun hg => ?_) (fun hg => ?_) <;> (try (have hg' := hg; simp at hg'))) | (refine IfG.n (fun hg => ?_) (fun hg => ?_) <;> (try (have hg' := hg; simp at hg'))) | (refine OutOK.gateP (fun hg => ?_) (fun hg => ?_) <;> (try (have hg' := hg; simp at hg'))) | (refine OutOK.gateN (fun hg => ?_) (fun hg => ?_) <;> (try (have hg' := hg; simp at hg'))) | (refine IfG.g (fun hg => ?_) (fun hg => ?_) <;> (try (have hg' := hg; simp at hg'))) | (refine OutOK.gate (fun hg => ?_) (fun hg => ?_) <;> (try (have hg' := hg; simp at hg'))) | refine OutOK.run (by simp [*]; rfl) ?_ | refine AW.ret ?_ | refine AW.skip ?_ | refine AW.exit ?_ | refine fin_r ?_ | refine fin_n ?_ | refine AW.block ?_ | refine blockQ_n ?_ | refine blockQ_r ?_ | refine blockQ_e ?_ | refine blockQ_o rfl ?_)
      exact ⟨(i + 1, hs), ⟨hli, by simp only; ((try (clear e0)); (try (clear e1)); (try (clear e2)); (try (clear e3)); (try (clear e4)); (try (clear e5)); (try (clear e6)); (try (clear e7)); (try (clear e8)); (try (clear e9)); (try (clear e10)); (try (clear e11)); omega), fun e => hjs.out (by simp only at e; ((try (clear e0)); (try (clear e1)); (try (clear e2)); (try (clear e3)); (try (clear e4)); (try (clear e5)); (try (clear e6)); (try (clear e7)); (try (clear e8)); (try (clear e9)); (try (clear e10)); (try (clear e11)); omega))⟩, ⟨[], by simp, by simp, by simp, by simp⟩, by simp only; ((try (clear e0)); (try (clear e1)); (try (clear e2)); (try (clear e3)); (try (clear e4)); (try (clear e5)); (try (clear e6)); (try (clear e7)); (try (clear e8)); (try (clear e9)); (try (clear e10)); (try (clear e11)); omega)⟩
  · have hii : i = l.length := by omega
    subst hii
    have h0 := hjs.out hj
    have hI : ¬ (hs.length : Int) = 0 := by ((try (clear e0)); (try (clear e1)); (try (clear e2)); (try (clear e3)); (try (clear e4)); (try (clear e5)); (try (clear e6)); (try (clear e7)); (try (clear e8)); (try (clear e9)); (try (clear e10)); (try (clear e11)); omega)
    have hN : ¬ hs = [] := fun e => by subst e; simp at h0
    repeat' (first | with_reducible refine OutOK.done ?_ | refine thenQ_n ?_ | refine thenQ_r ?_ | refine thenQ_e ?_ | refine AW.seq ?_ | refine AW.reg tok (by simp [*]; rfl) ?_ | refine AW.ifB (by simp [*]; rfl) ?_ | refine IfG.t ?_ | refine IfG.f ?_ | (refine IfG.p (fun hg => ?_) (fun hg => ?_) <;> (try (have hg' := hg; simp at hg'))) | (refine IfG.n (fun hg => ?_) (fun hg => ?_) <;> (try (have hg' := hg; simp at hg'))) | (refine OutOK.gateP (fun hg => ?_) (fun hg => ?_) <;> (try (have hg' := hg; simp at hg'))) | (refine OutOK.gateN (fun hg => ?_) (fun hg => ?_) <;> (try (have hg' := hg; simp at hg'))) | (refine IfG.g (fun hg => ?_) (fun hg => ?_) <;> (try (have hg' := hg; simp at hg'))) | (refine OutOK.gate (fun hg => ?_) (fun hg => ?_) <;> (try (have hg' := hg; simp at hg'))) | refine OutOK.run (by simp [*]; rfl) ?_ | refine AW.ret ?_ | refine AW.skip ?_ | refine AW.exit ?_ | refine fin_r ?_ | refine fin_n ?_ | refine AW.block ?_ | refine blockQ_n ?_ | refine blockQ_r ?_ | refine blockQ_e ?_ | refine blockQ_o rfl ?_)
    exact ⟨hs, ⟨h0, by ((try (clear e0)); (try (clear e1)); (try (clear e2)); (try (clear e3)); (try (clear e4)); (try (clear e5)); (try (clear e6)); (try (clear e7)); (try (clear e8)); (try (clear e9)); (try (clear e10)); (try (clear e11)); omega)⟩, by simp [Try.f56]⟩
end Go.Proofs.Ytodombkmnnggeaa.EngS


set_option linter.unusedSimpArgs false
set_option linter.unusedVariables false
set_option maxHeartbeats 4000000
set_option maxRecDepth 10000
namespace Go.Proofs.Ytodombkmnnggeaa.EngS
open Go Go.Proofs Go.Eng Go.RowKit
end Go.Proofs.Ytodombkmnnggeaa.EngS


set_option linter.unusedSimpArgs false
set_option linter.unusedVariables false
set_option maxHeartbeats 4000000
set_option maxRecDepth 10000
namespace Go.Proofs.Ytodombkmnnggeaa.EngS
open Go Go.Proofs Go.Eng Go.RowKit
def gvn (l : List Smp) (i : Nat) : List Int := (List.range (l.length + 1)).map fun (p : Nat) => givI l p i
@[simp] theorem gvn_len (l i) : (gvn l i).length = l.length + 1 := by simp [gvn]
theorem gvn_zero (l) : gvn l 0 = List.replicate (l.length + 1) 0 := by
  apply List.ext_getElem
  · simp
  · intro j h1 h2; simp only [gvn, List.getElem_map, List.getElem_range, givI_zero, List.getElem_replicate]
end Go.Proofs.Ytodombkmnnggeaa.EngS


set_option linter.unusedSimpArgs false
set_option linter.unusedVariables false
set_option maxHeartbeats 4000000
set_option maxRecDepth 100000
namespace Go.Proofs.Ytodombkmnnggeaa.EngS
open Go Go.Proofs Go.Eng Go.RowKit
attribute [local irreducible] Go.RowKit.wrap64
end Go.Proofs.Ytodombkmnnggeaa.EngS


set_option linter.unusedSimpArgs false
set_option linter.unusedVariables false
set_option maxHeartbeats 4000000
set_option maxRecDepth 100000
namespace Go.Proofs.Ytodombkmnnggeaa.EngS
open Go Go.Proofs Go.Eng Go.RowKit
attribute [local irreducible] Go.RowKit.wrap64
end Go.Proofs.Ytodombkmnnggeaa.EngS


set_option linter.unusedSimpArgs false
set_option linter.unusedVariables false
set_option maxHeartbeats 4000000
set_option maxRecDepth 10000
namespace Go.Proofs.Ytodombkmnnggeaa.EngS
open Go Go.Proofs Go.Eng Go.RowKit
attribute [local irreducible] Go.RowKit.wrap64
attribute [local simp] optO
theorem x_pickN (code : List Int) (a s n : Int) (h0 : 0 ≤ a) (h1 : a ≤ 900000000000) (hc : code.length ≤ 9223372036854775807) (hb : BytesOK code) (hn : 1 ≤ n) (hn' : n ≤ 1000000) :
    ACallX Try.prog 67 [.p (curP code a s), int n] (fun x : Int × Int × Nat => a ≤ x.1 ∧ x.1 ≤ a + 2 ∧ (x.2.2 : Int) < n) (fun x => [.p (curP code x.1 x.2.1), .x]) (fun x => [int x.2.2]) :=
  (x_pickG code a s n h0 h1 hc hb hn').imp (fun x => (x.1, x.2.1, x.2.2.toNat)) (fun x hx => ⟨hx.1, hx.2.1, by have := hx.2.2; simp only; omega⟩) (fun _ _ => rfl) (fun x hx => by simp [Int.toNat_of_nonneg hx.2.2.1])
theorem x_pickH (code : List Int) (a s n : Int) (h0 : 0 ≤ a) (h1 : a ≤ 900000000000) (hc : code.length ≤ 9223372036854775807) (hb : BytesOK code) :
    ACallX Try.prog 67 [.p (curP code a s), int n] (fun x : Int × Int × Int => a ≤ x.1 ∧ x.1 ≤ a + 2) (fun x => [.p (curP code x.1 x.2.1), .x]) (fun x => [int x.2.2]) := by
  by_cases hn : n ≤ 1
  · refine ACallX.of (N := 20) tok Try.func67 rfl rfl rfl (by simp) ?_
    repeat' (first | with_reducible refine OutOK.done ?_ | refine thenQ_n ?_ | refine thenQ_r ?_ | refine thenQ_e ?_ | refine AW.seq ?_ | refine AW.reg tok (by simp [*]; rfl) ?_ | refine AW.ifB (by simp [*]; rfl) ?_ | refine IfG.t ?_ | refine IfG.f ?_ | (refine IfG.p (fun hg => ?_) (fun hg => ?_) <;> (try (have hg' := hg; simp at hg'))) | (refine IfG.n (fun hg => ?_) (fun hg => ?_) <;> (try (have hg' := hg; simp at hg'))) | (refine OutOK.gateP (fun hg => ?_) (fun hg => ?_) <;> (try (have hg' := hg; simp at hg'))) | (refine OutOK.gateN (fun hg => ?_) (fun hg => ?_) <;> (try (have hg' := hg; simp at hg'))) | (refine IfG.g (fun hg => ?_) (fun hg => ?_) <;> (try (have hg' := hg; simp at hg'))) | (refine OutOK.gate (fun hg => ?_) (fun hg => ?_) <;> (try (have hg' := hg; simp at hg'))) | refine OutOK.run (by simp [*]; rfl) ?_ | refine AW.ret ?_ | refine AW.skip ?_ | refine AW.exit ?_ | refine fin_r ?_ | refine fin_n ?_ | refine AW.block ?_ | refine blockQ_n ?_ | refine blockQ_r ?_ | refine blockQ_e ?_ | refine blockQ_o rfl ?_)
    exact ⟨(a, s, 0), ⟨by simp, by simp only; omega⟩, by simp [Try.f67]⟩
  · have e3 : ¬ n = 0 := by omega
    by_cases e2 : 200 < n
    · refine ACallX.of (N := 20) tok Try.func67 rfl rfl rfl (by simp) ?_
      repeat' (first | with_reducible refine OutOK.done ?_ | refine thenQ_n ?_ | refine thenQ_r ?_ | refine thenQ_e ?_ | refine AW.seq ?_ | refine AW.reg tok (by simp [*]; rfl) ?_ | refine AW.ifB (by simp [*]; rfl) ?_ | refine IfG.t ?_ | refine IfG.f ?_ | (refine IfG.p (fun hg => ?_) (fun hg => ?_) <;> (try (have hg' := hg; simp at hg'))) | (refine IfG.n (fun hg => ?_) (fun hg => ?_) <;> (try (have hg' := hg; simp at hg'))) | (refine OutOK.gateP (fun hg => ?_) (fun hg => ?_) <;> (try (have hg' := hg; simp at hg'))) | (refine OutOK.gateN (fun hg => ?_) (fun hg => ?_) <;> (try (have hg' := hg; simp at hg'))) | (refine IfG.g (fun hg => ?_) (fun hg => ?_) <;> (try (have hg' := hg; simp at hg'))) | (refine OutOK.gate (fun hg => ?_) (fun hg => ?_) <;> (try (have hg' := hg; simp at hg'))) | (refine OutOK.callX [] (by simp [*]; rfl) (by simp [*]; rfl) (by simp [*]; rfl) hb107 (by apply x_spec_l1Cur_next <;> first | assumption | exact Hd.out (by assumption) | ((try (clear e0)); (try (clear e1)); (try (clear e2)); (try (clear e3)); (try (clear e4)); (try (clear e5)); (try (clear e6)); (try (clear e7)); (try (clear e8)); (try (clear e9)); (try (clear e10)); (try (clear e11)); omega)) ⟨by simp [*], by simp [*], by simp [*]⟩ (by simp [*]) (fun x hx => CallX.mk' ⟨by simp [*], by simp [*], by simp [*], by simp [*], by simp [*]⟩ (by simp [*]; rfl) ?_)) | refine OutOK.run (by simp [*]; rfl) ?_ | refine AW.ret ?_ | refine AW.skip ?_ | refine AW.exit ?_ | refine fin_r ?_ | refine fin_n ?_ | refine AW.block ?_ | refine blockQ_n ?_ | refine blockQ_r ?_ | refine blockQ_e ?_ | refine blockQ_o rfl ?_)
      rename_i x1 hx1
      exact ⟨(a + 1 + 1, x.1, Int.tmod (wrap64 (wrap64 (x1.2 * 256) + x.2)) n), ⟨by simp only; omega, by simp only; omega⟩, by simp [Try.f67]⟩
    · refine ACallX.of (N := 20) tok Try.func67 rfl rfl rfl (by simp) ?_
      repeat' (first | with_reducible refine OutOK.done ?_ | refine thenQ_n ?_ | refine thenQ_r ?_ | refine thenQ_e ?_ | refine AW.seq ?_ | refine AW.reg tok (by simp [*]; rfl) ?_ | refine AW.ifB (by simp [*]; rfl) ?_ | refine IfG.t ?_ | refine IfG.f ?_ | (refine IfG.p (fun hg => ?_) (fun hg => ?_) <;> (try (have hg' := hg; simp at hg'))) | (refine IfG.n (fun hg => ?_) (fun hg => ?_) <;> (try (have hg' := hg; simp at hg'))) | (refine OutOK.gateP (fun hg => ?_) (fun hg => ?_) <;> (try (have hg' := hg; simp at hg'))) | (refine OutOK.gateN (fun hg => ?_) (fun hg => ?_) <;> (try (have hg' := hg; simp at hg'))) | (refine IfG.g (fun hg => ?_) (fun hg => ?_) <;> (try (have hg' := hg; simp at hg'))) | (refine OutOK.gate (fun hg => ?_) (fun hg => ?_) <;> (try (have hg' := hg; simp at hg'))) | (refine OutOK.callX [] (by simp [*]; rfl) (by simp [*]; rfl) (by simp [*]; rfl) hb107 (by apply x_spec_l1Cur_next <;> first | assumption | exact Hd.out (by assumption) | ((try (clear e0)); (try (clear e1)); (try (clear e2)); (try (clear e3)); (try (clear e4)); (try (clear e5)); (try (clear e6)); (try (clear e7)); (try (clear e8)); (try (clear e9)); (try (clear e10)); (try (clear e11)); omega)) ⟨by simp [*], by simp [*], by simp [*]⟩ (by simp [*]) (fun x hx => CallX.mk' ⟨by simp [*], by simp [*], by simp [*], by simp [*], by simp [*]⟩ (by simp [*]; rfl) ?_)) | refine OutOK.run (by simp [*]; rfl) ?_ | refine AW.ret ?_ | refine AW.skip ?_ | refine AW.exit ?_ | refine fin_r ?_ | refine fin_n ?_ | refine AW.block ?_ | refine blockQ_n ?_ | refine blockQ_r ?_ | refine blockQ_e ?_ | refine blockQ_o rfl ?_)
      exact ⟨(a + 1, x.1, Int.tmod x.2 n), ⟨by simp only; omega, by simp only; omega⟩, by simp [Try.f67]⟩
end Go.Proofs.Ytodombkmnnggeaa.EngS

