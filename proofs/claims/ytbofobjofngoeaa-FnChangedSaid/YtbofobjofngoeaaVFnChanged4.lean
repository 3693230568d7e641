-- Written by this session's texts and program for this claim. Lean checks it.
import Derived.Test.YtbofobjofngoeaaVFnChanged3
set_option autoImplicit true
set_option relaxedAutoImplicit true
set_option linter.unusedSimpArgs false
set_option linter.unusedVariables false
set_option maxHeartbeats 4000000
set_option maxRecDepth 100000
namespace Go.Proofs.Ytbofobjofngoeaa.EngS
open Go Go.Proofs Go.Eng Go.RowKit
attribute [local irreducible] Go.RowKit.wrap64
def playE (its : List Itm) (e : Ent) : Option (List Itm) :=
  if nameOK e.itm = true ∧ textOK e.txt = true then
    if fnd its e.itm < 0 then (if e.kd = 1 then some (its ++ [⟨e.itm, e.txt, false⟩]) else none)
    else
      if e.kd = 2 ∧ (its[(fnd its e.itm).toNat]?.getD default).vd = false then some (its.set (fnd its e.itm).toNat ⟨(its[(fnd its e.itm).toNat]?.getD default).nm, e.txt, (its[(fnd its e.itm).toNat]?.getD default).vd⟩)
      else if e.kd = 3 ∧ e.txt.toList = [] ∧ (its[(fnd its e.itm).toNat]?.getD default).vd = false then some (its.set (fnd its e.itm).toNat ⟨(its[(fnd its e.itm).toNat]?.getD default).nm, (its[(fnd its e.itm).toNat]?.getD default).tx, true⟩)
      else if e.kd = 4 ∧ e.txt.toList = [] ∧ (its[(fnd its e.itm).toNat]?.getD default).vd = true then some (its.set (fnd its e.itm).toNat ⟨(its[(fnd its e.itm).toNat]?.getD default).nm, (its[(fnd its e.itm).toNat]?.getD default).tx, false⟩)
      else none
  else none
def playL : List Itm → List Ent → Option (List Itm)
  | its, [] => some its
  | its, e :: es => match playE its e with
    | some m => playL m es
    | none => none
theorem playL_go {its m : List Itm} {l : List Ent} {i : Nat} (h : i < l.length) (hp : playE its l[i] = some m) : playL its (l.drop i) = playL m (l.drop (i + 1)) := by
  rw [List.drop_eq_getElem_cons h, playL, hp]
theorem playL_no {its : List Itm} {l : List Ent} {i : Nat} (h : i < l.length) (hp : playE its l[i] = none) : playL its (l.drop i) = none := by
  rw [List.drop_eq_getElem_cons h, playL, hp]
theorem playL_end {its : List Itm} {l : List Ent} {i : Nat} (h : l.length ≤ i) : playL its (l.drop i) = some its := by
  rw [List.drop_eq_nil_of_le h, playL]
theorem idx_cases {α : Type} (p : α → Bool) (xs : List α) : idx p xs < 0 ∨ ∃ k : Nat, idx p xs = (k : Int) ∧ k < xs.length := by
  unfold idx
  cases h : xs.findIdx? p with
  | none => left; simp
  | some k =>
    right
    refine ⟨k, by simp, ?_⟩
    rw [List.findIdx?_eq_some_iff_getElem] at h
    exact h.1
theorem play_not {its : List Itm} {e : Ent} (h : ¬ (nameOK e.itm = true ∧ textOK e.txt = true)) : playE its e = none := by rw [playE, if_neg h]
theorem play_new {its : List Itm} {e : Ent} (h : nameOK e.itm = true ∧ textOK e.txt = true) (hf : fnd its e.itm < 0) : playE its e = if e.kd = 1 then some (its ++ [⟨e.itm, e.txt, false⟩]) else none := by rw [playE, if_pos h, if_pos hf]
theorem play_at {its : List Itm} {e : Ent} {k : Nat} (h : nameOK e.itm = true ∧ textOK e.txt = true) (hf : fnd its e.itm = (k : Int)) (hk : k < its.length) : playE its e =
      if e.kd = 2 ∧ its[k].vd = false then some (its.set k ⟨its[k].nm, e.txt, its[k].vd⟩)
      else if e.kd = 3 ∧ e.txt.toList = [] ∧ its[k].vd = false then some (its.set k ⟨its[k].nm, its[k].tx, true⟩)
      else if e.kd = 4 ∧ e.txt.toList = [] ∧ its[k].vd = true then some (its.set k ⟨its[k].nm, its[k].tx, false⟩)
      else none := by
  rw [playE, if_pos h, if_neg (by omega), hf]
  simp only [Int.toNat_natCast, List.getElem?_eq_getElem hk, Option.getD_some]
def RepQ (l : List Ent) (its : List Itm) (i : Nat) (e : Exit) (st : St) : Prop :=
  (e = .ret ∧ playE its (l[i]?.getD default) = none ∧ FinP T Try.f58.results.toList [.v (.sl true 3 (ents l))] [.x] [.v (.sl false 3 []), boo false] st) ∨
  (e = .normal ∧ ∃ m : List Itm, playE its (l[i]?.getD default) = some m ∧ m.length ≤ its.length + 1 ∧
    LessL st [(4, .rf 48000 []), (12, .c (.sl true 3 (ents l))), (13, .c (.sc (.int .i64 (l.length : Int)))), (14, .c (.sc (.int .i64 ((i + 1 : Nat) : Int))))] [(48000, .sv (.sl false 3 (itms m)))])
theorem s_rep_n (l : List Ent) (its : List Itm) (i : Nat) (kd : Int) (nm tx : ByteArray) (hl : i < l.length) (he : l[i] = ⟨kd, nm, tx⟩) (h40 : l.length ≤ 40) (hil : its.length ≤ 40) (hw : nm.size ≤ 9223372036854775807 ∧ tx.size ≤ 9223372036854775807) (hN : nameOK nm = false) : AW Try.prog 88 (cAt Try.f58 [2, 2, 2, 1, 2, 5, 7]) (mk [(4, .rf 48000 []), (12, .c (.sl true 3 (ents l))), (13, .c (.sc (.int .i64 (l.length : Int)))), (14, .c (.sc (.int .i64 (i : Int))))] [(48000, .sv (.sl false 3 (itms its)))]) (RepQ l its i) := by
  have e1 : wrap64 ((i : Int) + 1) = ((i + 1 : Nat) : Int) := by rw [w64 (by omega) (by omega)]; omega
  have hge : l[i]?.getD default = ⟨kd, nm, tx⟩ := by rw [List.getElem?_eq_getElem hl, Option.getD_some, he]
  have cn := c_impl_isName nm hw.1
  have ct := c_impl_isText tx hw.2
  have cf := c_slices_IndexFunc_item its 110 [.sc (.int .i64 kd), .sc (.string nm), .sc (.string tx)] (fun x => decide (x.nm.toList = nm.toList)) (by omega) (by simp) (fun x => c_impl_replayed_1 x kd nm tx)
  rw [show idx (fun x : Itm => decide (x.nm.toList = nm.toList)) its = fnd its nm from rfl] at cf
  have b1 : (its.length + 1) * 40 ≤ 140737488355328 := by omega
  have b2 : its.length + 1 ≤ 4611686018427387904 := by omega
  have hn : playE its (l[i]?.getD default) = none := by rw [hge]; exact play_not (by simp [hN])
  rw [hN] at cn
  replace hn : Hd _ := hn
  clear hge hw
  repeat' (first | with_reducible refine OutOK.done ?_ | refine thenQ_n ?_ | refine thenQ_r ?_ | refine thenQ_e ?_ | refine AW.seq ?_ | refine AW.dreg tok mixed [10, 11]  [(0, false), (1, false), (2, false), (3, false), (4, false), (5, false), (6, false), (7, false), (9, false), (8, false), (10, true), (11, true), (12, false), (13, false)] (by decide +kernel) rfl (by simp [*]; rfl) ?_ | refine AW.reg tok (by simp [*]; rfl) ?_ | refine AW.ifB (by simp [*]; rfl) ?_ | refine IfG.t ?_ | refine IfG.f ?_ | (refine IfG.p (fun hg => ?_) (fun hg => ?_) <;> (try (have hg' := hg; simp at hg'))) | (refine IfG.n (fun hg => ?_) (fun hg => ?_) <;> (try (have hg' := hg; simp at hg'))) | (refine OutOK.gateP (fun hg => ?_) (fun hg => ?_) <;> (try (have hg' := hg; simp at hg'))) | (refine OutOK.gateN (fun hg => ?_) (fun hg => ?_) <;> (try (have hg' := hg; simp at hg'))) | (refine IfG.g (fun hg => ?_) (fun hg => ?_) <;> (try (have hg' := hg; simp at hg'))) | (refine OutOK.gate (fun hg => ?_) (fun hg => ?_) <;> (try (have hg' := hg; simp at hg'))) | (refine OutOK.callF [] (by simp [*]; rfl) (by simp [*]; rfl) (by simp [*]; rfl) hb77 (by apply cn <;> first | assumption | exact Hd.out (by assumption) | ((try (clear e0)); (try (clear e1)); (try (clear e2)); (try (clear e3)); (try (clear e4)); (try (clear e5)); (try (clear e6)); (try (clear e7)); (try (clear e8)); (try (clear e9)); (try (clear e10)); (try (clear e11)); omega)) ⟨by simp [*], by simp [*], by simp [*], by simp [*], by simp [*]⟩ (by simp [*]) (by simp [*]; rfl) ?_) | (refine OutOK.callF [] (by simp [*]; rfl) (by simp [*]; rfl) (by simp [*]; rfl) hb78 (by apply ct <;> first | assumption | exact Hd.out (by assumption) | ((try (clear e0)); (try (clear e1)); (try (clear e2)); (try (clear e3)); (try (clear e4)); (try (clear e5)); (try (clear e6)); (try (clear e7)); (try (clear e8)); (try (clear e9)); (try (clear e10)); (try (clear e11)); omega)) ⟨by simp [*], by simp [*], by simp [*], by simp [*], by simp [*]⟩ (by simp [*]) (by simp [*]; rfl) ?_) | (refine OutOK.callF [] (by simp [*]; rfl) (by simp [*]; rfl) (by simp [*]; rfl) hb69 (by apply cf <;> first | assumption | exact Hd.out (by assumption) | ((try (clear e0)); (try (clear e1)); (try (clear e2)); (try (clear e3)); (try (clear e4)); (try (clear e5)); (try (clear e6)); (try (clear e7)); (try (clear e8)); (try (clear e9)); (try (clear e10)); (try (clear e11)); omega)) ⟨by simp [*], by simp [*], by simp [*], by simp [*], by simp [*]⟩ (by simp [*]) (by simp [*]; rfl) ?_) | refine OutOK.run (by simp [*]; rfl) ?_ | refine AW.ret ?_ | refine AW.skip ?_ | refine AW.exit ?_ | refine fin_r ?_ | refine fin_n ?_ | refine AW.block ?_ | refine blockQ_n ?_ | refine blockQ_r ?_ | refine blockQ_e ?_ | refine blockQ_o rfl ?_)
  exact .inl ⟨rfl, hn.out, by simp [Try.f58]⟩
theorem s_rep_t (l : List Ent) (its : List Itm) (i : Nat) (kd : Int) (nm tx : ByteArray) (hl : i < l.length) (he : l[i] = ⟨kd, nm, tx⟩) (h40 : l.length ≤ 40) (hil : its.length ≤ 40) (hw : nm.size ≤ 9223372036854775807 ∧ tx.size ≤ 9223372036854775807) (hN : nameOK nm = true) (hT : textOK tx = false) : AW Try.prog 88 (cAt Try.f58 [2, 2, 2, 1, 2, 5, 7]) (mk [(4, .rf 48000 []), (12, .c (.sl true 3 (ents l))), (13, .c (.sc (.int .i64 (l.length : Int)))), (14, .c (.sc (.int .i64 (i : Int))))] [(48000, .sv (.sl false 3 (itms its)))]) (RepQ l its i) := by
  have e1 : wrap64 ((i : Int) + 1) = ((i + 1 : Nat) : Int) := by rw [w64 (by omega) (by omega)]; omega
  have hge : l[i]?.getD default = ⟨kd, nm, tx⟩ := by rw [List.getElem?_eq_getElem hl, Option.getD_some, he]
  have cn := c_impl_isName nm hw.1
  have ct := c_impl_isText tx hw.2
  have cf := c_slices_IndexFunc_item its 110 [.sc (.int .i64 kd), .sc (.string nm), .sc (.string tx)] (fun x => decide (x.nm.toList = nm.toList)) (by omega) (by simp) (fun x => c_impl_replayed_1 x kd nm tx)
  rw [show idx (fun x : Itm => decide (x.nm.toList = nm.toList)) its = fnd its nm from rfl] at cf
  have b1 : (its.length + 1) * 40 ≤ 140737488355328 := by omega
  have b2 : its.length + 1 ≤ 4611686018427387904 := by omega
  have hn : playE its (l[i]?.getD default) = none := by rw [hge]; exact play_not (by simp [hT])
  rw [hN] at cn
  rw [hT] at ct
  replace hn : Hd _ := hn
  clear hge hw
  repeat' (first | with_reducible refine OutOK.done ?_ | refine thenQ_n ?_ | refine thenQ_r ?_ | refine thenQ_e ?_ | refine AW.seq ?_ | refine AW.dreg tok mixed [10, 11]  [(0, false), (1, false), (2, false), (3, false), (4, false), (5, false), (6, false), (7, false), (9, false), (8, false), (10, true), (11, true), (12, false), (13, false)] (by decide +kernel) rfl (by simp [*]; rfl) ?_ | refine AW.reg tok (by simp [*]; rfl) ?_ | refine AW.ifB (by simp [*]; rfl) ?_ | refine IfG.t ?_ | refine IfG.f ?_ | (refine IfG.p (fun hg => ?_) (fun hg => ?_) <;> (try (have hg' := hg; simp at hg'))) | (refine IfG.n (fun hg => ?_) (fun hg => ?_) <;> (try (have hg' := hg; simp at hg'))) | (refine OutOK.gateP (fun hg => ?_) (fun hg => ?_) <;> (try (have hg' := hg; simp at hg'))) | (refine OutOK.gateN (fun hg => ?_) (fun hg => ?_) <;> (try (have hg' := hg; simp at hg'))) | (refine IfG.g (fun hg => ?_) (fun hg => ?_) <;> (try (have hg' := hg; simp at hg'))) | (refine OutOK.gate (fun hg => ?_) (fun hg => ?_) <;> (try (have hg' := hg; simp at hg'))) | (refine OutOK.callF [] (by simp [*]; rfl) (by simp [*]; rfl) (by simp [*]; rfl) hb77 (by apply cn <;> first | assumption | exact Hd.out (by assumption) | ((try (clear e0)); (try (clear e1)); (try (clear e2)); (try (clear e3)); (try (clear e4)); (try (clear e5)); (try (clear e6)); (try (clear e7)); (try (clear e8)); (try (clear e9)); (try (clear e10)); (try (clear e11)); omega)) ⟨by simp [*], by simp [*], by simp [*], by simp [*], by simp [*]⟩ (by simp [*]) (by simp [*]; rfl) ?_) | (refine OutOK.callF [] (by simp [*]; rfl) (by simp [*]; rfl) (by simp [*]; rfl) hb78 (by apply ct <;> first | assumption | exact Hd.out (by assumption) | ((try (clear e0)); (try (clear e1)); (try (clear e2)); (try (clear e3)); (try (clear e4)); (try (clear e5)); (try (clear e6)); (try (clear e7)); (try (clear e8)); (try (clear e9)); (try (clear e10)); (try (clear e11)); omega)) ⟨by simp [*], by simp [*], by simp [*], by simp [*], by simp [*]⟩ (by simp [*]) (by simp [*]; rfl) ?_) | (refine OutOK.callF [] (by simp [*]; rfl) (by simp [*]; rfl) (by simp [*]; rfl) hb69 (by apply cf <;> first | assumption | exact Hd.out (by assumption) | ((try (clear e0)); (try (clear e1)); (try (clear e2)); (try (clear e3)); (try (clear e4)); (try (clear e5)); (try (clear e6)); (try (clear e7)); (try (clear e8)); (try (clear e9)); (try (clear e10)); (try (clear e11)); omega)) ⟨by simp [*], by simp [*], by simp [*], by simp [*], by simp [*]⟩ (by simp [*]) (by simp [*]; rfl) ?_) | refine OutOK.run (by simp [*]; rfl) ?_ | refine AW.ret ?_ | refine AW.skip ?_ | refine AW.exit ?_ | refine fin_r ?_ | refine fin_n ?_ | refine AW.block ?_ | refine blockQ_n ?_ | refine blockQ_r ?_ | refine blockQ_e ?_ | refine blockQ_o rfl ?_)
  exact .inl ⟨rfl, hn.out, by simp [Try.f58]⟩
theorem s_rep_1 (l : List Ent) (its : List Itm) (i : Nat) (kd : Int) (nm tx : ByteArray) (hl : i < l.length) (he : l[i] = ⟨kd, nm, tx⟩) (h40 : l.length ≤ 40) (hil : its.length ≤ 40) (hw : nm.size ≤ 9223372036854775807 ∧ tx.size ≤ 9223372036854775807) (hnt : nameOK nm = true ∧ textOK tx = true) (hf : fnd its nm < 0) (hk : kd = 1) : AW Try.prog 88 (cAt Try.f58 [2, 2, 2, 1, 2, 5, 7]) (mk [(4, .rf 48000 []), (12, .c (.sl true 3 (ents l))), (13, .c (.sc (.int .i64 (l.length : Int)))), (14, .c (.sc (.int .i64 (i : Int))))] [(48000, .sv (.sl false 3 (itms its)))]) (RepQ l its i) := by
  have e1 : wrap64 ((i : Int) + 1) = ((i + 1 : Nat) : Int) := by rw [w64 (by omega) (by omega)]; omega
  have hge : l[i]?.getD default = ⟨kd, nm, tx⟩ := by rw [List.getElem?_eq_getElem hl, Option.getD_some, he]
  have cn := c_impl_isName nm hw.1
  have ct := c_impl_isText tx hw.2
  have cf := c_slices_IndexFunc_item its 110 [.sc (.int .i64 kd), .sc (.string nm), .sc (.string tx)] (fun x => decide (x.nm.toList = nm.toList)) (by omega) (by simp) (fun x => c_impl_replayed_1 x kd nm tx)
  rw [show idx (fun x : Itm => decide (x.nm.toList = nm.toList)) its = fnd its nm from rfl] at cf
  have b1 : (its.length + 1) * 40 ≤ 140737488355328 := by omega
  have b2 : its.length + 1 ≤ 4611686018427387904 := by omega
  have hn : playE its (l[i]?.getD default) = some (its ++ [⟨nm, tx, false⟩]) := by rw [hge, play_new hnt hf, if_pos hk]
  obtain ⟨hN, hT⟩ := hnt
  rw [hN] at cn
  rw [hT] at ct
  obtain ⟨z, hz⟩ : ∃ z : Int, fnd its nm = z := ⟨_, rfl⟩
  rw [hz] at cf
  have hz0 : z < 0 := by omega
  clear hz hf
  subst hk
  replace hn : Hd _ := hn
  clear hge hw
  repeat' (first | with_reducible refine OutOK.done ?_ | refine thenQ_n ?_ | refine thenQ_r ?_ | refine thenQ_e ?_ | refine AW.seq ?_ | refine AW.dreg tok mixed [10, 11]  [(0, false), (1, false), (2, false), (3, false), (4, false), (5, false), (6, false), (7, false), (9, false), (8, false), (10, true), (11, true), (12, false), (13, false)] (by decide +kernel) rfl (by simp [*]; rfl) ?_ | refine AW.reg tok (by simp [*]; rfl) ?_ | refine AW.ifB (by simp [*]; rfl) ?_ | refine IfG.t ?_ | refine IfG.f ?_ | (refine IfG.p (fun hg => ?_) (fun hg => ?_) <;> (try (have hg' := hg; simp at hg'))) | (refine IfG.n (fun hg => ?_) (fun hg => ?_) <;> (try (have hg' := hg; simp at hg'))) | (refine OutOK.gateP (fun hg => ?_) (fun hg => ?_) <;> (try (have hg' := hg; simp at hg'))) | (refine OutOK.gateN (fun hg => ?_) (fun hg => ?_) <;> (try (have hg' := hg; simp at hg'))) | (refine IfG.g (fun hg => ?_) (fun hg => ?_) <;> (try (have hg' := hg; simp at hg'))) | (refine OutOK.gate (fun hg => ?_) (fun hg => ?_) <;> (try (have hg' := hg; simp at hg'))) | (refine OutOK.callF [] (by simp [*]; rfl) (by simp [*]; rfl) (by simp [*]; rfl) hb77 (by apply cn <;> first | assumption | exact Hd.out (by assumption) | ((try (clear e0)); (try (clear e1)); (try (clear e2)); (try (clear e3)); (try (clear e4)); (try (clear e5)); (try (clear e6)); (try (clear e7)); (try (clear e8)); (try (clear e9)); (try (clear e10)); (try (clear e11)); omega)) ⟨by simp [*], by simp [*], by simp [*], by simp [*], by simp [*]⟩ (by simp [*]) (by simp [*]; rfl) ?_) | (refine OutOK.callF [] (by simp [*]; rfl) (by simp [*]; rfl) (by simp [*]; rfl) hb78 (by apply ct <;> first | assumption | exact Hd.out (by assumption) | ((try (clear e0)); (try (clear e1)); (try (clear e2)); (try (clear e3)); (try (clear e4)); (try (clear e5)); (try (clear e6)); (try (clear e7)); (try (clear e8)); (try (clear e9)); (try (clear e10)); (try (clear e11)); omega)) ⟨by simp [*], by simp [*], by simp [*], by simp [*], by simp [*]⟩ (by simp [*]) (by simp [*]; rfl) ?_) | (refine OutOK.callF [] (by simp [*]; rfl) (by simp [*]; rfl) (by simp [*]; rfl) hb69 (by apply cf <;> first | assumption | exact Hd.out (by assumption) | ((try (clear e0)); (try (clear e1)); (try (clear e2)); (try (clear e3)); (try (clear e4)); (try (clear e5)); (try (clear e6)); (try (clear e7)); (try (clear e8)); (try (clear e9)); (try (clear e10)); (try (clear e11)); omega)) ⟨by simp [*], by simp [*], by simp [*], by simp [*], by simp [*]⟩ (by simp [*]) (by simp [*]; rfl) ?_) | refine OutOK.run (by simp [*]; rfl) ?_ | refine AW.ret ?_ | refine AW.skip ?_ | refine AW.exit ?_ | refine fin_r ?_ | refine fin_n ?_ | refine AW.block ?_ | refine blockQ_n ?_ | refine blockQ_r ?_ | refine blockQ_e ?_ | refine blockQ_o rfl ?_)
  exact .inr ⟨rfl, its ++ [⟨nm, tx, false⟩], hn.out, by simp, ⟨by simp, by simp, by simp⟩⟩
theorem s_rep_1n (l : List Ent) (its : List Itm) (i : Nat) (kd : Int) (nm tx : ByteArray) (hl : i < l.length) (he : l[i] = ⟨kd, nm, tx⟩) (h40 : l.length ≤ 40) (hil : its.length ≤ 40) (hw : nm.size ≤ 9223372036854775807 ∧ tx.size ≤ 9223372036854775807) (hnt : nameOK nm = true ∧ textOK tx = true) (hf : fnd its nm < 0) (hk : ¬ kd = 1) : AW Try.prog 88 (cAt Try.f58 [2, 2, 2, 1, 2, 5, 7]) (mk [(4, .rf 48000 []), (12, .c (.sl true 3 (ents l))), (13, .c (.sc (.int .i64 (l.length : Int)))), (14, .c (.sc (.int .i64 (i : Int))))] [(48000, .sv (.sl false 3 (itms its)))]) (RepQ l its i) := by
  have e1 : wrap64 ((i : Int) + 1) = ((i + 1 : Nat) : Int) := by rw [w64 (by omega) (by omega)]; omega
  have hge : l[i]?.getD default = ⟨kd, nm, tx⟩ := by rw [List.getElem?_eq_getElem hl, Option.getD_some, he]
  have cn := c_impl_isName nm hw.1
  have ct := c_impl_isText tx hw.2
  have cf := c_slices_IndexFunc_item its 110 [.sc (.int .i64 kd), .sc (.string nm), .sc (.string tx)] (fun x => decide (x.nm.toList = nm.toList)) (by omega) (by simp) (fun x => c_impl_replayed_1 x kd nm tx)
  rw [show idx (fun x : Itm => decide (x.nm.toList = nm.toList)) its = fnd its nm from rfl] at cf
  have b1 : (its.length + 1) * 40 ≤ 140737488355328 := by omega
  have b2 : its.length + 1 ≤ 4611686018427387904 := by omega
  have hn : playE its (l[i]?.getD default) = none := by rw [hge, play_new hnt hf, if_neg hk]
  obtain ⟨hN, hT⟩ := hnt
  rw [hN] at cn
  rw [hT] at ct
  obtain ⟨z, hz⟩ : ∃ z : Int, fnd its nm = z := ⟨_, rfl⟩
  rw [hz] at cf
  have hz0 : z < 0 := by omega
  clear hz hf
  replace hn : Hd _ := hn
  clear hge hw
  repeat' (first | with_reducible refine OutOK.done ?_ | refine thenQ_n ?_ | refine thenQ_r ?_ | refine thenQ_e ?_ | refine AW.seq ?_ | refine AW.dreg tok mixed [10, 11]  [(0, false), (1, false), (2, false), (3, false), (4, false), (5, false), (6, false), (7, false), (9, false), (8, false), (10, true), (11, true), (12, false), (13, false)] (by decide +kernel) rfl (by simp [*]; rfl) ?_ | refine AW.reg tok (by simp [*]; rfl) ?_ | refine AW.ifB (by simp [*]; rfl) ?_ | refine IfG.t ?_ | refine IfG.f ?_ | (refine IfG.p (fun hg => ?_) (fun hg => ?_) <;> (try (have hg' := hg; simp at hg'))) | (refine IfG.n (fun hg => ?_) (fun hg => ?_) <;> (try (have hg' := hg; simp at hg'))) | (refine OutOK.gateP (fun hg => ?_) (fun hg => ?_) <;> (try (have hg' := hg; simp at hg'))) | (refine OutOK.gateN (fun hg => ?_) (fun hg => ?_) <;> (try (have hg' := hg; simp at hg'))) | (refine IfG.g (fun hg => ?_) (fun hg => ?_) <;> (try (have hg' := hg; simp at hg'))) | (refine OutOK.gate (fun hg => ?_) (fun hg => ?_) <;> (try (have hg' := hg; simp at hg'))) | (refine OutOK.callF [] (by simp [*]; rfl) (by simp [*]; rfl) (by simp [*]; rfl) hb77 (by apply cn <;> first | assumption | exact Hd.out (by assumption) | ((try (clear e0)); (try (clear e1)); (try (clear e2)); (try (clear e3)); (try (clear e4)); (try (clear e5)); (try (clear e6)); (try (clear e7)); (try (clear e8)); (try (clear e9)); (try (clear e10)); (try (clear e11)); omega)) ⟨by simp [*], by simp [*], by simp [*], by simp [*], by simp [*]⟩ (by simp [*]) (by simp [*]; rfl) ?_) | (refine OutOK.callF [] (by simp [*]; rfl) (by simp [*]; rfl) (by simp [*]; rfl) hb78 (by apply ct <;> first | assumption | exact Hd.out (by assumption) | ((try (clear e0)); (try (clear e1)); (try (clear e2)); (try (clear e3)); (try (clear e4)); (try (clear e5)); (try (clear e6)); (try (clear e7)); (try (clear e8)); (try (clear e9)); (try (clear e10)); (try (clear e11)); omega)) ⟨by simp [*], by simp [*], by simp [*], by simp [*], by simp [*]⟩ (by simp [*]) (by simp [*]; rfl) ?_) | (refine OutOK.callF [] (by simp [*]; rfl) (by simp [*]; rfl) (by simp [*]; rfl) hb69 (by apply cf <;> first | assumption | exact Hd.out (by assumption) | ((try (clear e0)); (try (clear e1)); (try (clear e2)); (try (clear e3)); (try (clear e4)); (try (clear e5)); (try (clear e6)); (try (clear e7)); (try (clear e8)); (try (clear e9)); (try (clear e10)); (try (clear e11)); omega)) ⟨by simp [*], by simp [*], by simp [*], by simp [*], by simp [*]⟩ (by simp [*]) (by simp [*]; rfl) ?_) | refine OutOK.run (by simp [*]; rfl) ?_ | refine AW.ret ?_ | refine AW.skip ?_ | refine AW.exit ?_ | refine fin_r ?_ | refine fin_n ?_ | refine AW.block ?_ | refine blockQ_n ?_ | refine blockQ_r ?_ | refine blockQ_e ?_ | refine blockQ_o rfl ?_)
  exact .inl ⟨rfl, hn.out, by simp [Try.f58]⟩
theorem s_rep_o (l : List Ent) (its : List Itm) (i : Nat) (kd : Int) (nm tx : ByteArray) (hl : i < l.length) (he : l[i] = ⟨kd, nm, tx⟩) (h40 : l.length ≤ 40) (hil : its.length ≤ 40) (hw : nm.size ≤ 9223372036854775807 ∧ tx.size ≤ 9223372036854775807) (hnt : nameOK nm = true ∧ textOK tx = true) (k : Nat) (hf : fnd its nm = (k : Int)) (hkl : k < its.length) (hk : kd = 1) : AW Try.prog 88 (cAt Try.f58 [2, 2, 2, 1, 2, 5, 7]) (mk [(4, .rf 48000 []), (12, .c (.sl true 3 (ents l))), (13, .c (.sc (.int .i64 (l.length : Int)))), (14, .c (.sc (.int .i64 (i : Int))))] [(48000, .sv (.sl false 3 (itms its)))]) (RepQ l its i) := by
  have e1 : wrap64 ((i : Int) + 1) = ((i + 1 : Nat) : Int) := by rw [w64 (by omega) (by omega)]; omega
  have hge : l[i]?.getD default = ⟨kd, nm, tx⟩ := by rw [List.getElem?_eq_getElem hl, Option.getD_some, he]
  have cn := c_impl_isName nm hw.1
  have ct := c_impl_isText tx hw.2
  have cf := c_slices_IndexFunc_item its 110 [.sc (.int .i64 kd), .sc (.string nm), .sc (.string tx)] (fun x => decide (x.nm.toList = nm.toList)) (by omega) (by simp) (fun x => c_impl_replayed_1 x kd nm tx)
  rw [show idx (fun x : Itm => decide (x.nm.toList = nm.toList)) its = fnd its nm from rfl] at cf
  have b1 : (its.length + 1) * 40 ≤ 140737488355328 := by omega
  have b2 : its.length + 1 ≤ 4611686018427387904 := by omega
  have hn : playE its (l[i]?.getD default) = none := by rw [hge, play_at hnt hf hkl]; simp [hk]
  obtain ⟨hN, hT⟩ := hnt
  rw [hN] at cn
  rw [hT] at ct
  rw [hf] at cf
  have hz0 : ¬ (k : Int) < 0 := by omega
  clear hf
  subst hk
  replace hn : Hd _ := hn
  clear hge hw
  repeat' (first | with_reducible refine OutOK.done ?_ | refine thenQ_n ?_ | refine thenQ_r ?_ | refine thenQ_e ?_ | refine AW.seq ?_ | refine AW.dreg tok mixed [10, 11]  [(0, false), (1, false), (2, false), (3, false), (4, false), (5, false), (6, false), (7, false), (9, false), (8, false), (10, true), (11, true), (12, false), (13, false)] (by decide +kernel) rfl (by simp [*]; rfl) ?_ | refine AW.reg tok (by simp [*]; rfl) ?_ | refine AW.ifB (by simp [*]; rfl) ?_ | refine IfG.t ?_ | refine IfG.f ?_ | (refine IfG.p (fun hg => ?_) (fun hg => ?_) <;> (try (have hg' := hg; simp at hg'))) | (refine IfG.n (fun hg => ?_) (fun hg => ?_) <;> (try (have hg' := hg; simp at hg'))) | (refine OutOK.gateP (fun hg => ?_) (fun hg => ?_) <;> (try (have hg' := hg; simp at hg'))) | (refine OutOK.gateN (fun hg => ?_) (fun hg => ?_) <;> (try (have hg' := hg; simp at hg'))) | (refine IfG.g (fun hg => ?_) (fun hg => ?_) <;> (try (have hg' := hg; simp at hg'))) | (refine OutOK.gate (fun hg => ?_) (fun hg => ?_) <;> (try (have hg' := hg; simp at hg'))) | (refine OutOK.callF [] (by simp [*]; rfl) (by simp [*]; rfl) (by simp [*]; rfl) hb77 (by apply cn <;> first | assumption | exact Hd.out (by assumption) | ((try (clear e0)); (try (clear e1)); (try (clear e2)); (try (clear e3)); (try (clear e4)); (try (clear e5)); (try (clear e6)); (try (clear e7)); (try (clear e8)); (try (clear e9)); (try (clear e10)); (try (clear e11)); omega)) ⟨by simp [*], by simp [*], by simp [*], by simp [*], by simp [*]⟩ (by simp [*]) (by simp [*]; rfl) ?_) | (refine OutOK.callF [] (by simp [*]; rfl) (by simp [*]; rfl) (by simp [*]; rfl) hb78 (by apply ct <;> first | assumption | exact Hd.out (by assumption) | ((try (clear e0)); (try (clear e1)); (try (clear e2)); (try (clear e3)); (try (clear e4)); (try (clear e5)); (try (clear e6)); (try (clear e7)); (try (clear e8)); (try (clear e9)); (try (clear e10)); (try (clear e11)); omega)) ⟨by simp [*], by simp [*], by simp [*], by simp [*], by simp [*]⟩ (by simp [*]) (by simp [*]; rfl) ?_) | (refine OutOK.callF [] (by simp [*]; rfl) (by simp [*]; rfl) (by simp [*]; rfl) hb69 (by apply cf <;> first | assumption | exact Hd.out (by assumption) | ((try (clear e0)); (try (clear e1)); (try (clear e2)); (try (clear e3)); (try (clear e4)); (try (clear e5)); (try (clear e6)); (try (clear e7)); (try (clear e8)); (try (clear e9)); (try (clear e10)); (try (clear e11)); omega)) ⟨by simp [*], by simp [*], by simp [*], by simp [*], by simp [*]⟩ (by simp [*]) (by simp [*]; rfl) ?_) | refine OutOK.run (by simp [*]; rfl) ?_ | refine AW.ret ?_ | refine AW.skip ?_ | refine AW.exit ?_ | refine fin_r ?_ | refine fin_n ?_ | refine AW.block ?_ | refine blockQ_n ?_ | refine blockQ_r ?_ | refine blockQ_e ?_ | refine blockQ_o rfl ?_)
  exact .inl ⟨rfl, hn.out, by simp [Try.f58]⟩
theorem s_rep_2n (l : List Ent) (its : List Itm) (i : Nat) (kd : Int) (nm tx : ByteArray) (hl : i < l.length) (he : l[i] = ⟨kd, nm, tx⟩) (h40 : l.length ≤ 40) (hil : its.length ≤ 40) (hw : nm.size ≤ 9223372036854775807 ∧ tx.size ≤ 9223372036854775807) (hnt : nameOK nm = true ∧ textOK tx = true) (k : Nat) (hf : fnd its nm = (k : Int)) (hkl : k < its.length) (hk : kd = 2) (hv : its[k].vd = true) : AW Try.prog 88 (cAt Try.f58 [2, 2, 2, 1, 2, 5, 7]) (mk [(4, .rf 48000 []), (12, .c (.sl true 3 (ents l))), (13, .c (.sc (.int .i64 (l.length : Int)))), (14, .c (.sc (.int .i64 (i : Int))))] [(48000, .sv (.sl false 3 (itms its)))]) (RepQ l its i) := by
  have e1 : wrap64 ((i : Int) + 1) = ((i + 1 : Nat) : Int) := by rw [w64 (by omega) (by omega)]; omega
  have hge : l[i]?.getD default = ⟨kd, nm, tx⟩ := by rw [List.getElem?_eq_getElem hl, Option.getD_some, he]
  have cn := c_impl_isName nm hw.1
  have ct := c_impl_isText tx hw.2
  have cf := c_slices_IndexFunc_item its 110 [.sc (.int .i64 kd), .sc (.string nm), .sc (.string tx)] (fun x => decide (x.nm.toList = nm.toList)) (by omega) (by simp) (fun x => c_impl_replayed_1 x kd nm tx)
  rw [show idx (fun x : Itm => decide (x.nm.toList = nm.toList)) its = fnd its nm from rfl] at cf
  have b1 : (its.length + 1) * 40 ≤ 140737488355328 := by omega
  have b2 : its.length + 1 ≤ 4611686018427387904 := by omega
  have hn : playE its (l[i]?.getD default) = none := by rw [hge, play_at hnt hf hkl]; simp [hk, hv]
  obtain ⟨hN, hT⟩ := hnt
  rw [hN] at cn
  rw [hT] at ct
  rw [hf] at cf
  have hz0 : ¬ (k : Int) < 0 := by omega
  clear hf
  subst hk
  replace hn : Hd _ := hn
  clear hge hw
  repeat' (first | with_reducible refine OutOK.done ?_ | refine thenQ_n ?_ | refine thenQ_r ?_ | refine thenQ_e ?_ | refine AW.seq ?_ | refine AW.dreg tok mixed [10, 11]  [(0, false), (1, false), (2, false), (3, false), (4, false), (5, false), (6, false), (7, false), (9, false), (8, false), (10, true), (11, true), (12, false), (13, false)] (by decide +kernel) rfl (by simp [*]; rfl) ?_ | refine AW.reg tok (by simp [*]; rfl) ?_ | refine AW.ifB (by simp [*]; rfl) ?_ | refine IfG.t ?_ | refine IfG.f ?_ | (refine IfG.p (fun hg => ?_) (fun hg => ?_) <;> (try (have hg' := hg; simp at hg'))) | (refine IfG.n (fun hg => ?_) (fun hg => ?_) <;> (try (have hg' := hg; simp at hg'))) | (refine OutOK.gateP (fun hg => ?_) (fun hg => ?_) <;> (try (have hg' := hg; simp at hg'))) | (refine OutOK.gateN (fun hg => ?_) (fun hg => ?_) <;> (try (have hg' := hg; simp at hg'))) | (refine IfG.g (fun hg => ?_) (fun hg => ?_) <;> (try (have hg' := hg; simp at hg'))) | (refine OutOK.gate (fun hg => ?_) (fun hg => ?_) <;> (try (have hg' := hg; simp at hg'))) | (refine OutOK.callF [] (by simp [*]; rfl) (by simp [*]; rfl) (by simp [*]; rfl) hb77 (by apply cn <;> first | assumption | exact Hd.out (by assumption) | ((try (clear e0)); (try (clear e1)); (try (clear e2)); (try (clear e3)); (try (clear e4)); (try (clear e5)); (try (clear e6)); (try (clear e7)); (try (clear e8)); (try (clear e9)); (try (clear e10)); (try (clear e11)); omega)) ⟨by simp [*], by simp [*], by simp [*], by simp [*], by simp [*]⟩ (by simp [*]) (by simp [*]; rfl) ?_) | (refine OutOK.callF [] (by simp [*]; rfl) (by simp [*]; rfl) (by simp [*]; rfl) hb78 (by apply ct <;> first | assumption | exact Hd.out (by assumption) | ((try (clear e0)); (try (clear e1)); (try (clear e2)); (try (clear e3)); (try (clear e4)); (try (clear e5)); (try (clear e6)); (try (clear e7)); (try (clear e8)); (try (clear e9)); (try (clear e10)); (try (clear e11)); omega)) ⟨by simp [*], by simp [*], by simp [*], by simp [*], by simp [*]⟩ (by simp [*]) (by simp [*]; rfl) ?_) | (refine OutOK.callF [] (by simp [*]; rfl) (by simp [*]; rfl) (by simp [*]; rfl) hb69 (by apply cf <;> first | assumption | exact Hd.out (by assumption) | ((try (clear e0)); (try (clear e1)); (try (clear e2)); (try (clear e3)); (try (clear e4)); (try (clear e5)); (try (clear e6)); (try (clear e7)); (try (clear e8)); (try (clear e9)); (try (clear e10)); (try (clear e11)); omega)) ⟨by simp [*], by simp [*], by simp [*], by simp [*], by simp [*]⟩ (by simp [*]) (by simp [*]; rfl) ?_) | refine OutOK.run (by simp [*]; rfl) ?_ | refine AW.ret ?_ | refine AW.skip ?_ | refine AW.exit ?_ | refine fin_r ?_ | refine fin_n ?_ | refine AW.block ?_ | refine blockQ_n ?_ | refine blockQ_r ?_ | refine blockQ_e ?_ | refine blockQ_o rfl ?_)
  exact .inl ⟨rfl, hn.out, by simp [Try.f58]⟩
theorem s_rep_2 (l : List Ent) (its : List Itm) (i : Nat) (kd : Int) (nm tx : ByteArray) (hl : i < l.length) (he : l[i] = ⟨kd, nm, tx⟩) (h40 : l.length ≤ 40) (hil : its.length ≤ 40) (hw : nm.size ≤ 9223372036854775807 ∧ tx.size ≤ 9223372036854775807) (hnt : nameOK nm = true ∧ textOK tx = true) (k : Nat) (hf : fnd its nm = (k : Int)) (hkl : k < its.length) (hk : kd = 2) (hv : its[k].vd = false) : AW Try.prog 88 (cAt Try.f58 [2, 2, 2, 1, 2, 5, 7]) (mk [(4, .rf 48000 []), (12, .c (.sl true 3 (ents l))), (13, .c (.sc (.int .i64 (l.length : Int)))), (14, .c (.sc (.int .i64 (i : Int))))] [(48000, .sv (.sl false 3 (itms its)))]) (RepQ l its i) := by
  have e1 : wrap64 ((i : Int) + 1) = ((i + 1 : Nat) : Int) := by rw [w64 (by omega) (by omega)]; omega
  have hge : l[i]?.getD default = ⟨kd, nm, tx⟩ := by rw [List.getElem?_eq_getElem hl, Option.getD_some, he]
  have cn := c_impl_isName nm hw.1
  have ct := c_impl_isText tx hw.2
  have cf := c_slices_IndexFunc_item its 110 [.sc (.int .i64 kd), .sc (.string nm), .sc (.string tx)] (fun x => decide (x.nm.toList = nm.toList)) (by omega) (by simp) (fun x => c_impl_replayed_1 x kd nm tx)
  rw [show idx (fun x : Itm => decide (x.nm.toList = nm.toList)) its = fnd its nm from rfl] at cf
  have b1 : (its.length + 1) * 40 ≤ 140737488355328 := by omega
  have b2 : its.length + 1 ≤ 4611686018427387904 := by omega
  have hn : playE its (l[i]?.getD default) = some (its.set k ⟨its[k].nm, tx, false⟩) := by rw [hge, play_at hnt hf hkl]; simp [hk, hv]
  obtain ⟨hN, hT⟩ := hnt
  rw [hN] at cn
  rw [hT] at ct
  rw [hf] at cf
  have hz0 : ¬ (k : Int) < 0 := by omega
  clear hf
  subst hk
  replace hn : Hd _ := hn
  clear hge hw
  repeat' (first | with_reducible refine OutOK.done ?_ | refine thenQ_n ?_ | refine thenQ_r ?_ | refine thenQ_e ?_ | refine AW.seq ?_ | refine AW.dreg tok mixed [10, 11]  [(0, false), (1, false), (2, false), (3, false), (4, false), (5, false), (6, false), (7, false), (9, false), (8, false), (10, true), (11, true), (12, false), (13, false)] (by decide +kernel) rfl (by simp [*]; rfl) ?_ | refine AW.reg tok (by simp [*]; rfl) ?_ | refine AW.ifB (by simp [*]; rfl) ?_ | refine IfG.t ?_ | refine IfG.f ?_ | (refine IfG.p (fun hg => ?_) (fun hg => ?_) <;> (try (have hg' := hg; simp at hg'))) | (refine IfG.n (fun hg => ?_) (fun hg => ?_) <;> (try (have hg' := hg; simp at hg'))) | (refine OutOK.gateP (fun hg => ?_) (fun hg => ?_) <;> (try (have hg' := hg; simp at hg'))) | (refine OutOK.gateN (fun hg => ?_) (fun hg => ?_) <;> (try (have hg' := hg; simp at hg'))) | (refine IfG.g (fun hg => ?_) (fun hg => ?_) <;> (try (have hg' := hg; simp at hg'))) | (refine OutOK.gate (fun hg => ?_) (fun hg => ?_) <;> (try (have hg' := hg; simp at hg'))) | (refine OutOK.callF [] (by simp [*]; rfl) (by simp [*]; rfl) (by simp [*]; rfl) hb77 (by apply cn <;> first | assumption | exact Hd.out (by assumption) | ((try (clear e0)); (try (clear e1)); (try (clear e2)); (try (clear e3)); (try (clear e4)); (try (clear e5)); (try (clear e6)); (try (clear e7)); (try (clear e8)); (try (clear e9)); (try (clear e10)); (try (clear e11)); omega)) ⟨by simp [*], by simp [*], by simp [*], by simp [*], by simp [*]⟩ (by simp [*]) (by simp [*]; rfl) ?_) | (refine OutOK.callF [] (by simp [*]; rfl) (by simp [*]; rfl) (by simp [*]; rfl) hb78 (by apply ct <;> first | assumption | exact Hd.out (by assumption) | ((try (clear e0)); (try (clear e1)); (try (clear e2)); (try (clear e3)); (try (clear e4)); (try (clear e5)); (try (clear e6)); (try (clear e7)); (try (clear e8)); (try (clear e9)); (try (clear e10)); (try (clear e11)); omega)) ⟨by simp [*], by simp [*], by simp [*], by simp [*], by simp [*]⟩ (by simp [*]) (by simp [*]; rfl) ?_) | (refine OutOK.callF [] (by simp [*]; rfl) (by simp [*]; rfl) (by simp [*]; rfl) hb69 (by apply cf <;> first | assumption | exact Hd.out (by assumption) | ((try (clear e0)); (try (clear e1)); (try (clear e2)); (try (clear e3)); (try (clear e4)); (try (clear e5)); (try (clear e6)); (try (clear e7)); (try (clear e8)); (try (clear e9)); (try (clear e10)); (try (clear e11)); omega)) ⟨by simp [*], by simp [*], by simp [*], by simp [*], by simp [*]⟩ (by simp [*]) (by simp [*]; rfl) ?_) | refine OutOK.run (by simp [*]; rfl) ?_ | refine AW.ret ?_ | refine AW.skip ?_ | refine AW.exit ?_ | refine fin_r ?_ | refine fin_n ?_ | refine AW.block ?_ | refine blockQ_n ?_ | refine blockQ_r ?_ | refine blockQ_e ?_ | refine blockQ_o rfl ?_)
  exact .inr ⟨rfl, its.set k ⟨its[k].nm, tx, false⟩, hn.out, by simp, ⟨by simp, by simp, by simp⟩⟩
theorem s_rep_3t (l : List Ent) (its : List Itm) (i : Nat) (kd : Int) (nm tx : ByteArray) (hl : i < l.length) (he : l[i] = ⟨kd, nm, tx⟩) (h40 : l.length ≤ 40) (hil : its.length ≤ 40) (hw : nm.size ≤ 9223372036854775807 ∧ tx.size ≤ 9223372036854775807) (hnt : nameOK nm = true ∧ textOK tx = true) (k : Nat) (hf : fnd its nm = (k : Int)) (hkl : k < its.length) (hk : kd = 3 ∨ kd = 4) (hx : ¬ tx.toList = []) : AW Try.prog 88 (cAt Try.f58 [2, 2, 2, 1, 2, 5, 7]) (mk [(4, .rf 48000 []), (12, .c (.sl true 3 (ents l))), (13, .c (.sc (.int .i64 (l.length : Int)))), (14, .c (.sc (.int .i64 (i : Int))))] [(48000, .sv (.sl false 3 (itms its)))]) (RepQ l its i) := by
  have e1 : wrap64 ((i : Int) + 1) = ((i + 1 : Nat) : Int) := by rw [w64 (by omega) (by omega)]; omega
  have hge : l[i]?.getD default = ⟨kd, nm, tx⟩ := by rw [List.getElem?_eq_getElem hl, Option.getD_some, he]
  have cn := c_impl_isName nm hw.1
  have ct := c_impl_isText tx hw.2
  have cf := c_slices_IndexFunc_item its 110 [.sc (.int .i64 kd), .sc (.string nm), .sc (.string tx)] (fun x => decide (x.nm.toList = nm.toList)) (by omega) (by simp) (fun x => c_impl_replayed_1 x kd nm tx)
  rw [show idx (fun x : Itm => decide (x.nm.toList = nm.toList)) its = fnd its nm from rfl] at cf
  have b1 : (its.length + 1) * 40 ≤ 140737488355328 := by omega
  have b2 : its.length + 1 ≤ 4611686018427387904 := by omega
  have hn : playE its (l[i]?.getD default) = none := by rw [hge, play_at hnt hf hkl]; rcases hk with hk | hk <;> simp [hk, hx]
  obtain ⟨hN, hT⟩ := hnt
  rw [hN] at cn
  rw [hT] at ct
  rw [hf] at cf
  have hz0 : ¬ (k : Int) < 0 := by omega
  clear hf
  replace hn : Hd _ := hn
  clear hge hw
  rcases hk with rfl | rfl
  all_goals
    repeat' (first | with_reducible refine OutOK.done ?_ | refine thenQ_n ?_ | refine thenQ_r ?_ | refine thenQ_e ?_ | refine AW.seq ?_ | refine AW.dreg tok mixed [10, 11]  [(0, false), (1, false), (2, false), (3, false), (4, false), (5, false), (6, false), (7, false), (9, false), (8, false), (10, true), (11, true), (12, false), (13, false)] (by decide +kernel) rfl (by simp [*]; rfl) ?_ | refine AW.reg tok (by simp [*]; rfl) ?_ | refine AW.ifB (by simp [*]; rfl) ?_ | refine IfG.t ?_ | refine IfG.f ?_ | (refine IfG.p (fun hg => ?_) (fun hg => ?_) <;> (try (have hg' := hg; simp at hg'))) | (refine IfG.n (fun hg => ?_) (fun hg => ?_) <;> (try (have hg' := hg; simp at hg'))) | (refine OutOK.gateP (fun hg => ?_) (fun hg => ?_) <;> (try (have hg' := hg; simp at hg'))) | (refine OutOK.gateN (fun hg => ?_) (fun hg => ?_) <;> (try (have hg' := hg; simp at hg'))) | (refine IfG.g (fun hg => ?_) (fun hg => ?_) <;> (try (have hg' := hg; simp at hg'))) | (refine OutOK.gate (fun hg => ?_) (fun hg => ?_) <;> (try (have hg' := hg; simp at hg'))) | (refine OutOK.callF [] (by simp [*]; rfl) (by simp [*]; rfl) (by simp [*]; rfl) hb77 (by apply cn <;> first | assumption | exact Hd.out (by assumption) | ((try (clear e0)); (try (clear e1)); (try (clear e2)); (try (clear e3)); (try (clear e4)); (try (clear e5)); (try (clear e6)); (try (clear e7)); (try (clear e8)); (try (clear e9)); (try (clear e10)); (try (clear e11)); omega)) ⟨by simp [*], by simp [*], by simp [*], by simp [*], by simp [*]⟩ (by simp [*]) (by simp [*]; rfl) ?_) | (refine OutOK.callF [] (by simp [*]; rfl) (by simp [*]; rfl) (by simp [*]; rfl) hb78 (by apply ct <;> first | assumption | exact Hd.out (by assumption) | ((try (clear e0)); (try (clear e1)); (try (clear e2)); (try (clear e3)); (try (clear e4)); (try (clear e5)); (try (clear e6)); (try (clear e7)); (try (clear e8)); (try (clear e9)); (try (clear e10)); (try (clear e11)); omega)) ⟨by simp [*], by simp [*], by simp [*], by simp [*], by simp [*]⟩ (by simp [*]) (by simp [*]; rfl) ?_) | (refine OutOK.callF [] (by simp [*]; rfl) (by simp [*]; rfl) (by simp [*]; rfl) hb69 (by apply cf <;> first | assumption | exact Hd.out (by assumption) | ((try (clear e0)); (try (clear e1)); (try (clear e2)); (try (clear e3)); (try (clear e4)); (try (clear e5)); (try (clear e6)); (try (clear e7)); (try (clear e8)); (try (clear e9)); (try (clear e10)); (try (clear e11)); omega)) ⟨by simp [*], by simp [*], by simp [*], by simp [*], by simp [*]⟩ (by simp [*]) (by simp [*]; rfl) ?_) | refine OutOK.run (by simp [*]; rfl) ?_ | refine AW.ret ?_ | refine AW.skip ?_ | refine AW.exit ?_ | refine fin_r ?_ | refine fin_n ?_ | refine AW.block ?_ | refine blockQ_n ?_ | refine blockQ_r ?_ | refine blockQ_e ?_ | refine blockQ_o rfl ?_)
    exact .inl ⟨rfl, hn.out, by simp [Try.f58]⟩
theorem s_rep_3n (l : List Ent) (its : List Itm) (i : Nat) (kd : Int) (nm tx : ByteArray) (hl : i < l.length) (he : l[i] = ⟨kd, nm, tx⟩) (h40 : l.length ≤ 40) (hil : its.length ≤ 40) (hw : nm.size ≤ 9223372036854775807 ∧ tx.size ≤ 9223372036854775807) (hnt : nameOK nm = true ∧ textOK tx = true) (k : Nat) (hf : fnd its nm = (k : Int)) (hkl : k < its.length) (hk : kd = 3) (hx : tx.toList = []) (hv : its[k].vd = true) : AW Try.prog 88 (cAt Try.f58 [2, 2, 2, 1, 2, 5, 7]) (mk [(4, .rf 48000 []), (12, .c (.sl true 3 (ents l))), (13, .c (.sc (.int .i64 (l.length : Int)))), (14, .c (.sc (.int .i64 (i : Int))))] [(48000, .sv (.sl false 3 (itms its)))]) (RepQ l its i) := by
  have e1 : wrap64 ((i : Int) + 1) = ((i + 1 : Nat) : Int) := by rw [w64 (by omega) (by omega)]; omega
  have hge : l[i]?.getD default = ⟨kd, nm, tx⟩ := by rw [List.getElem?_eq_getElem hl, Option.getD_some, he]
  have cn := c_impl_isName nm hw.1
  have ct := c_impl_isText tx hw.2
  have cf := c_slices_IndexFunc_item its 110 [.sc (.int .i64 kd), .sc (.string nm), .sc (.string tx)] (fun x => decide (x.nm.toList = nm.toList)) (by omega) (by simp) (fun x => c_impl_replayed_1 x kd nm tx)
  rw [show idx (fun x : Itm => decide (x.nm.toList = nm.toList)) its = fnd its nm from rfl] at cf
  have b1 : (its.length + 1) * 40 ≤ 140737488355328 := by omega
  have b2 : its.length + 1 ≤ 4611686018427387904 := by omega
  have hn : playE its (l[i]?.getD default) = none := by rw [hge, play_at hnt hf hkl]; simp [hk, hv, hx]
  obtain ⟨hN, hT⟩ := hnt
  rw [hN] at cn
  rw [hT] at ct
  rw [hf] at cf
  have hz0 : ¬ (k : Int) < 0 := by omega
  clear hf
  subst hk
  replace hn : Hd _ := hn
  clear hge hw
  repeat' (first | with_reducible refine OutOK.done ?_ | refine thenQ_n ?_ | refine thenQ_r ?_ | refine thenQ_e ?_ | refine AW.seq ?_ | refine AW.dreg tok mixed [10, 11]  [(0, false), (1, false), (2, false), (3, false), (4, false), (5, false), (6, false), (7, false), (9, false), (8, false), (10, true), (11, true), (12, false), (13, false)] (by decide +kernel) rfl (by simp [*]; rfl) ?_ | refine AW.reg tok (by simp [*]; rfl) ?_ | refine AW.ifB (by simp [*]; rfl) ?_ | refine IfG.t ?_ | refine IfG.f ?_ | (refine IfG.p (fun hg => ?_) (fun hg => ?_) <;> (try (have hg' := hg; simp at hg'))) | (refine IfG.n (fun hg => ?_) (fun hg => ?_) <;> (try (have hg' := hg; simp at hg'))) | (refine OutOK.gateP (fun hg => ?_) (fun hg => ?_) <;> (try (have hg' := hg; simp at hg'))) | (refine OutOK.gateN (fun hg => ?_) (fun hg => ?_) <;> (try (have hg' := hg; simp at hg'))) | (refine IfG.g (fun hg => ?_) (fun hg => ?_) <;> (try (have hg' := hg; simp at hg'))) | (refine OutOK.gate (fun hg => ?_) (fun hg => ?_) <;> (try (have hg' := hg; simp at hg'))) | (refine OutOK.callF [] (by simp [*]; rfl) (by simp [*]; rfl) (by simp [*]; rfl) hb77 (by apply cn <;> first | assumption | exact Hd.out (by assumption) | ((try (clear e0)); (try (clear e1)); (try (clear e2)); (try (clear e3)); (try (clear e4)); (try (clear e5)); (try (clear e6)); (try (clear e7)); (try (clear e8)); (try (clear e9)); (try (clear e10)); (try (clear e11)); omega)) ⟨by simp [*], by simp [*], by simp [*], by simp [*], by simp [*]⟩ (by simp [*]) (by simp [*]; rfl) ?_) | (refine OutOK.callF [] (by simp [*]; rfl) (by simp [*]; rfl) (by simp [*]; rfl) hb78 (by apply ct <;> first | assumption | exact Hd.out (by assumption) | ((try (clear e0)); (try (clear e1)); (try (clear e2)); (try (clear e3)); (try (clear e4)); (try (clear e5)); (try (clear e6)); (try (clear e7)); (try (clear e8)); (try (clear e9)); (try (clear e10)); (try (clear e11)); omega)) ⟨by simp [*], by simp [*], by simp [*], by simp [*], by simp [*]⟩ (by simp [*]) (by simp [*]; rfl) ?_) | (refine OutOK.callF [] (by simp [*]; rfl) (by simp [*]; rfl) (by simp [*]; rfl) hb69 (by apply cf <;> first | assumption | exact Hd.out (by assumption) | ((try (clear e0)); (try (clear e1)); (try (clear e2)); (try (clear e3)); (try (clear e4)); (try (clear e5)); (try (clear e6)); (try (clear e7)); (try (clear e8)); (try (clear e9)); (try (clear e10)); (try (clear e11)); omega)) ⟨by simp [*], by simp [*], by simp [*], by simp [*], by simp [*]⟩ (by simp [*]) (by simp [*]; rfl) ?_) | refine OutOK.run (by simp [*]; rfl) ?_ | refine AW.ret ?_ | refine AW.skip ?_ | refine AW.exit ?_ | refine fin_r ?_ | refine fin_n ?_ | refine AW.block ?_ | refine blockQ_n ?_ | refine blockQ_r ?_ | refine blockQ_e ?_ | refine blockQ_o rfl ?_)
  exact .inl ⟨rfl, hn.out, by simp [Try.f58]⟩
theorem s_rep_3 (l : List Ent) (its : List Itm) (i : Nat) (kd : Int) (nm tx : ByteArray) (hl : i < l.length) (he : l[i] = ⟨kd, nm, tx⟩) (h40 : l.length ≤ 40) (hil : its.length ≤ 40) (hw : nm.size ≤ 9223372036854775807 ∧ tx.size ≤ 9223372036854775807) (hnt : nameOK nm = true ∧ textOK tx = true) (k : Nat) (hf : fnd its nm = (k : Int)) (hkl : k < its.length) (hk : kd = 3) (hx : tx.toList = []) (hv : its[k].vd = false) : AW Try.prog 88 (cAt Try.f58 [2, 2, 2, 1, 2, 5, 7]) (mk [(4, .rf 48000 []), (12, .c (.sl true 3 (ents l))), (13, .c (.sc (.int .i64 (l.length : Int)))), (14, .c (.sc (.int .i64 (i : Int))))] [(48000, .sv (.sl false 3 (itms its)))]) (RepQ l its i) := by
  have e1 : wrap64 ((i : Int) + 1) = ((i + 1 : Nat) : Int) := by rw [w64 (by omega) (by omega)]; omega
  have hge : l[i]?.getD default = ⟨kd, nm, tx⟩ := by rw [List.getElem?_eq_getElem hl, Option.getD_some, he]
  have cn := c_impl_isName nm hw.1
  have ct := c_impl_isText tx hw.2
  have cf := c_slices_IndexFunc_item its 110 [.sc (.int .i64 kd), .sc (.string nm), .sc (.string tx)] (fun x => decide (x.nm.toList = nm.toList)) (by omega) (by simp) (fun x => c_impl_replayed_1 x kd nm tx)
  rw [show idx (fun x : Itm => decide (x.nm.toList = nm.toList)) its = fnd its nm from rfl] at cf
  have b1 : (its.length + 1) * 40 ≤ 140737488355328 := by omega
  have b2 : its.length + 1 ≤ 4611686018427387904 := by omega
  have hn : playE its (l[i]?.getD default) = some (its.set k ⟨its[k].nm, its[k].tx, true⟩) := by rw [hge, play_at hnt hf hkl]; simp [hk, hv, hx]
  obtain ⟨hN, hT⟩ := hnt
  rw [hN] at cn
  rw [hT] at ct
  rw [hf] at cf
  have hz0 : ¬ (k : Int) < 0 := by omega
  clear hf
  subst hk
  replace hn : Hd _ := hn
  clear hge hw
  repeat' (first | with_reducible refine OutOK.done ?_ | refine thenQ_n ?_ | refine thenQ_r ?_ | refine thenQ_e ?_ | refine AW.seq ?_ | refine AW.dreg tok mixed [10, 11]  [(0, false), (1, false), (2, false), (3, false), (4, false), (5, false), (6, false), (7, false), (9, false), (8, false), (10, true), (11, true), (12, false), (13, false)] (by decide +kernel) rfl (by simp [*]; rfl) ?_ | refine AW.reg tok (by simp [*]; rfl) ?_ | refine AW.ifB (by simp [*]; rfl) ?_ | refine IfG.t ?_ | refine IfG.f ?_ | (refine IfG.p (fun hg => ?_) (fun hg => ?_) <;> (try (have hg' := hg; simp at hg'))) | (refine IfG.n (fun hg => ?_) (fun hg => ?_) <;> (try (have hg' := hg; simp at hg'))) | (refine OutOK.gateP (fun hg => ?_) (fun hg => ?_) <;> (try (have hg' := hg; simp at hg'))) | (refine OutOK.gateN (fun hg => ?_) (fun hg => ?_) <;> (try (have hg' := hg; simp at hg'))) | (refine IfG.g (fun hg => ?_) (fun hg => ?_) <;> (try (have hg' := hg; simp at hg'))) | (refine OutOK.gate (fun hg => ?_) (fun hg => ?_) <;> (try (have hg' := hg; simp at hg'))) | (refine OutOK.callF [] (by simp [*]; rfl) (by simp [*]; rfl) (by simp [*]; rfl) hb77 (by apply cn <;> first | assumption | exact Hd.out (by assumption) | ((try (clear e0)); (try (clear e1)); (try (clear e2)); (try (clear e3)); (try (clear e4)); (try (clear e5)); (try (clear e6)); (try (clear e7)); (try (clear e8)); (try (clear e9)); (try (clear e10)); (try (clear e11)); omega)) ⟨by simp [*], by simp [*], by simp [*], by simp [*], by simp [*]⟩ (by simp [*]) (by simp [*]; rfl) ?_) | (refine OutOK.callF [] (by simp [*]; rfl) (by simp [*]; rfl) (by simp [*]; rfl) hb78 (by apply ct <;> first | assumption | exact Hd.out (by assumption) | ((try (clear e0)); (try (clear e1)); (try (clear e2)); (try (clear e3)); (try (clear e4)); (try (clear e5)); (try (clear e6)); (try (clear e7)); (try (clear e8)); (try (clear e9)); (try (clear e10)); (try (clear e11)); omega)) ⟨by simp [*], by simp [*], by simp [*], by simp [*], by simp [*]⟩ (by simp [*]) (by simp [*]; rfl) ?_) | (refine OutOK.callF [] (by simp [*]; rfl) (by simp [*]; rfl) (by simp [*]; rfl) hb69 (by apply cf <;> first | assumption | exact Hd.out (by assumption) | ((try (clear e0)); (try (clear e1)); (try (clear e2)); (try (clear e3)); (try (clear e4)); (try (clear e5)); (try (clear e6)); (try (clear e7)); (try (clear e8)); (try (clear e9)); (try (clear e10)); (try (clear e11)); omega)) ⟨by simp [*], by simp [*], by simp [*], by simp [*], by simp [*]⟩ (by simp [*]) (by simp [*]; rfl) ?_) | refine OutOK.run (by simp [*]; rfl) ?_ | refine AW.ret ?_ | refine AW.skip ?_ | refine AW.exit ?_ | refine fin_r ?_ | refine fin_n ?_ | refine AW.block ?_ | refine blockQ_n ?_ | refine blockQ_r ?_ | refine blockQ_e ?_ | refine blockQ_o rfl ?_)
  exact .inr ⟨rfl, its.set k ⟨its[k].nm, its[k].tx, true⟩, hn.out, by simp, ⟨by simp, by simp, by simp⟩⟩
theorem s_rep_4n (l : List Ent) (its : List Itm) (i : Nat) (kd : Int) (nm tx : ByteArray) (hl : i < l.length) (he : l[i] = ⟨kd, nm, tx⟩) (h40 : l.length ≤ 40) (hil : its.length ≤ 40) (hw : nm.size ≤ 9223372036854775807 ∧ tx.size ≤ 9223372036854775807) (hnt : nameOK nm = true ∧ textOK tx = true) (k : Nat) (hf : fnd its nm = (k : Int)) (hkl : k < its.length) (hk : kd = 4) (hx : tx.toList = []) (hv : its[k].vd = false) : AW Try.prog 88 (cAt Try.f58 [2, 2, 2, 1, 2, 5, 7]) (mk [(4, .rf 48000 []), (12, .c (.sl true 3 (ents l))), (13, .c (.sc (.int .i64 (l.length : Int)))), (14, .c (.sc (.int .i64 (i : Int))))] [(48000, .sv (.sl false 3 (itms its)))]) (RepQ l its i) := by
  have e1 : wrap64 ((i : Int) + 1) = ((i + 1 : Nat) : Int) := by rw [w64 (by omega) (by omega)]; omega
  have hge : l[i]?.getD default = ⟨kd, nm, tx⟩ := by rw [List.getElem?_eq_getElem hl, Option.getD_some, he]
  have cn := c_impl_isName nm hw.1
  have ct := c_impl_isText tx hw.2
  have cf := c_slices_IndexFunc_item its 110 [.sc (.int .i64 kd), .sc (.string nm), .sc (.string tx)] (fun x => decide (x.nm.toList = nm.toList)) (by omega) (by simp) (fun x => c_impl_replayed_1 x kd nm tx)
  rw [show idx (fun x : Itm => decide (x.nm.toList = nm.toList)) its = fnd its nm from rfl] at cf
  have b1 : (its.length + 1) * 40 ≤ 140737488355328 := by omega
  have b2 : its.length + 1 ≤ 4611686018427387904 := by omega
  have hn : playE its (l[i]?.getD default) = none := by rw [hge, play_at hnt hf hkl]; simp [hk, hv, hx]
  obtain ⟨hN, hT⟩ := hnt
  rw [hN] at cn
  rw [hT] at ct
  rw [hf] at cf
  have hz0 : ¬ (k : Int) < 0 := by omega
  clear hf
  subst hk
  replace hn : Hd _ := hn
  clear hge hw
  repeat' (first | with_reducible refine OutOK.done ?_ | refine thenQ_n ?_ | refine thenQ_r ?_ | refine thenQ_e ?_ | refine AW.seq ?_ | refine AW.dreg tok mixed [10, 11]  [(0, false), (1, false), (2, false), (3, false), (4, false), (5, false), (6, false), (7, false), (9, false), (8, false), (10, true), (11, true), (12, false), (13, false)] (by decide +kernel) rfl (by simp [*]; rfl) ?_ | refine AW.reg tok (by simp [*]; rfl) ?_ | refine AW.ifB (by simp [*]; rfl) ?_ | refine IfG.t ?_ | refine IfG.f ?_ | (refine IfG.p (fun hg => ?_) (fun hg => ?_) <;> (try (have hg' := hg; simp at hg'))) | (refine IfG.n (fun hg => ?_) (fun hg => ?_) <;> (try (have hg' := hg; simp at hg'))) | (refine OutOK.gateP (fun hg => ?_) (fun hg => ?_) <;> (try (have hg' := hg; simp at hg'))) | (refine OutOK.gateN (fun hg => ?_) (fun hg => ?_) <;> (try (have hg' := hg; simp at hg'))) | (refine IfG.g (fun hg => ?_) (fun hg => ?_) <;> (try (have hg' := hg; simp at hg'))) | (refine OutOK.gate (fun hg => ?_) (fun hg => ?_) <;> (try (have hg' := hg; simp at hg'))) | (refine OutOK.callF [] (by simp [*]; rfl) (by simp [*]; rfl) (by simp [*]; rfl) hb77 (by apply cn <;> first | assumption | exact Hd.out (by assumption) | ((try (clear e0)); (try (clear e1)); (try (clear e2)); (try (clear e3)); (try (clear e4)); (try (clear e5)); (try (clear e6)); (try (clear e7)); (try (clear e8)); (try (clear e9)); (try (clear e10)); (try (clear e11)); omega)) ⟨by simp [*], by simp [*], by simp [*], by simp [*], by simp [*]⟩ (by simp [*]) (by simp [*]; rfl) ?_) | (refine OutOK.callF [] (by simp [*]; rfl) (by simp [*]; rfl) (by simp [*]; rfl) hb78 (by apply ct <;> first | assumption | exact Hd.out (by assumption) | ((try (clear e0)); (try (clear e1)); (try (clear e2)); (try (clear e3)); (try (clear e4)); (try (clear e5)); (try (clear e6)); (try (clear e7)); (try (clear e8)); (try (clear e9)); (try (clear e10)); (try (clear e11)); omega)) ⟨by simp [*], by simp [*], by simp [*], by simp [*], by simp [*]⟩ (by simp [*]) (by simp [*]; rfl) ?_) | (refine OutOK.callF [] (by simp [*]; rfl) (by simp [*]; rfl) (by simp [*]; rfl) hb69 (by apply cf <;> first | assumption | exact Hd.out (by assumption) | ((try (clear e0)); (try (clear e1)); (try (clear e2)); (try (clear e3)); (try (clear e4)); (try (clear e5)); (try (clear e6)); (try (clear e7)); (try (clear e8)); (try (clear e9)); (try (clear e10)); (try (clear e11)); omega)) ⟨by simp [*], by simp [*], by simp [*], by simp [*], by simp [*]⟩ (by simp [*]) (by simp [*]; rfl) ?_) | refine OutOK.run (by simp [*]; rfl) ?_ | refine AW.ret ?_ | refine AW.skip ?_ | refine AW.exit ?_ | refine fin_r ?_ | refine fin_n ?_ | refine AW.block ?_ | refine blockQ_n ?_ | refine blockQ_r ?_ | refine blockQ_e ?_ | refine blockQ_o rfl ?_)
  exact .inl ⟨rfl, hn.out, by simp [Try.f58]⟩
theorem s_rep_4 (l : List Ent) (its : List Itm) (i : Nat) (kd : Int) (nm tx : ByteArray) (hl : i < l.length) (he : l[i] = ⟨kd, nm, tx⟩) (h40 : l.length ≤ 40) (hil : its.length ≤ 40) (hw : nm.size ≤ 9223372036854775807 ∧ tx.size ≤ 9223372036854775807) (hnt : nameOK nm = true ∧ textOK tx = true) (k : Nat) (hf : fnd its nm = (k : Int)) (hkl : k < its.length) (hk : kd = 4) (hx : tx.toList = []) (hv : its[k].vd = true) : AW Try.prog 88 (cAt Try.f58 [2, 2, 2, 1, 2, 5, 7]) (mk [(4, .rf 48000 []), (12, .c (.sl true 3 (ents l))), (13, .c (.sc (.int .i64 (l.length : Int)))), (14, .c (.sc (.int .i64 (i : Int))))] [(48000, .sv (.sl false 3 (itms its)))]) (RepQ l its i) := by
  have e1 : wrap64 ((i : Int) + 1) = ((i + 1 : Nat) : Int) := by rw [w64 (by omega) (by omega)]; omega
  have hge : l[i]?.getD default = ⟨kd, nm, tx⟩ := by rw [List.getElem?_eq_getElem hl, Option.getD_some, he]
  have cn := c_impl_isName nm hw.1
  have ct := c_impl_isText tx hw.2
  have cf := c_slices_IndexFunc_item its 110 [.sc (.int .i64 kd), .sc (.string nm), .sc (.string tx)] (fun x => decide (x.nm.toList = nm.toList)) (by omega) (by simp) (fun x => c_impl_replayed_1 x kd nm tx)
  rw [show idx (fun x : Itm => decide (x.nm.toList = nm.toList)) its = fnd its nm from rfl] at cf
  have b1 : (its.length + 1) * 40 ≤ 140737488355328 := by omega
  have b2 : its.length + 1 ≤ 4611686018427387904 := by omega
  have hn : playE its (l[i]?.getD default) = some (its.set k ⟨its[k].nm, its[k].tx, false⟩) := by rw [hge, play_at hnt hf hkl]; simp [hk, hv, hx]
  obtain ⟨hN, hT⟩ := hnt
  rw [hN] at cn
  rw [hT] at ct
  rw [hf] at cf
  have hz0 : ¬ (k : Int) < 0 := by omega
  clear hf
  subst hk
  replace hn : Hd _ := hn
  clear hge hw
  repeat' (first | with_reducible refine OutOK.done ?_ | refine thenQ_n ?_ | refine thenQ_r ?_ | refine thenQ_e ?_ | refine AW.seq ?_ | refine AW.dreg tok mixed [10, 11]  [(0, false), (1, false), (2, false), (3, false), (4, false), (5, false), (6, false), (7, false), (9, false), (8, false), (10, true), (11, true), (12, false), (13, false)] (by decide +kernel) rfl (by simp [*]; rfl) ?_ | refine AW.reg tok (by simp [*]; rfl) ?_ | refine AW.ifB (by simp [*]; rfl) ?_ | refine IfG.t ?_ | refine IfG.f ?_ | (refine IfG.p (fun hg => ?_) (fun hg => ?_) <;> (try (have hg' := hg; simp at hg'))) | (refine IfG.n (fun hg => ?_) (fun hg => ?_) <;> (try (have hg' := hg; simp at hg'))) | (refine OutOK.gateP (fun hg => ?_) (fun hg => ?_) <;> (try (have hg' := hg; simp at hg'))) | (refine OutOK.gateN (fun hg => ?_) (fun hg => ?_) <;> (try (have hg' := hg; simp at hg'))) | (refine IfG.g (fun hg => ?_) (fun hg => ?_) <;> (try (have hg' := hg; simp at hg'))) | (refine OutOK.gate (fun hg => ?_) (fun hg => ?_) <;> (try (have hg' := hg; simp at hg'))) | (refine OutOK.callF [] (by simp [*]; rfl) (by simp [*]; rfl) (by simp [*]; rfl) hb77 (by apply cn <;> first | assumption | exact Hd.out (by assumption) | ((try (clear e0)); (try (clear e1)); (try (clear e2)); (try (clear e3)); (try (clear e4)); (try (clear e5)); (try (clear e6)); (try (clear e7)); (try (clear e8)); (try (clear e9)); (try (clear e10)); (try (clear e11)); omega)) ⟨by simp [*], by simp [*], by simp [*], by simp [*], by simp [*]⟩ (by simp [*]) (by simp [*]; rfl) ?_) | (refine OutOK.callF [] (by simp [*]; rfl) (by simp [*]; rfl) (by simp [*]; rfl) hb78 (by apply ct <;> first | assumption | exact Hd.out (by assumption) | ((try (clear e0)); (try (clear e1)); (try (clear e2)); (try (clear e3)); (try (clear e4)); (try (clear e5)); (try (clear e6)); (try (clear e7)); (try (clear e8)); (try (clear e9)); (try (clear e10)); (try (clear e11)); omega)) ⟨by simp [*], by simp [*], by simp [*], by simp [*], by simp [*]⟩ (by simp [*]) (by simp [*]; rfl) ?_) | (refine OutOK.callF [] (by simp [*]; rfl) (by simp [*]; rfl) (by simp [*]; rfl) hb69 (by apply cf <;> first | assumption | exact Hd.out (by assumption) | ((try (clear e0)); (try (clear e1)); (try (clear e2)); (try (clear e3)); (try (clear e4)); (try (clear e5)); (try (clear e6)); (try (clear e7)); (try (clear e8)); (try (clear e9)); (try (clear e10)); (try (clear e11)); omega)) ⟨by simp [*], by simp [*], by simp [*], by simp [*], by simp [*]⟩ (by simp [*]) (by simp [*]; rfl) ?_) | refine OutOK.run (by simp [*]; rfl) ?_ | refine AW.ret ?_ | refine AW.skip ?_ | refine AW.exit ?_ | refine fin_r ?_ | refine fin_n ?_ | refine AW.block ?_ | refine blockQ_n ?_ | refine blockQ_r ?_ | refine blockQ_e ?_ | refine blockQ_o rfl ?_)
  exact .inr ⟨rfl, its.set k ⟨its[k].nm, its[k].tx, false⟩, hn.out, by simp, ⟨by simp, by simp, by simp⟩⟩
theorem s_rep_z (l : List Ent) (its : List Itm) (i : Nat) (kd : Int) (nm tx : ByteArray) (hl : i < l.length) (he : l[i] = ⟨kd, nm, tx⟩) (h40 : l.length ≤ 40) (hil : its.length ≤ 40) (hw : nm.size ≤ 9223372036854775807 ∧ tx.size ≤ 9223372036854775807) (hnt : nameOK nm = true ∧ textOK tx = true) (k : Nat) (hf : fnd its nm = (k : Int)) (hkl : k < its.length) (h1 : ¬ kd = 1) (h2 : ¬ kd = 2) (h3 : ¬ kd = 3) (h4 : ¬ kd = 4) : AW Try.prog 88 (cAt Try.f58 [2, 2, 2, 1, 2, 5, 7]) (mk [(4, .rf 48000 []), (12, .c (.sl true 3 (ents l))), (13, .c (.sc (.int .i64 (l.length : Int)))), (14, .c (.sc (.int .i64 (i : Int))))] [(48000, .sv (.sl false 3 (itms its)))]) (RepQ l its i) := by
  have e1 : wrap64 ((i : Int) + 1) = ((i + 1 : Nat) : Int) := by rw [w64 (by omega) (by omega)]; omega
  have hge : l[i]?.getD default = ⟨kd, nm, tx⟩ := by rw [List.getElem?_eq_getElem hl, Option.getD_some, he]
  have cn := c_impl_isName nm hw.1
  have ct := c_impl_isText tx hw.2
  have cf := c_slices_IndexFunc_item its 110 [.sc (.int .i64 kd), .sc (.string nm), .sc (.string tx)] (fun x => decide (x.nm.toList = nm.toList)) (by omega) (by simp) (fun x => c_impl_replayed_1 x kd nm tx)
  rw [show idx (fun x : Itm => decide (x.nm.toList = nm.toList)) its = fnd its nm from rfl] at cf
  have b1 : (its.length + 1) * 40 ≤ 140737488355328 := by omega
  have b2 : its.length + 1 ≤ 4611686018427387904 := by omega
  have hn : playE its (l[i]?.getD default) = none := by rw [hge, play_at hnt hf hkl]; simp [h2, h3, h4]
  obtain ⟨hN, hT⟩ := hnt
  rw [hN] at cn
  rw [hT] at ct
  rw [hf] at cf
  have hz0 : ¬ (k : Int) < 0 := by omega
  clear hf
  replace hn : Hd _ := hn
  clear hge hw
  repeat' (first | with_reducible refine OutOK.done ?_ | refine thenQ_n ?_ | refine thenQ_r ?_ | refine thenQ_e ?_ | refine AW.seq ?_ | refine AW.dreg tok mixed [10, 11]  [(0, false), (1, false), (2, false), (3, false), (4, false), (5, false), (6, false), (7, false), (9, false), (8, false), (10, true), (11, true), (12, false), (13, false)] (by decide +kernel) rfl (by simp [*]; rfl) ?_ | refine AW.reg tok (by simp [*]; rfl) ?_ | refine AW.ifB (by simp [*]; rfl) ?_ | refine IfG.t ?_ | refine IfG.f ?_ | (refine IfG.p (fun hg => ?_) (fun hg => ?_) <;> (try (have hg' := hg; simp at hg'))) | (refine IfG.n (fun hg => ?_) (fun hg => ?_) <;> (try (have hg' := hg; simp at hg'))) | (refine OutOK.gateP (fun hg => ?_) (fun hg => ?_) <;> (try (have hg' := hg; simp at hg'))) | (refine OutOK.gateN (fun hg => ?_) (fun hg => ?_) <;> (try (have hg' := hg; simp at hg'))) | (refine IfG.g (fun hg => ?_) (fun hg => ?_) <;> (try (have hg' := hg; simp at hg'))) | (refine OutOK.gate (fun hg => ?_) (fun hg => ?_) <;> (try (have hg' := hg; simp at hg'))) | (refine OutOK.callF [] (by simp [*]; rfl) (by simp [*]; rfl) (by simp [*]; rfl) hb77 (by apply cn <;> first | assumption | exact Hd.out (by assumption) | ((try (clear e0)); (try (clear e1)); (try (clear e2)); (try (clear e3)); (try (clear e4)); (try (clear e5)); (try (clear e6)); (try (clear e7)); (try (clear e8)); (try (clear e9)); (try (clear e10)); (try (clear e11)); omega)) ⟨by simp [*], by simp [*], by simp [*], by simp [*], by simp [*]⟩ (by simp [*]) (by simp [*]; rfl) ?_) | (refine OutOK.callF [] (by simp [*]; rfl) (by simp [*]; rfl) (by simp [*]; rfl) hb78 (by apply ct <;> first | assumption | exact Hd.out (by assumption) | ((try (clear e0)); (try (clear e1)); (try (clear e2)); (try (clear e3)); (try (clear e4)); (try (clear e5)); (try (clear e6)); (try (clear e7)); (try (clear e8)); (try (clear e9)); (try (clear e10)); (try (clear e11)); omega)) ⟨by simp [*], by simp [*], by simp [*], by simp [*], by simp [*]⟩ (by simp [*]) (by simp [*]; rfl) ?_) | (refine OutOK.callF [] (by simp [*]; rfl) (by simp [*]; rfl) (by simp [*]; rfl) hb69 (by apply cf <;> first | assumption | exact Hd.out (by assumption) | ((try (clear e0)); (try (clear e1)); (try (clear e2)); (try (clear e3)); (try (clear e4)); (try (clear e5)); (try (clear e6)); (try (clear e7)); (try (clear e8)); (try (clear e9)); (try (clear e10)); (try (clear e11)); omega)) ⟨by simp [*], by simp [*], by simp [*], by simp [*], by simp [*]⟩ (by simp [*]) (by simp [*]; rfl) ?_) | refine OutOK.run (by simp [*]; rfl) ?_ | refine AW.ret ?_ | refine AW.skip ?_ | refine AW.exit ?_ | refine fin_r ?_ | refine fin_n ?_ | refine AW.block ?_ | refine blockQ_n ?_ | refine blockQ_r ?_ | refine blockQ_e ?_ | refine blockQ_o rfl ?_)
  exact .inl ⟨rfl, hn.out, by simp [Try.f58]⟩
end Go.Proofs.Ytbofobjofngoeaa.EngS


set_option linter.unusedSimpArgs false
set_option linter.unusedVariables false
set_option maxHeartbeats 4000000
set_option maxRecDepth 100000
namespace Go.Proofs.Ytbofobjofngoeaa.EngS
open Go Go.Proofs Go.Eng Go.RowKit
attribute [local irreducible] Go.RowKit.wrap64
def EntW (e : Ent) : Prop := e.itm.size ≤ 9223372036854775807 ∧ e.txt.size ≤ 9223372036854775807
theorem w_rep (l : List Ent) (its : List Itm) (i : Nat) (hl : i < l.length) (h40 : l.length ≤ 40) (hil : its.length ≤ 40) (hw : ∀ e ∈ l, EntW e) :
    AW Try.prog 88 (cAt Try.f58 [2, 2, 2, 1, 2, 5, 7]) (mk [(4, .rf 48000 []), (12, .c (.sl true 3 (ents l))), (13, .c (.sc (.int .i64 (l.length : Int)))), (14, .c (.sc (.int .i64 (i : Int))))] [(48000, .sv (.sl false 3 (itms its)))]) (RepQ l its i) := by
  have hw := hw l[i] (List.getElem_mem hl)
  obtain ⟨kd, nm, tx, he⟩ : ∃ kd nm tx, l[i] = ⟨kd, nm, tx⟩ := ⟨_, _, _, rfl⟩
  rw [he] at hw
  cases hN : nameOK nm with
  | false => exact s_rep_n l its i kd nm tx hl he h40 hil hw hN
  | true =>
    cases hT : textOK tx with
    | false => exact s_rep_t l its i kd nm tx hl he h40 hil hw hN hT
    | true =>
      rcases idx_cases (fun x : Itm => decide (x.nm.toList = nm.toList)) its with hf | ⟨k, hf, hkl⟩
      · by_cases h1 : kd = 1
        · exact s_rep_1 l its i kd nm tx hl he h40 hil hw ⟨hN, hT⟩ hf h1
        · exact s_rep_1n l its i kd nm tx hl he h40 hil hw ⟨hN, hT⟩ hf h1
      by_cases h1 : kd = 1
      · exact s_rep_o l its i kd nm tx hl he h40 hil hw ⟨hN, hT⟩ k hf hkl h1
      by_cases h2 : kd = 2
      · cases hv : its[k].vd
        · exact s_rep_2 l its i kd nm tx hl he h40 hil hw ⟨hN, hT⟩ k hf hkl h2 hv
        · exact s_rep_2n l its i kd nm tx hl he h40 hil hw ⟨hN, hT⟩ k hf hkl h2 hv
      by_cases h3 : kd = 3
      · by_cases hx : tx.toList = []
        · cases hv : its[k].vd
          · exact s_rep_3 l its i kd nm tx hl he h40 hil hw ⟨hN, hT⟩ k hf hkl h3 hx hv
          · exact s_rep_3n l its i kd nm tx hl he h40 hil hw ⟨hN, hT⟩ k hf hkl h3 hx hv
        · exact s_rep_3t l its i kd nm tx hl he h40 hil hw ⟨hN, hT⟩ k hf hkl (.inl h3) hx
      by_cases h4 : kd = 4
      · by_cases hx : tx.toList = []
        · cases hv : its[k].vd
          · exact s_rep_4n l its i kd nm tx hl he h40 hil hw ⟨hN, hT⟩ k hf hkl h4 hx hv
          · exact s_rep_4 l its i kd nm tx hl he h40 hil hw ⟨hN, hT⟩ k hf hkl h4 hx hv
        · exact s_rep_3t l its i kd nm tx hl he h40 hil hw ⟨hN, hT⟩ k hf hkl (.inr h4) hx
      · exact s_rep_z l its i kd nm tx hl he h40 hil hw ⟨hN, hT⟩ k hf hkl h1 h2 h3 h4
def regOK (l : List Ent) : Bool := decide (l.length ≤ 40) && (playL [] l).isSome
def regI (l : List Ent) : List Itm := if regOK l = true then (playL [] l).getD [] else []
theorem c_impl_replayed (l : List Ent) (h : l.length ≤ 9223372036854775807) (hw : ∀ e ∈ l, EntW e) : ACall Try.prog 58 [.v (.sl true 3 (ents l))] [.x] [.v (.sl false 3 (itms (regI l))), boo (regOK l)] := by
  rcases Nat.lt_or_ge 40 l.length with h40 | h40
  · have hb : regOK l = false := by simp [regOK]; omega
    rw [show regI l = [] by simp [regI, hb], hb]
    have h40' : (40 : Int) < l.length := by omega
    clear hw hb
    refine ACall.of (N := 88) tok Try.func58 rfl rfl rfl (by simp) ?_
    repeat' (first | with_reducible refine OutOK.done ?_ | refine thenQ_n ?_ | refine thenQ_r ?_ | refine thenQ_e ?_ | refine AW.seq ?_ | refine AW.dreg tok mixed [10, 11]  [(0, false), (1, false), (2, false), (3, false), (4, false), (5, false), (6, false), (7, false), (9, false), (8, false), (10, true), (11, true), (12, false), (13, false)] (by decide +kernel) rfl (by simp [*]; rfl) ?_ | refine AW.reg tok (by simp [*]; rfl) ?_ | refine AW.ifB (by simp [*]; rfl) ?_ | refine IfG.t ?_ | refine IfG.f ?_ | (refine IfG.p (fun hg => ?_) (fun hg => ?_) <;> (try (have hg' := hg; simp at hg'))) | (refine IfG.n (fun hg => ?_) (fun hg => ?_) <;> (try (have hg' := hg; simp at hg'))) | (refine OutOK.gateP (fun hg => ?_) (fun hg => ?_) <;> (try (have hg' := hg; simp at hg'))) | (refine OutOK.gateN (fun hg => ?_) (fun hg => ?_) <;> (try (have hg' := hg; simp at hg'))) | (refine IfG.g (fun hg => ?_) (fun hg => ?_) <;> (try (have hg' := hg; simp at hg'))) | (refine OutOK.gate (fun hg => ?_) (fun hg => ?_) <;> (try (have hg' := hg; simp at hg'))) | refine OutOK.run (by simp [*]; rfl) ?_ | refine AW.ret ?_ | refine AW.skip ?_ | refine AW.exit ?_ | refine fin_r ?_ | refine fin_n ?_ | refine AW.block ?_ | refine blockQ_n ?_ | refine blockQ_r ?_ | refine blockQ_e ?_ | refine blockQ_o rfl ?_)
    simp [Try.f58, itms]
  have h40' : ¬ (40 : Int) < l.length := by omega
  have hP : Hd (playL [] l = playL [] (l.drop 0)) := by simp [Hd]
  have hw' : Hd _ := hw
  have hno : Hd (playL [] l = none → regOK l = false ∧ regI l = []) := by
    intro e
    have : regOK l = false := by simp [regOK, e]
    exact ⟨this, by simp [regI, this]⟩
  have hyes : Hd (∀ m, playL [] l = some m → regOK l = true ∧ regI l = m) := by
    intro m e
    have : regOK l = true := by simp [regOK, e, h40]
    exact ⟨this, by simp [regI, this, e]⟩
  generalize regOK l = R at *
  generalize regI l = RI at *
  generalize playL [] l = pl at *
  clear hw
  refine ACall.of (N := 88) tok Try.func58 rfl rfl rfl (by simp) ?_
  repeat' (first | with_reducible refine OutOK.done ?_ | refine thenQ_n ?_ | refine thenQ_r ?_ | refine thenQ_e ?_ | refine AW.seq ?_ | refine AW.dreg tok mixed [10, 11]  [(0, false), (1, false), (2, false), (3, false), (4, false), (5, false), (6, false), (7, false), (9, false), (8, false), (10, true), (11, true), (12, false), (13, false)] (by decide +kernel) rfl (by simp [*]; rfl) ?_ | refine AW.reg tok (by simp [*]; rfl) ?_ | refine AW.ifB (by simp [*]; rfl) ?_ | refine IfG.t ?_ | refine IfG.f ?_ | (refine IfG.p (fun hg => ?_) (fun hg => ?_) <;> (try (have hg' := hg; simp at hg'))) | (refine IfG.n (fun hg => ?_) (fun hg => ?_) <;> (try (have hg' := hg; simp at hg'))) | (refine OutOK.gateP (fun hg => ?_) (fun hg => ?_) <;> (try (have hg' := hg; simp at hg'))) | (refine OutOK.gateN (fun hg => ?_) (fun hg => ?_) <;> (try (have hg' := hg; simp at hg'))) | (refine IfG.g (fun hg => ?_) (fun hg => ?_) <;> (try (have hg' := hg; simp at hg'))) | (refine OutOK.gate (fun hg => ?_) (fun hg => ?_) <;> (try (have hg' := hg; simp at hg'))) | refine OutOK.run (by simp [*]; rfl) ?_ | refine AW.ret ?_ | refine AW.skip ?_ | refine AW.exit ?_ | refine fin_r ?_ | refine fin_n ?_ | refine AW.block ?_ | refine blockQ_n ?_ | refine blockQ_r ?_ | refine blockQ_e ?_ | refine blockQ_o rfl ?_)
  refine AW.loopS (α := Nat × List Itm) (fun q => q.1 ≤ l.length ∧ q.2.length ≤ q.1 ∧ Hd (pl = playL q.2 (l.drop q.1))) (fun q => [(4, .rf 48000 []), (12, .c (.sl true 3 (ents l))), (13, .c (.sc (.int .i64 (l.length : Int)))), (14, .c (.sc (.int .i64 (q.1 : Int))))])
    (fun q => [(48000, .sv (.sl false 3 (itms q.2)))]) (fun q => l.length - q.1) (0, []) ⟨Nat.zero_le _, by simp, hP⟩ [(8000, 48000)] (by simp) ⟨by simp, by simp, by simp⟩ ?_
  rintro ⟨i, its⟩ ⟨hi, hil, hp⟩
  simp only at hi hil hp
  rcases Nat.lt_or_ge i l.length with hl | hl
  · refine (w_rep l its i hl h40 (by omega) hw'.out).mono fun e st hq => ?_
    have hge : l[i]?.getD default = l[i] := by rw [List.getElem?_eq_getElem hl, Option.getD_some]
    rcases hq with ⟨rfl, hn, hq⟩ | ⟨rfl, m, hm, hml, hq⟩
    · rw [hge] at hn
      obtain ⟨r1, r2⟩ := hno.out (by rw [hp.out, playL_no hl hn])
      subst r1 r2
      exact ⟨.inr rfl, hq⟩
    · rw [hge] at hm
      exact ⟨(i + 1, m), ⟨hl, by simp only; omega, by rw [Hd, hp.out, playL_go hl hm]⟩, ⟨[], by simp, hq⟩, by simp only; omega⟩
  · have hii : i = l.length := by omega
    subst hii
    obtain ⟨r1, r2⟩ := hyes.out its (by rw [hp.out, playL_end (Nat.le_refl _)])
    subst r1 r2
    clear hno hyes hP hp
    repeat' (first | with_reducible refine OutOK.done ?_ | refine thenQ_n ?_ | refine thenQ_r ?_ | refine thenQ_e ?_ | refine AW.seq ?_ | refine AW.dreg tok mixed [10, 11]  [(0, false), (1, false), (2, false), (3, false), (4, false), (5, false), (6, false), (7, false), (9, false), (8, false), (10, true), (11, true), (12, false), (13, false)] (by decide +kernel) rfl (by simp [*]; rfl) ?_ | refine AW.reg tok (by simp [*]; rfl) ?_ | refine AW.ifB (by simp [*]; rfl) ?_ | refine IfG.t ?_ | refine IfG.f ?_ | (refine IfG.p (fun hg => ?_) (fun hg => ?_) <;> (try (have hg' := hg; simp at hg'))) | (refine IfG.n (fun hg => ?_) (fun hg => ?_) <;> (try (have hg' := hg; simp at hg'))) | (refine OutOK.gateP (fun hg => ?_) (fun hg => ?_) <;> (try (have hg' := hg; simp at hg'))) | (refine OutOK.gateN (fun hg => ?_) (fun hg => ?_) <;> (try (have hg' := hg; simp at hg'))) | (refine IfG.g (fun hg => ?_) (fun hg => ?_) <;> (try (have hg' := hg; simp at hg'))) | (refine OutOK.gate (fun hg => ?_) (fun hg => ?_) <;> (try (have hg' := hg; simp at hg'))) | refine OutOK.run (by simp [*]; rfl) ?_ | refine AW.ret ?_ | refine AW.skip ?_ | refine AW.exit ?_ | refine fin_r ?_ | refine fin_n ?_ | refine AW.block ?_ | refine blockQ_n ?_ | refine blockQ_r ?_ | refine blockQ_e ?_ | refine blockQ_o rfl ?_)
    simp [Try.f58]
theorem c_impl_IsValidRegister (l : List Ent) (h : l.length ≤ 9223372036854775807) (hw : ∀ e ∈ l, EntW e) : ACall Try.prog 66 [.v (.sl true 3 (ents l))] [.x] [boo (regOK l)] := by
  have cr := c_impl_replayed l h hw
  generalize regI l = RI at *
  generalize regOK l = R at *
  clear hw
  refine ACall.of (N := 11) tok Try.func66 rfl rfl rfl (by simp) ?_
  repeat' (first | with_reducible refine OutOK.done ?_ | refine thenQ_n ?_ | refine thenQ_r ?_ | refine thenQ_e ?_ | refine AW.seq ?_ | refine AW.reg tok (by simp [*]; rfl) ?_ | refine AW.ifB (by simp [*]; rfl) ?_ | refine IfG.t ?_ | refine IfG.f ?_ | (refine IfG.p (fun hg => ?_) (fun hg => ?_) <;> (try (have hg' := hg; simp at hg'))) | (refine IfG.n (fun hg => ?_) (fun hg => ?_) <;> (try (have hg' := hg; simp at hg'))) | (refine OutOK.gateP (fun hg => ?_) (fun hg => ?_) <;> (try (have hg' := hg; simp at hg'))) | (refine OutOK.gateN (fun hg => ?_) (fun hg => ?_) <;> (try (have hg' := hg; simp at hg'))) | (refine IfG.g (fun hg => ?_) (fun hg => ?_) <;> (try (have hg' := hg; simp at hg'))) | (refine OutOK.gate (fun hg => ?_) (fun hg => ?_) <;> (try (have hg' := hg; simp at hg'))) | (refine OutOK.callF [] (by simp [*]; rfl) (by simp [*]; rfl) (by simp [*]; rfl) hb58 (by apply cr <;> first | assumption | exact Hd.out (by assumption) | ((try (clear e0)); (try (clear e1)); (try (clear e2)); (try (clear e3)); (try (clear e4)); (try (clear e5)); (try (clear e6)); (try (clear e7)); (try (clear e8)); (try (clear e9)); (try (clear e10)); (try (clear e11)); omega)) ⟨by simp [*], by simp [*], by simp [*], by simp [*], by simp [*]⟩ (by simp [*]) (by simp [*]; rfl) ?_) | refine OutOK.run (by simp [*]; rfl) ?_ | refine AW.ret ?_ | refine AW.skip ?_ | refine AW.exit ?_ | refine fin_r ?_ | refine fin_n ?_ | refine AW.block ?_ | refine blockQ_n ?_ | refine blockQ_r ?_ | refine blockQ_e ?_ | refine blockQ_o rfl ?_)
  all_goals (try simp [*, Try.f66])
end Go.Proofs.Ytbofobjofngoeaa.EngS


set_option linter.unusedSimpArgs false
set_option linter.unusedVariables false
set_option maxHeartbeats 4000000
set_option maxRecDepth 100000
namespace Go.Proofs.Ytbofobjofngoeaa.EngS
open Go Go.Proofs Go.Eng Go.RowKit
attribute [local irreducible] Go.RowKit.wrap64
def PlyQ (l : List Ent) (its : List Itm) (i : Nat) (e : Exit) (st : St) : Prop :=
  (e = .ret ∧ playE its (l[i]?.getD default) = none ∧ FinP T Try.f65.results.toList [.v (.sl true 3 (ents l))] [.x] [.v (.sl false 3 (itms its)), boo false] st) ∨
  (e = .normal ∧ ∃ m : List Itm, playE its (l[i]?.getD default) = some m ∧ m.length ≤ its.length + 1 ∧
    LessL st [(0, .c (.sl true 3 (ents l))), (4, .rf 58000 []), (5, .c (.sc (.int .i64 ((i + 1 : Nat) : Int))))] [(58000, .sv (.sl false 3 (itms m)))])
theorem s_ply_n (l : List Ent) (its : List Itm) (i : Nat) (kd : Int) (nm tx : ByteArray) (hl : i < l.length) (he : l[i] = ⟨kd, nm, tx⟩) (h40 : l.length ≤ 40) (hil : its.length ≤ 40) (hw : nm.size ≤ 9223372036854775807 ∧ tx.size ≤ 9223372036854775807) (hN : nameOK nm = false) : AW Try.prog 98 (cAt Try.f65 [2, 2, 1, 2, 5, 7]) (mk [(0, .c (.sl true 3 (ents l))), (4, .rf 58000 []), (5, .c (.sc (.int .i64 (i : Int))))] [(58000, .sv (.sl false 3 (itms its)))]) (PlyQ l its i) := by
  have e1 : wrap64 ((i : Int) + 1) = ((i + 1 : Nat) : Int) := by rw [w64 (by omega) (by omega)]; omega
  have hge : l[i]?.getD default = ⟨kd, nm, tx⟩ := by rw [List.getElem?_eq_getElem hl, Option.getD_some, he]
  have cn := c_spec_l7Name nm hw.1
  have ct := c_spec_l21Text tx hw.2
  have cf := c_spec_l21Find its nm (by omega)
  have b1 : (its.length + 1) * 40 ≤ 140737488355328 := by omega
  have b2 : its.length + 1 ≤ 4611686018427387904 := by omega
  have hn : playE its (l[i]?.getD default) = none := by rw [hge]; exact play_not (by simp [hN])
  rw [hN] at cn
  obtain ⟨z, hz⟩ : ∃ z : Int, fnd its nm = z := ⟨_, rfl⟩
  rw [hz] at cf
  clear hz
  replace hn : Hd _ := hn
  clear hge hw
  repeat' (first | with_reducible refine OutOK.done ?_ | refine thenQ_n ?_ | refine thenQ_r ?_ | refine thenQ_e ?_ | refine AW.seq ?_ | refine AW.dreg tok mixed [15, 16]  [(0, false), (1, false), (2, false), (3, false), (4, false), (5, false), (6, false), (7, false), (8, false), (9, false), (10, false), (11, false), (12, false), (14, false), (13, false), (15, true), (16, true), (17, false), (18, false)] (by decide +kernel) rfl (by simp [*]; rfl) ?_ | refine AW.reg tok (by simp [*]; rfl) ?_ | refine AW.ifB (by simp [*]; rfl) ?_ | refine IfG.t ?_ | refine IfG.f ?_ | (refine IfG.p (fun hg => ?_) (fun hg => ?_) <;> (try (have hg' := hg; simp at hg'))) | (refine IfG.n (fun hg => ?_) (fun hg => ?_) <;> (try (have hg' := hg; simp at hg'))) | (refine OutOK.gateP (fun hg => ?_) (fun hg => ?_) <;> (try (have hg' := hg; simp at hg'))) | (refine OutOK.gateN (fun hg => ?_) (fun hg => ?_) <;> (try (have hg' := hg; simp at hg'))) | (refine IfG.g (fun hg => ?_) (fun hg => ?_) <;> (try (have hg' := hg; simp at hg'))) | (refine OutOK.gate (fun hg => ?_) (fun hg => ?_) <;> (try (have hg' := hg; simp at hg'))) | (refine OutOK.callF [] (by simp [*]; rfl) (by simp [*]; rfl) (by simp [*]; rfl) hb113 (by apply cn <;> first | assumption | exact Hd.out (by assumption) | ((try (clear e0)); (try (clear e1)); (try (clear e2)); (try (clear e3)); (try (clear e4)); (try (clear e5)); (try (clear e6)); (try (clear e7)); (try (clear e8)); (try (clear e9)); (try (clear e10)); (try (clear e11)); omega)) ⟨by simp [*], by simp [*], by simp [*], by simp [*], by simp [*]⟩ (by simp [*]) (by simp [*]; rfl) ?_) | (refine OutOK.callF [] (by simp [*]; rfl) (by simp [*]; rfl) (by simp [*]; rfl) hb114 (by apply ct <;> first | assumption | exact Hd.out (by assumption) | ((try (clear e0)); (try (clear e1)); (try (clear e2)); (try (clear e3)); (try (clear e4)); (try (clear e5)); (try (clear e6)); (try (clear e7)); (try (clear e8)); (try (clear e9)); (try (clear e10)); (try (clear e11)); omega)) ⟨by simp [*], by simp [*], by simp [*], by simp [*], by simp [*]⟩ (by simp [*]) (by simp [*]; rfl) ?_) | (refine OutOK.callF [] (by simp [*]; rfl) (by simp [*]; rfl) (by simp [*]; rfl) hb112 (by apply cf <;> first | assumption | exact Hd.out (by assumption) | ((try (clear e0)); (try (clear e1)); (try (clear e2)); (try (clear e3)); (try (clear e4)); (try (clear e5)); (try (clear e6)); (try (clear e7)); (try (clear e8)); (try (clear e9)); (try (clear e10)); (try (clear e11)); omega)) ⟨by simp [*], by simp [*], by simp [*], by simp [*], by simp [*]⟩ (by simp [*]) (by simp [*]; rfl) ?_) | (refine OutOK.callF [] (by simp [*]; rfl) (by simp [*]; rfl) (by simp [*]; rfl) hb64 (by apply c_spec_l1In <;> first | assumption | exact Hd.out (by assumption) | ((try (clear e0)); (try (clear e1)); (try (clear e2)); (try (clear e3)); (try (clear e4)); (try (clear e5)); (try (clear e6)); (try (clear e7)); (try (clear e8)); (try (clear e9)); (try (clear e10)); (try (clear e11)); omega)) ⟨by simp [*], by simp [*], by simp [*], by simp [*], by simp [*]⟩ (by simp [*]) (by simp [*]; rfl) ?_) | refine OutOK.run (by simp [*]; rfl) ?_ | refine AW.ret ?_ | refine AW.skip ?_ | refine AW.exit ?_ | refine fin_r ?_ | refine fin_n ?_ | refine AW.block ?_ | refine blockQ_n ?_ | refine blockQ_r ?_ | refine blockQ_e ?_ | refine blockQ_o rfl ?_)
  exact .inl ⟨rfl, hn.out, by simp [Try.f65]⟩
theorem s_ply_t (l : List Ent) (its : List Itm) (i : Nat) (kd : Int) (nm tx : ByteArray) (hl : i < l.length) (he : l[i] = ⟨kd, nm, tx⟩) (h40 : l.length ≤ 40) (hil : its.length ≤ 40) (hw : nm.size ≤ 9223372036854775807 ∧ tx.size ≤ 9223372036854775807) (hN : nameOK nm = true) (hT : textOK tx = false) : AW Try.prog 98 (cAt Try.f65 [2, 2, 1, 2, 5, 7]) (mk [(0, .c (.sl true 3 (ents l))), (4, .rf 58000 []), (5, .c (.sc (.int .i64 (i : Int))))] [(58000, .sv (.sl false 3 (itms its)))]) (PlyQ l its i) := by
  have e1 : wrap64 ((i : Int) + 1) = ((i + 1 : Nat) : Int) := by rw [w64 (by omega) (by omega)]; omega
  have hge : l[i]?.getD default = ⟨kd, nm, tx⟩ := by rw [List.getElem?_eq_getElem hl, Option.getD_some, he]
  have cn := c_spec_l7Name nm hw.1
  have ct := c_spec_l21Text tx hw.2
  have cf := c_spec_l21Find its nm (by omega)
  have b1 : (its.length + 1) * 40 ≤ 140737488355328 := by omega
  have b2 : its.length + 1 ≤ 4611686018427387904 := by omega
  have hn : playE its (l[i]?.getD default) = none := by rw [hge]; exact play_not (by simp [hT])
  rw [hN] at cn
  rw [hT] at ct
  obtain ⟨z, hz⟩ : ∃ z : Int, fnd its nm = z := ⟨_, rfl⟩
  rw [hz] at cf
  clear hz
  replace hn : Hd _ := hn
  clear hge hw
  repeat' (first | with_reducible refine OutOK.done ?_ | refine thenQ_n ?_ | refine thenQ_r ?_ | refine thenQ_e ?_ | refine AW.seq ?_ | refine AW.dreg tok mixed [15, 16]  [(0, false), (1, false), (2, false), (3, false), (4, false), (5, false), (6, false), (7, false), (8, false), (9, false), (10, false), (11, false), (12, false), (14, false), (13, false), (15, true), (16, true), (17, false), (18, false)] (by decide +kernel) rfl (by simp [*]; rfl) ?_ | refine AW.reg tok (by simp [*]; rfl) ?_ | refine AW.ifB (by simp [*]; rfl) ?_ | refine IfG.t ?_ | refine IfG.f ?_ | (refine IfG.p (fun hg => ?_) (fun hg => ?_) <;> (try (have hg' := hg; simp at hg'))) | (refine IfG.n (fun hg => ?_) (fun hg => ?_) <;> (try (have hg' := hg; simp at hg'))) | (refine OutOK.gateP (fun hg => ?_) (fun hg => ?_) <;> (try (have hg' := hg; simp at hg'))) | (refine OutOK.gateN (fun hg => ?_) (fun hg => ?_) <;> (try (have hg' := hg; simp at hg'))) | (refine IfG.g (fun hg => ?_) (fun hg => ?_) <;> (try (have hg' := hg; simp at hg'))) | (refine OutOK.gate (fun hg => ?_) (fun hg => ?_) <;> (try (have hg' := hg; simp at hg'))) | (refine OutOK.callF [] (by simp [*]; rfl) (by simp [*]; rfl) (by simp [*]; rfl) hb113 (by apply cn <;> first | assumption | exact Hd.out (by assumption) | ((try (clear e0)); (try (clear e1)); (try (clear e2)); (try (clear e3)); (try (clear e4)); (try (clear e5)); (try (clear e6)); (try (clear e7)); (try (clear e8)); (try (clear e9)); (try (clear e10)); (try (clear e11)); omega)) ⟨by simp [*], by simp [*], by simp [*], by simp [*], by simp [*]⟩ (by simp [*]) (by simp [*]; rfl) ?_) | (refine OutOK.callF [] (by simp [*]; rfl) (by simp [*]; rfl) (by simp [*]; rfl) hb114 (by apply ct <;> first | assumption | exact Hd.out (by assumption) | ((try (clear e0)); (try (clear e1)); (try (clear e2)); (try (clear e3)); (try (clear e4)); (try (clear e5)); (try (clear e6)); (try (clear e7)); (try (clear e8)); (try (clear e9)); (try (clear e10)); (try (clear e11)); omega)) ⟨by simp [*], by simp [*], by simp [*], by simp [*], by simp [*]⟩ (by simp [*]) (by simp [*]; rfl) ?_) | (refine OutOK.callF [] (by simp [*]; rfl) (by simp [*]; rfl) (by simp [*]; rfl) hb112 (by apply cf <;> first | assumption | exact Hd.out (by assumption) | ((try (clear e0)); (try (clear e1)); (try (clear e2)); (try (clear e3)); (try (clear e4)); (try (clear e5)); (try (clear e6)); (try (clear e7)); (try (clear e8)); (try (clear e9)); (try (clear e10)); (try (clear e11)); omega)) ⟨by simp [*], by simp [*], by simp [*], by simp [*], by simp [*]⟩ (by simp [*]) (by simp [*]; rfl) ?_) | (refine OutOK.callF [] (by simp [*]; rfl) (by simp [*]; rfl) (by simp [*]; rfl) hb64 (by apply c_spec_l1In <;> first | assumption | exact Hd.out (by assumption) | ((try (clear e0)); (try (clear e1)); (try (clear e2)); (try (clear e3)); (try (clear e4)); (try (clear e5)); (try (clear e6)); (try (clear e7)); (try (clear e8)); (try (clear e9)); (try (clear e10)); (try (clear e11)); omega)) ⟨by simp [*], by simp [*], by simp [*], by simp [*], by simp [*]⟩ (by simp [*]) (by simp [*]; rfl) ?_) | refine OutOK.run (by simp [*]; rfl) ?_ | refine AW.ret ?_ | refine AW.skip ?_ | refine AW.exit ?_ | refine fin_r ?_ | refine fin_n ?_ | refine AW.block ?_ | refine blockQ_n ?_ | refine blockQ_r ?_ | refine blockQ_e ?_ | refine blockQ_o rfl ?_)
  exact .inl ⟨rfl, hn.out, by simp [Try.f65]⟩
theorem s_ply_x (l : List Ent) (its : List Itm) (i : Nat) (kd : Int) (nm tx : ByteArray) (hl : i < l.length) (he : l[i] = ⟨kd, nm, tx⟩) (h40 : l.length ≤ 40) (hil : its.length ≤ 40) (hw : nm.size ≤ 9223372036854775807 ∧ tx.size ≤ 9223372036854775807) (hnt : nameOK nm = true ∧ textOK tx = true) (hn : playE its ⟨kd, nm, tx⟩ = none) (h3 : 3 ≤ kd) (hx : ¬ tx.toList = []) : AW Try.prog 98 (cAt Try.f65 [2, 2, 1, 2, 5, 7]) (mk [(0, .c (.sl true 3 (ents l))), (4, .rf 58000 []), (5, .c (.sc (.int .i64 (i : Int))))] [(58000, .sv (.sl false 3 (itms its)))]) (PlyQ l its i) := by
  have e1 : wrap64 ((i : Int) + 1) = ((i + 1 : Nat) : Int) := by rw [w64 (by omega) (by omega)]; omega
  have hge : l[i]?.getD default = ⟨kd, nm, tx⟩ := by rw [List.getElem?_eq_getElem hl, Option.getD_some, he]
  have cn := c_spec_l7Name nm hw.1
  have ct := c_spec_l21Text tx hw.2
  have cf := c_spec_l21Find its nm (by omega)
  have b1 : (its.length + 1) * 40 ≤ 140737488355328 := by omega
  have b2 : its.length + 1 ≤ 4611686018427387904 := by omega
  rw [← hge] at hn
  obtain ⟨hN, hT⟩ := hnt
  rw [hN] at cn
  rw [hT] at ct
  obtain ⟨z, hz⟩ : ∃ z : Int, fnd its nm = z := ⟨_, rfl⟩
  rw [hz] at cf
  clear hz
  replace hn : Hd _ := hn
  clear hge hw
  repeat' (first | with_reducible refine OutOK.done ?_ | refine thenQ_n ?_ | refine thenQ_r ?_ | refine thenQ_e ?_ | refine AW.seq ?_ | refine AW.dreg tok mixed [15, 16]  [(0, false), (1, false), (2, false), (3, false), (4, false), (5, false), (6, false), (7, false), (8, false), (9, false), (10, false), (11, false), (12, false), (14, false), (13, false), (15, true), (16, true), (17, false), (18, false)] (by decide +kernel) rfl (by simp [*]; rfl) ?_ | refine AW.reg tok (by simp [*]; rfl) ?_ | refine AW.ifB (by simp [*]; rfl) ?_ | refine IfG.t ?_ | refine IfG.f ?_ | (refine IfG.p (fun hg => ?_) (fun hg => ?_) <;> (try (have hg' := hg; simp at hg'))) | (refine IfG.n (fun hg => ?_) (fun hg => ?_) <;> (try (have hg' := hg; simp at hg'))) | (refine OutOK.gateP (fun hg => ?_) (fun hg => ?_) <;> (try (have hg' := hg; simp at hg'))) | (refine OutOK.gateN (fun hg => ?_) (fun hg => ?_) <;> (try (have hg' := hg; simp at hg'))) | (refine IfG.g (fun hg => ?_) (fun hg => ?_) <;> (try (have hg' := hg; simp at hg'))) | (refine OutOK.gate (fun hg => ?_) (fun hg => ?_) <;> (try (have hg' := hg; simp at hg'))) | (refine OutOK.callF [] (by simp [*]; rfl) (by simp [*]; rfl) (by simp [*]; rfl) hb113 (by apply cn <;> first | assumption | exact Hd.out (by assumption) | ((try (clear e0)); (try (clear e1)); (try (clear e2)); (try (clear e3)); (try (clear e4)); (try (clear e5)); (try (clear e6)); (try (clear e7)); (try (clear e8)); (try (clear e9)); (try (clear e10)); (try (clear e11)); omega)) ⟨by simp [*], by simp [*], by simp [*], by simp [*], by simp [*]⟩ (by simp [*]) (by simp [*]; rfl) ?_) | (refine OutOK.callF [] (by simp [*]; rfl) (by simp [*]; rfl) (by simp [*]; rfl) hb114 (by apply ct <;> first | assumption | exact Hd.out (by assumption) | ((try (clear e0)); (try (clear e1)); (try (clear e2)); (try (clear e3)); (try (clear e4)); (try (clear e5)); (try (clear e6)); (try (clear e7)); (try (clear e8)); (try (clear e9)); (try (clear e10)); (try (clear e11)); omega)) ⟨by simp [*], by simp [*], by simp [*], by simp [*], by simp [*]⟩ (by simp [*]) (by simp [*]; rfl) ?_) | (refine OutOK.callF [] (by simp [*]; rfl) (by simp [*]; rfl) (by simp [*]; rfl) hb112 (by apply cf <;> first | assumption | exact Hd.out (by assumption) | ((try (clear e0)); (try (clear e1)); (try (clear e2)); (try (clear e3)); (try (clear e4)); (try (clear e5)); (try (clear e6)); (try (clear e7)); (try (clear e8)); (try (clear e9)); (try (clear e10)); (try (clear e11)); omega)) ⟨by simp [*], by simp [*], by simp [*], by simp [*], by simp [*]⟩ (by simp [*]) (by simp [*]; rfl) ?_) | (refine OutOK.callF [] (by simp [*]; rfl) (by simp [*]; rfl) (by simp [*]; rfl) hb64 (by apply c_spec_l1In <;> first | assumption | exact Hd.out (by assumption) | ((try (clear e0)); (try (clear e1)); (try (clear e2)); (try (clear e3)); (try (clear e4)); (try (clear e5)); (try (clear e6)); (try (clear e7)); (try (clear e8)); (try (clear e9)); (try (clear e10)); (try (clear e11)); omega)) ⟨by simp [*], by simp [*], by simp [*], by simp [*], by simp [*]⟩ (by simp [*]) (by simp [*]; rfl) ?_) | refine OutOK.run (by simp [*]; rfl) ?_ | refine AW.ret ?_ | refine AW.skip ?_ | refine AW.exit ?_ | refine fin_r ?_ | refine fin_n ?_ | refine AW.block ?_ | refine blockQ_n ?_ | refine blockQ_r ?_ | refine blockQ_e ?_ | refine blockQ_o rfl ?_)
  exact .inl ⟨rfl, hn.out, by simp [Try.f65]⟩
theorem s_ply_1 (l : List Ent) (its : List Itm) (i : Nat) (kd : Int) (nm tx : ByteArray) (hl : i < l.length) (he : l[i] = ⟨kd, nm, tx⟩) (h40 : l.length ≤ 40) (hil : its.length ≤ 40) (hw : nm.size ≤ 9223372036854775807 ∧ tx.size ≤ 9223372036854775807) (hnt : nameOK nm = true ∧ textOK tx = true) (hf : fnd its nm < 0) (hk : kd = 1) : AW Try.prog 98 (cAt Try.f65 [2, 2, 1, 2, 5, 7]) (mk [(0, .c (.sl true 3 (ents l))), (4, .rf 58000 []), (5, .c (.sc (.int .i64 (i : Int))))] [(58000, .sv (.sl false 3 (itms its)))]) (PlyQ l its i) := by
  have e1 : wrap64 ((i : Int) + 1) = ((i + 1 : Nat) : Int) := by rw [w64 (by omega) (by omega)]; omega
  have hge : l[i]?.getD default = ⟨kd, nm, tx⟩ := by rw [List.getElem?_eq_getElem hl, Option.getD_some, he]
  have cn := c_spec_l7Name nm hw.1
  have ct := c_spec_l21Text tx hw.2
  have cf := c_spec_l21Find its nm (by omega)
  have b1 : (its.length + 1) * 40 ≤ 140737488355328 := by omega
  have b2 : its.length + 1 ≤ 4611686018427387904 := by omega
  have hn : playE its (l[i]?.getD default) = some (its ++ [⟨nm, tx, false⟩]) := by rw [hge, play_new hnt hf, if_pos hk]
  obtain ⟨hN, hT⟩ := hnt
  rw [hN] at cn
  rw [hT] at ct
  obtain ⟨z, hz⟩ : ∃ z : Int, fnd its nm = z := ⟨_, rfl⟩
  rw [hz] at cf
  have hz0 : z < 0 := by omega
  have hz1 : ¬ 0 ≤ z := by omega
  clear hz hf
  subst hk
  replace hn : Hd _ := hn
  clear hge hw
  repeat' (first | with_reducible refine OutOK.done ?_ | refine thenQ_n ?_ | refine thenQ_r ?_ | refine thenQ_e ?_ | refine AW.seq ?_ | refine AW.dreg tok mixed [15, 16]  [(0, false), (1, false), (2, false), (3, false), (4, false), (5, false), (6, false), (7, false), (8, false), (9, false), (10, false), (11, false), (12, false), (14, false), (13, false), (15, true), (16, true), (17, false), (18, false)] (by decide +kernel) rfl (by simp [*]; rfl) ?_ | refine AW.reg tok (by simp [*]; rfl) ?_ | refine AW.ifB (by simp [*]; rfl) ?_ | refine IfG.t ?_ | refine IfG.f ?_ | (refine IfG.p (fun hg => ?_) (fun hg => ?_) <;> (try (have hg' := hg; simp at hg'))) | (refine IfG.n (fun hg => ?_) (fun hg => ?_) <;> (try (have hg' := hg; simp at hg'))) | (refine OutOK.gateP (fun hg => ?_) (fun hg => ?_) <;> (try (have hg' := hg; simp at hg'))) | (refine OutOK.gateN (fun hg => ?_) (fun hg => ?_) <;> (try (have hg' := hg; simp at hg'))) | (refine IfG.g (fun hg => ?_) (fun hg => ?_) <;> (try (have hg' := hg; simp at hg'))) | (refine OutOK.gate (fun hg => ?_) (fun hg => ?_) <;> (try (have hg' := hg; simp at hg'))) | (refine OutOK.callF [] (by simp [*]; rfl) (by simp [*]; rfl) (by simp [*]; rfl) hb113 (by apply cn <;> first | assumption | exact Hd.out (by assumption) | ((try (clear e0)); (try (clear e1)); (try (clear e2)); (try (clear e3)); (try (clear e4)); (try (clear e5)); (try (clear e6)); (try (clear e7)); (try (clear e8)); (try (clear e9)); (try (clear e10)); (try (clear e11)); omega)) ⟨by simp [*], by simp [*], by simp [*], by simp [*], by simp [*]⟩ (by simp [*]) (by simp [*]; rfl) ?_) | (refine OutOK.callF [] (by simp [*]; rfl) (by simp [*]; rfl) (by simp [*]; rfl) hb114 (by apply ct <;> first | assumption | exact Hd.out (by assumption) | ((try (clear e0)); (try (clear e1)); (try (clear e2)); (try (clear e3)); (try (clear e4)); (try (clear e5)); (try (clear e6)); (try (clear e7)); (try (clear e8)); (try (clear e9)); (try (clear e10)); (try (clear e11)); omega)) ⟨by simp [*], by simp [*], by simp [*], by simp [*], by simp [*]⟩ (by simp [*]) (by simp [*]; rfl) ?_) | (refine OutOK.callF [] (by simp [*]; rfl) (by simp [*]; rfl) (by simp [*]; rfl) hb112 (by apply cf <;> first | assumption | exact Hd.out (by assumption) | ((try (clear e0)); (try (clear e1)); (try (clear e2)); (try (clear e3)); (try (clear e4)); (try (clear e5)); (try (clear e6)); (try (clear e7)); (try (clear e8)); (try (clear e9)); (try (clear e10)); (try (clear e11)); omega)) ⟨by simp [*], by simp [*], by simp [*], by simp [*], by simp [*]⟩ (by simp [*]) (by simp [*]; rfl) ?_) | (refine OutOK.callF [] (by simp [*]; rfl) (by simp [*]; rfl) (by simp [*]; rfl) hb64 (by apply c_spec_l1In <;> first | assumption | exact Hd.out (by assumption) | ((try (clear e0)); (try (clear e1)); (try (clear e2)); (try (clear e3)); (try (clear e4)); (try (clear e5)); (try (clear e6)); (try (clear e7)); (try (clear e8)); (try (clear e9)); (try (clear e10)); (try (clear e11)); omega)) ⟨by simp [*], by simp [*], by simp [*], by simp [*], by simp [*]⟩ (by simp [*]) (by simp [*]; rfl) ?_) | refine OutOK.run (by simp [*]; rfl) ?_ | refine AW.ret ?_ | refine AW.skip ?_ | refine AW.exit ?_ | refine fin_r ?_ | refine fin_n ?_ | refine AW.block ?_ | refine blockQ_n ?_ | refine blockQ_r ?_ | refine blockQ_e ?_ | refine blockQ_o rfl ?_)
  exact .inr ⟨rfl, its ++ [⟨nm, tx, false⟩], hn.out, by simp, ⟨by simp, by simp, by simp⟩⟩
theorem s_ply_1n (l : List Ent) (its : List Itm) (i : Nat) (kd : Int) (nm tx : ByteArray) (hl : i < l.length) (he : l[i] = ⟨kd, nm, tx⟩) (h40 : l.length ≤ 40) (hil : its.length ≤ 40) (hw : nm.size ≤ 9223372036854775807 ∧ tx.size ≤ 9223372036854775807) (hnt : nameOK nm = true ∧ textOK tx = true) (hf : fnd its nm < 0) (hk : ¬ kd = 1) (hx : 3 ≤ kd → tx.toList = []) : AW Try.prog 98 (cAt Try.f65 [2, 2, 1, 2, 5, 7]) (mk [(0, .c (.sl true 3 (ents l))), (4, .rf 58000 []), (5, .c (.sc (.int .i64 (i : Int))))] [(58000, .sv (.sl false 3 (itms its)))]) (PlyQ l its i) := by
  have e1 : wrap64 ((i : Int) + 1) = ((i + 1 : Nat) : Int) := by rw [w64 (by omega) (by omega)]; omega
  have hge : l[i]?.getD default = ⟨kd, nm, tx⟩ := by rw [List.getElem?_eq_getElem hl, Option.getD_some, he]
  have cn := c_spec_l7Name nm hw.1
  have ct := c_spec_l21Text tx hw.2
  have cf := c_spec_l21Find its nm (by omega)
  have b1 : (its.length + 1) * 40 ≤ 140737488355328 := by omega
  have b2 : its.length + 1 ≤ 4611686018427387904 := by omega
  have hn : playE its (l[i]?.getD default) = none := by rw [hge, play_new hnt hf, if_neg hk]
  obtain ⟨hN, hT⟩ := hnt
  rw [hN] at cn
  rw [hT] at ct
  obtain ⟨z, hz⟩ : ∃ z : Int, fnd its nm = z := ⟨_, rfl⟩
  rw [hz] at cf
  have hz0 : z < 0 := by omega
  have hz1 : ¬ 0 ≤ z := by omega
  clear hz hf
  by_cases h3 : 3 ≤ kd
  · replace hx := hx h3
    replace hn : Hd _ := hn
    clear hge hw
    repeat' (first | with_reducible refine OutOK.done ?_ | refine thenQ_n ?_ | refine thenQ_r ?_ | refine thenQ_e ?_ | refine AW.seq ?_ | refine AW.dreg tok mixed [15, 16]  [(0, false), (1, false), (2, false), (3, false), (4, false), (5, false), (6, false), (7, false), (8, false), (9, false), (10, false), (11, false), (12, false), (14, false), (13, false), (15, true), (16, true), (17, false), (18, false)] (by decide +kernel) rfl (by simp [*]; rfl) ?_ | refine AW.reg tok (by simp [*]; rfl) ?_ | refine AW.ifB (by simp [*]; rfl) ?_ | refine IfG.t ?_ | refine IfG.f ?_ | (refine IfG.p (fun hg => ?_) (fun hg => ?_) <;> (try (have hg' := hg; simp at hg'))) | (refine IfG.n (fun hg => ?_) (fun hg => ?_) <;> (try (have hg' := hg; simp at hg'))) | (refine OutOK.gateP (fun hg => ?_) (fun hg => ?_) <;> (try (have hg' := hg; simp at hg'))) | (refine OutOK.gateN (fun hg => ?_) (fun hg => ?_) <;> (try (have hg' := hg; simp at hg'))) | (refine IfG.g (fun hg => ?_) (fun hg => ?_) <;> (try (have hg' := hg; simp at hg'))) | (refine OutOK.gate (fun hg => ?_) (fun hg => ?_) <;> (try (have hg' := hg; simp at hg'))) | (refine OutOK.callF [] (by simp [*]; rfl) (by simp [*]; rfl) (by simp [*]; rfl) hb113 (by apply cn <;> first | assumption | exact Hd.out (by assumption) | ((try (clear e0)); (try (clear e1)); (try (clear e2)); (try (clear e3)); (try (clear e4)); (try (clear e5)); (try (clear e6)); (try (clear e7)); (try (clear e8)); (try (clear e9)); (try (clear e10)); (try (clear e11)); omega)) ⟨by simp [*], by simp [*], by simp [*], by simp [*], by simp [*]⟩ (by simp [*]) (by simp [*]; rfl) ?_) | (refine OutOK.callF [] (by simp [*]; rfl) (by simp [*]; rfl) (by simp [*]; rfl) hb114 (by apply ct <;> first | assumption | exact Hd.out (by assumption) | ((try (clear e0)); (try (clear e1)); (try (clear e2)); (try (clear e3)); (try (clear e4)); (try (clear e5)); (try (clear e6)); (try (clear e7)); (try (clear e8)); (try (clear e9)); (try (clear e10)); (try (clear e11)); omega)) ⟨by simp [*], by simp [*], by simp [*], by simp [*], by simp [*]⟩ (by simp [*]) (by simp [*]; rfl) ?_) | (refine OutOK.callF [] (by simp [*]; rfl) (by simp [*]; rfl) (by simp [*]; rfl) hb112 (by apply cf <;> first | assumption | exact Hd.out (by assumption) | ((try (clear e0)); (try (clear e1)); (try (clear e2)); (try (clear e3)); (try (clear e4)); (try (clear e5)); (try (clear e6)); (try (clear e7)); (try (clear e8)); (try (clear e9)); (try (clear e10)); (try (clear e11)); omega)) ⟨by simp [*], by simp [*], by simp [*], by simp [*], by simp [*]⟩ (by simp [*]) (by simp [*]; rfl) ?_) | (refine OutOK.callF [] (by simp [*]; rfl) (by simp [*]; rfl) (by simp [*]; rfl) hb64 (by apply c_spec_l1In <;> first | assumption | exact Hd.out (by assumption) | ((try (clear e0)); (try (clear e1)); (try (clear e2)); (try (clear e3)); (try (clear e4)); (try (clear e5)); (try (clear e6)); (try (clear e7)); (try (clear e8)); (try (clear e9)); (try (clear e10)); (try (clear e11)); omega)) ⟨by simp [*], by simp [*], by simp [*], by simp [*], by simp [*]⟩ (by simp [*]) (by simp [*]; rfl) ?_) | refine OutOK.run (by simp [*]; rfl) ?_ | refine AW.ret ?_ | refine AW.skip ?_ | refine AW.exit ?_ | refine fin_r ?_ | refine fin_n ?_ | refine AW.block ?_ | refine blockQ_n ?_ | refine blockQ_r ?_ | refine blockQ_e ?_ | refine blockQ_o rfl ?_)
    exact .inl ⟨rfl, hn.out, by simp [Try.f65]⟩
  clear hx
  replace hn : Hd _ := hn
  clear hge hw
  repeat' (first | with_reducible refine OutOK.done ?_ | refine thenQ_n ?_ | refine thenQ_r ?_ | refine thenQ_e ?_ | refine AW.seq ?_ | refine AW.dreg tok mixed [15, 16]  [(0, false), (1, false), (2, false), (3, false), (4, false), (5, false), (6, false), (7, false), (8, false), (9, false), (10, false), (11, false), (12, false), (14, false), (13, false), (15, true), (16, true), (17, false), (18, false)] (by decide +kernel) rfl (by simp [*]; rfl) ?_ | refine AW.reg tok (by simp [*]; rfl) ?_ | refine AW.ifB (by simp [*]; rfl) ?_ | refine IfG.t ?_ | refine IfG.f ?_ | (refine IfG.p (fun hg => ?_) (fun hg => ?_) <;> (try (have hg' := hg; simp at hg'))) | (refine IfG.n (fun hg => ?_) (fun hg => ?_) <;> (try (have hg' := hg; simp at hg'))) | (refine OutOK.gateP (fun hg => ?_) (fun hg => ?_) <;> (try (have hg' := hg; simp at hg'))) | (refine OutOK.gateN (fun hg => ?_) (fun hg => ?_) <;> (try (have hg' := hg; simp at hg'))) | (refine IfG.g (fun hg => ?_) (fun hg => ?_) <;> (try (have hg' := hg; simp at hg'))) | (refine OutOK.gate (fun hg => ?_) (fun hg => ?_) <;> (try (have hg' := hg; simp at hg'))) | (refine OutOK.callF [] (by simp [*]; rfl) (by simp [*]; rfl) (by simp [*]; rfl) hb113 (by apply cn <;> first | assumption | exact Hd.out (by assumption) | ((try (clear e0)); (try (clear e1)); (try (clear e2)); (try (clear e3)); (try (clear e4)); (try (clear e5)); (try (clear e6)); (try (clear e7)); (try (clear e8)); (try (clear e9)); (try (clear e10)); (try (clear e11)); omega)) ⟨by simp [*], by simp [*], by simp [*], by simp [*], by simp [*]⟩ (by simp [*]) (by simp [*]; rfl) ?_) | (refine OutOK.callF [] (by simp [*]; rfl) (by simp [*]; rfl) (by simp [*]; rfl) hb114 (by apply ct <;> first | assumption | exact Hd.out (by assumption) | ((try (clear e0)); (try (clear e1)); (try (clear e2)); (try (clear e3)); (try (clear e4)); (try (clear e5)); (try (clear e6)); (try (clear e7)); (try (clear e8)); (try (clear e9)); (try (clear e10)); (try (clear e11)); omega)) ⟨by simp [*], by simp [*], by simp [*], by simp [*], by simp [*]⟩ (by simp [*]) (by simp [*]; rfl) ?_) | (refine OutOK.callF [] (by simp [*]; rfl) (by simp [*]; rfl) (by simp [*]; rfl) hb112 (by apply cf <;> first | assumption | exact Hd.out (by assumption) | ((try (clear e0)); (try (clear e1)); (try (clear e2)); (try (clear e3)); (try (clear e4)); (try (clear e5)); (try (clear e6)); (try (clear e7)); (try (clear e8)); (try (clear e9)); (try (clear e10)); (try (clear e11)); omega)) ⟨by simp [*], by simp [*], by simp [*], by simp [*], by simp [*]⟩ (by simp [*]) (by simp [*]; rfl) ?_) | (refine OutOK.callF [] (by simp [*]; rfl) (by simp [*]; rfl) (by simp [*]; rfl) hb64 (by apply c_spec_l1In <;> first | assumption | exact Hd.out (by assumption) | ((try (clear e0)); (try (clear e1)); (try (clear e2)); (try (clear e3)); (try (clear e4)); (try (clear e5)); (try (clear e6)); (try (clear e7)); (try (clear e8)); (try (clear e9)); (try (clear e10)); (try (clear e11)); omega)) ⟨by simp [*], by simp [*], by simp [*], by simp [*], by simp [*]⟩ (by simp [*]) (by simp [*]; rfl) ?_) | refine OutOK.run (by simp [*]; rfl) ?_ | refine AW.ret ?_ | refine AW.skip ?_ | refine AW.exit ?_ | refine fin_r ?_ | refine fin_n ?_ | refine AW.block ?_ | refine blockQ_n ?_ | refine blockQ_r ?_ | refine blockQ_e ?_ | refine blockQ_o rfl ?_)
  exact .inl ⟨rfl, hn.out, by simp [Try.f65]⟩
theorem s_ply_o (l : List Ent) (its : List Itm) (i : Nat) (kd : Int) (nm tx : ByteArray) (hl : i < l.length) (he : l[i] = ⟨kd, nm, tx⟩) (h40 : l.length ≤ 40) (hil : its.length ≤ 40) (hw : nm.size ≤ 9223372036854775807 ∧ tx.size ≤ 9223372036854775807) (hnt : nameOK nm = true ∧ textOK tx = true) (k : Nat) (hf : fnd its nm = (k : Int)) (hkl : k < its.length) (hk : kd = 1) : AW Try.prog 98 (cAt Try.f65 [2, 2, 1, 2, 5, 7]) (mk [(0, .c (.sl true 3 (ents l))), (4, .rf 58000 []), (5, .c (.sc (.int .i64 (i : Int))))] [(58000, .sv (.sl false 3 (itms its)))]) (PlyQ l its i) := by
  have e1 : wrap64 ((i : Int) + 1) = ((i + 1 : Nat) : Int) := by rw [w64 (by omega) (by omega)]; omega
  have hge : l[i]?.getD default = ⟨kd, nm, tx⟩ := by rw [List.getElem?_eq_getElem hl, Option.getD_some, he]
  have cn := c_spec_l7Name nm hw.1
  have ct := c_spec_l21Text tx hw.2
  have cf := c_spec_l21Find its nm (by omega)
  have b1 : (its.length + 1) * 40 ≤ 140737488355328 := by omega
  have b2 : its.length + 1 ≤ 4611686018427387904 := by omega
  have hn : playE its (l[i]?.getD default) = none := by rw [hge, play_at hnt hf hkl]; simp [hk]
  obtain ⟨hN, hT⟩ := hnt
  rw [hN] at cn
  rw [hT] at ct
  rw [hf] at cf
  have hz0 : ¬ (k : Int) < 0 := by omega
  have hz1 : (0 : Int) ≤ k := by omega
  clear hf
  subst hk
  replace hn : Hd _ := hn
  clear hge hw
  repeat' (first | with_reducible refine OutOK.done ?_ | refine thenQ_n ?_ | refine thenQ_r ?_ | refine thenQ_e ?_ | refine AW.seq ?_ | refine AW.dreg tok mixed [15, 16]  [(0, false), (1, false), (2, false), (3, false), (4, false), (5, false), (6, false), (7, false), (8, false), (9, false), (10, false), (11, false), (12, false), (14, false), (13, false), (15, true), (16, true), (17, false), (18, false)] (by decide +kernel) rfl (by simp [*]; rfl) ?_ | refine AW.reg tok (by simp [*]; rfl) ?_ | refine AW.ifB (by simp [*]; rfl) ?_ | refine IfG.t ?_ | refine IfG.f ?_ | (refine IfG.p (fun hg => ?_) (fun hg => ?_) <;> (try (have hg' := hg; simp at hg'))) | (refine IfG.n (fun hg => ?_) (fun hg => ?_) <;> (try (have hg' := hg; simp at hg'))) | (refine OutOK.gateP (fun hg => ?_) (fun hg => ?_) <;> (try (have hg' := hg; simp at hg'))) | (refine OutOK.gateN (fun hg => ?_) (fun hg => ?_) <;> (try (have hg' := hg; simp at hg'))) | (refine IfG.g (fun hg => ?_) (fun hg => ?_) <;> (try (have hg' := hg; simp at hg'))) | (refine OutOK.gate (fun hg => ?_) (fun hg => ?_) <;> (try (have hg' := hg; simp at hg'))) | (refine OutOK.callF [] (by simp [*]; rfl) (by simp [*]; rfl) (by simp [*]; rfl) hb113 (by apply cn <;> first | assumption | exact Hd.out (by assumption) | ((try (clear e0)); (try (clear e1)); (try (clear e2)); (try (clear e3)); (try (clear e4)); (try (clear e5)); (try (clear e6)); (try (clear e7)); (try (clear e8)); (try (clear e9)); (try (clear e10)); (try (clear e11)); omega)) ⟨by simp [*], by simp [*], by simp [*], by simp [*], by simp [*]⟩ (by simp [*]) (by simp [*]; rfl) ?_) | (refine OutOK.callF [] (by simp [*]; rfl) (by simp [*]; rfl) (by simp [*]; rfl) hb114 (by apply ct <;> first | assumption | exact Hd.out (by assumption) | ((try (clear e0)); (try (clear e1)); (try (clear e2)); (try (clear e3)); (try (clear e4)); (try (clear e5)); (try (clear e6)); (try (clear e7)); (try (clear e8)); (try (clear e9)); (try (clear e10)); (try (clear e11)); omega)) ⟨by simp [*], by simp [*], by simp [*], by simp [*], by simp [*]⟩ (by simp [*]) (by simp [*]; rfl) ?_) | (refine OutOK.callF [] (by simp [*]; rfl) (by simp [*]; rfl) (by simp [*]; rfl) hb112 (by apply cf <;> first | assumption | exact Hd.out (by assumption) | ((try (clear e0)); (try (clear e1)); (try (clear e2)); (try (clear e3)); (try (clear e4)); (try (clear e5)); (try (clear e6)); (try (clear e7)); (try (clear e8)); (try (clear e9)); (try (clear e10)); (try (clear e11)); omega)) ⟨by simp [*], by simp [*], by simp [*], by simp [*], by simp [*]⟩ (by simp [*]) (by simp [*]; rfl) ?_) | (refine OutOK.callF [] (by simp [*]; rfl) (by simp [*]; rfl) (by simp [*]; rfl) hb64 (by apply c_spec_l1In <;> first | assumption | exact Hd.out (by assumption) | ((try (clear e0)); (try (clear e1)); (try (clear e2)); (try (clear e3)); (try (clear e4)); (try (clear e5)); (try (clear e6)); (try (clear e7)); (try (clear e8)); (try (clear e9)); (try (clear e10)); (try (clear e11)); omega)) ⟨by simp [*], by simp [*], by simp [*], by simp [*], by simp [*]⟩ (by simp [*]) (by simp [*]; rfl) ?_) | refine OutOK.run (by simp [*]; rfl) ?_ | refine AW.ret ?_ | refine AW.skip ?_ | refine AW.exit ?_ | refine fin_r ?_ | refine fin_n ?_ | refine AW.block ?_ | refine blockQ_n ?_ | refine blockQ_r ?_ | refine blockQ_e ?_ | refine blockQ_o rfl ?_)
  exact .inl ⟨rfl, hn.out, by simp [Try.f65]⟩
theorem s_ply_2n (l : List Ent) (its : List Itm) (i : Nat) (kd : Int) (nm tx : ByteArray) (hl : i < l.length) (he : l[i] = ⟨kd, nm, tx⟩) (h40 : l.length ≤ 40) (hil : its.length ≤ 40) (hw : nm.size ≤ 9223372036854775807 ∧ tx.size ≤ 9223372036854775807) (hnt : nameOK nm = true ∧ textOK tx = true) (k : Nat) (hf : fnd its nm = (k : Int)) (hkl : k < its.length) (hk : kd = 2) (hv : its[k].vd = true) : AW Try.prog 98 (cAt Try.f65 [2, 2, 1, 2, 5, 7]) (mk [(0, .c (.sl true 3 (ents l))), (4, .rf 58000 []), (5, .c (.sc (.int .i64 (i : Int))))] [(58000, .sv (.sl false 3 (itms its)))]) (PlyQ l its i) := by
  have e1 : wrap64 ((i : Int) + 1) = ((i + 1 : Nat) : Int) := by rw [w64 (by omega) (by omega)]; omega
  have hge : l[i]?.getD default = ⟨kd, nm, tx⟩ := by rw [List.getElem?_eq_getElem hl, Option.getD_some, he]
  have cn := c_spec_l7Name nm hw.1
  have ct := c_spec_l21Text tx hw.2
  have cf := c_spec_l21Find its nm (by omega)
  have b1 : (its.length + 1) * 40 ≤ 140737488355328 := by omega
  have b2 : its.length + 1 ≤ 4611686018427387904 := by omega
  have hn : playE its (l[i]?.getD default) = none := by rw [hge, play_at hnt hf hkl]; simp [hk, hv]
  obtain ⟨hN, hT⟩ := hnt
  rw [hN] at cn
  rw [hT] at ct
  rw [hf] at cf
  have hz0 : ¬ (k : Int) < 0 := by omega
  have hz1 : (0 : Int) ≤ k := by omega
  clear hf
  have r1 : inR 2 4 2 = true := inR_iff.2 ⟨by omega, by omega⟩
  have r2 : inR 2 4 3 = true := inR_iff.2 ⟨by omega, by omega⟩
  have r3 : inR 2 4 4 = true := inR_iff.2 ⟨by omega, by omega⟩
  subst hk
  replace hn : Hd _ := hn
  clear hge hw
  repeat' (first | with_reducible refine OutOK.done ?_ | refine thenQ_n ?_ | refine thenQ_r ?_ | refine thenQ_e ?_ | refine AW.seq ?_ | refine AW.dreg tok mixed [15, 16]  [(0, false), (1, false), (2, false), (3, false), (4, false), (5, false), (6, false), (7, false), (8, false), (9, false), (10, false), (11, false), (12, false), (14, false), (13, false), (15, true), (16, true), (17, false), (18, false)] (by decide +kernel) rfl (by simp [*]; rfl) ?_ | refine AW.reg tok (by simp [*]; rfl) ?_ | refine AW.ifB (by simp [*]; rfl) ?_ | refine IfG.t ?_ | refine IfG.f ?_ | (refine IfG.p (fun hg => ?_) (fun hg => ?_) <;> (try (have hg' := hg; simp at hg'))) | (refine IfG.n (fun hg => ?_) (fun hg => ?_) <;> (try (have hg' := hg; simp at hg'))) | (refine OutOK.gateP (fun hg => ?_) (fun hg => ?_) <;> (try (have hg' := hg; simp at hg'))) | (refine OutOK.gateN (fun hg => ?_) (fun hg => ?_) <;> (try (have hg' := hg; simp at hg'))) | (refine IfG.g (fun hg => ?_) (fun hg => ?_) <;> (try (have hg' := hg; simp at hg'))) | (refine OutOK.gate (fun hg => ?_) (fun hg => ?_) <;> (try (have hg' := hg; simp at hg'))) | (refine OutOK.callF [] (by simp [*]; rfl) (by simp [*]; rfl) (by simp [*]; rfl) hb113 (by apply cn <;> first | assumption | exact Hd.out (by assumption) | ((try (clear e0)); (try (clear e1)); (try (clear e2)); (try (clear e3)); (try (clear e4)); (try (clear e5)); (try (clear e6)); (try (clear e7)); (try (clear e8)); (try (clear e9)); (try (clear e10)); (try (clear e11)); omega)) ⟨by simp [*], by simp [*], by simp [*], by simp [*], by simp [*]⟩ (by simp [*]) (by simp [*]; rfl) ?_) | (refine OutOK.callF [] (by simp [*]; rfl) (by simp [*]; rfl) (by simp [*]; rfl) hb114 (by apply ct <;> first | assumption | exact Hd.out (by assumption) | ((try (clear e0)); (try (clear e1)); (try (clear e2)); (try (clear e3)); (try (clear e4)); (try (clear e5)); (try (clear e6)); (try (clear e7)); (try (clear e8)); (try (clear e9)); (try (clear e10)); (try (clear e11)); omega)) ⟨by simp [*], by simp [*], by simp [*], by simp [*], by simp [*]⟩ (by simp [*]) (by simp [*]; rfl) ?_) | (refine OutOK.callF [] (by simp [*]; rfl) (by simp [*]; rfl) (by simp [*]; rfl) hb112 (by apply cf <;> first | assumption | exact Hd.out (by assumption) | ((try (clear e0)); (try (clear e1)); (try (clear e2)); (try (clear e3)); (try (clear e4)); (try (clear e5)); (try (clear e6)); (try (clear e7)); (try (clear e8)); (try (clear e9)); (try (clear e10)); (try (clear e11)); omega)) ⟨by simp [*], by simp [*], by simp [*], by simp [*], by simp [*]⟩ (by simp [*]) (by simp [*]; rfl) ?_) | (refine OutOK.callF [] (by simp [*]; rfl) (by simp [*]; rfl) (by simp [*]; rfl) hb64 (by apply c_spec_l1In <;> first | assumption | exact Hd.out (by assumption) | ((try (clear e0)); (try (clear e1)); (try (clear e2)); (try (clear e3)); (try (clear e4)); (try (clear e5)); (try (clear e6)); (try (clear e7)); (try (clear e8)); (try (clear e9)); (try (clear e10)); (try (clear e11)); omega)) ⟨by simp [*], by simp [*], by simp [*], by simp [*], by simp [*]⟩ (by simp [*]) (by simp [*]; rfl) ?_) | refine OutOK.run (by simp [*]; rfl) ?_ | refine AW.ret ?_ | refine AW.skip ?_ | refine AW.exit ?_ | refine fin_r ?_ | refine fin_n ?_ | refine AW.block ?_ | refine blockQ_n ?_ | refine blockQ_r ?_ | refine blockQ_e ?_ | refine blockQ_o rfl ?_)
  exact .inl ⟨rfl, hn.out, by simp [Try.f65]⟩
theorem s_ply_2 (l : List Ent) (its : List Itm) (i : Nat) (kd : Int) (nm tx : ByteArray) (hl : i < l.length) (he : l[i] = ⟨kd, nm, tx⟩) (h40 : l.length ≤ 40) (hil : its.length ≤ 40) (hw : nm.size ≤ 9223372036854775807 ∧ tx.size ≤ 9223372036854775807) (hnt : nameOK nm = true ∧ textOK tx = true) (k : Nat) (hf : fnd its nm = (k : Int)) (hkl : k < its.length) (hk : kd = 2) (hv : its[k].vd = false) : AW Try.prog 98 (cAt Try.f65 [2, 2, 1, 2, 5, 7]) (mk [(0, .c (.sl true 3 (ents l))), (4, .rf 58000 []), (5, .c (.sc (.int .i64 (i : Int))))] [(58000, .sv (.sl false 3 (itms its)))]) (PlyQ l its i) := by
  have e1 : wrap64 ((i : Int) + 1) = ((i + 1 : Nat) : Int) := by rw [w64 (by omega) (by omega)]; omega
  have hge : l[i]?.getD default = ⟨kd, nm, tx⟩ := by rw [List.getElem?_eq_getElem hl, Option.getD_some, he]
  have cn := c_spec_l7Name nm hw.1
  have ct := c_spec_l21Text tx hw.2
  have cf := c_spec_l21Find its nm (by omega)
  have b1 : (its.length + 1) * 40 ≤ 140737488355328 := by omega
  have b2 : its.length + 1 ≤ 4611686018427387904 := by omega
  have hn : playE its (l[i]?.getD default) = some (its.set k ⟨its[k].nm, tx, false⟩) := by rw [hge, play_at hnt hf hkl]; simp [hk, hv]
  obtain ⟨hN, hT⟩ := hnt
  rw [hN] at cn
  rw [hT] at ct
  rw [hf] at cf
  have hz0 : ¬ (k : Int) < 0 := by omega
  have hz1 : (0 : Int) ≤ k := by omega
  clear hf
  have r1 : inR 2 4 2 = true := inR_iff.2 ⟨by omega, by omega⟩
  have r2 : inR 2 4 3 = true := inR_iff.2 ⟨by omega, by omega⟩
  have r3 : inR 2 4 4 = true := inR_iff.2 ⟨by omega, by omega⟩
  subst hk
  replace hn : Hd _ := hn
  clear hge hw
  repeat' (first | with_reducible refine OutOK.done ?_ | refine thenQ_n ?_ | refine thenQ_r ?_ | refine thenQ_e ?_ | refine AW.seq ?_ | refine AW.dreg tok mixed [15, 16]  [(0, false), (1, false), (2, false), (3, false), (4, false), (5, false), (6, false), (7, false), (8, false), (9, false), (10, false), (11, false), (12, false), (14, false), (13, false), (15, true), (16, true), (17, false), (18, false)] (by decide +kernel) rfl (by simp [*]; rfl) ?_ | refine AW.reg tok (by simp [*]; rfl) ?_ | refine AW.ifB (by simp [*]; rfl) ?_ | refine IfG.t ?_ | refine IfG.f ?_ | (refine IfG.p (fun hg => ?_) (fun hg => ?_) <;> (try (have hg' := hg; simp at hg'))) | (refine IfG.n (fun hg => ?_) (fun hg => ?_) <;> (try (have hg' := hg; simp at hg'))) | (refine OutOK.gateP (fun hg => ?_) (fun hg => ?_) <;> (try (have hg' := hg; simp at hg'))) | (refine OutOK.gateN (fun hg => ?_) (fun hg => ?_) <;> (try (have hg' := hg; simp at hg'))) | (refine IfG.g (fun hg => ?_) (fun hg => ?_) <;> (try (have hg' := hg; simp at hg'))) | (refine OutOK.gate (fun hg => ?_) (fun hg => ?_) <;> (try (have hg' := hg; simp at hg'))) | (refine OutOK.callF [] (by simp [*]; rfl) (by simp [*]; rfl) (by simp [*]; rfl) hb113 (by apply cn <;> first | assumption | exact Hd.out (by assumption) | ((try (clear e0)); (try (clear e1)); (try (clear e2)); (try (clear e3)); (try (clear e4)); (try (clear e5)); (try (clear e6)); (try (clear e7)); (try (clear e8)); (try (clear e9)); (try (clear e10)); (try (clear e11)); omega)) ⟨by simp [*], by simp [*], by simp [*], by simp [*], by simp [*]⟩ (by simp [*]) (by simp [*]; rfl) ?_) | (refine OutOK.callF [] (by simp [*]; rfl) (by simp [*]; rfl) (by simp [*]; rfl) hb114 (by apply ct <;> first | assumption | exact Hd.out (by assumption) | ((try (clear e0)); (try (clear e1)); (try (clear e2)); (try (clear e3)); (try (clear e4)); (try (clear e5)); (try (clear e6)); (try (clear e7)); (try (clear e8)); (try (clear e9)); (try (clear e10)); (try (clear e11)); omega)) ⟨by simp [*], by simp [*], by simp [*], by simp [*], by simp [*]⟩ (by simp [*]) (by simp [*]; rfl) ?_) | (refine OutOK.callF [] (by simp [*]; rfl) (by simp [*]; rfl) (by simp [*]; rfl) hb112 (by apply cf <;> first | assumption | exact Hd.out (by assumption) | ((try (clear e0)); (try (clear e1)); (try (clear e2)); (try (clear e3)); (try (clear e4)); (try (clear e5)); (try (clear e6)); (try (clear e7)); (try (clear e8)); (try (clear e9)); (try (clear e10)); (try (clear e11)); omega)) ⟨by simp [*], by simp [*], by simp [*], by simp [*], by simp [*]⟩ (by simp [*]) (by simp [*]; rfl) ?_) | (refine OutOK.callF [] (by simp [*]; rfl) (by simp [*]; rfl) (by simp [*]; rfl) hb64 (by apply c_spec_l1In <;> first | assumption | exact Hd.out (by assumption) | ((try (clear e0)); (try (clear e1)); (try (clear e2)); (try (clear e3)); (try (clear e4)); (try (clear e5)); (try (clear e6)); (try (clear e7)); (try (clear e8)); (try (clear e9)); (try (clear e10)); (try (clear e11)); omega)) ⟨by simp [*], by simp [*], by simp [*], by simp [*], by simp [*]⟩ (by simp [*]) (by simp [*]; rfl) ?_) | refine OutOK.run (by simp [*]; rfl) ?_ | refine AW.ret ?_ | refine AW.skip ?_ | refine AW.exit ?_ | refine fin_r ?_ | refine fin_n ?_ | refine AW.block ?_ | refine blockQ_n ?_ | refine blockQ_r ?_ | refine blockQ_e ?_ | refine blockQ_o rfl ?_)
  exact .inr ⟨rfl, its.set k ⟨its[k].nm, tx, false⟩, hn.out, by simp, ⟨by simp, by simp, by simp⟩⟩
theorem s_ply_3n (l : List Ent) (its : List Itm) (i : Nat) (kd : Int) (nm tx : ByteArray) (hl : i < l.length) (he : l[i] = ⟨kd, nm, tx⟩) (h40 : l.length ≤ 40) (hil : its.length ≤ 40) (hw : nm.size ≤ 9223372036854775807 ∧ tx.size ≤ 9223372036854775807) (hnt : nameOK nm = true ∧ textOK tx = true) (k : Nat) (hf : fnd its nm = (k : Int)) (hkl : k < its.length) (hk : kd = 3) (hx : tx.toList = []) (hv : its[k].vd = true) : AW Try.prog 98 (cAt Try.f65 [2, 2, 1, 2, 5, 7]) (mk [(0, .c (.sl true 3 (ents l))), (4, .rf 58000 []), (5, .c (.sc (.int .i64 (i : Int))))] [(58000, .sv (.sl false 3 (itms its)))]) (PlyQ l its i) := by
  have e1 : wrap64 ((i : Int) + 1) = ((i + 1 : Nat) : Int) := by rw [w64 (by omega) (by omega)]; omega
  have hge : l[i]?.getD default = ⟨kd, nm, tx⟩ := by rw [List.getElem?_eq_getElem hl, Option.getD_some, he]
  have cn := c_spec_l7Name nm hw.1
  have ct := c_spec_l21Text tx hw.2
  have cf := c_spec_l21Find its nm (by omega)
  have b1 : (its.length + 1) * 40 ≤ 140737488355328 := by omega
  have b2 : its.length + 1 ≤ 4611686018427387904 := by omega
  have hn : playE its (l[i]?.getD default) = none := by rw [hge, play_at hnt hf hkl]; simp [hk, hv, hx]
  obtain ⟨hN, hT⟩ := hnt
  rw [hN] at cn
  rw [hT] at ct
  rw [hf] at cf
  have hz0 : ¬ (k : Int) < 0 := by omega
  have hz1 : (0 : Int) ≤ k := by omega
  clear hf
  have r1 : inR 2 4 2 = true := inR_iff.2 ⟨by omega, by omega⟩
  have r2 : inR 2 4 3 = true := inR_iff.2 ⟨by omega, by omega⟩
  have r3 : inR 2 4 4 = true := inR_iff.2 ⟨by omega, by omega⟩
  subst hk
  replace hn : Hd _ := hn
  clear hge hw
  repeat' (first | with_reducible refine OutOK.done ?_ | refine thenQ_n ?_ | refine thenQ_r ?_ | refine thenQ_e ?_ | refine AW.seq ?_ | refine AW.dreg tok mixed [15, 16]  [(0, false), (1, false), (2, false), (3, false), (4, false), (5, false), (6, false), (7, false), (8, false), (9, false), (10, false), (11, false), (12, false), (14, false), (13, false), (15, true), (16, true), (17, false), (18, false)] (by decide +kernel) rfl (by simp [*]; rfl) ?_ | refine AW.reg tok (by simp [*]; rfl) ?_ | refine AW.ifB (by simp [*]; rfl) ?_ | refine IfG.t ?_ | refine IfG.f ?_ | (refine IfG.p (fun hg => ?_) (fun hg => ?_) <;> (try (have hg' := hg; simp at hg'))) | (refine IfG.n (fun hg => ?_) (fun hg => ?_) <;> (try (have hg' := hg; simp at hg'))) | (refine OutOK.gateP (fun hg => ?_) (fun hg => ?_) <;> (try (have hg' := hg; simp at hg'))) | (refine OutOK.gateN (fun hg => ?_) (fun hg => ?_) <;> (try (have hg' := hg; simp at hg'))) | (refine IfG.g (fun hg => ?_) (fun hg => ?_) <;> (try (have hg' := hg; simp at hg'))) | (refine OutOK.gate (fun hg => ?_) (fun hg => ?_) <;> (try (have hg' := hg; simp at hg'))) | (refine OutOK.callF [] (by simp [*]; rfl) (by simp [*]; rfl) (by simp [*]; rfl) hb113 (by apply cn <;> first | assumption | exact Hd.out (by assumption) | ((try (clear e0)); (try (clear e1)); (try (clear e2)); (try (clear e3)); (try (clear e4)); (try (clear e5)); (try (clear e6)); (try (clear e7)); (try (clear e8)); (try (clear e9)); (try (clear e10)); (try (clear e11)); omega)) ⟨by simp [*], by simp [*], by simp [*], by simp [*], by simp [*]⟩ (by simp [*]) (by simp [*]; rfl) ?_) | (refine OutOK.callF [] (by simp [*]; rfl) (by simp [*]; rfl) (by simp [*]; rfl) hb114 (by apply ct <;> first | assumption | exact Hd.out (by assumption) | ((try (clear e0)); (try (clear e1)); (try (clear e2)); (try (clear e3)); (try (clear e4)); (try (clear e5)); (try (clear e6)); (try (clear e7)); (try (clear e8)); (try (clear e9)); (try (clear e10)); (try (clear e11)); omega)) ⟨by simp [*], by simp [*], by simp [*], by simp [*], by simp [*]⟩ (by simp [*]) (by simp [*]; rfl) ?_) | (refine OutOK.callF [] (by simp [*]; rfl) (by simp [*]; rfl) (by simp [*]; rfl) hb112 (by apply cf <;> first | assumption | exact Hd.out (by assumption) | ((try (clear e0)); (try (clear e1)); (try (clear e2)); (try (clear e3)); (try (clear e4)); (try (clear e5)); (try (clear e6)); (try (clear e7)); (try (clear e8)); (try (clear e9)); (try (clear e10)); (try (clear e11)); omega)) ⟨by simp [*], by simp [*], by simp [*], by simp [*], by simp [*]⟩ (by simp [*]) (by simp [*]; rfl) ?_) | (refine OutOK.callF [] (by simp [*]; rfl) (by simp [*]; rfl) (by simp [*]; rfl) hb64 (by apply c_spec_l1In <;> first | assumption | exact Hd.out (by assumption) | ((try (clear e0)); (try (clear e1)); (try (clear e2)); (try (clear e3)); (try (clear e4)); (try (clear e5)); (try (clear e6)); (try (clear e7)); (try (clear e8)); (try (clear e9)); (try (clear e10)); (try (clear e11)); omega)) ⟨by simp [*], by simp [*], by simp [*], by simp [*], by simp [*]⟩ (by simp [*]) (by simp [*]; rfl) ?_) | refine OutOK.run (by simp [*]; rfl) ?_ | refine AW.ret ?_ | refine AW.skip ?_ | refine AW.exit ?_ | refine fin_r ?_ | refine fin_n ?_ | refine AW.block ?_ | refine blockQ_n ?_ | refine blockQ_r ?_ | refine blockQ_e ?_ | refine blockQ_o rfl ?_)
  exact .inl ⟨rfl, hn.out, by simp [Try.f65]⟩
theorem s_ply_3 (l : List Ent) (its : List Itm) (i : Nat) (kd : Int) (nm tx : ByteArray) (hl : i < l.length) (he : l[i] = ⟨kd, nm, tx⟩) (h40 : l.length ≤ 40) (hil : its.length ≤ 40) (hw : nm.size ≤ 9223372036854775807 ∧ tx.size ≤ 9223372036854775807) (hnt : nameOK nm = true ∧ textOK tx = true) (k : Nat) (hf : fnd its nm = (k : Int)) (hkl : k < its.length) (hk : kd = 3) (hx : tx.toList = []) (hv : its[k].vd = false) : AW Try.prog 98 (cAt Try.f65 [2, 2, 1, 2, 5, 7]) (mk [(0, .c (.sl true 3 (ents l))), (4, .rf 58000 []), (5, .c (.sc (.int .i64 (i : Int))))] [(58000, .sv (.sl false 3 (itms its)))]) (PlyQ l its i) := by
  have e1 : wrap64 ((i : Int) + 1) = ((i + 1 : Nat) : Int) := by rw [w64 (by omega) (by omega)]; omega
  have hge : l[i]?.getD default = ⟨kd, nm, tx⟩ := by rw [List.getElem?_eq_getElem hl, Option.getD_some, he]
  have cn := c_spec_l7Name nm hw.1
  have ct := c_spec_l21Text tx hw.2
  have cf := c_spec_l21Find its nm (by omega)
  have b1 : (its.length + 1) * 40 ≤ 140737488355328 := by omega
  have b2 : its.length + 1 ≤ 4611686018427387904 := by omega
  have hn : playE its (l[i]?.getD default) = some (its.set k ⟨its[k].nm, its[k].tx, true⟩) := by rw [hge, play_at hnt hf hkl]; simp [hk, hv, hx]
  obtain ⟨hN, hT⟩ := hnt
  rw [hN] at cn
  rw [hT] at ct
  rw [hf] at cf
  have hz0 : ¬ (k : Int) < 0 := by omega
  have hz1 : (0 : Int) ≤ k := by omega
  clear hf
  have r1 : inR 2 4 2 = true := inR_iff.2 ⟨by omega, by omega⟩
  have r2 : inR 2 4 3 = true := inR_iff.2 ⟨by omega, by omega⟩
  have r3 : inR 2 4 4 = true := inR_iff.2 ⟨by omega, by omega⟩
  subst hk
  replace hn : Hd _ := hn
  clear hge hw
  repeat' (first | with_reducible refine OutOK.done ?_ | refine thenQ_n ?_ | refine thenQ_r ?_ | refine thenQ_e ?_ | refine AW.seq ?_ | refine AW.dreg tok mixed [15, 16]  [(0, false), (1, false), (2, false), (3, false), (4, false), (5, false), (6, false), (7, false), (8, false), (9, false), (10, false), (11, false), (12, false), (14, false), (13, false), (15, true), (16, true), (17, false), (18, false)] (by decide +kernel) rfl (by simp [*]; rfl) ?_ | refine AW.reg tok (by simp [*]; rfl) ?_ | refine AW.ifB (by simp [*]; rfl) ?_ | refine IfG.t ?_ | refine IfG.f ?_ | (refine IfG.p (fun hg => ?_) (fun hg => ?_) <;> (try (have hg' := hg; simp at hg'))) | (refine IfG.n (fun hg => ?_) (fun hg => ?_) <;> (try (have hg' := hg; simp at hg'))) | (refine OutOK.gateP (fun hg => ?_) (fun hg => ?_) <;> (try (have hg' := hg; simp at hg'))) | (refine OutOK.gateN (fun hg => ?_) (fun hg => ?_) <;> (try (have hg' := hg; simp at hg'))) | (refine IfG.g (fun hg => ?_) (fun hg => ?_) <;> (try (have hg' := hg; simp at hg'))) | (refine OutOK.gate (fun hg => ?_) (fun hg => ?_) <;> (try (have hg' := hg; simp at hg'))) | (refine OutOK.callF [] (by simp [*]; rfl) (by simp [*]; rfl) (by simp [*]; rfl) hb113 (by apply cn <;> first | assumption | exact Hd.out (by assumption) | ((try (clear e0)); (try (clear e1)); (try (clear e2)); (try (clear e3)); (try (clear e4)); (try (clear e5)); (try (clear e6)); (try (clear e7)); (try (clear e8)); (try (clear e9)); (try (clear e10)); (try (clear e11)); omega)) ⟨by simp [*], by simp [*], by simp [*], by simp [*], by simp [*]⟩ (by simp [*]) (by simp [*]; rfl) ?_) | (refine OutOK.callF [] (by simp [*]; rfl) (by simp [*]; rfl) (by simp [*]; rfl) hb114 (by apply ct <;> first | assumption | exact Hd.out (by assumption) | ((try (clear e0)); (try (clear e1)); (try (clear e2)); (try (clear e3)); (try (clear e4)); (try (clear e5)); (try (clear e6)); (try (clear e7)); (try (clear e8)); (try (clear e9)); (try (clear e10)); (try (clear e11)); omega)) ⟨by simp [*], by simp [*], by simp [*], by simp [*], by simp [*]⟩ (by simp [*]) (by simp [*]; rfl) ?_) | (refine OutOK.callF [] (by simp [*]; rfl) (by simp [*]; rfl) (by simp [*]; rfl) hb112 (by apply cf <;> first | assumption | exact Hd.out (by assumption) | ((try (clear e0)); (try (clear e1)); (try (clear e2)); (try (clear e3)); (try (clear e4)); (try (clear e5)); (try (clear e6)); (try (clear e7)); (try (clear e8)); (try (clear e9)); (try (clear e10)); (try (clear e11)); omega)) ⟨by simp [*], by simp [*], by simp [*], by simp [*], by simp [*]⟩ (by simp [*]) (by simp [*]; rfl) ?_) | (refine OutOK.callF [] (by simp [*]; rfl) (by simp [*]; rfl) (by simp [*]; rfl) hb64 (by apply c_spec_l1In <;> first | assumption | exact Hd.out (by assumption) | ((try (clear e0)); (try (clear e1)); (try (clear e2)); (try (clear e3)); (try (clear e4)); (try (clear e5)); (try (clear e6)); (try (clear e7)); (try (clear e8)); (try (clear e9)); (try (clear e10)); (try (clear e11)); omega)) ⟨by simp [*], by simp [*], by simp [*], by simp [*], by simp [*]⟩ (by simp [*]) (by simp [*]; rfl) ?_) | refine OutOK.run (by simp [*]; rfl) ?_ | refine AW.ret ?_ | refine AW.skip ?_ | refine AW.exit ?_ | refine fin_r ?_ | refine fin_n ?_ | refine AW.block ?_ | refine blockQ_n ?_ | refine blockQ_r ?_ | refine blockQ_e ?_ | refine blockQ_o rfl ?_)
  exact .inr ⟨rfl, its.set k ⟨its[k].nm, its[k].tx, true⟩, hn.out, by simp, ⟨by simp, by simp, by simp⟩⟩
theorem s_ply_4n (l : List Ent) (its : List Itm) (i : Nat) (kd : Int) (nm tx : ByteArray) (hl : i < l.length) (he : l[i] = ⟨kd, nm, tx⟩) (h40 : l.length ≤ 40) (hil : its.length ≤ 40) (hw : nm.size ≤ 9223372036854775807 ∧ tx.size ≤ 9223372036854775807) (hnt : nameOK nm = true ∧ textOK tx = true) (k : Nat) (hf : fnd its nm = (k : Int)) (hkl : k < its.length) (hk : kd = 4) (hx : tx.toList = []) (hv : its[k].vd = false) : AW Try.prog 98 (cAt Try.f65 [2, 2, 1, 2, 5, 7]) (mk [(0, .c (.sl true 3 (ents l))), (4, .rf 58000 []), (5, .c (.sc (.int .i64 (i : Int))))] [(58000, .sv (.sl false 3 (itms its)))]) (PlyQ l its i) := by
  have e1 : wrap64 ((i : Int) + 1) = ((i + 1 : Nat) : Int) := by rw [w64 (by omega) (by omega)]; omega
  have hge : l[i]?.getD default = ⟨kd, nm, tx⟩ := by rw [List.getElem?_eq_getElem hl, Option.getD_some, he]
  have cn := c_spec_l7Name nm hw.1
  have ct := c_spec_l21Text tx hw.2
  have cf := c_spec_l21Find its nm (by omega)
  have b1 : (its.length + 1) * 40 ≤ 140737488355328 := by omega
  have b2 : its.length + 1 ≤ 4611686018427387904 := by omega
  have hn : playE its (l[i]?.getD default) = none := by rw [hge, play_at hnt hf hkl]; simp [hk, hv, hx]
  obtain ⟨hN, hT⟩ := hnt
  rw [hN] at cn
  rw [hT] at ct
  rw [hf] at cf
  have hz0 : ¬ (k : Int) < 0 := by omega
  have hz1 : (0 : Int) ≤ k := by omega
  clear hf
  have r1 : inR 2 4 2 = true := inR_iff.2 ⟨by omega, by omega⟩
  have r2 : inR 2 4 3 = true := inR_iff.2 ⟨by omega, by omega⟩
  have r3 : inR 2 4 4 = true := inR_iff.2 ⟨by omega, by omega⟩
  subst hk
  replace hn : Hd _ := hn
  clear hge hw
  repeat' (first | with_reducible refine OutOK.done ?_ | refine thenQ_n ?_ | refine thenQ_r ?_ | refine thenQ_e ?_ | refine AW.seq ?_ | refine AW.dreg tok mixed [15, 16]  [(0, false), (1, false), (2, false), (3, false), (4, false), (5, false), (6, false), (7, false), (8, false), (9, false), (10, false), (11, false), (12, false), (14, false), (13, false), (15, true), (16, true), (17, false), (18, false)] (by decide +kernel) rfl (by simp [*]; rfl) ?_ | refine AW.reg tok (by simp [*]; rfl) ?_ | refine AW.ifB (by simp [*]; rfl) ?_ | refine IfG.t ?_ | refine IfG.f ?_ | (refine IfG.p (fun hg => ?_) (fun hg => ?_) <;> (try (have hg' := hg; simp at hg'))) | (refine IfG.n (fun hg => ?_) (fun hg => ?_) <;> (try (have hg' := hg; simp at hg'))) | (refine OutOK.gateP (fun hg => ?_) (fun hg => ?_) <;> (try (have hg' := hg; simp at hg'))) | (refine OutOK.gateN (fun hg => ?_) (fun hg => ?_) <;> (try (have hg' := hg; simp at hg'))) | (refine IfG.g (fun hg => ?_) (fun hg => ?_) <;> (try (have hg' := hg; simp at hg'))) | (refine OutOK.gate (fun hg => ?_) (fun hg => ?_) <;> (try (have hg' := hg; simp at hg'))) | (refine OutOK.callF [] (by simp [*]; rfl) (by simp [*]; rfl) (by simp [*]; rfl) hb113 (by apply cn <;> first | assumption | exact Hd.out (by assumption) | ((try (clear e0)); (try (clear e1)); (try (clear e2)); (try (clear e3)); (try (clear e4)); (try (clear e5)); (try (clear e6)); (try (clear e7)); (try (clear e8)); (try (clear e9)); (try (clear e10)); (try (clear e11)); omega)) ⟨by simp [*], by simp [*], by simp [*], by simp [*], by simp [*]⟩ (by simp [*]) (by simp [*]; rfl) ?_) | (refine OutOK.callF [] (by simp [*]; rfl) (by simp [*]; rfl) (by simp [*]; rfl) hb114 (by apply ct <;> first | assumption | exact Hd.out (by assumption) | ((try (clear e0)); (try (clear e1)); (try (clear e2)); (try (clear e3)); (try (clear e4)); (try (clear e5)); (try (clear e6)); (try (clear e7)); (try (clear e8)); (try (clear e9)); (try (clear e10)); (try (clear e11)); omega)) ⟨by simp [*], by simp [*], by simp [*], by simp [*], by simp [*]⟩ (by simp [*]) (by simp [*]; rfl) ?_) | (refine OutOK.callF [] (by simp [*]; rfl) (by simp [*]; rfl) (by simp [*]; rfl) hb112 (by apply cf <;> first | assumption | exact Hd.out (by assumption) | ((try (clear e0)); (try (clear e1)); (try (clear e2)); (try (clear e3)); (try (clear e4)); (try (clear e5)); (try (clear e6)); (try (clear e7)); (try (clear e8)); (try (clear e9)); (try (clear e10)); (try (clear e11)); omega)) ⟨by simp [*], by simp [*], by simp [*], by simp [*], by simp [*]⟩ (by simp [*]) (by simp [*]; rfl) ?_) | (refine OutOK.callF [] (by simp [*]; rfl) (by simp [*]; rfl) (by simp [*]; rfl) hb64 (by apply c_spec_l1In <;> first | assumption | exact Hd.out (by assumption) | ((try (clear e0)); (try (clear e1)); (try (clear e2)); (try (clear e3)); (try (clear e4)); (try (clear e5)); (try (clear e6)); (try (clear e7)); (try (clear e8)); (try (clear e9)); (try (clear e10)); (try (clear e11)); omega)) ⟨by simp [*], by simp [*], by simp [*], by simp [*], by simp [*]⟩ (by simp [*]) (by simp [*]; rfl) ?_) | refine OutOK.run (by simp [*]; rfl) ?_ | refine AW.ret ?_ | refine AW.skip ?_ | refine AW.exit ?_ | refine fin_r ?_ | refine fin_n ?_ | refine AW.block ?_ | refine blockQ_n ?_ | refine blockQ_r ?_ | refine blockQ_e ?_ | refine blockQ_o rfl ?_)
  exact .inl ⟨rfl, hn.out, by simp [Try.f65]⟩
theorem s_ply_4 (l : List Ent) (its : List Itm) (i : Nat) (kd : Int) (nm tx : ByteArray) (hl : i < l.length) (he : l[i] = ⟨kd, nm, tx⟩) (h40 : l.length ≤ 40) (hil : its.length ≤ 40) (hw : nm.size ≤ 9223372036854775807 ∧ tx.size ≤ 9223372036854775807) (hnt : nameOK nm = true ∧ textOK tx = true) (k : Nat) (hf : fnd its nm = (k : Int)) (hkl : k < its.length) (hk : kd = 4) (hx : tx.toList = []) (hv : its[k].vd = true) : AW Try.prog 98 (cAt Try.f65 [2, 2, 1, 2, 5, 7]) (mk [(0, .c (.sl true 3 (ents l))), (4, .rf 58000 []), (5, .c (.sc (.int .i64 (i : Int))))] [(58000, .sv (.sl false 3 (itms its)))]) (PlyQ l its i) := by
  have e1 : wrap64 ((i : Int) + 1) = ((i + 1 : Nat) : Int) := by rw [w64 (by omega) (by omega)]; omega
  have hge : l[i]?.getD default = ⟨kd, nm, tx⟩ := by rw [List.getElem?_eq_getElem hl, Option.getD_some, he]
  have cn := c_spec_l7Name nm hw.1
  have ct := c_spec_l21Text tx hw.2
  have cf := c_spec_l21Find its nm (by omega)
  have b1 : (its.length + 1) * 40 ≤ 140737488355328 := by omega
  have b2 : its.length + 1 ≤ 4611686018427387904 := by omega
  have hn : playE its (l[i]?.getD default) = some (its.set k ⟨its[k].nm, its[k].tx, false⟩) := by rw [hge, play_at hnt hf hkl]; simp [hk, hv, hx]
  obtain ⟨hN, hT⟩ := hnt
  rw [hN] at cn
  rw [hT] at ct
  rw [hf] at cf
  have hz0 : ¬ (k : Int) < 0 := by omega
  have hz1 : (0 : Int) ≤ k := by omega
  clear hf
  have r1 : inR 2 4 2 = true := inR_iff.2 ⟨by omega, by omega⟩
  have r2 : inR 2 4 3 = true := inR_iff.2 ⟨by omega, by omega⟩
  have r3 : inR 2 4 4 = true := inR_iff.2 ⟨by omega, by omega⟩
  subst hk
  replace hn : Hd _ := hn
  clear hge hw
  repeat' (first | with_reducible refine OutOK.done ?_ | refine thenQ_n ?_ | refine thenQ_r ?_ | refine thenQ_e ?_ | refine AW.seq ?_ | refine AW.dreg tok mixed [15, 16]  [(0, false), (1, false), (2, false), (3, false), (4, false), (5, false), (6, false), (7, false), (8, false), (9, false), (10, false), (11, false), (12, false), (14, false), (13, false), (15, true), (16, true), (17, false), (18, false)] (by decide +kernel) rfl (by simp [*]; rfl) ?_ | refine AW.reg tok (by simp [*]; rfl) ?_ | refine AW.ifB (by simp [*]; rfl) ?_ | refine IfG.t ?_ | refine IfG.f ?_ | (refine IfG.p (fun hg => ?_) (fun hg => ?_) <;> (try (have hg' := hg; simp at hg'))) | (refine IfG.n (fun hg => ?_) (fun hg => ?_) <;> (try (have hg' := hg; simp at hg'))) | (refine OutOK.gateP (fun hg => ?_) (fun hg => ?_) <;> (try (have hg' := hg; simp at hg'))) | (refine OutOK.gateN (fun hg => ?_) (fun hg => ?_) <;> (try (have hg' := hg; simp at hg'))) | (refine IfG.g (fun hg => ?_) (fun hg => ?_) <;> (try (have hg' := hg; simp at hg'))) | (refine OutOK.gate (fun hg => ?_) (fun hg => ?_) <;> (try (have hg' := hg; simp at hg'))) | (refine OutOK.callF [] (by simp [*]; rfl) (by simp [*]; rfl) (by simp [*]; rfl) hb113 (by apply cn <;> first | assumption | exact Hd.out (by assumption) | ((try (clear e0)); (try (clear e1)); (try (clear e2)); (try (clear e3)); (try (clear e4)); (try (clear e5)); (try (clear e6)); (try (clear e7)); (try (clear e8)); (try (clear e9)); (try (clear e10)); (try (clear e11)); omega)) ⟨by simp [*], by simp [*], by simp [*], by simp [*], by simp [*]⟩ (by simp [*]) (by simp [*]; rfl) ?_) | (refine OutOK.callF [] (by simp [*]; rfl) (by simp [*]; rfl) (by simp [*]; rfl) hb114 (by apply ct <;> first | assumption | exact Hd.out (by assumption) | ((try (clear e0)); (try (clear e1)); (try (clear e2)); (try (clear e3)); (try (clear e4)); (try (clear e5)); (try (clear e6)); (try (clear e7)); (try (clear e8)); (try (clear e9)); (try (clear e10)); (try (clear e11)); omega)) ⟨by simp [*], by simp [*], by simp [*], by simp [*], by simp [*]⟩ (by simp [*]) (by simp [*]; rfl) ?_) | (refine OutOK.callF [] (by simp [*]; rfl) (by simp [*]; rfl) (by simp [*]; rfl) hb112 (by apply cf <;> first | assumption | exact Hd.out (by assumption) | ((try (clear e0)); (try (clear e1)); (try (clear e2)); (try (clear e3)); (try (clear e4)); (try (clear e5)); (try (clear e6)); (try (clear e7)); (try (clear e8)); (try (clear e9)); (try (clear e10)); (try (clear e11)); omega)) ⟨by simp [*], by simp [*], by simp [*], by simp [*], by simp [*]⟩ (by simp [*]) (by simp [*]; rfl) ?_) | (refine OutOK.callF [] (by simp [*]; rfl) (by simp [*]; rfl) (by simp [*]; rfl) hb64 (by apply c_spec_l1In <;> first | assumption | exact Hd.out (by assumption) | ((try (clear e0)); (try (clear e1)); (try (clear e2)); (try (clear e3)); (try (clear e4)); (try (clear e5)); (try (clear e6)); (try (clear e7)); (try (clear e8)); (try (clear e9)); (try (clear e10)); (try (clear e11)); omega)) ⟨by simp [*], by simp [*], by simp [*], by simp [*], by simp [*]⟩ (by simp [*]) (by simp [*]; rfl) ?_) | refine OutOK.run (by simp [*]; rfl) ?_ | refine AW.ret ?_ | refine AW.skip ?_ | refine AW.exit ?_ | refine fin_r ?_ | refine fin_n ?_ | refine AW.block ?_ | refine blockQ_n ?_ | refine blockQ_r ?_ | refine blockQ_e ?_ | refine blockQ_o rfl ?_)
  exact .inr ⟨rfl, its.set k ⟨its[k].nm, its[k].tx, false⟩, hn.out, by simp, ⟨by simp, by simp, by simp⟩⟩
theorem s_ply_z (l : List Ent) (its : List Itm) (i : Nat) (kd : Int) (nm tx : ByteArray) (hl : i < l.length) (he : l[i] = ⟨kd, nm, tx⟩) (h40 : l.length ≤ 40) (hil : its.length ≤ 40) (hw : nm.size ≤ 9223372036854775807 ∧ tx.size ≤ 9223372036854775807) (hnt : nameOK nm = true ∧ textOK tx = true) (k : Nat) (hf : fnd its nm = (k : Int)) (hkl : k < its.length) (h1 : ¬ kd = 1) (h2 : inR 2 4 kd = false) (hx : 3 ≤ kd → tx.toList = []) : AW Try.prog 98 (cAt Try.f65 [2, 2, 1, 2, 5, 7]) (mk [(0, .c (.sl true 3 (ents l))), (4, .rf 58000 []), (5, .c (.sc (.int .i64 (i : Int))))] [(58000, .sv (.sl false 3 (itms its)))]) (PlyQ l its i) := by
  have e1 : wrap64 ((i : Int) + 1) = ((i + 1 : Nat) : Int) := by rw [w64 (by omega) (by omega)]; omega
  have hge : l[i]?.getD default = ⟨kd, nm, tx⟩ := by rw [List.getElem?_eq_getElem hl, Option.getD_some, he]
  have cn := c_spec_l7Name nm hw.1
  have ct := c_spec_l21Text tx hw.2
  have cf := c_spec_l21Find its nm (by omega)
  have b1 : (its.length + 1) * 40 ≤ 140737488355328 := by omega
  have b2 : its.length + 1 ≤ 4611686018427387904 := by omega
  have hn : playE its (l[i]?.getD default) = none := by
    rw [inR_not] at h2
    rw [hge, play_at hnt hf hkl, if_neg (by simp only; omega), if_neg (by simp only; omega), if_neg (by simp only; omega)]
  obtain ⟨hN, hT⟩ := hnt
  rw [hN] at cn
  rw [hT] at ct
  rw [hf] at cf
  have hz0 : ¬ (k : Int) < 0 := by omega
  have hz1 : (0 : Int) ≤ k := by omega
  clear hf
  by_cases h3 : 3 ≤ kd
  · replace hx := hx h3
    replace hn : Hd _ := hn
    clear hge hw
    repeat' (first | with_reducible refine OutOK.done ?_ | refine thenQ_n ?_ | refine thenQ_r ?_ | refine thenQ_e ?_ | refine AW.seq ?_ | refine AW.dreg tok mixed [15, 16]  [(0, false), (1, false), (2, false), (3, false), (4, false), (5, false), (6, false), (7, false), (8, false), (9, false), (10, false), (11, false), (12, false), (14, false), (13, false), (15, true), (16, true), (17, false), (18, false)] (by decide +kernel) rfl (by simp [*]; rfl) ?_ | refine AW.reg tok (by simp [*]; rfl) ?_ | refine AW.ifB (by simp [*]; rfl) ?_ | refine IfG.t ?_ | refine IfG.f ?_ | (refine IfG.p (fun hg => ?_) (fun hg => ?_) <;> (try (have hg' := hg; simp at hg'))) | (refine IfG.n (fun hg => ?_) (fun hg => ?_) <;> (try (have hg' := hg; simp at hg'))) | (refine OutOK.gateP (fun hg => ?_) (fun hg => ?_) <;> (try (have hg' := hg; simp at hg'))) | (refine OutOK.gateN (fun hg => ?_) (fun hg => ?_) <;> (try (have hg' := hg; simp at hg'))) | (refine IfG.g (fun hg => ?_) (fun hg => ?_) <;> (try (have hg' := hg; simp at hg'))) | (refine OutOK.gate (fun hg => ?_) (fun hg => ?_) <;> (try (have hg' := hg; simp at hg'))) | (refine OutOK.callF [] (by simp [*]; rfl) (by simp [*]; rfl) (by simp [*]; rfl) hb113 (by apply cn <;> first | assumption | exact Hd.out (by assumption) | ((try (clear e0)); (try (clear e1)); (try (clear e2)); (try (clear e3)); (try (clear e4)); (try (clear e5)); (try (clear e6)); (try (clear e7)); (try (clear e8)); (try (clear e9)); (try (clear e10)); (try (clear e11)); omega)) ⟨by simp [*], by simp [*], by simp [*], by simp [*], by simp [*]⟩ (by simp [*]) (by simp [*]; rfl) ?_) | (refine OutOK.callF [] (by simp [*]; rfl) (by simp [*]; rfl) (by simp [*]; rfl) hb114 (by apply ct <;> first | assumption | exact Hd.out (by assumption) | ((try (clear e0)); (try (clear e1)); (try (clear e2)); (try (clear e3)); (try (clear e4)); (try (clear e5)); (try (clear e6)); (try (clear e7)); (try (clear e8)); (try (clear e9)); (try (clear e10)); (try (clear e11)); omega)) ⟨by simp [*], by simp [*], by simp [*], by simp [*], by simp [*]⟩ (by simp [*]) (by simp [*]; rfl) ?_) | (refine OutOK.callF [] (by simp [*]; rfl) (by simp [*]; rfl) (by simp [*]; rfl) hb112 (by apply cf <;> first | assumption | exact Hd.out (by assumption) | ((try (clear e0)); (try (clear e1)); (try (clear e2)); (try (clear e3)); (try (clear e4)); (try (clear e5)); (try (clear e6)); (try (clear e7)); (try (clear e8)); (try (clear e9)); (try (clear e10)); (try (clear e11)); omega)) ⟨by simp [*], by simp [*], by simp [*], by simp [*], by simp [*]⟩ (by simp [*]) (by simp [*]; rfl) ?_) | (refine OutOK.callF [] (by simp [*]; rfl) (by simp [*]; rfl) (by simp [*]; rfl) hb64 (by apply c_spec_l1In <;> first | assumption | exact Hd.out (by assumption) | ((try (clear e0)); (try (clear e1)); (try (clear e2)); (try (clear e3)); (try (clear e4)); (try (clear e5)); (try (clear e6)); (try (clear e7)); (try (clear e8)); (try (clear e9)); (try (clear e10)); (try (clear e11)); omega)) ⟨by simp [*], by simp [*], by simp [*], by simp [*], by simp [*]⟩ (by simp [*]) (by simp [*]; rfl) ?_) | refine OutOK.run (by simp [*]; rfl) ?_ | refine AW.ret ?_ | refine AW.skip ?_ | refine AW.exit ?_ | refine fin_r ?_ | refine fin_n ?_ | refine AW.block ?_ | refine blockQ_n ?_ | refine blockQ_r ?_ | refine blockQ_e ?_ | refine blockQ_o rfl ?_)
    exact .inl ⟨rfl, hn.out, by simp [Try.f65]⟩
  clear hx
  replace hn : Hd _ := hn
  clear hge hw
  repeat' (first | with_reducible refine OutOK.done ?_ | refine thenQ_n ?_ | refine thenQ_r ?_ | refine thenQ_e ?_ | refine AW.seq ?_ | refine AW.dreg tok mixed [15, 16]  [(0, false), (1, false), (2, false), (3, false), (4, false), (5, false), (6, false), (7, false), (8, false), (9, false), (10, false), (11, false), (12, false), (14, false), (13, false), (15, true), (16, true), (17, false), (18, false)] (by decide +kernel) rfl (by simp [*]; rfl) ?_ | refine AW.reg tok (by simp [*]; rfl) ?_ | refine AW.ifB (by simp [*]; rfl) ?_ | refine IfG.t ?_ | refine IfG.f ?_ | (refine IfG.p (fun hg => ?_) (fun hg => ?_) <;> (try (have hg' := hg; simp at hg'))) | (refine IfG.n (fun hg => ?_) (fun hg => ?_) <;> (try (have hg' := hg; simp at hg'))) | (refine OutOK.gateP (fun hg => ?_) (fun hg => ?_) <;> (try (have hg' := hg; simp at hg'))) | (refine OutOK.gateN (fun hg => ?_) (fun hg => ?_) <;> (try (have hg' := hg; simp at hg'))) | (refine IfG.g (fun hg => ?_) (fun hg => ?_) <;> (try (have hg' := hg; simp at hg'))) | (refine OutOK.gate (fun hg => ?_) (fun hg => ?_) <;> (try (have hg' := hg; simp at hg'))) | (refine OutOK.callF [] (by simp [*]; rfl) (by simp [*]; rfl) (by simp [*]; rfl) hb113 (by apply cn <;> first | assumption | exact Hd.out (by assumption) | ((try (clear e0)); (try (clear e1)); (try (clear e2)); (try (clear e3)); (try (clear e4)); (try (clear e5)); (try (clear e6)); (try (clear e7)); (try (clear e8)); (try (clear e9)); (try (clear e10)); (try (clear e11)); omega)) ⟨by simp [*], by simp [*], by simp [*], by simp [*], by simp [*]⟩ (by simp [*]) (by simp [*]; rfl) ?_) | (refine OutOK.callF [] (by simp [*]; rfl) (by simp [*]; rfl) (by simp [*]; rfl) hb114 (by apply ct <;> first | assumption | exact Hd.out (by assumption) | ((try (clear e0)); (try (clear e1)); (try (clear e2)); (try (clear e3)); (try (clear e4)); (try (clear e5)); (try (clear e6)); (try (clear e7)); (try (clear e8)); (try (clear e9)); (try (clear e10)); (try (clear e11)); omega)) ⟨by simp [*], by simp [*], by simp [*], by simp [*], by simp [*]⟩ (by simp [*]) (by simp [*]; rfl) ?_) | (refine OutOK.callF [] (by simp [*]; rfl) (by simp [*]; rfl) (by simp [*]; rfl) hb112 (by apply cf <;> first | assumption | exact Hd.out (by assumption) | ((try (clear e0)); (try (clear e1)); (try (clear e2)); (try (clear e3)); (try (clear e4)); (try (clear e5)); (try (clear e6)); (try (clear e7)); (try (clear e8)); (try (clear e9)); (try (clear e10)); (try (clear e11)); omega)) ⟨by simp [*], by simp [*], by simp [*], by simp [*], by simp [*]⟩ (by simp [*]) (by simp [*]; rfl) ?_) | (refine OutOK.callF [] (by simp [*]; rfl) (by simp [*]; rfl) (by simp [*]; rfl) hb64 (by apply c_spec_l1In <;> first | assumption | exact Hd.out (by assumption) | ((try (clear e0)); (try (clear e1)); (try (clear e2)); (try (clear e3)); (try (clear e4)); (try (clear e5)); (try (clear e6)); (try (clear e7)); (try (clear e8)); (try (clear e9)); (try (clear e10)); (try (clear e11)); omega)) ⟨by simp [*], by simp [*], by simp [*], by simp [*], by simp [*]⟩ (by simp [*]) (by simp [*]; rfl) ?_) | refine OutOK.run (by simp [*]; rfl) ?_ | refine AW.ret ?_ | refine AW.skip ?_ | refine AW.exit ?_ | refine fin_r ?_ | refine fin_n ?_ | refine AW.block ?_ | refine blockQ_n ?_ | refine blockQ_r ?_ | refine blockQ_e ?_ | refine blockQ_o rfl ?_)
  exact .inl ⟨rfl, hn.out, by simp [Try.f65]⟩
end Go.Proofs.Ytbofobjofngoeaa.EngS


set_option linter.unusedSimpArgs false
set_option linter.unusedVariables false
set_option maxHeartbeats 4000000
set_option maxRecDepth 100000
namespace Go.Proofs.Ytbofobjofngoeaa.EngS
open Go Go.Proofs Go.Eng Go.RowKit
attribute [local irreducible] Go.RowKit.wrap64
theorem play_bad {its : List Itm} {kd : Int} {nm tx : ByteArray} (h3 : 3 ≤ kd) (hx : ¬ tx.toList = []) : playE its ⟨kd, nm, tx⟩ = none := by
  unfold playE
  split
  · split
    · rw [if_neg (by simp only; omega)]
    · rw [if_neg (by simp only; omega), if_neg (by simp [hx]), if_neg (by simp [hx])]
  · rfl
theorem w_ply (l : List Ent) (its : List Itm) (i : Nat) (hl : i < l.length) (h40 : l.length ≤ 40) (hil : its.length ≤ 40) (hw : ∀ e ∈ l, EntW e) :
    AW Try.prog 98 (cAt Try.f65 [2, 2, 1, 2, 5, 7]) (mk [(0, .c (.sl true 3 (ents l))), (4, .rf 58000 []), (5, .c (.sc (.int .i64 (i : Int))))] [(58000, .sv (.sl false 3 (itms its)))]) (PlyQ l its i) := by
  have hw := hw l[i] (List.getElem_mem hl)
  obtain ⟨kd, nm, tx, he⟩ : ∃ kd nm tx, l[i] = ⟨kd, nm, tx⟩ := ⟨_, _, _, rfl⟩
  rw [he] at hw
  cases hN : nameOK nm with
  | false => exact s_ply_n l its i kd nm tx hl he h40 hil hw hN
  | true =>
    cases hT : textOK tx with
    | false => exact s_ply_t l its i kd nm tx hl he h40 hil hw hN hT
    | true =>
      by_cases hb : 3 ≤ kd ∧ ¬ tx.toList = []
      · exact s_ply_x l its i kd nm tx hl he h40 hil hw ⟨hN, hT⟩ (play_bad hb.1 hb.2) hb.1 hb.2
      have hx : 3 ≤ kd → tx.toList = [] := fun h => Classical.byContradiction fun e => hb ⟨h, e⟩
      rcases idx_cases (fun x : Itm => decide (x.nm.toList = nm.toList)) its with hf | ⟨k, hf, hkl⟩
      · by_cases h1 : kd = 1
        · exact s_ply_1 l its i kd nm tx hl he h40 hil hw ⟨hN, hT⟩ hf h1
        · exact s_ply_1n l its i kd nm tx hl he h40 hil hw ⟨hN, hT⟩ hf h1 hx
      by_cases h1 : kd = 1
      · exact s_ply_o l its i kd nm tx hl he h40 hil hw ⟨hN, hT⟩ k hf hkl h1
      by_cases h2 : kd = 2
      · cases hv : its[k].vd
        · exact s_ply_2 l its i kd nm tx hl he h40 hil hw ⟨hN, hT⟩ k hf hkl h2 hv
        · exact s_ply_2n l its i kd nm tx hl he h40 hil hw ⟨hN, hT⟩ k hf hkl h2 hv
      by_cases h3 : kd = 3
      · cases hv : its[k].vd
        · exact s_ply_3 l its i kd nm tx hl he h40 hil hw ⟨hN, hT⟩ k hf hkl h3 (hx (by omega)) hv
        · exact s_ply_3n l its i kd nm tx hl he h40 hil hw ⟨hN, hT⟩ k hf hkl h3 (hx (by omega)) hv
      by_cases h4 : kd = 4
      · cases hv : its[k].vd
        · exact s_ply_4n l its i kd nm tx hl he h40 hil hw ⟨hN, hT⟩ k hf hkl h4 (hx (by omega)) hv
        · exact s_ply_4 l its i kd nm tx hl he h40 hil hw ⟨hN, hT⟩ k hf hkl h4 (hx (by omega)) hv
      · exact s_ply_z l its i kd nm tx hl he h40 hil hw ⟨hN, hT⟩ k hf hkl h1 (by rw [inR_not]; omega) hx
theorem x_spec_l21Play (l : List Ent) (h40 : l.length ≤ 40) (hw : ∀ e ∈ l, EntW e) : ACallX Try.prog 65 [.v (.sl true 3 (ents l))] (fun x : List Itm => x.length ≤ l.length ∧ ∀ m, playL [] l = some m → x = m) (fun _ => [.x]) (fun x => [.v (.sl false 3 (itms x)), boo (playL [] l).isSome]) := by
  have hP : Hd (playL [] l = playL [] (l.drop 0)) := by simp [Hd]
  have hw' : Hd _ := hw
  generalize playL [] l = pl at *
  clear hw
  refine ACallX.of (N := 98) tok Try.func65 rfl rfl rfl (by simp) ?_
  repeat' (first | with_reducible refine OutOK.done ?_ | refine thenQ_n ?_ | refine thenQ_r ?_ | refine thenQ_e ?_ | refine AW.seq ?_ | refine AW.dreg tok mixed [15, 16]  [(0, false), (1, false), (2, false), (3, false), (4, false), (5, false), (6, false), (7, false), (8, false), (9, false), (10, false), (11, false), (12, false), (14, false), (13, false), (15, true), (16, true), (17, false), (18, false)] (by decide +kernel) rfl (by simp [*]; rfl) ?_ | refine AW.reg tok (by simp [*]; rfl) ?_ | refine AW.ifB (by simp [*]; rfl) ?_ | refine IfG.t ?_ | refine IfG.f ?_ | (refine IfG.p (fun hg => ?_) (fun hg => ?_) <;> (try (have hg' := hg; simp at hg'))) | (refine IfG.n (fun hg => ?_) (fun hg => ?_) <;> (try (have hg' := hg; simp at hg'))) | (refine OutOK.gateP (fun hg => ?_) (fun hg => ?_) <;> (try (have hg' := hg; simp at hg'))) | (refine OutOK.gateN (fun hg => ?_) (fun hg => ?_) <;> (try (have hg' := hg; simp at hg'))) | (refine IfG.g (fun hg => ?_) (fun hg => ?_) <;> (try (have hg' := hg; simp at hg'))) | (refine OutOK.gate (fun hg => ?_) (fun hg => ?_) <;> (try (have hg' := hg; simp at hg'))) | refine OutOK.run (by simp [*]; rfl) ?_ | refine AW.ret ?_ | refine AW.skip ?_ | refine AW.exit ?_ | refine fin_r ?_ | refine fin_n ?_ | refine AW.block ?_ | refine blockQ_n ?_ | refine blockQ_r ?_ | refine blockQ_e ?_ | refine blockQ_o rfl ?_)
  refine AW.loopS (α := Nat × List Itm) (fun q => q.1 ≤ l.length ∧ q.2.length ≤ q.1 ∧ Hd (pl = playL q.2 (l.drop q.1))) (fun q => [(0, .c (.sl true 3 (ents l))), (4, .rf 58000 []), (5, .c (.sc (.int .i64 (q.1 : Int))))])
    (fun q => [(58000, .sv (.sl false 3 (itms q.2)))]) (fun q => l.length - q.1) (0, []) ⟨Nat.zero_le _, by simp, hP⟩ [(9000, 58000)] (by simp) ⟨by simp, by simp, by simp⟩ ?_
  rintro ⟨i, its⟩ ⟨hi, hil, hp⟩
  simp only at hi hil hp
  rcases Nat.lt_or_ge i l.length with hl | hl
  · refine (w_ply l its i hl h40 (by omega) hw'.out).mono fun e st hq => ?_
    have hge : l[i]?.getD default = l[i] := by rw [List.getElem?_eq_getElem hl, Option.getD_some]
    rcases hq with ⟨rfl, hn, hq⟩ | ⟨rfl, m, hm, hml, hq⟩
    · rw [hge] at hn
      have hpn : pl = none := by rw [hp.out, playL_no hl hn]
      subst hpn
      exact ⟨.inr rfl, its, ⟨by omega, fun m e => by cases e⟩, hq⟩
    · rw [hge] at hm
      exact ⟨(i + 1, m), ⟨hl, by simp only; omega, by rw [Hd, hp.out, playL_go hl hm]⟩, ⟨[], by simp, hq⟩, by simp only; omega⟩
  · have hii : i = l.length := by omega
    subst hii
    have hps : pl = some its := by rw [hp.out, playL_end (Nat.le_refl _)]
    subst hps
    clear hP hp
    repeat' (first | with_reducible refine OutOK.done ?_ | refine thenQ_n ?_ | refine thenQ_r ?_ | refine thenQ_e ?_ | refine AW.seq ?_ | refine AW.dreg tok mixed [15, 16]  [(0, false), (1, false), (2, false), (3, false), (4, false), (5, false), (6, false), (7, false), (8, false), (9, false), (10, false), (11, false), (12, false), (14, false), (13, false), (15, true), (16, true), (17, false), (18, false)] (by decide +kernel) rfl (by simp [*]; rfl) ?_ | refine AW.reg tok (by simp [*]; rfl) ?_ | refine AW.ifB (by simp [*]; rfl) ?_ | refine IfG.t ?_ | refine IfG.f ?_ | (refine IfG.p (fun hg => ?_) (fun hg => ?_) <;> (try (have hg' := hg; simp at hg'))) | (refine IfG.n (fun hg => ?_) (fun hg => ?_) <;> (try (have hg' := hg; simp at hg'))) | (refine OutOK.gateP (fun hg => ?_) (fun hg => ?_) <;> (try (have hg' := hg; simp at hg'))) | (refine OutOK.gateN (fun hg => ?_) (fun hg => ?_) <;> (try (have hg' := hg; simp at hg'))) | (refine IfG.g (fun hg => ?_) (fun hg => ?_) <;> (try (have hg' := hg; simp at hg'))) | (refine OutOK.gate (fun hg => ?_) (fun hg => ?_) <;> (try (have hg' := hg; simp at hg'))) | refine OutOK.run (by simp [*]; rfl) ?_ | refine AW.ret ?_ | refine AW.skip ?_ | refine AW.exit ?_ | refine fin_r ?_ | refine fin_n ?_ | refine AW.block ?_ | refine blockQ_n ?_ | refine blockQ_r ?_ | refine blockQ_e ?_ | refine blockQ_o rfl ?_)
    exact ⟨its, ⟨hil, fun m e => by cases e; rfl⟩, by simp [Try.f65]⟩
theorem c_spec_l21Good (l : List Ent) (h : l.length ≤ 9223372036854775807) (hw : ∀ e ∈ l, EntW e) : ACall Try.prog 63 [.v (.sl true 3 (ents l))] [.x] [boo (regOK l)] := by
  rcases Nat.lt_or_ge 40 l.length with h40 | h40
  · have hb : regOK l = false := by simp [regOK]; omega
    rw [hb]
    have h40' : (40 : Int) < l.length := by omega
    clear hw hb
    refine ACall.of (N := 14) tok Try.func63 rfl rfl rfl (by simp) ?_
    repeat' (first | with_reducible refine OutOK.done ?_ | refine thenQ_n ?_ | refine thenQ_r ?_ | refine thenQ_e ?_ | refine AW.seq ?_ | refine AW.reg tok (by simp [*]; rfl) ?_ | refine AW.ifB (by simp [*]; rfl) ?_ | refine IfG.t ?_ | refine IfG.f ?_ | (refine IfG.p (fun hg => ?_) (fun hg => ?_) <;> (try (have hg' := hg; simp at hg'))) | (refine IfG.n (fun hg => ?_) (fun hg => ?_) <;> (try (have hg' := hg; simp at hg'))) | (refine OutOK.gateP (fun hg => ?_) (fun hg => ?_) <;> (try (have hg' := hg; simp at hg'))) | (refine OutOK.gateN (fun hg => ?_) (fun hg => ?_) <;> (try (have hg' := hg; simp at hg'))) | (refine IfG.g (fun hg => ?_) (fun hg => ?_) <;> (try (have hg' := hg; simp at hg'))) | (refine OutOK.gate (fun hg => ?_) (fun hg => ?_) <;> (try (have hg' := hg; simp at hg'))) | refine OutOK.run (by simp [*]; rfl) ?_ | refine AW.ret ?_ | refine AW.skip ?_ | refine AW.exit ?_ | refine fin_r ?_ | refine fin_n ?_ | refine AW.block ?_ | refine blockQ_n ?_ | refine blockQ_r ?_ | refine blockQ_e ?_ | refine blockQ_o rfl ?_)
    simp [Try.f63]
  have h40' : ¬ (40 : Int) < l.length := by omega
  refine ACallX.one ?_
  have cp := x_spec_l21Play l h40 hw
  have hb : regOK l = (playL [] l).isSome := by simp [regOK, h40]
  rw [hb]
  generalize (playL [] l).isSome = b at *
  generalize playL [] l = pl at *
  clear hw hb
  refine ACallX.of (N := 14) tok Try.func63 rfl rfl rfl (by simp) ?_
  repeat' (first | with_reducible refine OutOK.done ?_ | refine thenQ_n ?_ | refine thenQ_r ?_ | refine thenQ_e ?_ | refine AW.seq ?_ | refine AW.reg tok (by simp [*]; rfl) ?_ | refine AW.ifB (by simp [*]; rfl) ?_ | refine IfG.t ?_ | refine IfG.f ?_ | (refine IfG.p (fun hg => ?_) (fun hg => ?_) <;> (try (have hg' := hg; simp at hg'))) | (refine IfG.n (fun hg => ?_) (fun hg => ?_) <;> (try (have hg' := hg; simp at hg'))) | (refine OutOK.gateP (fun hg => ?_) (fun hg => ?_) <;> (try (have hg' := hg; simp at hg'))) | (refine OutOK.gateN (fun hg => ?_) (fun hg => ?_) <;> (try (have hg' := hg; simp at hg'))) | (refine IfG.g (fun hg => ?_) (fun hg => ?_) <;> (try (have hg' := hg; simp at hg'))) | (refine OutOK.gate (fun hg => ?_) (fun hg => ?_) <;> (try (have hg' := hg; simp at hg'))) | refine OutOK.run (by simp [*]; rfl) ?_ | refine AW.ret ?_ | refine AW.skip ?_ | refine AW.exit ?_ | refine fin_r ?_ | refine fin_n ?_ | refine AW.block ?_ | refine blockQ_n ?_ | refine blockQ_r ?_ | refine blockQ_e ?_ | refine blockQ_o rfl ?_)
  refine OutOK.callX [] (by simp [*]; rfl) (by simp [*]; rfl) (by simp [*]; rfl) hb65 (by apply cp <;> first | assumption | exact Hd.out (by assumption) | ((try (clear e0)); (try (clear e1)); (try (clear e2)); (try (clear e3)); (try (clear e4)); (try (clear e5)); (try (clear e6)); (try (clear e7)); (try (clear e8)); (try (clear e9)); (try (clear e10)); (try (clear e11)); omega)) ⟨by simp [*], by simp [*], by simp [*]⟩ (by simp [*]) (fun x hx => ?_)
  clear cp hx
  refine CallX.mk' ⟨by simp [*], by simp [*], by simp [*], by simp [*], by simp [*]⟩ (by simp [*]; rfl) ?_
  repeat' (first | with_reducible refine OutOK.done ?_ | refine thenQ_n ?_ | refine thenQ_r ?_ | refine thenQ_e ?_ | refine AW.seq ?_ | refine AW.reg tok (by simp [*]; rfl) ?_ | refine AW.ifB (by simp [*]; rfl) ?_ | refine IfG.t ?_ | refine IfG.f ?_ | (refine IfG.p (fun hg => ?_) (fun hg => ?_) <;> (try (have hg' := hg; simp at hg'))) | (refine IfG.n (fun hg => ?_) (fun hg => ?_) <;> (try (have hg' := hg; simp at hg'))) | (refine OutOK.gateP (fun hg => ?_) (fun hg => ?_) <;> (try (have hg' := hg; simp at hg'))) | (refine OutOK.gateN (fun hg => ?_) (fun hg => ?_) <;> (try (have hg' := hg; simp at hg'))) | (refine IfG.g (fun hg => ?_) (fun hg => ?_) <;> (try (have hg' := hg; simp at hg'))) | (refine OutOK.gate (fun hg => ?_) (fun hg => ?_) <;> (try (have hg' := hg; simp at hg'))) | refine OutOK.run (by simp [*]; rfl) ?_ | refine AW.ret ?_ | refine AW.skip ?_ | refine AW.exit ?_ | refine fin_r ?_ | refine fin_n ?_ | refine AW.block ?_ | refine blockQ_n ?_ | refine blockQ_r ?_ | refine blockQ_e ?_ | refine blockQ_o rfl ?_)
  exact ⟨(), trivial, by simp [Try.f63]⟩
end Go.Proofs.Ytbofobjofngoeaa.EngS


set_option linter.unusedSimpArgs false
set_option linter.unusedVariables false
set_option maxHeartbeats 4000000
set_option maxRecDepth 10000
namespace Go.Proofs.Ytbofobjofngoeaa.EngS
open Go Go.Proofs Go.Eng Go.RowKit
attribute [local irreducible] Go.RowKit.wrap64
def bys (xs : List Int) : List PV := xs.map fun x => .sc (.int .u8 x)
@[simp] theorem bys_len (xs) : (bys xs).length = xs.length := by simp [bys]
@[simp] theorem bys_get (xs : List Int) (i : Nat) : (bys xs)[i]? = (xs[i]?).map fun x => .sc (.int .u8 x) := by simp [bys]
@[simp] theorem bys_at (xs : List Int) (i : Nat) (h : i < (bys xs).length) : (bys xs)[i] = .sc (.int .u8 (xs[i]'(by simpa using h))) := by simp [bys]
@[simp] theorem bys_frz (xs) : PV.frzs (bys xs) = bys xs := by simp [bys]
abbrev curP (code : List Int) (a s : Int) : List PV := [.sl true 1 (bys code), .sc (.int .i64 a), .sc (.int .u64 s)]
def nxB (code : List Int) (a : Int) : Int := if a < (code.length : Int) then wrap64 (code[a.toNat]?.getD 0) else 0
def nxS (code : List Int) (a s : Int) : Int := IntKind.u64.wrap (IntKind.u64.wrap (IntKind.u64.wrap (s * 6364136223846793005) + IntKind.u64.wrap (nxB code a)) + 876876)
def nxV (code : List Int) (a s : Int) : Int := if a + 1 ≤ (code.length : Int) then nxB code a else wrap64 (IntKind.u64.wrap (((((nxS code a s).fdiv (2 ^ min 40 IntKind.u64.bits) % 2 ^ IntKind.u64.bits).toNat &&& 255 % 2 ^ IntKind.u64.bits : Nat)) : Int))
theorem u64_small (n : Nat) (h : n ≤ 255) : wrap64 (IntKind.u64.wrap (n : Int)) = (n : Int) := by
  have : IntKind.u64.wrap (n : Int) = (n : Int) := by
    simp [IntKind.wrap, IntKind.signed, IntKind.bits]
    omega
  rw [this]
  exact w64 (by omega) (by omega)
def BytesOK (code : List Int) : Prop := ∀ x ∈ code, 0 ≤ x ∧ x ≤ 255
theorem nxB_le {code : List Int} (hb : BytesOK code) (a : Int) (h0 : 0 ≤ a) : 0 ≤ nxB code a ∧ nxB code a ≤ 255 := by
  unfold nxB
  split
  · have hl : a.toNat < code.length := by omega
    rw [List.getElem?_eq_getElem hl]
    have := hb code[a.toNat] (List.getElem_mem hl)
    simp only [Option.getD_some]
    rw [w64 (by omega) (by omega)]
    exact this
  · omega
theorem nxV_le {code : List Int} (hb : BytesOK code) (a s : Int) (h0 : 0 ≤ a) : 0 ≤ nxV code a s ∧ nxV code a s ≤ 255 := by
  unfold nxV
  split
  · exact nxB_le hb a h0
  · have h := Nat.and_le_right (n := ((nxS code a s).fdiv (2 ^ min 40 IntKind.u64.bits) % 2 ^ IntKind.u64.bits).toNat) (m := 255 % 2 ^ IntKind.u64.bits)
    have h2 : 255 % 2 ^ IntKind.u64.bits = 255 := by decide
    rw [h2] at h ⊢
    rw [u64_small _ h]
    omega
theorem c_spec_l1Cur_next (code : List Int) (a s : Int) (h0 : 0 ≤ a) (h1 : a ≤ 1000000000000000) (hc : code.length ≤ 9223372036854775807) : ACall Try.prog 137 [.p (curP code a s)] [.p (curP code (a + 1) (nxS code a s))] [int (nxV code a s)] := by
  have e1 : wrap64 (a + 1) = a + 1 := w64 (by omega) (by omega)
  refine ACall.of (N := 62) tok Try.func137 rfl rfl rfl (by simp) ?_
  repeat' (first | with_reducible refine OutOK.done ?_ | refine thenQ_n ?_ | refine thenQ_r ?_ | refine thenQ_e ?_ | refine AW.seq ?_ | refine AW.dreg tok mixed [7, 8]  [(0, false), (1, false), (2, false), (4, false), (5, false), (6, false), (3, false), (7, true), (8, true), (9, false)] (by decide +kernel) rfl (by simp [*]; rfl) ?_ | refine AW.dreg tok mixed [7]  [(0, false), (1, false), (2, false), (4, false), (5, false), (6, false), (3, false), (7, true), (8, false), (9, false), (10, false), (11, false)] (by decide +kernel) rfl (by simp [*]; rfl) ?_ | refine AW.dreg tok mixed [7, 8]  [(0, false), (1, false), (2, false), (4, false), (5, false), (6, false), (3, false), (7, true), (8, true), (9, false)] (by decide +kernel) rfl (by simp [*]; rfl) ?_ | refine AW.reg tok (by simp [*]; rfl) ?_ | refine AW.ifB (by simp [*]; rfl) ?_ | refine IfG.t ?_ | refine IfG.f ?_ | (refine IfG.p (fun hg => ?_) (fun hg => ?_) <;> (try (have hg' := hg; simp at hg'))) | (refine IfG.n (fun hg => ?_) (fun hg => ?_) <;> (try (have hg' := hg; simp at hg'))) | (refine OutOK.gateP (fun hg => ?_) (fun hg => ?_) <;> (try (have hg' := hg; simp at hg'))) | (refine OutOK.gateN (fun hg => ?_) (fun hg => ?_) <;> (try (have hg' := hg; simp at hg'))) | (refine IfG.g (fun hg => ?_) (fun hg => ?_) <;> (try (have hg' := hg; simp at hg'))) | (refine OutOK.gate (fun hg => ?_) (fun hg => ?_) <;> (try (have hg' := hg; simp at hg'))) | refine OutOK.run (by simp [*]; rfl) ?_ | refine AW.ret ?_ | refine AW.skip ?_ | refine AW.exit ?_ | refine fin_r ?_ | refine fin_n ?_ | refine AW.block ?_ | refine blockQ_n ?_ | refine blockQ_r ?_ | refine blockQ_e ?_ | refine blockQ_o rfl ?_)
  all_goals simp [Try.f137, nxV, nxS, nxB, *]
theorem x_spec_l1Cur_next (code : List Int) (a s : Int) (h0 : 0 ≤ a) (h1 : a ≤ 1000000000000) (hc : code.length ≤ 9223372036854775807) (hb : BytesOK code) :
    ACallX Try.prog 137 [.p (curP code a s)] (fun x : Int × Int => 0 ≤ x.2 ∧ x.2 ≤ 255) (fun x => [.p (curP code (a + 1) x.1)]) (fun x => [int x.2]) :=
  ACallX.imp (c_spec_l1Cur_next code a s h0 (by omega) hc).x (fun _ => (nxS code a s, nxV code a s)) (fun _ _ => nxV_le hb a s h0) (fun _ _ => rfl) (fun _ _ => rfl)
theorem tmod_in {v n : Int} (h : 0 ≤ v) (hn : 0 < n) : 0 ≤ Int.tmod v n ∧ Int.tmod v n < n := by
  rw [Int.tmod_eq_emod_of_nonneg h]
  exact ⟨Int.emod_nonneg _ (by omega), Int.emod_lt_of_pos _ hn⟩
theorem x_spec_l1Cur_pick (code : List Int) (a s n : Int) (h0 : 0 ≤ a) (h1 : a ≤ 900000000000) (hc : code.length ≤ 9223372036854775807) (hb : BytesOK code) (hn : 1 < n) (hn' : n ≤ 1000000) :
    ACallX Try.prog 108 [.p (curP code a s), int n] (fun x : Int × Int × Int => a ≤ x.1 ∧ x.1 ≤ a + 2 ∧ 0 ≤ x.2.2 ∧ x.2.2 < n) (fun x => [.p (curP code x.1 x.2.1), .x]) (fun x => [int x.2.2]) := by
  have e1 : ¬ n ≤ 1 := by omega
  have e3 : ¬ n = 0 := by omega
  by_cases e2 : 200 < n
  · refine ACallX.of (N := 20) tok Try.func108 rfl rfl rfl (by simp) ?_
    repeat' (first | with_reducible refine OutOK.done ?_ | refine thenQ_n ?_ | refine thenQ_r ?_ | refine thenQ_e ?_ | refine AW.seq ?_ | refine AW.reg tok (by simp [*]; rfl) ?_ | refine AW.ifB (by simp [*]; rfl) ?_ | refine IfG.t ?_ | refine IfG.f ?_ | (refine IfG.p (fun hg => ?_) (fun hg => ?_) <;> (try (have hg' := hg; simp at hg'))) | (refine IfG.n (fun hg => ?_) (fun hg => ?_) <;> (try (have hg' := hg; simp at hg'))) | (refine OutOK.gateP (fun hg => ?_) (fun hg => ?_) <;> (try (have hg' := hg; simp at hg'))) | (refine OutOK.gateN (fun hg => ?_) (fun hg => ?_) <;> (try (have hg' := hg; simp at hg'))) | (refine IfG.g (fun hg => ?_) (fun hg => ?_) <;> (try (have hg' := hg; simp at hg'))) | (refine OutOK.gate (fun hg => ?_) (fun hg => ?_) <;> (try (have hg' := hg; simp at hg'))) | (refine OutOK.callX [] (by simp [*]; rfl) (by simp [*]; rfl) (by simp [*]; rfl) hb137 (by apply x_spec_l1Cur_next <;> first | assumption | exact Hd.out (by assumption) | ((try (clear e0)); (try (clear e1)); (try (clear e2)); (try (clear e3)); (try (clear e4)); (try (clear e5)); (try (clear e6)); (try (clear e7)); (try (clear e8)); (try (clear e9)); (try (clear e10)); (try (clear e11)); omega)) ⟨by simp [*], by simp [*], by simp [*]⟩ (by simp [*]) (fun x hx => CallX.mk' ⟨by simp [*], by simp [*], by simp [*], by simp [*], by simp [*]⟩ (by simp [*]; rfl) ?_)) | refine OutOK.run (by simp [*]; rfl) ?_ | refine AW.ret ?_ | refine AW.skip ?_ | refine AW.exit ?_ | refine fin_r ?_ | refine fin_n ?_ | refine AW.block ?_ | refine blockQ_n ?_ | refine blockQ_r ?_ | refine blockQ_e ?_ | refine blockQ_o rfl ?_)
    rename_i x1 hx1
    have hv := tmod_in (v := wrap64 (wrap64 (x1.2 * 256) + x.2)) (n := n) (by rw [w64 (x := x1.2 * 256) (by omega) (by omega), w64 (by omega) (by omega)]; omega) (by omega)
    exact ⟨(a + 1 + 1, x.1, Int.tmod (wrap64 (wrap64 (x1.2 * 256) + x.2)) n), ⟨by simp only; omega, by simp only; omega, hv.1, hv.2⟩, by simp [Try.f108]⟩
  · refine ACallX.of (N := 20) tok Try.func108 rfl rfl rfl (by simp) ?_
    repeat' (first | with_reducible refine OutOK.done ?_ | refine thenQ_n ?_ | refine thenQ_r ?_ | refine thenQ_e ?_ | refine AW.seq ?_ | refine AW.reg tok (by simp [*]; rfl) ?_ | refine AW.ifB (by simp [*]; rfl) ?_ | refine IfG.t ?_ | refine IfG.f ?_ | (refine IfG.p (fun hg => ?_) (fun hg => ?_) <;> (try (have hg' := hg; simp at hg'))) | (refine IfG.n (fun hg => ?_) (fun hg => ?_) <;> (try (have hg' := hg; simp at hg'))) | (refine OutOK.gateP (fun hg => ?_) (fun hg => ?_) <;> (try (have hg' := hg; simp at hg'))) | (refine OutOK.gateN (fun hg => ?_) (fun hg => ?_) <;> (try (have hg' := hg; simp at hg'))) | (refine IfG.g (fun hg => ?_) (fun hg => ?_) <;> (try (have hg' := hg; simp at hg'))) | (refine OutOK.gate (fun hg => ?_) (fun hg => ?_) <;> (try (have hg' := hg; simp at hg'))) | (refine OutOK.callX [] (by simp [*]; rfl) (by simp [*]; rfl) (by simp [*]; rfl) hb137 (by apply x_spec_l1Cur_next <;> first | assumption | exact Hd.out (by assumption) | ((try (clear e0)); (try (clear e1)); (try (clear e2)); (try (clear e3)); (try (clear e4)); (try (clear e5)); (try (clear e6)); (try (clear e7)); (try (clear e8)); (try (clear e9)); (try (clear e10)); (try (clear e11)); omega)) ⟨by simp [*], by simp [*], by simp [*]⟩ (by simp [*]) (fun x hx => CallX.mk' ⟨by simp [*], by simp [*], by simp [*], by simp [*], by simp [*]⟩ (by simp [*]; rfl) ?_)) | refine OutOK.run (by simp [*]; rfl) ?_ | refine AW.ret ?_ | refine AW.skip ?_ | refine AW.exit ?_ | refine fin_r ?_ | refine fin_n ?_ | refine AW.block ?_ | refine blockQ_n ?_ | refine blockQ_r ?_ | refine blockQ_e ?_ | refine blockQ_o rfl ?_)
    have hv := tmod_in (v := x.2) (n := n) (by omega) (by omega)
    exact ⟨(a + 1, x.1, Int.tmod x.2 n), ⟨by simp only; omega, by simp only; omega, hv.1, hv.2⟩, by simp [Try.f108]⟩
theorem x_pickG (code : List Int) (a s n : Int) (h0 : 0 ≤ a) (h1 : a ≤ 900000000000) (hc : code.length ≤ 9223372036854775807) (hb : BytesOK code) (hn' : n ≤ 1000000) :
    ACallX Try.prog 108 [.p (curP code a s), int n] (fun x : Int × Int × Int => a ≤ x.1 ∧ x.1 ≤ a + 2 ∧ 0 ≤ x.2.2 ∧ (x.2.2 < n ∨ x.2.2 = 0)) (fun x => [.p (curP code x.1 x.2.1), .x]) (fun x => [int x.2.2]) := by
  by_cases hn : 1 < n
  · exact (x_spec_l1Cur_pick code a s n h0 h1 hc hb hn hn').imp id (fun x hx => ⟨hx.1, hx.2.1, hx.2.2.1, .inl hx.2.2.2⟩) (fun _ _ => rfl) (fun _ _ => rfl)
  · have e1 : n ≤ 1 := by omega
    refine ACallX.of (N := 20) tok Try.func108 rfl rfl rfl (by simp) ?_
    repeat' (first | with_reducible refine OutOK.done ?_ | refine thenQ_n ?_ | refine thenQ_r ?_ | refine thenQ_e ?_ | refine AW.seq ?_ | refine AW.reg tok (by simp [*]; rfl) ?_ | refine AW.ifB (by simp [*]; rfl) ?_ | refine IfG.t ?_ | refine IfG.f ?_ | (refine IfG.p (fun hg => ?_) (fun hg => ?_) <;> (try (have hg' := hg; simp at hg'))) | (refine IfG.n (fun hg => ?_) (fun hg => ?_) <;> (try (have hg' := hg; simp at hg'))) | (refine OutOK.gateP (fun hg => ?_) (fun hg => ?_) <;> (try (have hg' := hg; simp at hg'))) | (refine OutOK.gateN (fun hg => ?_) (fun hg => ?_) <;> (try (have hg' := hg; simp at hg'))) | (refine IfG.g (fun hg => ?_) (fun hg => ?_) <;> (try (have hg' := hg; simp at hg'))) | (refine OutOK.gate (fun hg => ?_) (fun hg => ?_) <;> (try (have hg' := hg; simp at hg'))) | refine OutOK.run (by simp [*]; rfl) ?_ | refine AW.ret ?_ | refine AW.skip ?_ | refine AW.exit ?_ | refine fin_r ?_ | refine fin_n ?_ | refine AW.block ?_ | refine blockQ_n ?_ | refine blockQ_r ?_ | refine blockQ_e ?_ | refine blockQ_o rfl ?_)
    exact ⟨(a, s, 0), ⟨by simp, by simp only; omega, by simp, .inr rfl⟩, by simp [Try.f108]⟩
theorem x_spec_l1Cur_one (code : List Int) (a s n : Int) (h0 : 0 ≤ a) (h1 : a ≤ 900000000000) (hc : code.length ≤ 9223372036854775807) (hb : BytesOK code) (hn : 1 < n) (hn' : n ≤ 1000000) :
    ACallX Try.prog 106 [.p (curP code a s), int n] (fun x : Int × Int × Bool => a ≤ x.1 ∧ x.1 ≤ a + 2) (fun x => [.p (curP code x.1 x.2.1), .x]) (fun x => [boo x.2.2]) := by
  refine ACallX.of (N := 9) tok Try.func106 rfl rfl rfl (by simp) ?_
  repeat' (first | with_reducible refine OutOK.done ?_ | refine thenQ_n ?_ | refine thenQ_r ?_ | refine thenQ_e ?_ | refine AW.seq ?_ | refine AW.reg tok (by simp [*]; rfl) ?_ | refine AW.ifB (by simp [*]; rfl) ?_ | refine IfG.t ?_ | refine IfG.f ?_ | (refine IfG.p (fun hg => ?_) (fun hg => ?_) <;> (try (have hg' := hg; simp at hg'))) | (refine IfG.n (fun hg => ?_) (fun hg => ?_) <;> (try (have hg' := hg; simp at hg'))) | (refine OutOK.gateP (fun hg => ?_) (fun hg => ?_) <;> (try (have hg' := hg; simp at hg'))) | (refine OutOK.gateN (fun hg => ?_) (fun hg => ?_) <;> (try (have hg' := hg; simp at hg'))) | (refine IfG.g (fun hg => ?_) (fun hg => ?_) <;> (try (have hg' := hg; simp at hg'))) | (refine OutOK.gate (fun hg => ?_) (fun hg => ?_) <;> (try (have hg' := hg; simp at hg'))) | (refine OutOK.callX [] (by simp [*]; rfl) (by simp [*]; rfl) (by simp [*]; rfl) hb108 (by apply x_spec_l1Cur_pick <;> first | assumption | exact Hd.out (by assumption) | ((try (clear e0)); (try (clear e1)); (try (clear e2)); (try (clear e3)); (try (clear e4)); (try (clear e5)); (try (clear e6)); (try (clear e7)); (try (clear e8)); (try (clear e9)); (try (clear e10)); (try (clear e11)); omega)) ⟨by simp [*], by simp [*], by simp [*]⟩ (by simp [*]) (fun x hx => CallX.mk' ⟨by simp [*], by simp [*], by simp [*], by simp [*], by simp [*]⟩ (by simp [*]; rfl) ?_)) | refine OutOK.run (by simp [*]; rfl) ?_ | refine AW.ret ?_ | refine AW.skip ?_ | refine AW.exit ?_ | refine fin_r ?_ | refine fin_n ?_ | refine AW.block ?_ | refine blockQ_n ?_ | refine blockQ_r ?_ | refine blockQ_e ?_ | refine blockQ_o rfl ?_)
  exact ⟨(x.1, x.2.1, decide (x.2.2 = 0)), ⟨hx.1, hx.2.1⟩, by simp [Try.f106]⟩
def strs (xs : List ByteArray) : List PV := xs.map fun x => .sc (.string x)
@[simp] theorem strs_len (xs) : (strs xs).length = xs.length := by simp [strs]
@[simp] theorem strs_get (xs : List ByteArray) (i : Nat) : (strs xs)[i]? = (xs[i]?).map fun x => .sc (.string x) := by simp [strs]
@[simp] theorem strs_at (xs : List ByteArray) (i : Nat) (h : i < (strs xs).length) : (strs xs)[i] = .sc (.string (xs[i]'(by simpa using h))) := by simp [strs]
@[simp] theorem strs_frz (xs) : PV.frzs (strs xs) = strs xs := by simp [strs]
theorem x_spec_l1Cur_of (code : List Int) (a s : Int) (xs : List ByteArray) (q : ByteArray → Prop) (h0 : 0 ≤ a) (h1 : a ≤ 900000000000) (hc : code.length ≤ 9223372036854775807) (hb : BytesOK code) (hn : 1 < xs.length) (hn' : xs.length ≤ 1000000) (hq : ∀ y ∈ xs, q y) :
    ACallX Try.prog 135 [.p (curP code a s), .v (.sl false 1 (strs xs))] (fun x : Int × Int × ByteArray => a ≤ x.1 ∧ x.1 ≤ a + 2 ∧ q x.2.2) (fun x => [.p (curP code x.1 x.2.1), .x]) (fun x => [.v (.sc (.string x.2.2))]) := by
  replace hq : Hd _ := hq
  have hn2 : (1 : Int) < xs.length := by omega
  refine ACallX.of (N := 12) tok Try.func135 rfl rfl rfl (by simp) ?_
  repeat' (first | with_reducible refine OutOK.done ?_ | refine thenQ_n ?_ | refine thenQ_r ?_ | refine thenQ_e ?_ | refine AW.seq ?_ | refine AW.reg tok (by simp [*]; rfl) ?_ | refine AW.ifB (by simp [*]; rfl) ?_ | refine IfG.t ?_ | refine IfG.f ?_ | (refine IfG.p (fun hg => ?_) (fun hg => ?_) <;> (try (have hg' := hg; simp at hg'))) | (refine IfG.n (fun hg => ?_) (fun hg => ?_) <;> (try (have hg' := hg; simp at hg'))) | (refine OutOK.gateP (fun hg => ?_) (fun hg => ?_) <;> (try (have hg' := hg; simp at hg'))) | (refine OutOK.gateN (fun hg => ?_) (fun hg => ?_) <;> (try (have hg' := hg; simp at hg'))) | (refine IfG.g (fun hg => ?_) (fun hg => ?_) <;> (try (have hg' := hg; simp at hg'))) | (refine OutOK.gate (fun hg => ?_) (fun hg => ?_) <;> (try (have hg' := hg; simp at hg'))) | refine OutOK.run (by simp [*]; rfl) ?_ | refine AW.ret ?_ | refine AW.skip ?_ | refine AW.exit ?_ | refine fin_r ?_ | refine fin_n ?_ | refine AW.block ?_ | refine blockQ_n ?_ | refine blockQ_r ?_ | refine blockQ_e ?_ | refine blockQ_o rfl ?_)
  refine OutOK.callX [] (by simp [*]; rfl) (by simp [*]; rfl) (by simp [*]; rfl) hb108 (by apply x_spec_l1Cur_pick <;> first | assumption | exact Hd.out (by assumption) | ((try (clear e0)); (try (clear e1)); (try (clear e2)); (try (clear e3)); (try (clear e4)); (try (clear e5)); (try (clear e6)); (try (clear e7)); (try (clear e8)); (try (clear e9)); (try (clear e10)); (try (clear e11)); omega)) ⟨by simp [*], by simp [*], by simp [*]⟩ (by simp [*]) (fun x hx => ?_)
  have hk : x.2.2.toNat < xs.length := by omega
  refine CallX.mk' ⟨by simp [*], by simp [*], by simp [*], by simp [*], by simp [*]⟩ (by simp [*]; rfl) ?_
  repeat' (first | with_reducible refine OutOK.done ?_ | refine thenQ_n ?_ | refine thenQ_r ?_ | refine thenQ_e ?_ | refine AW.seq ?_ | refine AW.reg tok (by simp [*]; rfl) ?_ | refine AW.ifB (by simp [*]; rfl) ?_ | refine IfG.t ?_ | refine IfG.f ?_ | (refine IfG.p (fun hg => ?_) (fun hg => ?_) <;> (try (have hg' := hg; simp at hg'))) | (refine IfG.n (fun hg => ?_) (fun hg => ?_) <;> (try (have hg' := hg; simp at hg'))) | (refine OutOK.gateP (fun hg => ?_) (fun hg => ?_) <;> (try (have hg' := hg; simp at hg'))) | (refine OutOK.gateN (fun hg => ?_) (fun hg => ?_) <;> (try (have hg' := hg; simp at hg'))) | (refine IfG.g (fun hg => ?_) (fun hg => ?_) <;> (try (have hg' := hg; simp at hg'))) | (refine OutOK.gate (fun hg => ?_) (fun hg => ?_) <;> (try (have hg' := hg; simp at hg'))) | refine OutOK.run (by simp [*]; rfl) ?_ | refine AW.ret ?_ | refine AW.skip ?_ | refine AW.exit ?_ | refine fin_r ?_ | refine fin_n ?_ | refine AW.block ?_ | refine blockQ_n ?_ | refine blockQ_r ?_ | refine blockQ_e ?_ | refine blockQ_o rfl ?_)
  exact ⟨(x.1, x.2.1, xs[x.2.2.toNat]), ⟨hx.1, hx.2.1, hq.out _ (List.getElem_mem hk)⟩, by simp [Try.f135]⟩
theorem c_laws_vBig (code : List Int) : ACall Try.prog 14 [.v (.sl true 1 (bys code))] [.x] [boo (decide (65536 < (code.length : Int)))] := by
  refine ACall.of (N := 6) tok Try.func14 rfl rfl rfl (by simp) ?_
  repeat' (first | with_reducible refine OutOK.done ?_ | refine thenQ_n ?_ | refine thenQ_r ?_ | refine thenQ_e ?_ | refine AW.seq ?_ | refine AW.reg tok (by simp [*]; rfl) ?_ | refine AW.ifB (by simp [*]; rfl) ?_ | refine IfG.t ?_ | refine IfG.f ?_ | (refine IfG.p (fun hg => ?_) (fun hg => ?_) <;> (try (have hg' := hg; simp at hg'))) | (refine IfG.n (fun hg => ?_) (fun hg => ?_) <;> (try (have hg' := hg; simp at hg'))) | (refine OutOK.gateP (fun hg => ?_) (fun hg => ?_) <;> (try (have hg' := hg; simp at hg'))) | (refine OutOK.gateN (fun hg => ?_) (fun hg => ?_) <;> (try (have hg' := hg; simp at hg'))) | (refine IfG.g (fun hg => ?_) (fun hg => ?_) <;> (try (have hg' := hg; simp at hg'))) | (refine OutOK.gate (fun hg => ?_) (fun hg => ?_) <;> (try (have hg' := hg; simp at hg'))) | refine OutOK.run (by simp [*]; rfl) ?_ | refine AW.ret ?_ | refine AW.skip ?_ | refine AW.exit ?_ | refine fin_r ?_ | refine fin_n ?_ | refine AW.block ?_ | refine blockQ_n ?_ | refine blockQ_r ?_ | refine blockQ_e ?_ | refine blockQ_o rfl ?_)
  all_goals (try simp [*, Try.f14])
end Go.Proofs.Ytbofobjofngoeaa.EngS


set_option linter.unusedSimpArgs false
set_option linter.unusedVariables false
set_option maxHeartbeats 4000000
set_option maxRecDepth 100000
namespace Go.Proofs.Ytbofobjofngoeaa.EngS
open Go Go.Proofs Go.Eng Go.RowKit
attribute [local irreducible] Go.RowKit.wrap64
@[simp] theorem strs_snoc (l : List ByteArray) (a : ByteArray) : strs l ++ [.sc (.string a)] = strs (l ++ [a]) := by simp [strs]
@[simp] theorem strs_nil : strs [] = [] := rfl
@[simp] theorem strs_coks (xs) : PV.coks (strs xs) = true := by
  induction xs with
  | nil => rfl
  | cons x xs ih => simp only [strs, List.map_cons, PV.coks, PV.cok] at ih ⊢; rw [ih]; rfl
@[simp] theorem strs_nofz (xs) : PV.nofzs (strs xs) = true := by
  induction xs with
  | nil => rfl
  | cons x xs ih => simp only [strs, List.map_cons, PV.nofzs, PV.nofz] at ih ⊢; rw [ih]; rfl
@[simp] theorem strs_flat (xs) : (strs xs).all PV.flat1 = true := by
  induction xs with
  | nil => rfl
  | cons x xs ih => simp only [strs, List.map_cons, List.all_cons] at ih ⊢; rw [ih]; rfl
@[simp] theorem strs_flat' (xs) : (∀ x ∈ strs xs, x.flat1 = true) ↔ True := by
  have := strs_flat xs
  rw [List.all_eq_true] at this
  exact ⟨fun _ => trivial, fun _ => this⟩
theorem playL_len {m : List Itm} : ∀ {l : List Ent} {its : List Itm}, playL its l = some m → m.length ≤ its.length + l.length
  | [], its, h => by simp [playL] at h; subst h; simp
  | e :: es, its, h => by
    rw [playL] at h
    cases hp : playE its e with
    | none => rw [hp] at h; cases h
    | some m1 =>
      rw [hp] at h
      have h1 := playL_len h
      have h2 : m1.length ≤ its.length + 1 := by
        unfold playE at hp
        split at hp
        · split at hp
          · split at hp
            · cases hp; simp
            · cases hp
          · split at hp
            · cases hp; simp
            · split at hp
              · cases hp; simp
              · split at hp
                · cases hp; simp
                · cases hp
        · cases hp
      simp only [List.length_cons]; omega
theorem regI_len (l : List Ent) : (regI l).length ≤ 40 := by
  unfold regI
  split
  · rename_i h
    simp only [regOK, Bool.and_eq_true, decide_eq_true_eq] at h
    cases hp : playL [] l with
    | none => simp
    | some m => have := playL_len (its := []) hp; simp at this ⊢; omega
  · simp
theorem c_slices_Clone_entry (l : List Ent) (h : l.length ≤ 1000) : ACall Try.prog 67 [.v (.sl true 3 (ents l))] [.x] [.v (.sl false 3 (ents l))] := by
  have h1 : (l.length : Int) * 40 ≤ 140737488355328 := by omega
  have h2 : (l.length : Int) ≤ 4611686018427387904 := by omega
  have h3 : l.length * 40 ≤ 140737488355328 := by omega
  have h4 : l.length ≤ 4611686018427387904 := by omega
  refine ACall.of (N := 8) tok Try.func67 rfl rfl rfl (by simp) ?_
  repeat' (first | with_reducible refine OutOK.done ?_ | refine thenQ_n ?_ | refine thenQ_r ?_ | refine thenQ_e ?_ | refine AW.seq ?_ | (refine AW.isNil tok rfl rfl rfl (by simp [*]; rfl) (by simp [*]; done) (by decide) ?_; intro hb hc; cases hb <;> simp at hc) | refine AW.reg tok (by simp [*]; rfl) ?_ | refine AW.ifB (by simp [*]; rfl) ?_ | refine IfG.t ?_ | refine IfG.f ?_ | (refine IfG.p (fun hg => ?_) (fun hg => ?_) <;> (try (have hg' := hg; simp at hg'))) | (refine IfG.n (fun hg => ?_) (fun hg => ?_) <;> (try (have hg' := hg; simp at hg'))) | (refine OutOK.gateP (fun hg => ?_) (fun hg => ?_) <;> (try (have hg' := hg; simp at hg'))) | (refine OutOK.gateN (fun hg => ?_) (fun hg => ?_) <;> (try (have hg' := hg; simp at hg'))) | (refine IfG.g (fun hg => ?_) (fun hg => ?_) <;> (try (have hg' := hg; simp at hg'))) | (refine OutOK.gate (fun hg => ?_) (fun hg => ?_) <;> (try (have hg' := hg; simp at hg'))) | refine OutOK.run (by simp [*]; rfl) ?_ | refine AW.ret ?_ | refine AW.skip ?_ | refine AW.exit ?_ | refine fin_r ?_ | refine fin_n ?_ | refine AW.block ?_ | refine blockQ_n ?_ | refine blockQ_r ?_ | refine blockQ_e ?_ | refine blockQ_o rfl ?_)
  all_goals (try simp [*, Try.f67])
def namL (p : Itm → Bool) (l : List Itm) : List ByteArray := (l.filter p).map (·.nm)
theorem namL_yes {p : Itm → Bool} {l : List Itm} {i : Nat} (h : i < l.length) (hp : p l[i] = true) : namL p (l.take (i + 1)) = namL p (l.take i) ++ [l[i].nm] := by
  rw [namL, List.take_succ_eq_append_getElem h, List.filter_append, List.map_append]; simp [namL, hp]
theorem namL_no {p : Itm → Bool} {l : List Itm} {i : Nat} (h : i < l.length) (hp : p l[i] = false) : namL p (l.take (i + 1)) = namL p (l.take i) := by
  rw [namL, List.take_succ_eq_append_getElem h, List.filter_append, List.map_append]; simp [namL, hp]
theorem namL_len (p : Itm → Bool) (l : List Itm) : (namL p l).length ≤ l.length := by simp only [namL, List.length_map]; exact List.length_filter_le _ _
theorem c_impl_namesOf (l : List Itm) (f : Nat) (C : List PV) (p : Itm → Bool) (h : l.length ≤ 40) (hbf : HasBody Try.prog f) (cf : ∀ x ∈ l, ACall Try.prog f [itmD x, .p C] [.x, .p C] [boo (p x)]) :
    ACall Try.prog 60 [.v (.sl true 3 (itms l)), .f f [C]] [.x, .f f [C]] [.v (.sl false 1 (strs (namL p l)))] := by
  replace cf : Hd _ := cf
  refine ACall.of (N := 25) tok Try.func60 rfl rfl rfl (by simp) ?_
  repeat' (first | with_reducible refine OutOK.done ?_ | refine thenQ_n ?_ | refine thenQ_r ?_ | refine thenQ_e ?_ | refine AW.seq ?_ | refine AW.reg tok (by simp [*]; rfl) ?_ | refine AW.ifB (by simp [*]; rfl) ?_ | refine IfG.t ?_ | refine IfG.f ?_ | (refine IfG.p (fun hg => ?_) (fun hg => ?_) <;> (try (have hg' := hg; simp at hg'))) | (refine IfG.n (fun hg => ?_) (fun hg => ?_) <;> (try (have hg' := hg; simp at hg'))) | (refine OutOK.gateP (fun hg => ?_) (fun hg => ?_) <;> (try (have hg' := hg; simp at hg'))) | (refine OutOK.gateN (fun hg => ?_) (fun hg => ?_) <;> (try (have hg' := hg; simp at hg'))) | (refine IfG.g (fun hg => ?_) (fun hg => ?_) <;> (try (have hg' := hg; simp at hg'))) | (refine OutOK.gate (fun hg => ?_) (fun hg => ?_) <;> (try (have hg' := hg; simp at hg'))) | refine OutOK.run (by simp [*]; rfl) ?_ | refine AW.ret ?_ | refine AW.skip ?_ | refine AW.exit ?_ | refine fin_r ?_ | refine fin_n ?_ | refine AW.block ?_ | refine blockQ_n ?_ | refine blockQ_r ?_ | refine blockQ_e ?_ | refine blockQ_o rfl ?_)
  refine AW.loopS (fun i => i ≤ l.length) (fun i => [(1, .fn f [.pt 100000051 [] 0]), (5, .rf 22000 []), (9, .c (.sl true 3 (itms l))), (10, .c (.sc (.int .i64 (l.length : Int)))), (11, .c (.sc (.int .i64 (i : Int))))])
    (fun i => [(22000, .sv (.sl false 1 (strs (namL p (l.take i))))), (100000051, .bx C)]) (fun i => l.length - i) 0 (Nat.zero_le _) [(8000, 22000)] (by simp) ⟨by simp, by simp [namL], by simp⟩ ?_
  intro i hi
  rcases Nat.lt_or_ge i l.length with hl | hl
  · have e1 : wrap64 ((i : Int) + 1) = ((i + 1 : Nat) : Int) := by rw [w64 (by omega) (by omega)]; omega
    have cs := cf.out l[i] (List.getElem_mem hl)
    have hln := namL_len p (l.take i)
    have hln2 : (namL p (l.take i)).length ≤ 40 := by rw [List.length_take] at hln; ((try (clear e0)); (try (clear e1)); (try (clear e2)); (try (clear e3)); (try (clear e4)); (try (clear e5)); (try (clear e6)); (try (clear e7)); (try (clear e8)); (try (clear e9)); (try (clear e10)); (try (clear e11)); omega)
    have b1 : ((namL p (l.take i)).length + 1) * 16 ≤ 140737488355328 := by ((try (clear e0)); (try (clear e1)); (try (clear e2)); (try (clear e3)); (try (clear e4)); (try (clear e5)); (try (clear e6)); (try (clear e7)); (try (clear e8)); (try (clear e9)); (try (clear e10)); (try (clear e11)); omega)
    have b2 : (namL p (l.take i)).length + 1 ≤ 4611686018427387904 := by ((try (clear e0)); (try (clear e1)); (try (clear e2)); (try (clear e3)); (try (clear e4)); (try (clear e5)); (try (clear e6)); (try (clear e7)); (try (clear e8)); (try (clear e9)); (try (clear e10)); (try (clear e11)); omega)
    have hy : Hd (p l[i] = true → namL p (l.take (i + 1)) = namL p (l.take i) ++ [l[i].nm]) := namL_yes hl
    have hno : Hd (p l[i] = false → namL p (l.take (i + 1)) = namL p (l.take i)) := namL_no hl
    generalize hsn : namL p (l.take (i + 1)) = sn at *
    have hsn' : Hd _ := hsn
    clear hsn
    generalize hso : namL p (l.take i) = so at *
    have hso' : Hd _ := hso
    clear hso hln
    repeat' (first | with_reducible refine OutOK.done ?_ | refine thenQ_n ?_ | refine thenQ_r ?_ | refine thenQ_e ?_ | refine AW.seq ?_ | refine AW.reg tok (by simp [*]; rfl) ?_ | refine AW.ifB (by simp [*]; rfl) ?_ | refine IfG.t ?_ | refine IfG.f ?_ | (refine IfG.p (fun hg => ?_) (fun hg => ?_) <;> (try (have hg' := hg; simp at hg'))) | (refine IfG.n (fun hg => ?_) (fun hg => ?_) <;> (try (have hg' := hg; simp at hg'))) | (refine OutOK.gateP (fun hg => ?_) (fun hg => ?_) <;> (try (have hg' := hg; simp at hg'))) | (refine OutOK.gateN (fun hg => ?_) (fun hg => ?_) <;> (try (have hg' := hg; simp at hg'))) | (refine IfG.g (fun hg => ?_) (fun hg => ?_) <;> (try (have hg' := hg; simp at hg'))) | (refine OutOK.gate (fun hg => ?_) (fun hg => ?_) <;> (try (have hg' := hg; simp at hg'))) | (refine OutOK.callF [] (by simp [*]; rfl) (by simp [*]; rfl) (by simp [*]; rfl) hbf (by apply cs <;> first | assumption | exact Hd.out (by assumption) | ((try (clear e0)); (try (clear e1)); (try (clear e2)); (try (clear e3)); (try (clear e4)); (try (clear e5)); (try (clear e6)); (try (clear e7)); (try (clear e8)); (try (clear e9)); (try (clear e10)); (try (clear e11)); omega)) ⟨by simp [*], by simp [*], by simp [*], by simp [*], by simp [*]⟩ (by simp [*]) (by simp [*]; rfl) ?_) | refine OutOK.run (by simp [*]; rfl) ?_ | refine AW.ret ?_ | refine AW.skip ?_ | refine AW.exit ?_ | refine fin_r ?_ | refine fin_n ?_ | refine AW.block ?_ | refine blockQ_n ?_ | refine blockQ_r ?_ | refine blockQ_e ?_ | refine blockQ_o rfl ?_)
    · exact ⟨i + 1, hl, ⟨[], by simp, by simp, by simp [hsn'.out, hy.out (by assumption), hso'.out], by simp⟩, by ((try (clear e0)); (try (clear e1)); (try (clear e2)); (try (clear e3)); (try (clear e4)); (try (clear e5)); (try (clear e6)); (try (clear e7)); (try (clear e8)); (try (clear e9)); (try (clear e10)); (try (clear e11)); omega)⟩
    · exact ⟨i + 1, hl, ⟨[], by simp, by simp, by simp [hsn'.out, hno.out (by assumption), hso'.out], by simp⟩, by ((try (clear e0)); (try (clear e1)); (try (clear e2)); (try (clear e3)); (try (clear e4)); (try (clear e5)); (try (clear e6)); (try (clear e7)); (try (clear e8)); (try (clear e9)); (try (clear e10)); (try (clear e11)); omega)⟩
  · have hii : i = l.length := by omega
    subst hii
    repeat' (first | with_reducible refine OutOK.done ?_ | refine thenQ_n ?_ | refine thenQ_r ?_ | refine thenQ_e ?_ | refine AW.seq ?_ | refine AW.reg tok (by simp [*]; rfl) ?_ | refine AW.ifB (by simp [*]; rfl) ?_ | refine IfG.t ?_ | refine IfG.f ?_ | (refine IfG.p (fun hg => ?_) (fun hg => ?_) <;> (try (have hg' := hg; simp at hg'))) | (refine IfG.n (fun hg => ?_) (fun hg => ?_) <;> (try (have hg' := hg; simp at hg'))) | (refine OutOK.gateP (fun hg => ?_) (fun hg => ?_) <;> (try (have hg' := hg; simp at hg'))) | (refine OutOK.gateN (fun hg => ?_) (fun hg => ?_) <;> (try (have hg' := hg; simp at hg'))) | (refine IfG.g (fun hg => ?_) (fun hg => ?_) <;> (try (have hg' := hg; simp at hg'))) | (refine OutOK.gate (fun hg => ?_) (fun hg => ?_) <;> (try (have hg' := hg; simp at hg'))) | refine OutOK.run (by simp [*]; rfl) ?_ | refine AW.ret ?_ | refine AW.skip ?_ | refine AW.exit ?_ | refine fin_r ?_ | refine fin_n ?_ | refine AW.block ?_ | refine blockQ_n ?_ | refine blockQ_r ?_ | refine blockQ_e ?_ | refine blockQ_o rfl ?_)
    simp [Try.f60]
theorem c_impl_ItemNames_1 (x : Itm) (v : Bool) : ACall Try.prog 68 [itmD x, .p [.sc (.bool v)]] [.x, .p [.sc (.bool v)]] [boo ((x.vd == v))] := by
  refine ACall.of (N := 8) tok Try.func68 rfl rfl rfl (by simp) ?_
  repeat' (first | with_reducible refine OutOK.done ?_ | refine thenQ_n ?_ | refine thenQ_r ?_ | refine thenQ_e ?_ | refine AW.seq ?_ | refine AW.reg tok (by simp [*]; rfl) ?_ | refine AW.ifB (by simp [*]; rfl) ?_ | refine IfG.t ?_ | refine IfG.f ?_ | (refine IfG.p (fun hg => ?_) (fun hg => ?_) <;> (try (have hg' := hg; simp at hg'))) | (refine IfG.n (fun hg => ?_) (fun hg => ?_) <;> (try (have hg' := hg; simp at hg'))) | (refine OutOK.gateP (fun hg => ?_) (fun hg => ?_) <;> (try (have hg' := hg; simp at hg'))) | (refine OutOK.gateN (fun hg => ?_) (fun hg => ?_) <;> (try (have hg' := hg; simp at hg'))) | (refine IfG.g (fun hg => ?_) (fun hg => ?_) <;> (try (have hg' := hg; simp at hg'))) | (refine OutOK.gate (fun hg => ?_) (fun hg => ?_) <;> (try (have hg' := hg; simp at hg'))) | refine OutOK.run (by simp [*]; rfl) ?_ | refine AW.ret ?_ | refine AW.skip ?_ | refine AW.exit ?_ | refine fin_r ?_ | refine fin_n ?_ | refine AW.block ?_ | refine blockQ_n ?_ | refine blockQ_r ?_ | refine blockQ_e ?_ | refine blockQ_o rfl ?_)
  all_goals (try simp [*, Try.f68])
theorem c_impl_ItemNames (l : List Ent) (v : Bool) (h : l.length ≤ 9223372036854775807) (hw : ∀ e ∈ l, EntW e) (hr : regOK l = true) : ACall Try.prog 20 [.v (.sl true 3 (ents l)), boo v] [.x, .x] [.v (.sl false 1 (strs (namL (fun x => (x.vd == v)) (regI l)))), boo true] := by
  have cr := c_impl_replayed l h hw
  rw [hr] at cr
  have hl := regI_len l
  have cn := c_impl_namesOf (regI l) 68 [.sc (.bool v)] (fun x => (x.vd == v)) hl (by simp) (fun x _ => c_impl_ItemNames_1 x v)
  generalize namL (fun x : Itm => (x.vd == v)) (regI l) = nl at *
  generalize regI l = its at *
  clear hw hr
  refine ACall.of (N := 18) tok Try.func20 rfl rfl rfl (by simp) ?_
  repeat' (first | with_reducible refine OutOK.done ?_ | refine thenQ_n ?_ | refine thenQ_r ?_ | refine thenQ_e ?_ | refine AW.seq ?_ | refine AW.reg tok (by simp [*]; rfl) ?_ | refine AW.ifB (by simp [*]; rfl) ?_ | refine IfG.t ?_ | refine IfG.f ?_ | (refine IfG.p (fun hg => ?_) (fun hg => ?_) <;> (try (have hg' := hg; simp at hg'))) | (refine IfG.n (fun hg => ?_) (fun hg => ?_) <;> (try (have hg' := hg; simp at hg'))) | (refine OutOK.gateP (fun hg => ?_) (fun hg => ?_) <;> (try (have hg' := hg; simp at hg'))) | (refine OutOK.gateN (fun hg => ?_) (fun hg => ?_) <;> (try (have hg' := hg; simp at hg'))) | (refine IfG.g (fun hg => ?_) (fun hg => ?_) <;> (try (have hg' := hg; simp at hg'))) | (refine OutOK.gate (fun hg => ?_) (fun hg => ?_) <;> (try (have hg' := hg; simp at hg'))) | (refine OutOK.callF [] (by simp [*]; rfl) (by simp [*]; rfl) (by simp [*]; rfl) hb58 (by apply cr <;> first | assumption | exact Hd.out (by assumption) | ((try (clear e0)); (try (clear e1)); (try (clear e2)); (try (clear e3)); (try (clear e4)); (try (clear e5)); (try (clear e6)); (try (clear e7)); (try (clear e8)); (try (clear e9)); (try (clear e10)); (try (clear e11)); omega)) ⟨by simp [*], by simp [*], by simp [*], by simp [*], by simp [*]⟩ (by simp [*]) (by simp [*]; rfl) ?_) | (refine OutOK.callF [] (by simp [*]; rfl) (by simp [*]; rfl) (by simp [*]; rfl) hb60 (by apply cn <;> first | assumption | exact Hd.out (by assumption) | ((try (clear e0)); (try (clear e1)); (try (clear e2)); (try (clear e3)); (try (clear e4)); (try (clear e5)); (try (clear e6)); (try (clear e7)); (try (clear e8)); (try (clear e9)); (try (clear e10)); (try (clear e11)); omega)) ⟨by simp [*], by simp [*], by simp [*], by simp [*], by simp [*]⟩ (by simp [*]) (by simp [*]; rfl) ?_) | refine OutOK.run (by simp [*]; rfl) ?_ | refine AW.ret ?_ | refine AW.skip ?_ | refine AW.exit ?_ | refine fin_r ?_ | refine fin_n ?_ | refine AW.block ?_ | refine blockQ_n ?_ | refine blockQ_r ?_ | refine blockQ_e ?_ | refine blockQ_o rfl ?_)
  simp [Try.f20]
theorem c_impl_ItemState_1 (x : Itm) (nm : ByteArray) : ACall Try.prog 70 [itmD x, .p [.sc (.string nm)]] [.x, .p [.sc (.string nm)]] [boo (decide (x.nm.toList = nm.toList))] := by
  refine ACall.of (N := 8) tok Try.func70 rfl rfl rfl (by simp) ?_
  repeat' (first | with_reducible refine OutOK.done ?_ | refine thenQ_n ?_ | refine thenQ_r ?_ | refine thenQ_e ?_ | refine AW.seq ?_ | refine AW.reg tok (by simp [*]; rfl) ?_ | refine AW.ifB (by simp [*]; rfl) ?_ | refine IfG.t ?_ | refine IfG.f ?_ | (refine IfG.p (fun hg => ?_) (fun hg => ?_) <;> (try (have hg' := hg; simp at hg'))) | (refine IfG.n (fun hg => ?_) (fun hg => ?_) <;> (try (have hg' := hg; simp at hg'))) | (refine OutOK.gateP (fun hg => ?_) (fun hg => ?_) <;> (try (have hg' := hg; simp at hg'))) | (refine OutOK.gateN (fun hg => ?_) (fun hg => ?_) <;> (try (have hg' := hg; simp at hg'))) | (refine IfG.g (fun hg => ?_) (fun hg => ?_) <;> (try (have hg' := hg; simp at hg'))) | (refine OutOK.gate (fun hg => ?_) (fun hg => ?_) <;> (try (have hg' := hg; simp at hg'))) | refine OutOK.run (by simp [*]; rfl) ?_ | refine AW.ret ?_ | refine AW.skip ?_ | refine AW.exit ?_ | refine fin_r ?_ | refine fin_n ?_ | refine AW.block ?_ | refine blockQ_n ?_ | refine blockQ_r ?_ | refine blockQ_e ?_ | refine blockQ_o rfl ?_)
  all_goals (try simp [*, Try.f70])
theorem c_impl_ItemState (l : List Ent) (nm : ByteArray) (h : l.length ≤ 9223372036854775807) (hw : ∀ e ∈ l, EntW e) (hr : regOK l = true) (k : Nat) (hk : k < (regI l).length) (hf : fnd (regI l) nm = (k : Int)) :
    ACall Try.prog 21 [.v (.sl true 3 (ents l)), .v (.sc (.string nm))] [.x, .x] [.v (.sc (.string (regI l)[k].tx)), boo (regI l)[k].vd, boo true] := by
  have cr := c_impl_replayed l h hw
  rw [hr] at cr
  have hl := regI_len l
  have cf := c_slices_IndexFunc_item (regI l) 70 [.sc (.string nm)] (fun x => decide (x.nm.toList = nm.toList)) (by omega) (by simp) (fun x => c_impl_ItemState_1 x nm)
  rw [show idx (fun x : Itm => decide (x.nm.toList = nm.toList)) (regI l) = fnd (regI l) nm from rfl, hf] at cf
  clear hf
  generalize regI l = its at *
  have hk0 : ¬ (k : Int) < 0 := by omega
  clear hw hr
  refine ACall.of (N := 34) tok Try.func21 rfl rfl rfl (by simp) ?_
  repeat' (first | with_reducible refine OutOK.done ?_ | refine thenQ_n ?_ | refine thenQ_r ?_ | refine thenQ_e ?_ | refine AW.seq ?_ | refine AW.dreg tok mixed [9, 10]  [(0, false), (1, false), (2, false), (3, false), (5, false), (6, false), (7, false), (8, false), (4, false), (9, true), (10, true), (11, false), (12, false)] (by decide +kernel) rfl (by simp [*]; rfl) ?_ | refine AW.reg tok (by simp [*]; rfl) ?_ | refine AW.ifB (by simp [*]; rfl) ?_ | refine IfG.t ?_ | refine IfG.f ?_ | (refine IfG.p (fun hg => ?_) (fun hg => ?_) <;> (try (have hg' := hg; simp at hg'))) | (refine IfG.n (fun hg => ?_) (fun hg => ?_) <;> (try (have hg' := hg; simp at hg'))) | (refine OutOK.gateP (fun hg => ?_) (fun hg => ?_) <;> (try (have hg' := hg; simp at hg'))) | (refine OutOK.gateN (fun hg => ?_) (fun hg => ?_) <;> (try (have hg' := hg; simp at hg'))) | (refine IfG.g (fun hg => ?_) (fun hg => ?_) <;> (try (have hg' := hg; simp at hg'))) | (refine OutOK.gate (fun hg => ?_) (fun hg => ?_) <;> (try (have hg' := hg; simp at hg'))) | (refine OutOK.callF [] (by simp [*]; rfl) (by simp [*]; rfl) (by simp [*]; rfl) hb58 (by apply cr <;> first | assumption | exact Hd.out (by assumption) | ((try (clear e0)); (try (clear e1)); (try (clear e2)); (try (clear e3)); (try (clear e4)); (try (clear e5)); (try (clear e6)); (try (clear e7)); (try (clear e8)); (try (clear e9)); (try (clear e10)); (try (clear e11)); omega)) ⟨by simp [*], by simp [*], by simp [*], by simp [*], by simp [*]⟩ (by simp [*]) (by simp [*]; rfl) ?_) | (refine OutOK.callF [] (by simp [*]; rfl) (by simp [*]; rfl) (by simp [*]; rfl) hb69 (by apply cf <;> first | assumption | exact Hd.out (by assumption) | ((try (clear e0)); (try (clear e1)); (try (clear e2)); (try (clear e3)); (try (clear e4)); (try (clear e5)); (try (clear e6)); (try (clear e7)); (try (clear e8)); (try (clear e9)); (try (clear e10)); (try (clear e11)); omega)) ⟨by simp [*], by simp [*], by simp [*], by simp [*], by simp [*]⟩ (by simp [*]) (by simp [*]; rfl) ?_) | refine OutOK.run (by simp [*]; rfl) ?_ | refine AW.ret ?_ | refine AW.skip ?_ | refine AW.exit ?_ | refine fin_r ?_ | refine fin_n ?_ | refine AW.block ?_ | refine blockQ_n ?_ | refine blockQ_r ?_ | refine blockQ_e ?_ | refine blockQ_o rfl ?_)
  simp [Try.f21]
theorem c_laws_vTexts (l : List ByteArray) (h : l.length < 9223372036854775807) : ACall Try.prog 18 [.v (.sl true 1 (strs l)), .v (.sl true 1 (strs l))] [.x, .x] [boo true] := by
  refine ACall.of (N := 26) tok Try.func18 rfl rfl rfl (by simp) ?_
  repeat' (first | with_reducible refine OutOK.done ?_ | refine thenQ_n ?_ | refine thenQ_r ?_ | refine thenQ_e ?_ | refine AW.seq ?_ | refine AW.dreg tok mixed [7]  [(0, false), (1, false), (2, false), (4, false), (5, false), (6, false), (3, false), (7, true), (8, false)] (by decide +kernel) rfl (by simp [*]; rfl) ?_ | refine AW.reg tok (by simp [*]; rfl) ?_ | refine AW.ifB (by simp [*]; rfl) ?_ | refine IfG.t ?_ | refine IfG.f ?_ | (refine IfG.p (fun hg => ?_) (fun hg => ?_) <;> (try (have hg' := hg; simp at hg'))) | (refine IfG.n (fun hg => ?_) (fun hg => ?_) <;> (try (have hg' := hg; simp at hg'))) | (refine OutOK.gateP (fun hg => ?_) (fun hg => ?_) <;> (try (have hg' := hg; simp at hg'))) | (refine OutOK.gateN (fun hg => ?_) (fun hg => ?_) <;> (try (have hg' := hg; simp at hg'))) | (refine IfG.g (fun hg => ?_) (fun hg => ?_) <;> (try (have hg' := hg; simp at hg'))) | (refine OutOK.gate (fun hg => ?_) (fun hg => ?_) <;> (try (have hg' := hg; simp at hg'))) | refine OutOK.run (by simp [*]; rfl) ?_ | refine AW.ret ?_ | refine AW.skip ?_ | refine AW.exit ?_ | refine fin_r ?_ | refine fin_n ?_ | refine AW.block ?_ | refine blockQ_n ?_ | refine blockQ_r ?_ | refine blockQ_e ?_ | refine blockQ_o rfl ?_)
  refine AW.loopL (fun i => i ≤ l.length) (fun i => [(0, .c (.sl true 1 (strs l))), (1, .c (.sl true 1 (strs l))), (5, .c (.sc (.int .i64 (i : Int))))]) (fun _ => []) (fun i => l.length - i) 0 (Nat.zero_le _) ⟨by simp, by simp, by simp⟩ ?_
  intro i hi
  rcases Nat.lt_or_ge i l.length with hl | hl
  · have e1 : wrap64 ((i : Int) + 1) = ((i + 1 : Nat) : Int) := by rw [w64 (by omega) (by omega)]; omega
    repeat' (first | with_reducible refine OutOK.done ?_ | refine thenQ_n ?_ | refine thenQ_r ?_ | refine thenQ_e ?_ | refine AW.seq ?_ | refine AW.dreg tok mixed [7]  [(0, false), (1, false), (2, false), (4, false), (5, false), (6, false), (3, false), (7, true), (8, false)] (by decide +kernel) rfl (by simp [*]; rfl) ?_ | refine AW.reg tok (by simp [*]; rfl) ?_ | refine AW.ifB (by simp [*]; rfl) ?_ | refine IfG.t ?_ | refine IfG.f ?_ | (refine IfG.p (fun hg => ?_) (fun hg => ?_) <;> (try (have hg' := hg; simp at hg'))) | (refine IfG.n (fun hg => ?_) (fun hg => ?_) <;> (try (have hg' := hg; simp at hg'))) | (refine OutOK.gateP (fun hg => ?_) (fun hg => ?_) <;> (try (have hg' := hg; simp at hg'))) | (refine OutOK.gateN (fun hg => ?_) (fun hg => ?_) <;> (try (have hg' := hg; simp at hg'))) | (refine IfG.g (fun hg => ?_) (fun hg => ?_) <;> (try (have hg' := hg; simp at hg'))) | (refine OutOK.gate (fun hg => ?_) (fun hg => ?_) <;> (try (have hg' := hg; simp at hg'))) | refine OutOK.run (by simp [*]; rfl) ?_ | refine AW.ret ?_ | refine AW.skip ?_ | refine AW.exit ?_ | refine fin_r ?_ | refine fin_n ?_ | refine AW.block ?_ | refine blockQ_n ?_ | refine blockQ_r ?_ | refine blockQ_e ?_ | refine blockQ_o rfl ?_)
    exact ⟨i + 1, hl, ⟨by simp, by simp, by simp⟩, by ((try (clear e0)); (try (clear e1)); (try (clear e2)); (try (clear e3)); (try (clear e4)); (try (clear e5)); (try (clear e6)); (try (clear e7)); (try (clear e8)); (try (clear e9)); (try (clear e10)); (try (clear e11)); omega)⟩
  · have hn : ¬ i < l.length := by omega
    repeat' (first | with_reducible refine OutOK.done ?_ | refine thenQ_n ?_ | refine thenQ_r ?_ | refine thenQ_e ?_ | refine AW.seq ?_ | refine AW.dreg tok mixed [7]  [(0, false), (1, false), (2, false), (4, false), (5, false), (6, false), (3, false), (7, true), (8, false)] (by decide +kernel) rfl (by simp [*]; rfl) ?_ | refine AW.reg tok (by simp [*]; rfl) ?_ | refine AW.ifB (by simp [*]; rfl) ?_ | refine IfG.t ?_ | refine IfG.f ?_ | (refine IfG.p (fun hg => ?_) (fun hg => ?_) <;> (try (have hg' := hg; simp at hg'))) | (refine IfG.n (fun hg => ?_) (fun hg => ?_) <;> (try (have hg' := hg; simp at hg'))) | (refine OutOK.gateP (fun hg => ?_) (fun hg => ?_) <;> (try (have hg' := hg; simp at hg'))) | (refine OutOK.gateN (fun hg => ?_) (fun hg => ?_) <;> (try (have hg' := hg; simp at hg'))) | (refine IfG.g (fun hg => ?_) (fun hg => ?_) <;> (try (have hg' := hg; simp at hg'))) | (refine OutOK.gate (fun hg => ?_) (fun hg => ?_) <;> (try (have hg' := hg; simp at hg'))) | refine OutOK.run (by simp [*]; rfl) ?_ | refine AW.ret ?_ | refine AW.skip ?_ | refine AW.exit ?_ | refine fin_r ?_ | refine fin_n ?_ | refine AW.block ?_ | refine blockQ_n ?_ | refine blockQ_r ?_ | refine blockQ_e ?_ | refine blockQ_o rfl ?_)
    all_goals (try simp [*, Try.f18])
end Go.Proofs.Ytbofobjofngoeaa.EngS


set_option linter.unusedSimpArgs false
set_option linter.unusedVariables false
set_option maxHeartbeats 4000000
set_option maxRecDepth 100000
namespace Go.Proofs.Ytbofobjofngoeaa.EngS
open Go Go.Proofs Go.Eng Go.RowKit
attribute [local irreducible] Go.RowKit.wrap64
def ItOK (its : List Itm) : Prop := (∀ x ∈ its, nameOK x.nm = true ∧ textOK x.tx = true) ∧ its.Pairwise (fun a b => a.nm.toList ≠ b.nm.toList)
def cost : List Itm → Nat
  | [] => 0
  | x :: r => (if x.vd = true then 2 else 1) + cost r
theorem cost_app : ∀ a b, cost (a ++ b) = cost a + cost b
  | [], b => by simp [cost]
  | x :: r, b => by simp only [List.cons_append, cost]; rw [cost_app r b]; omega
theorem cost_set {its : List Itm} {k : Nat} (h : k < its.length) (x : Itm) : cost (its.set k x) + (if its[k].vd = true then 2 else 1) = cost its + (if x.vd = true then 2 else 1) := by
  induction its generalizing k with
  | nil => simp at h
  | cons y r ih =>
    cases k with
    | zero => simp only [List.set_cons_zero, cost, List.getElem_cons_zero]; omega
    | succ k =>
      have := ih (k := k) (by simpa using h)
      simp only [List.set_cons_succ, cost, List.getElem_cons_succ]; omega
theorem fnd_neg {its : List Itm} {nm : ByteArray} (h : fnd its nm < 0) : ∀ x ∈ its, x.nm.toList ≠ nm.toList := by
  intro x hx e
  unfold fnd idx at h
  cases hf : its.findIdx? (fun x => decide (x.nm.toList = nm.toList)) with
  | none =>
    rw [List.findIdx?_eq_none_iff] at hf
    have := hf x hx
    simp [e] at this
  | some k => rw [hf] at h; simp at h; omega
theorem fnd_of {its : List Itm} {k : Nat} (hp : its.Pairwise (fun a b => a.nm.toList ≠ b.nm.toList)) (hk : k < its.length) (nm : ByteArray) (hn : its[k].nm.toList = nm.toList) : fnd its nm = (k : Int) := by
  refine idx_at hk ?_ (by simp [hn])
  rw [List.any_eq_false]
  intro x hx
  obtain ⟨j, hj, rfl⟩ := List.getElem_of_mem hx
  simp only [List.getElem_take, decide_eq_true_eq]
  have hj' : j < k := by simp at hj; omega
  have := List.pairwise_iff_getElem.1 hp j k (by omega) hk hj'
  intro e
  exact this (e.trans hn.symm)
theorem ItOK_set {its : List Itm} {k : Nat} (h : ItOK its) (hk : k < its.length) (tx : ByteArray) (v : Bool) (ht : textOK tx = true) : ItOK (its.set k ⟨its[k].nm, tx, v⟩) := by
  refine ⟨fun x hx => ?_, ?_⟩
  · rcases List.mem_or_eq_of_mem_set hx with hx | hx
    · exact h.1 x hx
    · subst hx; exact ⟨(h.1 _ (List.getElem_mem hk)).1, ht⟩
  · rw [List.pairwise_iff_getElem]
    intro i j hi hj hij
    have h0 := List.pairwise_iff_getElem.1 h.2 i j (by simpa using hi) (by simpa using hj) hij
    rw [List.getElem_set, List.getElem_set]
    split <;> split
    · omega
    · rename_i e1 e2; subst e1; exact h0
    · rename_i e1 e2; subst e2; exact h0
    · exact h0
theorem playE_ok {its m : List Itm} {e : Ent} (h : ItOK its) (hp : playE its e = some m) : ItOK m ∧ cost m ≤ cost its + 1 ∧ ∀ x ∈ m, (∃ y ∈ its, y.nm = x.nm) ∨ e.itm = x.nm := by
  by_cases hnt : nameOK e.itm = true ∧ textOK e.txt = true
  · rcases idx_cases (fun x : Itm => decide (x.nm.toList = e.itm.toList)) its with hf | ⟨k, hf, hk⟩
    · rw [play_new hnt hf] at hp
      split at hp
      · cases hp
        refine ⟨⟨fun x hx => ?_, ?_⟩, by rw [cost_app]; simp [cost], fun x hx => ?_⟩
        · rw [List.mem_append] at hx
          rcases hx with hx | hx
          · exact h.1 x hx
          · simp at hx; subst hx; exact hnt
        · rw [List.pairwise_append]
          refine ⟨h.2, by simp, fun a ha b hb => ?_⟩
          simp at hb; subst hb
          exact fnd_neg hf a ha
        · rw [List.mem_append] at hx
          rcases hx with hx | hx
          · exact .inl ⟨x, hx, rfl⟩
          · simp at hx; subst hx; exact .inr rfl
      · cases hp
    · have hx0 := h.1 _ (List.getElem_mem hk)
      have key : ∀ tx v, textOK tx = true → (v = true → its[k].vd = true ∨ True) → ItOK (its.set k ⟨its[k].nm, tx, v⟩) ∧ cost (its.set k ⟨its[k].nm, tx, v⟩) ≤ cost its + 1 ∧ ∀ x ∈ its.set k ⟨its[k].nm, tx, v⟩, (∃ y ∈ its, y.nm = x.nm) ∨ e.itm = x.nm := by
        intro tx v ht _
        refine ⟨ItOK_set h hk tx v ht, ?_, fun x hx => ?_⟩
        · have := cost_set hk (⟨its[k].nm, tx, v⟩ : Itm)
          simp only at this
          split at this <;> split at this <;> omega
        · rcases List.mem_or_eq_of_mem_set hx with hx | hx
          · exact .inl ⟨x, hx, rfl⟩
          · subst hx; exact .inl ⟨_, List.getElem_mem hk, rfl⟩
      rw [play_at hnt hf hk] at hp
      split at hp
      · cases hp; exact key _ _ hnt.2 (fun _ => .inr trivial)
      · split at hp
        · cases hp; exact key _ _ hx0.2 (fun _ => .inr trivial)
        · split at hp
          · cases hp; exact key _ _ hx0.2 (fun _ => .inr trivial)
          · cases hp
  · rw [play_not hnt] at hp; cases hp
theorem playL_ok : ∀ {l : List Ent} {its m : List Itm}, ItOK its → playL its l = some m → ItOK m ∧ cost m ≤ cost its + l.length ∧ ∀ x ∈ m, (∃ y ∈ its, y.nm = x.nm) ∨ ∃ e ∈ l, e.itm = x.nm
  | [], its, m, h, hp => by
    rw [playL] at hp; cases hp
    exact ⟨h, by simp, fun x hx => .inl ⟨x, hx, rfl⟩⟩
  | e :: es, its, m, h, hp => by
    rw [playL] at hp
    cases hq : playE its e with
    | none => rw [hq] at hp; cases hp
    | some m1 =>
      rw [hq] at hp
      obtain ⟨a1, a2, a3⟩ := playE_ok h hq
      obtain ⟨b1, b2, b3⟩ := playL_ok a1 hp
      refine ⟨b1, by simp only [List.length_cons]; omega, fun x hx => ?_⟩
      rcases b3 x hx with ⟨y, hy, e1⟩ | ⟨e', he, e1⟩
      · rcases a3 y hy with ⟨z, hz, e2⟩ | e2
        · exact .inl ⟨z, hz, e2.trans e1⟩
        · exact .inr ⟨e, by simp, e2.trans e1⟩
      · exact .inr ⟨e', by simp [he], e1⟩
theorem playL_app : ∀ {a b : List Ent} {its : List Itm}, playL its (a ++ b) = (playL its a).bind fun m => playL m b
  | [], b, its => by simp [playL]
  | e :: es, b, its => by
    rw [List.cons_append, playL, playL]
    cases playE its e with
    | none => rfl
    | some m => exact playL_app
theorem regOK_take {l : List Ent} (h : regOK l = true) (n : Nat) : regOK (l.take n) = true := by
  simp only [regOK, Bool.and_eq_true, decide_eq_true_eq] at h ⊢
  refine ⟨by rw [List.length_take]; omega, ?_⟩
  have h2 := h.2
  rw [← List.take_append_drop n l, playL_app] at h2
  cases hp : playL [] (l.take n) with
  | none => rw [hp] at h2; simp at h2
  | some m => rfl
theorem empty_list : (ByteArray.mk #[]).toList = [] := by
  first
    | (simp; done)
    | (simp [ByteArray.toList, ByteArray.toList.loop]; done)
    | (unfold ByteArray.toList; rw [ByteArray.toList.loop]; simp; done)
    | decide +kernel
theorem text_empty : textOK ⟨#[]⟩ = true := by rw [textOK]; rfl
theorem fnd_none {its : List Itm} {nm : ByteArray} (h : ∀ x ∈ its, x.nm.toList ≠ nm.toList) : fnd its nm < 0 := by
  have : fnd its nm = -1 := idx_none (by rw [List.any_eq_false]; intro x hx; simpa using h x hx)
  omega
end Go.Proofs.Ytbofobjofngoeaa.EngS


set_option linter.unusedSimpArgs false
set_option linter.unusedVariables false
set_option maxHeartbeats 4000000
set_option maxRecDepth 100000
namespace Go.Proofs.Ytbofobjofngoeaa.EngS
open Go Go.Proofs Go.Eng Go.RowKit
attribute [local irreducible] Go.RowKit.wrap64
attribute [local simp] optO sliceV
@[simp] theorem els_take {α : Type} (c : α → List PV) (xs : List α) (n : Nat) : (els c xs).take n = els c (xs.take n) := by simp [els]
theorem c_impl_RegisterAt (l : List Ent) (n : Nat) (h : l.length ≤ 9223372036854775807) (hw : ∀ e ∈ l, EntW e) (hr : regOK l = true) (hn : n ≤ l.length) : ACall Try.prog 19 [.v (.sl true 3 (ents l)), int n] [.x, .x] [.v (.sl false 3 (ents (l.take n))), boo true] := by
  have cr := c_impl_IsValidRegister l h hw
  rw [hr] at cr
  have hR : inR 0 (l.length : Int) (n : Int) = true := inR_iff.2 ⟨by omega, by omega⟩
  have hnI : (n : Int) ≤ (l.length : Int) := by omega
  have h40 : l.length ≤ 40 := by simp only [regOK, Bool.and_eq_true, decide_eq_true_eq] at hr; exact hr.1
  have cc := c_slices_Clone_entry (l.take n) (by rw [List.length_take]; omega)
  clear hw hr
  refine ACall.of (N := 20) tok Try.func19 rfl rfl rfl (by simp) ?_
  repeat' (first | with_reducible refine OutOK.done ?_ | refine thenQ_n ?_ | refine thenQ_r ?_ | refine thenQ_e ?_ | refine AW.seq ?_ | refine AW.reg tok (by simp [*]; rfl) ?_ | refine AW.ifB (by simp [*]; rfl) ?_ | refine IfG.t ?_ | refine IfG.f ?_ | (refine IfG.p (fun hg => ?_) (fun hg => ?_) <;> (try (have hg' := hg; simp at hg'))) | (refine IfG.n (fun hg => ?_) (fun hg => ?_) <;> (try (have hg' := hg; simp at hg'))) | (refine OutOK.gateP (fun hg => ?_) (fun hg => ?_) <;> (try (have hg' := hg; simp at hg'))) | (refine OutOK.gateN (fun hg => ?_) (fun hg => ?_) <;> (try (have hg' := hg; simp at hg'))) | (refine IfG.g (fun hg => ?_) (fun hg => ?_) <;> (try (have hg' := hg; simp at hg'))) | (refine OutOK.gate (fun hg => ?_) (fun hg => ?_) <;> (try (have hg' := hg; simp at hg'))) | (refine OutOK.callF [] (by simp [*]; rfl) (by simp [*]; rfl) (by simp [*]; rfl) hb66 (by apply cr <;> first | assumption | exact Hd.out (by assumption) | ((try (clear e0)); (try (clear e1)); (try (clear e2)); (try (clear e3)); (try (clear e4)); (try (clear e5)); (try (clear e6)); (try (clear e7)); (try (clear e8)); (try (clear e9)); (try (clear e10)); (try (clear e11)); omega)) ⟨by simp [*], by simp [*], by simp [*], by simp [*], by simp [*]⟩ (by simp [*]) (by simp [*]; rfl) ?_) | (refine OutOK.callF [] (by simp [*]; rfl) (by simp [*]; rfl) (by simp [*]; rfl) hb59 (by apply c_impl_within <;> first | assumption | exact Hd.out (by assumption) | ((try (clear e0)); (try (clear e1)); (try (clear e2)); (try (clear e3)); (try (clear e4)); (try (clear e5)); (try (clear e6)); (try (clear e7)); (try (clear e8)); (try (clear e9)); (try (clear e10)); (try (clear e11)); omega)) ⟨by simp [*], by simp [*], by simp [*], by simp [*], by simp [*]⟩ (by simp [*]) (by simp [*]; rfl) ?_) | (refine OutOK.callF [] (by simp [*]; rfl) (by simp [*]; rfl) (by simp [*]; rfl) hb67 (by apply cc <;> first | assumption | exact Hd.out (by assumption) | ((try (clear e0)); (try (clear e1)); (try (clear e2)); (try (clear e3)); (try (clear e4)); (try (clear e5)); (try (clear e6)); (try (clear e7)); (try (clear e8)); (try (clear e9)); (try (clear e10)); (try (clear e11)); omega)) ⟨by simp [*], by simp [*], by simp [*], by simp [*], by simp [*]⟩ (by simp [*]) (by simp [*]; rfl) ?_) | refine OutOK.run (by simp [*]; rfl) ?_ | refine AW.ret ?_ | refine AW.skip ?_ | refine AW.exit ?_ | refine fin_r ?_ | refine fin_n ?_ | refine AW.block ?_ | refine blockQ_n ?_ | refine blockQ_r ?_ | refine blockQ_e ?_ | refine blockQ_o rfl ?_)
  simp [Try.f19]
end Go.Proofs.Ytbofobjofngoeaa.EngS


set_option linter.unusedSimpArgs false
set_option linter.unusedVariables false
set_option maxHeartbeats 4000000
set_option maxRecDepth 100000
namespace Go.Proofs.Ytbofobjofngoeaa.EngS
open Go Go.Proofs Go.Eng Go.RowKit
attribute [local irreducible] Go.RowKit.wrap64
attribute [local simp] optO sliceV
def samI (a b : Itm) : Bool := decide (a.nm.toList = b.nm.toList) && (decide (a.tx.toList = b.tx.toList) && (a.vd == b.vd))
theorem c_slices_Index_item (l : List Itm) (v : Itm) (h : l.length ≤ 1048576) : ACall Try.prog 111 [.v (.sl true 3 (itms l)), itmD v] [.x, .x] [int (idx (samI v) l)] := by
  obtain ⟨a, b, c⟩ := v
  refine ACall.of (N := 19) tok Try.func111 rfl rfl rfl (by simp) ?_
  repeat' (first | with_reducible refine OutOK.done ?_ | refine thenQ_n ?_ | refine thenQ_r ?_ | refine thenQ_e ?_ | refine AW.seq ?_ | refine AW.dreg tok mixed [4]  [(1, false), (2, false), (3, false), (0, false), (4, true), (5, false)] (by decide +kernel) rfl (by simp [*]; rfl) ?_ | refine AW.reg tok (by simp [*]; rfl) ?_ | refine AW.ifB (by simp [*]; rfl) ?_ | refine IfG.t ?_ | refine IfG.f ?_ | (refine IfG.p (fun hg => ?_) (fun hg => ?_) <;> (try (have hg' := hg; simp at hg'))) | (refine IfG.n (fun hg => ?_) (fun hg => ?_) <;> (try (have hg' := hg; simp at hg'))) | (refine OutOK.gateP (fun hg => ?_) (fun hg => ?_) <;> (try (have hg' := hg; simp at hg'))) | (refine OutOK.gateN (fun hg => ?_) (fun hg => ?_) <;> (try (have hg' := hg; simp at hg'))) | (refine IfG.g (fun hg => ?_) (fun hg => ?_) <;> (try (have hg' := hg; simp at hg'))) | (refine OutOK.gate (fun hg => ?_) (fun hg => ?_) <;> (try (have hg' := hg; simp at hg'))) | refine OutOK.run (by simp [*]; rfl) ?_ | refine AW.ret ?_ | refine AW.skip ?_ | refine AW.exit ?_ | refine fin_r ?_ | refine fin_n ?_ | refine AW.block ?_ | refine blockQ_n ?_ | refine blockQ_r ?_ | refine blockQ_e ?_ | refine blockQ_o rfl ?_)
  refine AW.loopL (fun i => i ≤ l.length ∧ Hd ((l.take i).any (samI ⟨a, b, c⟩) = false)) (fun i => [(3, .pt 3000 [] 0), (0, .c (.sl true 3 (itms l))), (7, .c (.sc (.int .i64 (l.length : Int)))), (8, .c (.sc (.int .i64 (i : Int))))]) (fun _ => [(3000, .bx [.sc (.string a), .sc (.string b), .sc (.bool c)])]) (fun i => l.length - i) 0 ⟨Nat.zero_le _, by simp [Hd]⟩ ⟨by simp, by simp, by simp⟩ ?_
  rintro i ⟨hi, hs⟩
  rcases Nat.lt_or_ge i l.length with hl | hl
  · have e1 : wrap64 ((i : Int) + 1) = ((i + 1 : Nat) : Int) := by rw [w64 (by omega) (by omega)]; omega
    have hp1 : samI ⟨a, b, c⟩ l[i] = true → idx (samI ⟨a, b, c⟩) l = (i : Int) := fun hp => idx_at hl hs.out hp
    have hp2 : samI ⟨a, b, c⟩ l[i] = false → (l.take (i + 1)).any (samI ⟨a, b, c⟩) = false := fun hp => any_more hl hs.out hp
    obtain ⟨x, y, z, he⟩ : ∃ x y z, l[i] = ⟨x, y, z⟩ := ⟨_, _, _, rfl⟩
    rw [he] at hp1 hp2
    have hp1' : Hd _ := hp1
    have hp2' : Hd _ := hp2
    clear hp1 hp2
    repeat' (first | with_reducible refine OutOK.done ?_ | refine thenQ_n ?_ | refine thenQ_r ?_ | refine thenQ_e ?_ | refine AW.seq ?_ | refine AW.dreg tok mixed [4]  [(1, false), (2, false), (3, false), (0, false), (4, true), (5, false)] (by decide +kernel) rfl (by simp [*]; rfl) ?_ | refine AW.reg tok (by simp [*]; rfl) ?_ | refine AW.ifB (by simp [*]; rfl) ?_ | refine IfG.t ?_ | refine IfG.f ?_ | (refine IfG.p (fun hg => ?_) (fun hg => ?_) <;> (try (have hg' := hg; simp at hg'))) | (refine IfG.n (fun hg => ?_) (fun hg => ?_) <;> (try (have hg' := hg; simp at hg'))) | (refine OutOK.gateP (fun hg => ?_) (fun hg => ?_) <;> (try (have hg' := hg; simp at hg'))) | (refine OutOK.gateN (fun hg => ?_) (fun hg => ?_) <;> (try (have hg' := hg; simp at hg'))) | (refine IfG.g (fun hg => ?_) (fun hg => ?_) <;> (try (have hg' := hg; simp at hg'))) | (refine OutOK.gate (fun hg => ?_) (fun hg => ?_) <;> (try (have hg' := hg; simp at hg'))) | refine OutOK.run (by simp [*]; rfl) ?_ | refine AW.ret ?_ | refine AW.skip ?_ | refine AW.exit ?_ | refine fin_r ?_ | refine fin_n ?_ | refine AW.block ?_ | refine blockQ_n ?_ | refine blockQ_r ?_ | refine blockQ_e ?_ | refine blockQ_o rfl ?_)
    · have hf := hp1'.out hg
      simp [Try.f111, hf]
    · exact ⟨i + 1, ⟨hl, hp2'.out hg⟩, ⟨by simp, by simp, by simp⟩, by ((try (clear e0)); (try (clear e1)); (try (clear e2)); (try (clear e3)); (try (clear e4)); (try (clear e5)); (try (clear e6)); (try (clear e7)); (try (clear e8)); (try (clear e9)); (try (clear e10)); (try (clear e11)); omega)⟩
  · have hii : i = l.length := by omega
    subst hii
    have hf : idx (samI ⟨a, b, c⟩) l = -1 := idx_none (by have := hs.out; rwa [List.take_length] at this)
    repeat' (first | with_reducible refine OutOK.done ?_ | refine thenQ_n ?_ | refine thenQ_r ?_ | refine thenQ_e ?_ | refine AW.seq ?_ | refine AW.dreg tok mixed [4]  [(1, false), (2, false), (3, false), (0, false), (4, true), (5, false)] (by decide +kernel) rfl (by simp [*]; rfl) ?_ | refine AW.reg tok (by simp [*]; rfl) ?_ | refine AW.ifB (by simp [*]; rfl) ?_ | refine IfG.t ?_ | refine IfG.f ?_ | (refine IfG.p (fun hg => ?_) (fun hg => ?_) <;> (try (have hg' := hg; simp at hg'))) | (refine IfG.n (fun hg => ?_) (fun hg => ?_) <;> (try (have hg' := hg; simp at hg'))) | (refine OutOK.gateP (fun hg => ?_) (fun hg => ?_) <;> (try (have hg' := hg; simp at hg'))) | (refine OutOK.gateN (fun hg => ?_) (fun hg => ?_) <;> (try (have hg' := hg; simp at hg'))) | (refine IfG.g (fun hg => ?_) (fun hg => ?_) <;> (try (have hg' := hg; simp at hg'))) | (refine OutOK.gate (fun hg => ?_) (fun hg => ?_) <;> (try (have hg' := hg; simp at hg'))) | refine OutOK.run (by simp [*]; rfl) ?_ | refine AW.ret ?_ | refine AW.skip ?_ | refine AW.exit ?_ | refine fin_r ?_ | refine fin_n ?_ | refine AW.block ?_ | refine blockQ_n ?_ | refine blockQ_r ?_ | refine blockQ_e ?_ | refine blockQ_o rfl ?_)
    simp [Try.f111, hf]
theorem idx_oneK {α : Type} (p : α → Bool) (xs : List α) : (idx p xs = -1 ∧ xs.any p = false) ∨ ∃ i, ∃ h : i < xs.length, idx p xs = (i : Int) ∧ p xs[i] = true ∧ (xs.take i).any p = false := by
  cases h : xs.findIdx? p with
  | none =>
    left
    have h2 : xs.any p = false := by rw [List.any_eq_false]; intro x hx; rw [List.findIdx?_eq_none_iff] at h; simpa using h x hx
    exact ⟨idx_none h2, h2⟩
  | some i =>
    right
    rw [List.findIdx?_eq_some_iff_getElem] at h
    obtain ⟨hi, h1, h2⟩ := h
    have h3 : (xs.take i).any p = false := by
      rw [List.any_eq_false]
      intro x hx
      obtain ⟨m, hm, rfl⟩ := List.getElem_of_mem hx
      rw [List.length_take] at hm
      rw [List.getElem_take]
      have := h2 m (by omega)
      simpa using this
    exact ⟨i, hi, idx_at hi h3 h1, h1, h3⟩
theorem c_slices_Contains_item (l : List Itm) (v : Itm) (h : l.length ≤ 1048576) : ACall Try.prog 62 [.v (.sl true 3 (itms l)), itmD v] [.x, .x] [boo (l.any (samI v))] := by
  have ci := c_slices_Index_item l v h
  have hc := idx_cases (samI v) l
  have ha : l.any (samI v) = decide (0 ≤ idx (samI v) l) := by
    rcases idx_oneK (samI v) l with ⟨h1, h2⟩ | ⟨i, hi, h1, h2, _⟩
    · rw [h1, h2]; rfl
    · rw [h1]
      have : l.any (samI v) = true := List.any_eq_true.2 ⟨_, List.getElem_mem hi, h2⟩
      rw [this]
      symm
      exact decide_eq_true (by omega)
  rw [ha]
  clear hc ha
  generalize idx (samI v) l = k at *
  refine ACall.of (N := 9) tok Try.func62 rfl rfl rfl (by simp) ?_
  repeat' (first | with_reducible refine OutOK.done ?_ | refine thenQ_n ?_ | refine thenQ_r ?_ | refine thenQ_e ?_ | refine AW.seq ?_ | refine AW.reg tok (by simp [*]; rfl) ?_ | refine AW.ifB (by simp [*]; rfl) ?_ | refine IfG.t ?_ | refine IfG.f ?_ | (refine IfG.p (fun hg => ?_) (fun hg => ?_) <;> (try (have hg' := hg; simp at hg'))) | (refine IfG.n (fun hg => ?_) (fun hg => ?_) <;> (try (have hg' := hg; simp at hg'))) | (refine OutOK.gateP (fun hg => ?_) (fun hg => ?_) <;> (try (have hg' := hg; simp at hg'))) | (refine OutOK.gateN (fun hg => ?_) (fun hg => ?_) <;> (try (have hg' := hg; simp at hg'))) | (refine IfG.g (fun hg => ?_) (fun hg => ?_) <;> (try (have hg' := hg; simp at hg'))) | (refine OutOK.gate (fun hg => ?_) (fun hg => ?_) <;> (try (have hg' := hg; simp at hg'))) | (refine OutOK.callF [] (by simp [*]; rfl) (by simp [*]; rfl) (by simp [*]; rfl) hb111 (by apply ci <;> first | assumption | exact Hd.out (by assumption) | ((try (clear e0)); (try (clear e1)); (try (clear e2)); (try (clear e3)); (try (clear e4)); (try (clear e5)); (try (clear e6)); (try (clear e7)); (try (clear e8)); (try (clear e9)); (try (clear e10)); (try (clear e11)); omega)) ⟨by simp [*], by simp [*], by simp [*], by simp [*], by simp [*]⟩ (by simp [*]) (by simp [*]; rfl) ?_) | refine OutOK.run (by simp [*]; rfl) ?_ | refine AW.ret ?_ | refine AW.skip ?_ | refine AW.exit ?_ | refine fin_r ?_ | refine fin_n ?_ | refine AW.block ?_ | refine blockQ_n ?_ | refine blockQ_r ?_ | refine blockQ_e ?_ | refine blockQ_o rfl ?_)
  simp [Try.f62]
theorem c_impl_ChangedItems_1 (x : Itm) (m : List Itm) (h : m.length ≤ 1048576) : ACall Try.prog 61 [itmD x, .p [.sl false 3 (itms m)]] [.x, .p [.sl false 3 (itms m)]] [boo (!(m.any (samI x)))] := by
  have cc := c_slices_Contains_item m x h
  generalize m.any (samI x) = b at *
  refine ACall.of (N := 8) tok Try.func61 rfl rfl rfl (by simp) ?_
  repeat' (first | with_reducible refine OutOK.done ?_ | refine thenQ_n ?_ | refine thenQ_r ?_ | refine thenQ_e ?_ | refine AW.seq ?_ | refine AW.reg tok (by simp [*]; rfl) ?_ | refine AW.ifB (by simp [*]; rfl) ?_ | refine IfG.t ?_ | refine IfG.f ?_ | (refine IfG.p (fun hg => ?_) (fun hg => ?_) <;> (try (have hg' := hg; simp at hg'))) | (refine IfG.n (fun hg => ?_) (fun hg => ?_) <;> (try (have hg' := hg; simp at hg'))) | (refine OutOK.gateP (fun hg => ?_) (fun hg => ?_) <;> (try (have hg' := hg; simp at hg'))) | (refine OutOK.gateN (fun hg => ?_) (fun hg => ?_) <;> (try (have hg' := hg; simp at hg'))) | (refine IfG.g (fun hg => ?_) (fun hg => ?_) <;> (try (have hg' := hg; simp at hg'))) | (refine OutOK.gate (fun hg => ?_) (fun hg => ?_) <;> (try (have hg' := hg; simp at hg'))) | (refine OutOK.callF [] (by simp [*]; rfl) (by simp [*]; rfl) (by simp [*]; rfl) hb62 (by apply cc <;> first | assumption | exact Hd.out (by assumption) | ((try (clear e0)); (try (clear e1)); (try (clear e2)); (try (clear e3)); (try (clear e4)); (try (clear e5)); (try (clear e6)); (try (clear e7)); (try (clear e8)); (try (clear e9)); (try (clear e10)); (try (clear e11)); omega)) ⟨by simp [*], by simp [*], by simp [*], by simp [*], by simp [*]⟩ (by simp [*]) (by simp [*]; rfl) ?_) | refine OutOK.run (by simp [*]; rfl) ?_ | refine AW.ret ?_ | refine AW.skip ?_ | refine AW.exit ?_ | refine fin_r ?_ | refine fin_n ?_ | refine AW.block ?_ | refine blockQ_n ?_ | refine blockQ_r ?_ | refine blockQ_e ?_ | refine blockQ_o rfl ?_)
  simp [Try.f61]
def chB (l : List Ent) (n : Int) : Bool := regOK l && inR 0 (l.length : Int) n
def chP (l : List Ent) (n : Int) (x : Itm) : Bool := !((regI (l.take n.toNat)).any (samI x))
def chL (l : List Ent) (n : Int) : List ByteArray := if chB l n = true then namL (chP l n) (regI l) else []
theorem c_impl_ChangedItems (l : List Ent) (n : Int) (h : l.length ≤ 9223372036854775807) (hw : ∀ e ∈ l, EntW e) : ACall Try.prog 16 [.v (.sl true 3 (ents l)), int n] [.x, .x] [.v (.sl false 1 (strs (chL l n))), boo (chB l n)] := by
  have cr := c_impl_replayed l h hw
  have ci := c_impl_within n 0 (l.length : Int)
  have hl := regI_len l
  cases hR : regOK l
  · have hb : chB l n = false := by simp [chB, hR]
    have hb2 : chL l n = [] := by simp [chL, hb]
    rw [hb, hb2]
    rw [hR] at cr
    clear hb hb2 hR hw
    generalize regI l = its at *
    generalize inR 0 (l.length : Int) n = Q at *
    refine ACall.of (N := 34) tok Try.func16 rfl rfl rfl (by simp) ?_
    repeat' (first | with_reducible refine OutOK.done ?_ | refine thenQ_n ?_ | refine thenQ_r ?_ | refine thenQ_e ?_ | refine AW.seq ?_ | refine AW.reg tok (by simp [*]; rfl) ?_ | refine AW.ifB (by simp [*]; rfl) ?_ | refine IfG.t ?_ | refine IfG.f ?_ | (refine IfG.p (fun hg => ?_) (fun hg => ?_) <;> (try (have hg' := hg; simp at hg'))) | (refine IfG.n (fun hg => ?_) (fun hg => ?_) <;> (try (have hg' := hg; simp at hg'))) | (refine OutOK.gateP (fun hg => ?_) (fun hg => ?_) <;> (try (have hg' := hg; simp at hg'))) | (refine OutOK.gateN (fun hg => ?_) (fun hg => ?_) <;> (try (have hg' := hg; simp at hg'))) | (refine IfG.g (fun hg => ?_) (fun hg => ?_) <;> (try (have hg' := hg; simp at hg'))) | (refine OutOK.gate (fun hg => ?_) (fun hg => ?_) <;> (try (have hg' := hg; simp at hg'))) | (refine OutOK.callF [] (by simp [*]; rfl) (by simp [*]; rfl) (by simp [*]; rfl) hb58 (by apply cr <;> first | assumption | exact Hd.out (by assumption) | ((try (clear e0)); (try (clear e1)); (try (clear e2)); (try (clear e3)); (try (clear e4)); (try (clear e5)); (try (clear e6)); (try (clear e7)); (try (clear e8)); (try (clear e9)); (try (clear e10)); (try (clear e11)); omega)) ⟨by simp [*], by simp [*], by simp [*], by simp [*], by simp [*]⟩ (by simp [*]) (by simp [*]; rfl) ?_) | (refine OutOK.callF [] (by simp [*]; rfl) (by simp [*]; rfl) (by simp [*]; rfl) hb59 (by apply ci <;> first | assumption | exact Hd.out (by assumption) | ((try (clear e0)); (try (clear e1)); (try (clear e2)); (try (clear e3)); (try (clear e4)); (try (clear e5)); (try (clear e6)); (try (clear e7)); (try (clear e8)); (try (clear e9)); (try (clear e10)); (try (clear e11)); omega)) ⟨by simp [*], by simp [*], by simp [*], by simp [*], by simp [*]⟩ (by simp [*]) (by simp [*]; rfl) ?_) | refine OutOK.run (by simp [*]; rfl) ?_ | refine AW.ret ?_ | refine AW.skip ?_ | refine AW.exit ?_ | refine fin_r ?_ | refine fin_n ?_ | refine AW.block ?_ | refine blockQ_n ?_ | refine blockQ_r ?_ | refine blockQ_e ?_ | refine blockQ_o rfl ?_)
    simp [Try.f16, strs]
  cases hQ : inR 0 (l.length : Int) n
  · have hb : chB l n = false := by simp [chB, hQ]
    have hb2 : chL l n = [] := by simp [chL, hb]
    rw [hb, hb2]
    rw [hR] at cr
    rw [hQ] at ci
    clear hb hb2 hR hQ hw
    generalize regI l = its at *
    refine ACall.of (N := 34) tok Try.func16 rfl rfl rfl (by simp) ?_
    repeat' (first | with_reducible refine OutOK.done ?_ | refine thenQ_n ?_ | refine thenQ_r ?_ | refine thenQ_e ?_ | refine AW.seq ?_ | refine AW.reg tok (by simp [*]; rfl) ?_ | refine AW.ifB (by simp [*]; rfl) ?_ | refine IfG.t ?_ | refine IfG.f ?_ | (refine IfG.p (fun hg => ?_) (fun hg => ?_) <;> (try (have hg' := hg; simp at hg'))) | (refine IfG.n (fun hg => ?_) (fun hg => ?_) <;> (try (have hg' := hg; simp at hg'))) | (refine OutOK.gateP (fun hg => ?_) (fun hg => ?_) <;> (try (have hg' := hg; simp at hg'))) | (refine OutOK.gateN (fun hg => ?_) (fun hg => ?_) <;> (try (have hg' := hg; simp at hg'))) | (refine IfG.g (fun hg => ?_) (fun hg => ?_) <;> (try (have hg' := hg; simp at hg'))) | (refine OutOK.gate (fun hg => ?_) (fun hg => ?_) <;> (try (have hg' := hg; simp at hg'))) | (refine OutOK.callF [] (by simp [*]; rfl) (by simp [*]; rfl) (by simp [*]; rfl) hb58 (by apply cr <;> first | assumption | exact Hd.out (by assumption) | ((try (clear e0)); (try (clear e1)); (try (clear e2)); (try (clear e3)); (try (clear e4)); (try (clear e5)); (try (clear e6)); (try (clear e7)); (try (clear e8)); (try (clear e9)); (try (clear e10)); (try (clear e11)); omega)) ⟨by simp [*], by simp [*], by simp [*], by simp [*], by simp [*]⟩ (by simp [*]) (by simp [*]; rfl) ?_) | (refine OutOK.callF [] (by simp [*]; rfl) (by simp [*]; rfl) (by simp [*]; rfl) hb59 (by apply ci <;> first | assumption | exact Hd.out (by assumption) | ((try (clear e0)); (try (clear e1)); (try (clear e2)); (try (clear e3)); (try (clear e4)); (try (clear e5)); (try (clear e6)); (try (clear e7)); (try (clear e8)); (try (clear e9)); (try (clear e10)); (try (clear e11)); omega)) ⟨by simp [*], by simp [*], by simp [*], by simp [*], by simp [*]⟩ (by simp [*]) (by simp [*]; rfl) ?_) | refine OutOK.run (by simp [*]; rfl) ?_ | refine AW.ret ?_ | refine AW.skip ?_ | refine AW.exit ?_ | refine fin_r ?_ | refine fin_n ?_ | refine AW.block ?_ | refine blockQ_n ?_ | refine blockQ_r ?_ | refine blockQ_e ?_ | refine blockQ_o rfl ?_)
    simp [Try.f16, strs]
  have hb : chB l n = true := by simp [chB, hR, hQ]
  have hb2 : chL l n = namL (chP l n) (regI l) := by simp [chL, hb]
  rw [hb, hb2]
  have hr := inR_iff.1 hQ
  rw [hR] at cr
  rw [hQ] at ci
  obtain ⟨N, hN⟩ : ∃ N : Nat, n = (N : Int) := ⟨n.toNat, by omega⟩
  subst hN
  have hNl : N ≤ l.length := by omega
  have hNI : (N : Int) ≤ (l.length : Int) := by omega
  have cr2 := c_impl_replayed (l.take N) (by rw [List.length_take]; omega) (fun e he => hw e (List.mem_of_mem_take he))
  rw [regOK_take hR N] at cr2
  have hl2 := regI_len (l.take N)
  have hP : chP l (N : Int) = fun x => !((regI (l.take N)).any (samI x)) := by funext x; simp [chP]
  rw [hP]
  have cn := c_impl_namesOf (regI l) 61 [.sl false 3 (itms (regI (l.take N)))] (fun x => !((regI (l.take N)).any (samI x))) hl (by simp) (fun x hx => c_impl_ChangedItems_1 x (regI (l.take N)) (by omega))
  clear hb hb2 hR hQ hw hP hr
  generalize namL (fun x => !((regI (l.take N)).any (samI x))) (regI l) = nl at *
  generalize regI (l.take N) = m1 at *
  generalize regI l = its at *
  refine ACall.of (N := 34) tok Try.func16 rfl rfl rfl (by simp) ?_
  repeat' (first | with_reducible refine OutOK.done ?_ | refine thenQ_n ?_ | refine thenQ_r ?_ | refine thenQ_e ?_ | refine AW.seq ?_ | refine AW.reg tok (by simp [*]; rfl) ?_ | refine AW.ifB (by simp [*]; rfl) ?_ | refine IfG.t ?_ | refine IfG.f ?_ | (refine IfG.p (fun hg => ?_) (fun hg => ?_) <;> (try (have hg' := hg; simp at hg'))) | (refine IfG.n (fun hg => ?_) (fun hg => ?_) <;> (try (have hg' := hg; simp at hg'))) | (refine OutOK.gateP (fun hg => ?_) (fun hg => ?_) <;> (try (have hg' := hg; simp at hg'))) | (refine OutOK.gateN (fun hg => ?_) (fun hg => ?_) <;> (try (have hg' := hg; simp at hg'))) | (refine IfG.g (fun hg => ?_) (fun hg => ?_) <;> (try (have hg' := hg; simp at hg'))) | (refine OutOK.gate (fun hg => ?_) (fun hg => ?_) <;> (try (have hg' := hg; simp at hg'))) | (refine OutOK.callF [] (by simp [*]; rfl) (by simp [*]; rfl) (by simp [*]; rfl) hb58 (by apply cr <;> first | assumption | exact Hd.out (by assumption) | ((try (clear e0)); (try (clear e1)); (try (clear e2)); (try (clear e3)); (try (clear e4)); (try (clear e5)); (try (clear e6)); (try (clear e7)); (try (clear e8)); (try (clear e9)); (try (clear e10)); (try (clear e11)); omega)) ⟨by simp [*], by simp [*], by simp [*], by simp [*], by simp [*]⟩ (by simp [*]) (by simp [*]; rfl) ?_) | (refine OutOK.callF [] (by simp [*]; rfl) (by simp [*]; rfl) (by simp [*]; rfl) hb59 (by apply ci <;> first | assumption | exact Hd.out (by assumption) | ((try (clear e0)); (try (clear e1)); (try (clear e2)); (try (clear e3)); (try (clear e4)); (try (clear e5)); (try (clear e6)); (try (clear e7)); (try (clear e8)); (try (clear e9)); (try (clear e10)); (try (clear e11)); omega)) ⟨by simp [*], by simp [*], by simp [*], by simp [*], by simp [*]⟩ (by simp [*]) (by simp [*]; rfl) ?_) | (refine OutOK.callF [] (by simp [*]; rfl) (by simp [*]; rfl) (by simp [*]; rfl) hb58 (by apply cr2 <;> first | assumption | exact Hd.out (by assumption) | ((try (clear e0)); (try (clear e1)); (try (clear e2)); (try (clear e3)); (try (clear e4)); (try (clear e5)); (try (clear e6)); (try (clear e7)); (try (clear e8)); (try (clear e9)); (try (clear e10)); (try (clear e11)); omega)) ⟨by simp [*], by simp [*], by simp [*], by simp [*], by simp [*]⟩ (by simp [*]) (by simp [*]; rfl) ?_) | (refine OutOK.callF [] (by simp [*]; rfl) (by simp [*]; rfl) (by simp [*]; rfl) hb60 (by apply cn <;> first | assumption | exact Hd.out (by assumption) | ((try (clear e0)); (try (clear e1)); (try (clear e2)); (try (clear e3)); (try (clear e4)); (try (clear e5)); (try (clear e6)); (try (clear e7)); (try (clear e8)); (try (clear e9)); (try (clear e10)); (try (clear e11)); omega)) ⟨by simp [*], by simp [*], by simp [*], by simp [*], by simp [*]⟩ (by simp [*]) (by simp [*]; rfl) ?_) | refine OutOK.run (by simp [*]; rfl) ?_ | refine AW.ret ?_ | refine AW.skip ?_ | refine AW.exit ?_ | refine fin_r ?_ | refine fin_n ?_ | refine AW.block ?_ | refine blockQ_n ?_ | refine blockQ_r ?_ | refine blockQ_e ?_ | refine blockQ_o rfl ?_)
  simp [Try.f16]
end Go.Proofs.Ytbofobjofngoeaa.EngS


set_option linter.unusedSimpArgs false
set_option linter.unusedVariables false
set_option maxHeartbeats 4000000
set_option maxRecDepth 10000
namespace Go.Proofs.Ytbofobjofngoeaa.EngS
open Go Go.Proofs Go.Eng Go.RowKit
end Go.Proofs.Ytbofobjofngoeaa.EngS


set_option linter.unusedSimpArgs false
set_option linter.unusedVariables false
set_option maxHeartbeats 4000000
set_option maxRecDepth 10000
namespace Go.Proofs.Ytbofobjofngoeaa.EngS
open Go Go.Proofs Go.Eng Go.RowKit
def gvn (l : List Smp) (i : Nat) : List Int := (List.range (l.length + 1)).map fun (p : Nat) => givI l p i
@[simp] theorem gvn_len (l i) : (gvn l i).length = l.length + 1 := by simp [gvn]
theorem gvn_zero (l) : gvn l 0 = List.replicate (l.length + 1) 0 := by
  apply List.ext_getElem
  · simp
  · intro j h1 h2; simp only [gvn, List.getElem_map, List.getElem_range, givI_zero, List.getElem_replicate]
end Go.Proofs.Ytbofobjofngoeaa.EngS


set_option linter.unusedSimpArgs false
set_option linter.unusedVariables false
set_option maxHeartbeats 4000000
set_option maxRecDepth 100000
namespace Go.Proofs.Ytbofobjofngoeaa.EngS
open Go Go.Proofs Go.Eng Go.RowKit
attribute [local irreducible] Go.RowKit.wrap64
end Go.Proofs.Ytbofobjofngoeaa.EngS


set_option linter.unusedSimpArgs false
set_option linter.unusedVariables false
set_option maxHeartbeats 4000000
set_option maxRecDepth 100000
namespace Go.Proofs.Ytbofobjofngoeaa.EngS
open Go Go.Proofs Go.Eng Go.RowKit
attribute [local irreducible] Go.RowKit.wrap64
end Go.Proofs.Ytbofobjofngoeaa.EngS


set_option linter.unusedSimpArgs false
set_option linter.unusedVariables false
set_option maxHeartbeats 4000000
set_option maxRecDepth 10000
namespace Go.Proofs.Ytbofobjofngoeaa.EngS
open Go Go.Proofs Go.Eng Go.RowKit
attribute [local irreducible] Go.RowKit.wrap64
attribute [local simp] optO
theorem x_pickN (code : List Int) (a s n : Int) (h0 : 0 ≤ a) (h1 : a ≤ 900000000000) (hc : code.length ≤ 9223372036854775807) (hb : BytesOK code) (hn : 1 ≤ n) (hn' : n ≤ 1000000) :
    ACallX Try.prog 108 [.p (curP code a s), int n] (fun x : Int × Int × Nat => a ≤ x.1 ∧ x.1 ≤ a + 2 ∧ (x.2.2 : Int) < n) (fun x => [.p (curP code x.1 x.2.1), .x]) (fun x => [int x.2.2]) :=
  (x_pickG code a s n h0 h1 hc hb hn').imp (fun x => (x.1, x.2.1, x.2.2.toNat)) (fun x hx => ⟨hx.1, hx.2.1, by have := hx.2.2; simp only; omega⟩) (fun _ _ => rfl) (fun x hx => by simp [Int.toNat_of_nonneg hx.2.2.1])
theorem x_pickH (code : List Int) (a s n : Int) (h0 : 0 ≤ a) (h1 : a ≤ 900000000000) (hc : code.length ≤ 9223372036854775807) (hb : BytesOK code) :
    ACallX Try.prog 108 [.p (curP code a s), int n] (fun x : Int × Int × Int => a ≤ x.1 ∧ x.1 ≤ a + 2) (fun x => [.p (curP code x.1 x.2.1), .x]) (fun x => [int x.2.2]) := by
  by_cases hn : n ≤ 1
  · refine ACallX.of (N := 20) tok Try.func108 rfl rfl rfl (by simp) ?_
    repeat' (first | with_reducible refine OutOK.done ?_ | refine thenQ_n ?_ | refine thenQ_r ?_ | refine thenQ_e ?_ | refine AW.seq ?_ | refine AW.reg tok (by simp [*]; rfl) ?_ | refine AW.ifB (by simp [*]; rfl) ?_ | refine IfG.t ?_ | refine IfG.f ?_ | (refine IfG.p (fun hg => ?_) (fun hg => ?_) <;> (try (have hg' := hg; simp at hg'))) | (refine IfG.n (fun hg => ?_) (fun hg => ?_) <;> (try (have hg' := hg; simp at hg'))) | (refine OutOK.gateP (fun hg => ?_) (fun hg => ?_) <;> (try (have hg' := hg; simp at hg'))) | (refine OutOK.gateN (fun hg => ?_) (fun hg => ?_) <;> (try (have hg' := hg; simp at hg'))) | (refine IfG.g (fun hg => ?_) (fun hg => ?_) <;> (try (have hg' := hg; simp at hg'))) | (refine OutOK.gate (fun hg => ?_) (fun hg => ?_) <;> (try (have hg' := hg; simp at hg'))) | refine OutOK.run (by simp [*]; rfl) ?_ | refine AW.ret ?_ | refine AW.skip ?_ | refine AW.exit ?_ | refine fin_r ?_ | refine fin_n ?_ | refine AW.block ?_ | refine blockQ_n ?_ | refine blockQ_r ?_ | refine blockQ_e ?_ | refine blockQ_o rfl ?_)
    exact ⟨(a, s, 0), ⟨by simp, by simp only; omega⟩, by simp [Try.f108]⟩
  · have e3 : ¬ n = 0 := by omega
    by_cases e2 : 200 < n
    · refine ACallX.of (N := 20) tok Try.func108 rfl rfl rfl (by simp) ?_
      repeat' (first | with_reducible refine OutOK.done ?_ | refine thenQ_n ?_ | refine thenQ_r ?_ | refine thenQ_e ?_ | refine AW.seq ?_ | refine AW.reg tok (by simp [*]; rfl) ?_ | refine AW.ifB (by simp [*]; rfl) ?_ | refine IfG.t ?_ | refine IfG.f ?_ | (refine IfG.p (fun hg => ?_) (fun hg => ?_) <;> (try (have hg' := hg; simp at hg'))) | (refine IfG.n (fun hg => ?_) (fun hg => ?_) <;> (try (have hg' := hg; simp at hg'))) | (refine OutOK.gateP (fun hg => ?_) (fun hg => ?_) <;> (try (have hg' := hg; simp at hg'))) | (refine OutOK.gateN (fun hg => ?_) (fun hg => ?_) <;> (try (have hg' := hg; simp at hg'))) | (refine IfG.g (fun hg => ?_) (fun hg => ?_) <;> (try (have hg' := hg; simp at hg'))) | (refine OutOK.gate (fun hg => ?_) (fun hg => ?_) <;> (try (have hg' := hg; simp at hg'))) | (refine OutOK.callX [] (by simp [*]; rfl) (by simp [*]; rfl) (by simp [*]; rfl) hb137 (by apply x_spec_l1Cur_next <;> first | assumption | exact Hd.out (by assumption) | ((try (clear e0)); (try (clear e1)); (try (clear e2)); (try (clear e3)); (try (clear e4)); (try (clear e5)); (try (clear e6)); (try (clear e7)); (try (clear e8)); (try (clear e9)); (try (clear e10)); (try (clear e11)); omega)) ⟨by simp [*], by simp [*], by simp [*]⟩ (by simp [*]) (fun x hx => CallX.mk' ⟨by simp [*], by simp [*], by simp [*], by simp [*], by simp [*]⟩ (by simp [*]; rfl) ?_)) | refine OutOK.run (by simp [*]; rfl) ?_ | refine AW.ret ?_ | refine AW.skip ?_ | refine AW.exit ?_ | refine fin_r ?_ | refine fin_n ?_ | refine AW.block ?_ | refine blockQ_n ?_ | refine blockQ_r ?_ | refine blockQ_e ?_ | refine blockQ_o rfl ?_)
      rename_i x1 hx1
      exact ⟨(a + 1 + 1, x.1, Int.tmod (wrap64 (wrap64 (x1.2 * 256) + x.2)) n), ⟨by simp only; omega, by simp only; omega⟩, by simp [Try.f108]⟩
    · refine ACallX.of (N := 20) tok Try.func108 rfl rfl rfl (by simp) ?_
      repeat' (first | with_reducible refine OutOK.done ?_ | refine thenQ_n ?_ | refine thenQ_r ?_ | refine thenQ_e ?_ | refine AW.seq ?_ | refine AW.reg tok (by simp [*]; rfl) ?_ | refine AW.ifB (by simp [*]; rfl) ?_ | refine IfG.t ?_ | refine IfG.f ?_ | (refine IfG.p (fun hg => ?_) (fun hg => ?_) <;> (try (have hg' := hg; simp at hg'))) | (refine IfG.n (fun hg => ?_) (fun hg => ?_) <;> (try (have hg' := hg; simp at hg'))) | (refine OutOK.gateP (fun hg => ?_) (fun hg => ?_) <;> (try (have hg' := hg; simp at hg'))) | (refine OutOK.gateN (fun hg => ?_) (fun hg => ?_) <;> (try (have hg' := hg; simp at hg'))) | (refine IfG.g (fun hg => ?_) (fun hg => ?_) <;> (try (have hg' := hg; simp at hg'))) | (refine OutOK.gate (fun hg => ?_) (fun hg => ?_) <;> (try (have hg' := hg; simp at hg'))) | (refine OutOK.callX [] (by simp [*]; rfl) (by simp [*]; rfl) (by simp [*]; rfl) hb137 (by apply x_spec_l1Cur_next <;> first | assumption | exact Hd.out (by assumption) | ((try (clear e0)); (try (clear e1)); (try (clear e2)); (try (clear e3)); (try (clear e4)); (try (clear e5)); (try (clear e6)); (try (clear e7)); (try (clear e8)); (try (clear e9)); (try (clear e10)); (try (clear e11)); omega)) ⟨by simp [*], by simp [*], by simp [*]⟩ (by simp [*]) (fun x hx => CallX.mk' ⟨by simp [*], by simp [*], by simp [*], by simp [*], by simp [*]⟩ (by simp [*]; rfl) ?_)) | refine OutOK.run (by simp [*]; rfl) ?_ | refine AW.ret ?_ | refine AW.skip ?_ | refine AW.exit ?_ | refine fin_r ?_ | refine fin_n ?_ | refine AW.block ?_ | refine blockQ_n ?_ | refine blockQ_r ?_ | refine blockQ_e ?_ | refine blockQ_o rfl ?_)
      exact ⟨(a + 1, x.1, Int.tmod x.2 n), ⟨by simp only; omega, by simp only; omega⟩, by simp [Try.f108]⟩
end Go.Proofs.Ytbofobjofngoeaa.EngS


set_option linter.unusedSimpArgs false
set_option linter.unusedVariables false
set_option maxHeartbeats 4000000
set_option maxRecDepth 10000
namespace Go.Proofs.Ytbofobjofngoeaa.EngS
open Go Go.Proofs Go.Eng Go.RowKit
attribute [local irreducible] Go.RowKit.wrap64
attribute [local simp] optO sliceV
theorem ItOK_nil : ItOK [] := ⟨fun x hx => by simp at hx, List.Pairwise.nil⟩
theorem ItOK_size {its : List Itm} (h : ItOK its) : ∀ x ∈ its, x.nm.size ≤ 8 := by
  intro x hx
  have := (h.1 x hx).1
  simp only [nameOK, Bool.and_eq_true] at this
  have := inR_iff.1 this.1.1
  omega
theorem x_l21Play2 (l : List Ent) (h40 : l.length ≤ 40) (hw : ∀ e ∈ l, EntW e) : ACallX Try.prog 65 [.v (.sl true 3 (ents l))] (fun x : List Itm => x.length ≤ 40 ∧ ItOK x ∧ ∀ m, playL [] l = some m → x = m) (fun _ => [.x]) (fun x => [.v (.sl false 3 (itms x)), boo (playL [] l).isSome]) := by
  have hP : Hd (playL [] l = playL [] (l.drop 0)) := by simp [Hd]
  have hw' : Hd _ := hw
  generalize playL [] l = pl at *
  clear hw
  refine ACallX.of (N := 98) tok Try.func65 rfl rfl rfl (by simp) ?_
  repeat' (first | with_reducible refine OutOK.done ?_ | refine thenQ_n ?_ | refine thenQ_r ?_ | refine thenQ_e ?_ | refine AW.seq ?_ | refine AW.dreg tok mixed [15, 16]  [(0, false), (1, false), (2, false), (3, false), (4, false), (5, false), (6, false), (7, false), (8, false), (9, false), (10, false), (11, false), (12, false), (14, false), (13, false), (15, true), (16, true), (17, false), (18, false)] (by decide +kernel) rfl (by simp [*]; rfl) ?_ | refine AW.reg tok (by simp [*]; rfl) ?_ | refine AW.ifB (by simp [*]; rfl) ?_ | refine IfG.t ?_ | refine IfG.f ?_ | (refine IfG.p (fun hg => ?_) (fun hg => ?_) <;> (try (have hg' := hg; simp at hg'))) | (refine IfG.n (fun hg => ?_) (fun hg => ?_) <;> (try (have hg' := hg; simp at hg'))) | (refine OutOK.gateP (fun hg => ?_) (fun hg => ?_) <;> (try (have hg' := hg; simp at hg'))) | (refine OutOK.gateN (fun hg => ?_) (fun hg => ?_) <;> (try (have hg' := hg; simp at hg'))) | (refine IfG.g (fun hg => ?_) (fun hg => ?_) <;> (try (have hg' := hg; simp at hg'))) | (refine OutOK.gate (fun hg => ?_) (fun hg => ?_) <;> (try (have hg' := hg; simp at hg'))) | refine OutOK.run (by simp [*]; rfl) ?_ | refine AW.ret ?_ | refine AW.skip ?_ | refine AW.exit ?_ | refine fin_r ?_ | refine fin_n ?_ | refine AW.block ?_ | refine blockQ_n ?_ | refine blockQ_r ?_ | refine blockQ_e ?_ | refine blockQ_o rfl ?_)
  refine AW.loopS (α := Nat × List Itm) (fun q => q.1 ≤ l.length ∧ q.2.length ≤ q.1 ∧ Hd (pl = playL q.2 (l.drop q.1)) ∧ Hd (ItOK q.2)) (fun q => [(0, .c (.sl true 3 (ents l))), (4, .rf 58000 []), (5, .c (.sc (.int .i64 (q.1 : Int))))])
    (fun q => [(58000, .sv (.sl false 3 (itms q.2)))]) (fun q => l.length - q.1) (0, []) ⟨Nat.zero_le _, by simp, hP, ItOK_nil⟩ [(9000, 58000)] (by simp) ⟨by simp, by simp, by simp⟩ ?_
  rintro ⟨i, its⟩ ⟨hi, hil, hp, hok⟩
  simp only at hi hil hp hok
  rcases Nat.lt_or_ge i l.length with hl | hl
  · refine (w_ply l its i hl h40 (by omega) hw'.out).mono fun e st hq => ?_
    have hge : l[i]?.getD default = l[i] := by rw [List.getElem?_eq_getElem hl, Option.getD_some]
    rcases hq with ⟨rfl, hn, hq⟩ | ⟨rfl, m, hm, hml, hq⟩
    · rw [hge] at hn
      have hpn : pl = none := by rw [hp.out, playL_no hl hn]
      subst hpn
      exact ⟨.inr rfl, its, ⟨by omega, hok.out, fun m e => by cases e⟩, hq⟩
    · rw [hge] at hm
      exact ⟨(i + 1, m), ⟨hl, by simp only; omega, by rw [Hd, hp.out, playL_go hl hm], (playE_ok hok.out hm).1⟩, ⟨[], by simp, hq⟩, by simp only; omega⟩
  · have hii : i = l.length := by omega
    subst hii
    have hps : pl = some its := by rw [hp.out, playL_end (Nat.le_refl _)]
    subst hps
    clear hP hp
    repeat' (first | with_reducible refine OutOK.done ?_ | refine thenQ_n ?_ | refine thenQ_r ?_ | refine thenQ_e ?_ | refine AW.seq ?_ | refine AW.dreg tok mixed [15, 16]  [(0, false), (1, false), (2, false), (3, false), (4, false), (5, false), (6, false), (7, false), (8, false), (9, false), (10, false), (11, false), (12, false), (14, false), (13, false), (15, true), (16, true), (17, false), (18, false)] (by decide +kernel) rfl (by simp [*]; rfl) ?_ | refine AW.reg tok (by simp [*]; rfl) ?_ | refine AW.ifB (by simp [*]; rfl) ?_ | refine IfG.t ?_ | refine IfG.f ?_ | (refine IfG.p (fun hg => ?_) (fun hg => ?_) <;> (try (have hg' := hg; simp at hg'))) | (refine IfG.n (fun hg => ?_) (fun hg => ?_) <;> (try (have hg' := hg; simp at hg'))) | (refine OutOK.gateP (fun hg => ?_) (fun hg => ?_) <;> (try (have hg' := hg; simp at hg'))) | (refine OutOK.gateN (fun hg => ?_) (fun hg => ?_) <;> (try (have hg' := hg; simp at hg'))) | (refine IfG.g (fun hg => ?_) (fun hg => ?_) <;> (try (have hg' := hg; simp at hg'))) | (refine OutOK.gate (fun hg => ?_) (fun hg => ?_) <;> (try (have hg' := hg; simp at hg'))) | refine OutOK.run (by simp [*]; rfl) ?_ | refine AW.ret ?_ | refine AW.skip ?_ | refine AW.exit ?_ | refine fin_r ?_ | refine fin_n ?_ | refine AW.block ?_ | refine blockQ_n ?_ | refine blockQ_r ?_ | refine blockQ_e ?_ | refine blockQ_o rfl ?_)
    exact ⟨its, ⟨by omega, hok.out, fun m e => by cases e; rfl⟩, by simp [Try.f65]⟩
theorem c_spec_l21Texts : ACall Try.prog 136 [] [] [.v (.sl false 1 [.sc (.string ⟨#[114, 101, 100, 32, 99, 108, 97, 121]⟩), .sc (.string ⟨#[103, 114, 101, 121, 32, 115, 105, 108, 116]⟩), .sc (.string ⟨#[112, 105, 116, 32, 102, 105, 108, 108]⟩), .sc (.string ⟨#[]⟩), .sc (.string ⟨#[119, 97, 108, 108, 32, 111, 102, 32, 115, 116, 111, 110, 101]⟩), .sc (.string ⟨#[99, 108, 97, 121, 32, 102, 108, 111, 111, 114]⟩)])] := by
  refine ACall.of (N := 2) tok Try.func136 rfl rfl rfl (by simp) ?_
  repeat' (first | with_reducible refine OutOK.done ?_ | refine thenQ_n ?_ | refine thenQ_r ?_ | refine thenQ_e ?_ | refine AW.seq ?_ | refine AW.reg tok (by simp [*]; rfl) ?_ | refine AW.ifB (by simp [*]; rfl) ?_ | refine IfG.t ?_ | refine IfG.f ?_ | (refine IfG.p (fun hg => ?_) (fun hg => ?_) <;> (try (have hg' := hg; simp at hg'))) | (refine IfG.n (fun hg => ?_) (fun hg => ?_) <;> (try (have hg' := hg; simp at hg'))) | (refine OutOK.gateP (fun hg => ?_) (fun hg => ?_) <;> (try (have hg' := hg; simp at hg'))) | (refine OutOK.gateN (fun hg => ?_) (fun hg => ?_) <;> (try (have hg' := hg; simp at hg'))) | (refine IfG.g (fun hg => ?_) (fun hg => ?_) <;> (try (have hg' := hg; simp at hg'))) | (refine OutOK.gate (fun hg => ?_) (fun hg => ?_) <;> (try (have hg' := hg; simp at hg'))) | refine OutOK.run (by simp [*]; rfl) ?_ | refine AW.ret ?_ | refine AW.skip ?_ | refine AW.exit ?_ | refine fin_r ?_ | refine fin_n ?_ | refine AW.block ?_ | refine blockQ_n ?_ | refine blockQ_r ?_ | refine blockQ_e ?_ | refine blockQ_o rfl ?_)
  all_goals (try simp [*, Try.f136])
theorem x_spec_l1Cur_entry (code : List Int) (a s : Int) (l : List Ent) (h40 : l.length ≤ 40) (hw : ∀ e ∈ l, EntW e) (h0 : 0 ≤ a) (h1 : a ≤ 800000000000) (hc : code.length ≤ 9223372036854775807) (hb : BytesOK code) :
    ACallX Try.prog 139 [.p (curP code a s), .v (.sl false 3 (ents l))] (fun x : Int × Int × Int × ByteArray × ByteArray => a ≤ x.1 ∧ x.1 ≤ a + 20 ∧ x.2.2.2.1.size ≤ 100 ∧ x.2.2.2.2.size ≤ 100) (fun x => [.p (curP code x.1 x.2.1), .v (.sl false 3 (ents l))]) (fun x => [.g [.sc (.int .i64 x.2.2.1), .sc (.string x.2.2.2.1), .sc (.string x.2.2.2.2)]]) := by
  have cA : ∀ a s : Int, 0 ≤ a → a ≤ 900000000000 → ACallX Try.prog 135 [.p (curP code a s), .v (.sl false 1 [.sc (.string ⟨#[112, 105, 116]⟩), .sc (.string ⟨#[119, 97, 108, 108]⟩), .sc (.string ⟨#[102, 108, 111, 111, 114]⟩), .sc (.string ⟨#[104, 101, 97, 114, 116, 104]⟩), .sc (.string ⟨#[120, 49]⟩)])] (fun x : Int × Int × ByteArray => a ≤ x.1 ∧ x.1 ≤ a + 2 ∧ x.2.2.size ≤ 100) (fun x => [.p (curP code x.1 x.2.1), .x]) (fun x => [.v (.sc (.string x.2.2))]) :=
    fun a s h0 h1 => x_spec_l1Cur_of code a s [⟨#[112, 105, 116]⟩, ⟨#[119, 97, 108, 108]⟩, ⟨#[102, 108, 111, 111, 114]⟩, ⟨#[104, 101, 97, 114, 116, 104]⟩, ⟨#[120, 49]⟩] (fun y => y.size ≤ 100) h0 h1 hc hb (by simp) (by simp) (by intro y hy; simp at hy; rcases hy with rfl | rfl | rfl | rfl | rfl <;> decide)
  have cT : ∀ a s : Int, 0 ≤ a → a ≤ 900000000000 → ACallX Try.prog 135 [.p (curP code a s), .v (.sl false 1 [.sc (.string ⟨#[114, 101, 100, 32, 99, 108, 97, 121]⟩), .sc (.string ⟨#[103, 114, 101, 121, 32, 115, 105, 108, 116]⟩), .sc (.string ⟨#[112, 105, 116, 32, 102, 105, 108, 108]⟩), .sc (.string ⟨#[]⟩), .sc (.string ⟨#[119, 97, 108, 108, 32, 111, 102, 32, 115, 116, 111, 110, 101]⟩), .sc (.string ⟨#[99, 108, 97, 121, 32, 102, 108, 111, 111, 114]⟩)])] (fun x : Int × Int × ByteArray => a ≤ x.1 ∧ x.1 ≤ a + 2 ∧ x.2.2.size ≤ 100) (fun x => [.p (curP code x.1 x.2.1), .x]) (fun x => [.v (.sc (.string x.2.2))]) :=
    fun a s h0 h1 => x_spec_l1Cur_of code a s [⟨#[114, 101, 100, 32, 99, 108, 97, 121]⟩, ⟨#[103, 114, 101, 121, 32, 115, 105, 108, 116]⟩, ⟨#[112, 105, 116, 32, 102, 105, 108, 108]⟩, ⟨#[]⟩, ⟨#[119, 97, 108, 108, 32, 111, 102, 32, 115, 116, 111, 110, 101]⟩, ⟨#[99, 108, 97, 121, 32, 102, 108, 111, 111, 114]⟩] (fun y => y.size ≤ 100) h0 h1 hc hb (by simp) (by simp) (by intro y hy; simp at hy; rcases hy with rfl | rfl | rfl | rfl | rfl | rfl <;> decide)
  have cB : ∀ a s : Int, 0 ≤ a → a ≤ 900000000000 → ACallX Try.prog 135 [.p (curP code a s), .v (.sl false 1 [.sc (.string ⟨#[112, 105, 116]⟩), .sc (.string ⟨#[65]⟩), .sc (.string ⟨#[]⟩), .sc (.string ⟨#[122, 122]⟩)])] (fun x : Int × Int × ByteArray => a ≤ x.1 ∧ x.1 ≤ a + 2 ∧ x.2.2.size ≤ 100) (fun x => [.p (curP code x.1 x.2.1), .x]) (fun x => [.v (.sc (.string x.2.2))]) :=
    fun a s h0 h1 => x_spec_l1Cur_of code a s [⟨#[112, 105, 116]⟩, ⟨#[65]⟩, ⟨#[]⟩, ⟨#[122, 122]⟩] (fun y => y.size ≤ 100) h0 h1 hc hb (by simp) (by simp) (by intro y hy; simp at hy; rcases hy with rfl | rfl | rfl | rfl <;> decide)
  have cC : ∀ a s : Int, 0 ≤ a → a ≤ 900000000000 → ACallX Try.prog 135 [.p (curP code a s), .v (.sl false 1 [.sc (.string ⟨#[]⟩), .sc (.string ⟨#[120]⟩), .sc (.string ⟨#[48, 49, 50, 51, 52, 53, 54, 55, 56, 57, 48, 49, 50, 51, 52, 53, 54, 55, 56, 57, 48, 49, 50, 51, 52, 53, 54, 55, 56, 57, 48, 49, 50, 51, 52, 53, 54, 55, 56, 57]⟩), .sc (.string ⟨#[48, 49, 50, 51, 52, 53, 54, 55, 56, 57, 48, 49, 50, 51, 52, 53, 54, 55, 56, 57, 48, 49, 50, 51, 52, 53, 54, 55, 56, 57, 48, 49, 50, 51, 52, 53, 54, 55, 56, 57, 48]⟩), .sc (.string ⟨#[97, 9, 98]⟩)])] (fun x : Int × Int × ByteArray => a ≤ x.1 ∧ x.1 ≤ a + 2 ∧ x.2.2.size ≤ 100) (fun x => [.p (curP code x.1 x.2.1), .x]) (fun x => [.v (.sc (.string x.2.2))]) :=
    fun a s h0 h1 => x_spec_l1Cur_of code a s [⟨#[]⟩, ⟨#[120]⟩, ⟨#[48, 49, 50, 51, 52, 53, 54, 55, 56, 57, 48, 49, 50, 51, 52, 53, 54, 55, 56, 57, 48, 49, 50, 51, 52, 53, 54, 55, 56, 57, 48, 49, 50, 51, 52, 53, 54, 55, 56, 57]⟩, ⟨#[48, 49, 50, 51, 52, 53, 54, 55, 56, 57, 48, 49, 50, 51, 52, 53, 54, 55, 56, 57, 48, 49, 50, 51, 52, 53, 54, 55, 56, 57, 48, 49, 50, 51, 52, 53, 54, 55, 56, 57, 48]⟩, ⟨#[97, 9, 98]⟩] (fun y => y.size ≤ 100) h0 h1 hc hb (by simp) (by simp) (by intro y hy; simp at hy; rcases hy with rfl | rfl | rfl | rfl | rfl <;> decide)
  have cp := x_l21Play2 l h40 hw
  generalize (playL [] l).isSome = pb at *
  clear hw
  refine ACallX.of (N := 64) tok Try.func139 rfl rfl rfl (by simp) ?_
  repeat' (first | with_reducible refine OutOK.done ?_ | refine thenQ_n ?_ | refine thenQ_r ?_ | refine thenQ_e ?_ | refine AW.seq ?_ | refine AW.dtreeJ tok mixed [3] [(4, [1])] (.chk [(0, false), (2, false), (1, false), (3, true), (4, false)] [1] (.leaf [(5, false), (6, false)])) (by decide +kernel) rfl (st2 := ?_) ?_ ?_ | with_reducible exact eqSt _ | with_reducible refine ForkQ.mk ?_ ?_ | with_reducible refine ChkQ.mk (by simp [*, watchB, WatchAll]) ?_ | refine OutT.chk (by simp [*]; rfl) ?_ | refine OutT.leaf (by simp [*]; rfl) ?_ | refine OutT.fork (by simp [*]; rfl) ?_ | refine AW.reg tok (by simp [*]; rfl) ?_ | refine AW.ifB (by simp [*]; rfl) ?_ | refine IfG.t ?_ | refine IfG.f ?_ | (refine IfG.p (fun hg => ?_) (fun hg => ?_) <;> (try (have hg' := hg; simp at hg'))) | (refine IfG.n (fun hg => ?_) (fun hg => ?_) <;> (try (have hg' := hg; simp at hg'))) | (refine OutOK.gateP (fun hg => ?_) (fun hg => ?_) <;> (try (have hg' := hg; simp at hg'))) | (refine OutOK.gateN (fun hg => ?_) (fun hg => ?_) <;> (try (have hg' := hg; simp at hg'))) | (refine IfG.g (fun hg => ?_) (fun hg => ?_) <;> (try (have hg' := hg; simp at hg'))) | (refine OutOK.gate (fun hg => ?_) (fun hg => ?_) <;> (try (have hg' := hg; simp at hg'))) | refine OutOK.run (by simp [*]; rfl) ?_ | refine AW.ret ?_ | refine AW.skip ?_ | refine AW.exit ?_ | refine fin_r ?_ | refine fin_n ?_ | refine AW.block ?_ | refine blockQ_n ?_ | refine blockQ_r ?_ | refine blockQ_e ?_ | refine blockQ_o rfl ?_)
  refine OutOK.callX [] (by simp [*]; rfl) (by simp [*]; rfl) (by simp [*]; rfl) hb65 (by apply cp <;> first | assumption | exact Hd.out (by assumption) | ((try (clear e0)); (try (clear e1)); (try (clear e2)); (try (clear e3)); (try (clear e4)); (try (clear e5)); (try (clear e6)); (try (clear e7)); (try (clear e8)); (try (clear e9)); (try (clear e10)); (try (clear e11)); omega)) ⟨by simp [*], by simp [*], by simp [*]⟩ (by simp [*]) (fun x hx => ?_)
  obtain ⟨p1, p2, -⟩ := hx
  have hsz := ItOK_size p2
  clear p2 cp
  obtain ⟨its, hits⟩ : ∃ its, its = x := ⟨_, rfl⟩
  subst hits
  replace hsz : Hd _ := hsz
  by_cases hl : its.length = 0
  · have hl' : its = [] := List.length_eq_zero_iff.1 hl
    subst hl'
    refine CallX.mk' ⟨by simp [*], by simp [*], by simp [*], by simp [*], by simp [*]⟩ (by simp [*]; rfl) ?_
    repeat' (first | with_reducible refine OutOK.done ?_ | refine thenQ_n ?_ | refine thenQ_r ?_ | refine thenQ_e ?_ | refine AW.seq ?_ | refine AW.dtree tok mixed [3] [(4, [1])] (.chk [(0, false), (2, false), (1, false), (3, true), (4, false)] [1] (.leaf [(5, false), (6, false)])) (by decide +kernel) rfl ?_ | with_reducible exact eqSt _ | with_reducible refine ForkQ.mk ?_ ?_ | with_reducible refine ChkQ.mk (by simp [*, watchB, WatchAll]) ?_ | refine OutT.chk (by simp [*]; rfl) ?_ | refine OutT.leaf (by simp [*]; rfl) ?_ | refine OutT.fork (by simp [*]; rfl) ?_ | refine AW.reg tok (by simp [*]; rfl) ?_ | refine AW.ifB (by simp [*]; rfl) ?_ | refine IfG.t ?_ | refine IfG.f ?_ | (refine IfG.p (fun hg => ?_) (fun hg => ?_) <;> (try (have hg' := hg; simp at hg'))) | (refine IfG.n (fun hg => ?_) (fun hg => ?_) <;> (try (have hg' := hg; simp at hg'))) | (refine OutOK.gateP (fun hg => ?_) (fun hg => ?_) <;> (try (have hg' := hg; simp at hg'))) | (refine OutOK.gateN (fun hg => ?_) (fun hg => ?_) <;> (try (have hg' := hg; simp at hg'))) | (refine IfG.g (fun hg => ?_) (fun hg => ?_) <;> (try (have hg' := hg; simp at hg'))) | (refine OutOK.gate (fun hg => ?_) (fun hg => ?_) <;> (try (have hg' := hg; simp at hg'))) | (refine OutOK.callF [] (by simp [*]; rfl) (by simp [*]; rfl) (by simp [*]; rfl) hb136 (by apply c_spec_l21Texts <;> first | assumption | exact Hd.out (by assumption) | ((try (clear e0)); (try (clear e1)); (try (clear e2)); (try (clear e3)); (try (clear e4)); (try (clear e5)); (try (clear e6)); (try (clear e7)); (try (clear e8)); (try (clear e9)); (try (clear e10)); (try (clear e11)); omega)) ⟨by simp [*], by simp [*], by simp [*], by simp [*], by simp [*]⟩ (by simp [*]) (by simp [*]; rfl) ?_) | (refine OutOK.callX [false, true] (by simp [*]; rfl) (by simp [*]; rfl) (by simp [*]; rfl) hb135 (by apply cA <;> first | assumption | exact Hd.out (by assumption) | ((try (clear e0)); (try (clear e1)); (try (clear e2)); (try (clear e3)); (try (clear e4)); (try (clear e5)); (try (clear e6)); (try (clear e7)); (try (clear e8)); (try (clear e9)); (try (clear e10)); (try (clear e11)); omega)) ⟨by simp [*], by simp [*], by simp [*]⟩ (by simp [*]) (fun x hx => CallX.mk' ⟨by simp [*], by simp [*], by simp [*], by simp [*], by simp [*]⟩ (by simp [*]; rfl) ?_)) | (refine OutOK.callX [false, true] (by simp [*]; rfl) (by simp [*]; rfl) (by simp [*]; rfl) hb135 (by apply cT <;> first | assumption | exact Hd.out (by assumption) | ((try (clear e0)); (try (clear e1)); (try (clear e2)); (try (clear e3)); (try (clear e4)); (try (clear e5)); (try (clear e6)); (try (clear e7)); (try (clear e8)); (try (clear e9)); (try (clear e10)); (try (clear e11)); omega)) ⟨by simp [*], by simp [*], by simp [*]⟩ (by simp [*]) (fun x hx => CallX.mk' ⟨by simp [*], by simp [*], by simp [*], by simp [*], by simp [*]⟩ (by simp [*]; rfl) ?_)) | refine OutOK.run (by simp [*]; rfl) ?_ | refine AW.ret ?_ | refine AW.skip ?_ | refine AW.exit ?_ | refine fin_r ?_ | refine fin_n ?_ | refine AW.block ?_ | refine blockQ_n ?_ | refine blockQ_r ?_ | refine blockQ_e ?_ | refine blockQ_o rfl ?_)
    rename_i u hu
    exact ⟨(x.1, x.2.1, 1, u.2.2, x.2.2), ⟨by simp only; ((try (clear e0)); (try (clear e1)); (try (clear e2)); (try (clear e3)); (try (clear e4)); (try (clear e5)); (try (clear e6)); (try (clear e7)); (try (clear e8)); (try (clear e9)); (try (clear e10)); (try (clear e11)); omega), by simp only; ((try (clear e0)); (try (clear e1)); (try (clear e2)); (try (clear e3)); (try (clear e4)); (try (clear e5)); (try (clear e6)); (try (clear e7)); (try (clear e8)); (try (clear e9)); (try (clear e10)); (try (clear e11)); omega), hu.2.2, hx.2.2⟩, by simp [Try.f139]⟩
  · have hlI : ¬ (its.length : Int) = 0 := by omega
    have hlN : ¬ its = [] := fun e => by subst e; simp at hl
    have cq : ∀ a s : Int, 0 ≤ a → a ≤ 900000000000 → ACallX Try.prog 108 [.p (curP code a s), int its.length] (fun x : Int × Int × Nat => a ≤ x.1 ∧ x.1 ≤ a + 2 ∧ x.2.2 < its.length) (fun x => [.p (curP code x.1 x.2.1), .x]) (fun x => [int x.2.2]) :=
      fun a s h0 h1 => (x_pickN code a s its.length h0 h1 hc hb (by omega) (by omega)).imp id (fun x hx => ⟨hx.1, hx.2.1, by have := hx.2.2; simp only [id]; omega⟩) (fun _ _ => rfl) (fun _ _ => rfl)
    refine CallX.mk' ⟨by simp [*], by simp [*], by simp [*], by simp [*], by simp [*]⟩ (by simp [*]; rfl) ?_
    repeat' (first | with_reducible refine OutOK.done ?_ | refine thenQ_n ?_ | refine thenQ_r ?_ | refine thenQ_e ?_ | refine AW.seq ?_ | refine AW.dtreeJ tok mixed [3] [(4, [1])] (.chk [(0, false), (2, false), (1, false), (3, true), (4, false)] [1] (.leaf [(5, false), (6, false)])) (by decide +kernel) rfl (st2 := ?_) ?_ ?_ | with_reducible exact eqSt _ | with_reducible refine ForkQ.mk ?_ ?_ | with_reducible refine ChkQ.mk (by simp [*, watchB, WatchAll]) ?_ | refine OutT.chk (by simp [*]; rfl) ?_ | refine OutT.leaf (by simp [*]; rfl) ?_ | refine OutT.fork (by simp [*]; rfl) ?_ | refine AW.reg tok (by simp [*]; rfl) ?_ | refine AW.ifB (by simp [*]; rfl) ?_ | refine IfG.t ?_ | refine IfG.f ?_ | (refine IfG.p (fun hg => ?_) (fun hg => ?_) <;> (try (have hg' := hg; simp at hg'))) | (refine IfG.n (fun hg => ?_) (fun hg => ?_) <;> (try (have hg' := hg; simp at hg'))) | (refine OutOK.gateP (fun hg => ?_) (fun hg => ?_) <;> (try (have hg' := hg; simp at hg'))) | (refine OutOK.gateN (fun hg => ?_) (fun hg => ?_) <;> (try (have hg' := hg; simp at hg'))) | (refine IfG.g (fun hg => ?_) (fun hg => ?_) <;> (try (have hg' := hg; simp at hg'))) | (refine OutOK.gate (fun hg => ?_) (fun hg => ?_) <;> (try (have hg' := hg; simp at hg'))) | refine OutOK.run (by simp [*]; rfl) ?_ | refine AW.ret ?_ | refine AW.skip ?_ | refine AW.exit ?_ | refine fin_r ?_ | refine fin_n ?_ | refine AW.block ?_ | refine blockQ_n ?_ | refine blockQ_r ?_ | refine blockQ_e ?_ | refine blockQ_o rfl ?_)
    refine OutOK.callX [] (by simp [*]; rfl) (by simp [*]; rfl) (by simp [*]; rfl) hb106 (by apply x_spec_l1Cur_one <;> first | assumption | exact Hd.out (by assumption) | ((try (clear e0)); (try (clear e1)); (try (clear e2)); (try (clear e3)); (try (clear e4)); (try (clear e5)); (try (clear e6)); (try (clear e7)); (try (clear e8)); (try (clear e9)); (try (clear e10)); (try (clear e11)); omega)) ⟨by simp [*], by simp [*], by simp [*]⟩ (by simp [*]) (fun x hx => ?_)
    obtain ⟨a1, s1, b⟩ := x
    simp only at hx
    obtain ⟨o1, o2⟩ := hx
    cases b with
    | true =>
      refine CallX.mk' ⟨by simp [*], by simp [*], by simp [*], by simp [*], by simp [*]⟩ (by simp [*]; rfl) ?_
      repeat' (first | with_reducible refine OutOK.done ?_ | refine thenQ_n ?_ | refine thenQ_r ?_ | refine thenQ_e ?_ | refine AW.seq ?_ | refine AW.dtree tok mixed [3] [(4, [1])] (.chk [(0, false), (2, false), (1, false), (3, true), (4, false)] [1] (.leaf [(5, false), (6, false)])) (by decide +kernel) rfl ?_ | with_reducible exact eqSt _ | with_reducible refine ForkQ.mk ?_ ?_ | with_reducible refine ChkQ.mk (by simp [*, watchB, WatchAll]) ?_ | refine OutT.chk (by simp [*]; rfl) ?_ | refine OutT.leaf (by simp [*]; rfl) ?_ | refine OutT.fork (by simp [*]; rfl) ?_ | refine AW.reg tok (by simp [*]; rfl) ?_ | refine AW.ifB (by simp [*]; rfl) ?_ | refine IfG.t ?_ | refine IfG.f ?_ | (refine IfG.p (fun hg => ?_) (fun hg => ?_) <;> (try (have hg' := hg; simp at hg'))) | (refine IfG.n (fun hg => ?_) (fun hg => ?_) <;> (try (have hg' := hg; simp at hg'))) | (refine OutOK.gateP (fun hg => ?_) (fun hg => ?_) <;> (try (have hg' := hg; simp at hg'))) | (refine OutOK.gateN (fun hg => ?_) (fun hg => ?_) <;> (try (have hg' := hg; simp at hg'))) | (refine IfG.g (fun hg => ?_) (fun hg => ?_) <;> (try (have hg' := hg; simp at hg'))) | (refine OutOK.gate (fun hg => ?_) (fun hg => ?_) <;> (try (have hg' := hg; simp at hg'))) | (refine OutOK.callF [] (by simp [*]; rfl) (by simp [*]; rfl) (by simp [*]; rfl) hb136 (by apply c_spec_l21Texts <;> first | assumption | exact Hd.out (by assumption) | ((try (clear e0)); (try (clear e1)); (try (clear e2)); (try (clear e3)); (try (clear e4)); (try (clear e5)); (try (clear e6)); (try (clear e7)); (try (clear e8)); (try (clear e9)); (try (clear e10)); (try (clear e11)); omega)) ⟨by simp [*], by simp [*], by simp [*], by simp [*], by simp [*]⟩ (by simp [*]) (by simp [*]; rfl) ?_) | (refine OutOK.callX [false, true] (by simp [*]; rfl) (by simp [*]; rfl) (by simp [*]; rfl) hb135 (by apply cA <;> first | assumption | exact Hd.out (by assumption) | ((try (clear e0)); (try (clear e1)); (try (clear e2)); (try (clear e3)); (try (clear e4)); (try (clear e5)); (try (clear e6)); (try (clear e7)); (try (clear e8)); (try (clear e9)); (try (clear e10)); (try (clear e11)); omega)) ⟨by simp [*], by simp [*], by simp [*]⟩ (by simp [*]) (fun x hx => CallX.mk' ⟨by simp [*], by simp [*], by simp [*], by simp [*], by simp [*]⟩ (by simp [*]; rfl) ?_)) | (refine OutOK.callX [false, true] (by simp [*]; rfl) (by simp [*]; rfl) (by simp [*]; rfl) hb135 (by apply cT <;> first | assumption | exact Hd.out (by assumption) | ((try (clear e0)); (try (clear e1)); (try (clear e2)); (try (clear e3)); (try (clear e4)); (try (clear e5)); (try (clear e6)); (try (clear e7)); (try (clear e8)); (try (clear e9)); (try (clear e10)); (try (clear e11)); omega)) ⟨by simp [*], by simp [*], by simp [*]⟩ (by simp [*]) (fun x hx => CallX.mk' ⟨by simp [*], by simp [*], by simp [*], by simp [*], by simp [*]⟩ (by simp [*]; rfl) ?_)) | refine OutOK.run (by simp [*]; rfl) ?_ | refine AW.ret ?_ | refine AW.skip ?_ | refine AW.exit ?_ | refine fin_r ?_ | refine fin_n ?_ | refine AW.block ?_ | refine blockQ_n ?_ | refine blockQ_r ?_ | refine blockQ_e ?_ | refine blockQ_o rfl ?_)
      rename_i u hu
      exact ⟨(x.1, x.2.1, 1, u.2.2, x.2.2), ⟨by simp only; ((try (clear e0)); (try (clear e1)); (try (clear e2)); (try (clear e3)); (try (clear e4)); (try (clear e5)); (try (clear e6)); (try (clear e7)); (try (clear e8)); (try (clear e9)); (try (clear e10)); (try (clear e11)); omega), by simp only; ((try (clear e0)); (try (clear e1)); (try (clear e2)); (try (clear e3)); (try (clear e4)); (try (clear e5)); (try (clear e6)); (try (clear e7)); (try (clear e8)); (try (clear e9)); (try (clear e10)); (try (clear e11)); omega), hu.2.2, hx.2.2⟩, by simp [Try.f139]⟩
    | false =>
      refine CallX.mk' ⟨by simp [*], by simp [*], by simp [*], by simp [*], by simp [*]⟩ (by simp [*]; rfl) ?_
      repeat' (first | with_reducible refine OutOK.done ?_ | refine thenQ_n ?_ | refine thenQ_r ?_ | refine thenQ_e ?_ | refine AW.seq ?_ | refine AW.dtreeJ tok mixed [3] [(4, [1])] (.chk [(0, false), (2, false), (1, false), (3, true), (4, false)] [1] (.leaf [(5, false), (6, false)])) (by decide +kernel) rfl (st2 := ?_) ?_ ?_ | with_reducible exact eqSt _ | with_reducible refine ForkQ.mk ?_ ?_ | with_reducible refine ChkQ.mk (by simp [*, watchB, WatchAll]) ?_ | refine OutT.chk (by simp [*]; rfl) ?_ | refine OutT.leaf (by simp [*]; rfl) ?_ | refine OutT.fork (by simp [*]; rfl) ?_ | refine AW.reg tok (by simp [*]; rfl) ?_ | refine AW.ifB (by simp [*]; rfl) ?_ | refine IfG.t ?_ | refine IfG.f ?_ | (refine IfG.p (fun hg => ?_) (fun hg => ?_) <;> (try (have hg' := hg; simp at hg'))) | (refine IfG.n (fun hg => ?_) (fun hg => ?_) <;> (try (have hg' := hg; simp at hg'))) | (refine OutOK.gateP (fun hg => ?_) (fun hg => ?_) <;> (try (have hg' := hg; simp at hg'))) | (refine OutOK.gateN (fun hg => ?_) (fun hg => ?_) <;> (try (have hg' := hg; simp at hg'))) | (refine IfG.g (fun hg => ?_) (fun hg => ?_) <;> (try (have hg' := hg; simp at hg'))) | (refine OutOK.gate (fun hg => ?_) (fun hg => ?_) <;> (try (have hg' := hg; simp at hg'))) | refine OutOK.run (by simp [*]; rfl) ?_ | refine AW.ret ?_ | refine AW.skip ?_ | refine AW.exit ?_ | refine fin_r ?_ | refine fin_n ?_ | refine AW.block ?_ | refine blockQ_n ?_ | refine blockQ_r ?_ | refine blockQ_e ?_ | refine blockQ_o rfl ?_)
      refine OutOK.callX [] (by simp [*]; rfl) (by simp [*]; rfl) (by simp [*]; rfl) hb108 (by apply cq <;> first | assumption | exact Hd.out (by assumption) | ((try (clear e0)); (try (clear e1)); (try (clear e2)); (try (clear e3)); (try (clear e4)); (try (clear e5)); (try (clear e6)); (try (clear e7)); (try (clear e8)); (try (clear e9)); (try (clear e10)); (try (clear e11)); omega)) ⟨by simp [*], by simp [*], by simp [*]⟩ (by simp [*]) (fun x hx => ?_)
      obtain ⟨a2, s2, k⟩ := x
      simp only at hx
      obtain ⟨q1, q2, q3⟩ := hx
      have hk := hsz.out its[k] (List.getElem_mem q3)
      obtain ⟨y, hy⟩ : ∃ y, its[k] = y := ⟨_, rfl⟩
      rw [hy] at hk
      clear cq
      refine CallX.mk' ⟨by simp [*], by simp [*], by simp [*], by simp [*], by simp [*]⟩ (by simp [*]; rfl) ?_
      repeat' (first | with_reducible refine OutOK.done ?_ | refine thenQ_n ?_ | refine thenQ_r ?_ | refine thenQ_e ?_ | refine AW.seq ?_ | refine AW.dtreeJ tok mixed [3] [(4, [1])] (.chk [(0, false), (2, false), (1, false), (3, true), (4, false)] [1] (.leaf [(5, false), (6, false)])) (by decide +kernel) rfl (st2 := ?_) ?_ ?_ | with_reducible exact eqSt _ | with_reducible refine ForkQ.mk ?_ ?_ | with_reducible refine ChkQ.mk (by simp [*, watchB, WatchAll]) ?_ | refine OutT.chk (by simp [*]; rfl) ?_ | refine OutT.leaf (by simp [*]; rfl) ?_ | refine OutT.fork (by simp [*]; rfl) ?_ | refine AW.reg tok (by simp [*]; rfl) ?_ | refine AW.ifB (by simp [*]; rfl) ?_ | refine IfG.t ?_ | refine IfG.f ?_ | (refine IfG.p (fun hg => ?_) (fun hg => ?_) <;> (try (have hg' := hg; simp at hg'))) | (refine IfG.n (fun hg => ?_) (fun hg => ?_) <;> (try (have hg' := hg; simp at hg'))) | (refine OutOK.gateP (fun hg => ?_) (fun hg => ?_) <;> (try (have hg' := hg; simp at hg'))) | (refine OutOK.gateN (fun hg => ?_) (fun hg => ?_) <;> (try (have hg' := hg; simp at hg'))) | (refine IfG.g (fun hg => ?_) (fun hg => ?_) <;> (try (have hg' := hg; simp at hg'))) | (refine OutOK.gate (fun hg => ?_) (fun hg => ?_) <;> (try (have hg' := hg; simp at hg'))) | refine OutOK.run (by simp [*]; rfl) ?_ | refine AW.ret ?_ | refine AW.skip ?_ | refine AW.exit ?_ | refine fin_r ?_ | refine fin_n ?_ | refine AW.block ?_ | refine blockQ_n ?_ | refine blockQ_r ?_ | refine blockQ_e ?_ | refine blockQ_o rfl ?_)
      refine OutOK.callX [] (by simp [*]; rfl) (by simp [*]; rfl) (by simp [*]; rfl) hb106 (by apply x_spec_l1Cur_one <;> first | assumption | exact Hd.out (by assumption) | ((try (clear e0)); (try (clear e1)); (try (clear e2)); (try (clear e3)); (try (clear e4)); (try (clear e5)); (try (clear e6)); (try (clear e7)); (try (clear e8)); (try (clear e9)); (try (clear e10)); (try (clear e11)); omega)) ⟨by simp [*], by simp [*], by simp [*]⟩ (by simp [*]) (fun x hx => ?_)
      obtain ⟨a3, s3, b⟩ := x
      simp only at hx
      obtain ⟨r1, r2⟩ := hx
      cases b with
      | true =>
        refine CallX.mk' ⟨by simp [*], by simp [*], by simp [*], by simp [*], by simp [*]⟩ (by simp [*]; rfl) ?_
        repeat' (first | with_reducible refine OutOK.done ?_ | refine thenQ_n ?_ | refine thenQ_r ?_ | refine thenQ_e ?_ | refine AW.seq ?_ | refine AW.dtree tok mixed [3] [(4, [1])] (.chk [(0, false), (2, false), (1, false), (3, true), (4, false)] [1] (.leaf [(5, false), (6, false)])) (by decide +kernel) rfl ?_ | with_reducible exact eqSt _ | with_reducible refine ForkQ.mk ?_ ?_ | with_reducible refine ChkQ.mk (by simp [*, watchB, WatchAll]) ?_ | refine OutT.chk (by simp [*]; rfl) ?_ | refine OutT.leaf (by simp [*]; rfl) ?_ | refine OutT.fork (by simp [*]; rfl) ?_ | refine AW.reg tok (by simp [*]; rfl) ?_ | refine AW.ifB (by simp [*]; rfl) ?_ | refine IfG.t ?_ | refine IfG.f ?_ | (refine IfG.p (fun hg => ?_) (fun hg => ?_) <;> (try (have hg' := hg; simp at hg'))) | (refine IfG.n (fun hg => ?_) (fun hg => ?_) <;> (try (have hg' := hg; simp at hg'))) | (refine OutOK.gateP (fun hg => ?_) (fun hg => ?_) <;> (try (have hg' := hg; simp at hg'))) | (refine OutOK.gateN (fun hg => ?_) (fun hg => ?_) <;> (try (have hg' := hg; simp at hg'))) | (refine IfG.g (fun hg => ?_) (fun hg => ?_) <;> (try (have hg' := hg; simp at hg'))) | (refine OutOK.gate (fun hg => ?_) (fun hg => ?_) <;> (try (have hg' := hg; simp at hg'))) | (refine OutOK.callX [] (by simp [*]; rfl) (by simp [*]; rfl) (by simp [*]; rfl) hb108 (by apply x_pickH <;> first | assumption | exact Hd.out (by assumption) | ((try (clear e0)); (try (clear e1)); (try (clear e2)); (try (clear e3)); (try (clear e4)); (try (clear e5)); (try (clear e6)); (try (clear e7)); (try (clear e8)); (try (clear e9)); (try (clear e10)); (try (clear e11)); omega)) ⟨by simp [*], by simp [*], by simp [*]⟩ (by simp [*]) (fun x hx => CallX.mk' ⟨by simp [*], by simp [*], by simp [*], by simp [*], by simp [*]⟩ (by simp [*]; rfl) ?_)) | (refine OutOK.callX [false, true] (by simp [*]; rfl) (by simp [*]; rfl) (by simp [*]; rfl) hb135 (by apply cB <;> first | assumption | exact Hd.out (by assumption) | ((try (clear e0)); (try (clear e1)); (try (clear e2)); (try (clear e3)); (try (clear e4)); (try (clear e5)); (try (clear e6)); (try (clear e7)); (try (clear e8)); (try (clear e9)); (try (clear e10)); (try (clear e11)); omega)) ⟨by simp [*], by simp [*], by simp [*]⟩ (by simp [*]) (fun x hx => CallX.mk' ⟨by simp [*], by simp [*], by simp [*], by simp [*], by simp [*]⟩ (by simp [*]; rfl) ?_)) | (refine OutOK.callX [false, true] (by simp [*]; rfl) (by simp [*]; rfl) (by simp [*]; rfl) hb135 (by apply cC <;> first | assumption | exact Hd.out (by assumption) | ((try (clear e0)); (try (clear e1)); (try (clear e2)); (try (clear e3)); (try (clear e4)); (try (clear e5)); (try (clear e6)); (try (clear e7)); (try (clear e8)); (try (clear e9)); (try (clear e10)); (try (clear e11)); omega)) ⟨by simp [*], by simp [*], by simp [*]⟩ (by simp [*]) (fun x hx => CallX.mk' ⟨by simp [*], by simp [*], by simp [*], by simp [*], by simp [*]⟩ (by simp [*]; rfl) ?_)) | refine OutOK.run (by simp [*]; rfl) ?_ | refine AW.ret ?_ | refine AW.skip ?_ | refine AW.exit ?_ | refine fin_r ?_ | refine fin_n ?_ | refine AW.block ?_ | refine blockQ_n ?_ | refine blockQ_r ?_ | refine blockQ_e ?_ | refine blockQ_o rfl ?_)
        rename_i u hu t ht
        exact ⟨(x.1, x.2.1, u.2.2, t.2.2, x.2.2), ⟨by simp only; ((try (clear e0)); (try (clear e1)); (try (clear e2)); (try (clear e3)); (try (clear e4)); (try (clear e5)); (try (clear e6)); (try (clear e7)); (try (clear e8)); (try (clear e9)); (try (clear e10)); (try (clear e11)); omega), by simp only; ((try (clear e0)); (try (clear e1)); (try (clear e2)); (try (clear e3)); (try (clear e4)); (try (clear e5)); (try (clear e6)); (try (clear e7)); (try (clear e8)); (try (clear e9)); (try (clear e10)); (try (clear e11)); omega), ht.2.2, hx.2.2⟩, by simp [Try.f139]⟩
      | false =>
        obtain ⟨nm, tx, vd⟩ := y
        cases vd with
        | true =>
          refine CallX.mk' ⟨by simp [*], by simp [*], by simp [*], by simp [*], by simp [*]⟩ (by simp [*]; rfl) ?_
          repeat' (first | with_reducible refine OutOK.done ?_ | refine thenQ_n ?_ | refine thenQ_r ?_ | refine thenQ_e ?_ | refine AW.seq ?_ | refine AW.dtreeJ tok mixed [3] [(4, [1])] (.chk [(0, false), (2, false), (1, false), (3, true), (4, false)] [1] (.leaf [(5, false), (6, false)])) (by decide +kernel) rfl (st2 := ?_) ?_ ?_ | with_reducible exact eqSt _ | with_reducible refine ForkQ.mk ?_ ?_ | with_reducible refine ChkQ.mk (by simp [*, watchB, WatchAll]) ?_ | refine OutT.chk (by simp [*]; rfl) ?_ | refine OutT.leaf (by simp [*]; rfl) ?_ | refine OutT.fork (by simp [*]; rfl) ?_ | refine AW.reg tok (by simp [*]; rfl) ?_ | refine AW.ifB (by simp [*]; rfl) ?_ | refine IfG.t ?_ | refine IfG.f ?_ | (refine IfG.p (fun hg => ?_) (fun hg => ?_) <;> (try (have hg' := hg; simp at hg'))) | (refine IfG.n (fun hg => ?_) (fun hg => ?_) <;> (try (have hg' := hg; simp at hg'))) | (refine OutOK.gateP (fun hg => ?_) (fun hg => ?_) <;> (try (have hg' := hg; simp at hg'))) | (refine OutOK.gateN (fun hg => ?_) (fun hg => ?_) <;> (try (have hg' := hg; simp at hg'))) | (refine IfG.g (fun hg => ?_) (fun hg => ?_) <;> (try (have hg' := hg; simp at hg'))) | (refine OutOK.gate (fun hg => ?_) (fun hg => ?_) <;> (try (have hg' := hg; simp at hg'))) | refine OutOK.run (by simp [*]; rfl) ?_ | refine AW.ret ?_ | refine AW.skip ?_ | refine AW.exit ?_ | refine fin_r ?_ | refine fin_n ?_ | refine AW.block ?_ | refine blockQ_n ?_ | refine blockQ_r ?_ | refine blockQ_e ?_ | refine blockQ_o rfl ?_)
          exact ⟨(a3, s3, 4, nm, ⟨#[]⟩), ⟨by simp only; ((try (clear e0)); (try (clear e1)); (try (clear e2)); (try (clear e3)); (try (clear e4)); (try (clear e5)); (try (clear e6)); (try (clear e7)); (try (clear e8)); (try (clear e9)); (try (clear e10)); (try (clear e11)); omega), by simp only; ((try (clear e0)); (try (clear e1)); (try (clear e2)); (try (clear e3)); (try (clear e4)); (try (clear e5)); (try (clear e6)); (try (clear e7)); (try (clear e8)); (try (clear e9)); (try (clear e10)); (try (clear e11)); omega), by simp only at hk ⊢; ((try (clear e0)); (try (clear e1)); (try (clear e2)); (try (clear e3)); (try (clear e4)); (try (clear e5)); (try (clear e6)); (try (clear e7)); (try (clear e8)); (try (clear e9)); (try (clear e10)); (try (clear e11)); omega), by simp⟩, by simp [Try.f139]⟩
        | false =>
          refine CallX.mk' ⟨by simp [*], by simp [*], by simp [*], by simp [*], by simp [*]⟩ (by simp [*]; rfl) ?_
          repeat' (first | with_reducible refine OutOK.done ?_ | refine thenQ_n ?_ | refine thenQ_r ?_ | refine thenQ_e ?_ | refine AW.seq ?_ | refine AW.dtreeJ tok mixed [3] [(4, [1])] (.chk [(0, false), (2, false), (1, false), (3, true), (4, false)] [1] (.leaf [(5, false), (6, false)])) (by decide +kernel) rfl (st2 := ?_) ?_ ?_ | with_reducible exact eqSt _ | with_reducible refine ForkQ.mk ?_ ?_ | with_reducible refine ChkQ.mk (by simp [*, watchB, WatchAll]) ?_ | refine OutT.chk (by simp [*]; rfl) ?_ | refine OutT.leaf (by simp [*]; rfl) ?_ | refine OutT.fork (by simp [*]; rfl) ?_ | refine AW.reg tok (by simp [*]; rfl) ?_ | refine AW.ifB (by simp [*]; rfl) ?_ | refine IfG.t ?_ | refine IfG.f ?_ | (refine IfG.p (fun hg => ?_) (fun hg => ?_) <;> (try (have hg' := hg; simp at hg'))) | (refine IfG.n (fun hg => ?_) (fun hg => ?_) <;> (try (have hg' := hg; simp at hg'))) | (refine OutOK.gateP (fun hg => ?_) (fun hg => ?_) <;> (try (have hg' := hg; simp at hg'))) | (refine OutOK.gateN (fun hg => ?_) (fun hg => ?_) <;> (try (have hg' := hg; simp at hg'))) | (refine IfG.g (fun hg => ?_) (fun hg => ?_) <;> (try (have hg' := hg; simp at hg'))) | (refine OutOK.gate (fun hg => ?_) (fun hg => ?_) <;> (try (have hg' := hg; simp at hg'))) | refine OutOK.run (by simp [*]; rfl) ?_ | refine AW.ret ?_ | refine AW.skip ?_ | refine AW.exit ?_ | refine fin_r ?_ | refine fin_n ?_ | refine AW.block ?_ | refine blockQ_n ?_ | refine blockQ_r ?_ | refine blockQ_e ?_ | refine blockQ_o rfl ?_)
          refine OutOK.callX [] (by simp [*]; rfl) (by simp [*]; rfl) (by simp [*]; rfl) hb106 (by apply x_spec_l1Cur_one <;> first | assumption | exact Hd.out (by assumption) | ((try (clear e0)); (try (clear e1)); (try (clear e2)); (try (clear e3)); (try (clear e4)); (try (clear e5)); (try (clear e6)); (try (clear e7)); (try (clear e8)); (try (clear e9)); (try (clear e10)); (try (clear e11)); omega)) ⟨by simp [*], by simp [*], by simp [*]⟩ (by simp [*]) (fun x hx => ?_)
          obtain ⟨a4, s4, b⟩ := x
          simp only at hx
          obtain ⟨t1, t2⟩ := hx
          cases b with
          | true =>
            refine CallX.mk' ⟨by simp [*], by simp [*], by simp [*], by simp [*], by simp [*]⟩ (by simp [*]; rfl) ?_
            repeat' (first | with_reducible refine OutOK.done ?_ | refine thenQ_n ?_ | refine thenQ_r ?_ | refine thenQ_e ?_ | refine AW.seq ?_ | refine AW.dtree tok mixed [3] [(4, [1])] (.chk [(0, false), (2, false), (1, false), (3, true), (4, false)] [1] (.leaf [(5, false), (6, false)])) (by decide +kernel) rfl ?_ | with_reducible exact eqSt _ | with_reducible refine ForkQ.mk ?_ ?_ | with_reducible refine ChkQ.mk (by simp [*, watchB, WatchAll]) ?_ | refine OutT.chk (by simp [*]; rfl) ?_ | refine OutT.leaf (by simp [*]; rfl) ?_ | refine OutT.fork (by simp [*]; rfl) ?_ | refine AW.reg tok (by simp [*]; rfl) ?_ | refine AW.ifB (by simp [*]; rfl) ?_ | refine IfG.t ?_ | refine IfG.f ?_ | (refine IfG.p (fun hg => ?_) (fun hg => ?_) <;> (try (have hg' := hg; simp at hg'))) | (refine IfG.n (fun hg => ?_) (fun hg => ?_) <;> (try (have hg' := hg; simp at hg'))) | (refine OutOK.gateP (fun hg => ?_) (fun hg => ?_) <;> (try (have hg' := hg; simp at hg'))) | (refine OutOK.gateN (fun hg => ?_) (fun hg => ?_) <;> (try (have hg' := hg; simp at hg'))) | (refine IfG.g (fun hg => ?_) (fun hg => ?_) <;> (try (have hg' := hg; simp at hg'))) | (refine OutOK.gate (fun hg => ?_) (fun hg => ?_) <;> (try (have hg' := hg; simp at hg'))) | (refine OutOK.callF [] (by simp [*]; rfl) (by simp [*]; rfl) (by simp [*]; rfl) hb136 (by apply c_spec_l21Texts <;> first | assumption | exact Hd.out (by assumption) | ((try (clear e0)); (try (clear e1)); (try (clear e2)); (try (clear e3)); (try (clear e4)); (try (clear e5)); (try (clear e6)); (try (clear e7)); (try (clear e8)); (try (clear e9)); (try (clear e10)); (try (clear e11)); omega)) ⟨by simp [*], by simp [*], by simp [*], by simp [*], by simp [*]⟩ (by simp [*]) (by simp [*]; rfl) ?_) | (refine OutOK.callX [false, true] (by simp [*]; rfl) (by simp [*]; rfl) (by simp [*]; rfl) hb135 (by apply cT <;> first | assumption | exact Hd.out (by assumption) | ((try (clear e0)); (try (clear e1)); (try (clear e2)); (try (clear e3)); (try (clear e4)); (try (clear e5)); (try (clear e6)); (try (clear e7)); (try (clear e8)); (try (clear e9)); (try (clear e10)); (try (clear e11)); omega)) ⟨by simp [*], by simp [*], by simp [*]⟩ (by simp [*]) (fun x hx => CallX.mk' ⟨by simp [*], by simp [*], by simp [*], by simp [*], by simp [*]⟩ (by simp [*]; rfl) ?_)) | refine OutOK.run (by simp [*]; rfl) ?_ | refine AW.ret ?_ | refine AW.skip ?_ | refine AW.exit ?_ | refine fin_r ?_ | refine fin_n ?_ | refine AW.block ?_ | refine blockQ_n ?_ | refine blockQ_r ?_ | refine blockQ_e ?_ | refine blockQ_o rfl ?_)
            exact ⟨(x.1, x.2.1, 2, nm, x.2.2), ⟨by simp only; ((try (clear e0)); (try (clear e1)); (try (clear e2)); (try (clear e3)); (try (clear e4)); (try (clear e5)); (try (clear e6)); (try (clear e7)); (try (clear e8)); (try (clear e9)); (try (clear e10)); (try (clear e11)); omega), by simp only; ((try (clear e0)); (try (clear e1)); (try (clear e2)); (try (clear e3)); (try (clear e4)); (try (clear e5)); (try (clear e6)); (try (clear e7)); (try (clear e8)); (try (clear e9)); (try (clear e10)); (try (clear e11)); omega), by simp only at hk ⊢; ((try (clear e0)); (try (clear e1)); (try (clear e2)); (try (clear e3)); (try (clear e4)); (try (clear e5)); (try (clear e6)); (try (clear e7)); (try (clear e8)); (try (clear e9)); (try (clear e10)); (try (clear e11)); omega), hx.2.2⟩, by simp [Try.f139]⟩
          | false =>
            refine CallX.mk' ⟨by simp [*], by simp [*], by simp [*], by simp [*], by simp [*]⟩ (by simp [*]; rfl) ?_
            repeat' (first | with_reducible refine OutOK.done ?_ | refine thenQ_n ?_ | refine thenQ_r ?_ | refine thenQ_e ?_ | refine AW.seq ?_ | refine AW.dtreeJ tok mixed [3] [(4, [1])] (.chk [(0, false), (2, false), (1, false), (3, true), (4, false)] [1] (.leaf [(5, false), (6, false)])) (by decide +kernel) rfl (st2 := ?_) ?_ ?_ | with_reducible exact eqSt _ | with_reducible refine ForkQ.mk ?_ ?_ | with_reducible refine ChkQ.mk (by simp [*, watchB, WatchAll]) ?_ | refine OutT.chk (by simp [*]; rfl) ?_ | refine OutT.leaf (by simp [*]; rfl) ?_ | refine OutT.fork (by simp [*]; rfl) ?_ | refine AW.reg tok (by simp [*]; rfl) ?_ | refine AW.ifB (by simp [*]; rfl) ?_ | refine IfG.t ?_ | refine IfG.f ?_ | (refine IfG.p (fun hg => ?_) (fun hg => ?_) <;> (try (have hg' := hg; simp at hg'))) | (refine IfG.n (fun hg => ?_) (fun hg => ?_) <;> (try (have hg' := hg; simp at hg'))) | (refine OutOK.gateP (fun hg => ?_) (fun hg => ?_) <;> (try (have hg' := hg; simp at hg'))) | (refine OutOK.gateN (fun hg => ?_) (fun hg => ?_) <;> (try (have hg' := hg; simp at hg'))) | (refine IfG.g (fun hg => ?_) (fun hg => ?_) <;> (try (have hg' := hg; simp at hg'))) | (refine OutOK.gate (fun hg => ?_) (fun hg => ?_) <;> (try (have hg' := hg; simp at hg'))) | refine OutOK.run (by simp [*]; rfl) ?_ | refine AW.ret ?_ | refine AW.skip ?_ | refine AW.exit ?_ | refine fin_r ?_ | refine fin_n ?_ | refine AW.block ?_ | refine blockQ_n ?_ | refine blockQ_r ?_ | refine blockQ_e ?_ | refine blockQ_o rfl ?_)
            exact ⟨(a4, s4, 3, nm, ⟨#[]⟩), ⟨by simp only; ((try (clear e0)); (try (clear e1)); (try (clear e2)); (try (clear e3)); (try (clear e4)); (try (clear e5)); (try (clear e6)); (try (clear e7)); (try (clear e8)); (try (clear e9)); (try (clear e10)); (try (clear e11)); omega), by simp only; ((try (clear e0)); (try (clear e1)); (try (clear e2)); (try (clear e3)); (try (clear e4)); (try (clear e5)); (try (clear e6)); (try (clear e7)); (try (clear e8)); (try (clear e9)); (try (clear e10)); (try (clear e11)); omega), by simp only at hk ⊢; ((try (clear e0)); (try (clear e1)); (try (clear e2)); (try (clear e3)); (try (clear e4)); (try (clear e5)); (try (clear e6)); (try (clear e7)); (try (clear e8)); (try (clear e9)); (try (clear e10)); (try (clear e11)); omega), by simp⟩, by simp [Try.f139]⟩
end Go.Proofs.Ytbofobjofngoeaa.EngS

