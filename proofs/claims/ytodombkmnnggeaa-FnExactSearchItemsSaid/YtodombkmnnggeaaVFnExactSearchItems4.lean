-- Written by this session's texts and program for this claim. Lean checks it.
import Derived.Shelf.Strings.Shaped
import Derived.Ground.NamesProg
import Derived.Test.YtodombkmnnggeaaProg
import Derived.Test.YtodombkmnnggeaaVFnExactSearchItems3
set_option autoImplicit true
set_option relaxedAutoImplicit true
set_option linter.unusedSimpArgs false
set_option linter.unusedVariables false
set_option maxHeartbeats 4000000
set_option maxRecDepth 100000
namespace Go.Proofs.Ytodombkmnnggeaa.EngS
open Go Go.Proofs Go.Eng Go.RowKit
def playE (its : List Itm) (e : Ent) : Option (List Itm) :=
  if nameOK e.itm = true ∧ textOK e.txt = true then
    if fnd its e.itm < 0 then (if e.kd = 1 then some (its ++ [⟨e.itm, e.txt, false⟩]) else none)
    else
      if e.kd = 2 ∧ (its[(fnd its e.itm).toNat]?.getD default).vd = false then some (its.set (fnd its e.itm).toNat ⟨(its[(fnd its e.itm).toNat]?.getD default).nm, e.txt, (its[(fnd its e.itm).toNat]?.getD default).vd⟩)
      else if e.kd = 3 ∧ e.txt.toList = [] ∧ (its[(fnd its e.itm).toNat]?.getD default).vd = false then some (its.set (fnd its e.itm).toNat ⟨(its[(fnd its e.itm).toNat]?.getD default).nm, (its[(fnd its e.itm).toNat]?.getD default).tx, true⟩)
      else if e.kd = 4 ∧ e.txt.toList = [] ∧ (its[(fnd its e.itm).toNat]?.getD default).vd = true then some (its.set (fnd its e.itm).toNat ⟨(its[(fnd its e.itm).toNat]?.getD default).nm, (its[(fnd its e.itm).toNat]?.getD default).tx, false⟩)
      else none
  else none
def playL : List Itm → List Ent → Option (List Itm)
  | its, [] => some its
  | its, e :: es => match playE its e with
    | some m => playL m es
    | none => none
theorem playL_go {its m : List Itm} {l : List Ent} {i : Nat} (h : i < l.length) (hp : playE its l[i] = some m) : playL its (l.drop i) = playL m (l.drop (i + 1)) := by
  rw [List.drop_eq_getElem_cons h, playL, hp]
theorem playL_no {its : List Itm} {l : List Ent} {i : Nat} (h : i < l.length) (hp : playE its l[i] = none) : playL its (l.drop i) = none := by
  rw [List.drop_eq_getElem_cons h, playL, hp]
theorem playL_end {its : List Itm} {l : List Ent} {i : Nat} (h : l.length ≤ i) : playL its (l.drop i) = some its := by
  rw [List.drop_eq_nil_of_le h, playL]
theorem idx_cases {α : Type} (p : α → Bool) (xs : List α) : idx p xs < 0 ∨ ∃ k : Nat, idx p xs = (k : Int) ∧ k < xs.length := by
  unfold idx
  cases h : xs.findIdx? p with
  | none => left; simp
  | some k =>
    right
    refine ⟨k, by simp, ?_⟩
    rw [List.findIdx?_eq_some_iff_getElem] at h
    exact h.1
theorem play_not {its : List Itm} {e : Ent} (h : ¬ (nameOK e.itm = true ∧ textOK e.txt = true)) : playE its e = none := by rw [playE, if_neg h]
theorem play_new {its : List Itm} {e : Ent} (h : nameOK e.itm = true ∧ textOK e.txt = true) (hf : fnd its e.itm < 0) : playE its e = if e.kd = 1 then some (its ++ [⟨e.itm, e.txt, false⟩]) else none := by rw [playE, if_pos h, if_pos hf]
theorem play_at {its : List Itm} {e : Ent} {k : Nat} (h : nameOK e.itm = true ∧ textOK e.txt = true) (hf : fnd its e.itm = (k : Int)) (hk : k < its.length) : playE its e =
      if e.kd = 2 ∧ its[k].vd = false then some (its.set k ⟨its[k].nm, e.txt, its[k].vd⟩)
      else if e.kd = 3 ∧ e.txt.toList = [] ∧ its[k].vd = false then some (its.set k ⟨its[k].nm, its[k].tx, true⟩)
      else if e.kd = 4 ∧ e.txt.toList = [] ∧ its[k].vd = true then some (its.set k ⟨its[k].nm, its[k].tx, false⟩)
      else none := by
  rw [playE, if_pos h, if_neg (by omega), hf]
  simp only [Int.toNat_natCast, List.getElem?_eq_getElem hk, Option.getD_some]
def RepQ (l : List Ent) (its : List Itm) (i : Nat) (e : Exit) (st : St) : Prop :=
  (e = .ret ∧ playE its (l[i]?.getD default) = none ∧ FinP T Try.f89.results.toList [.v (.sl true 3 (ents l))] [.x] [.v (.sl false 3 []), boo false] st) ∨
  (e = .normal ∧ ∃ m : List Itm, playE its (l[i]?.getD default) = some m ∧ m.length ≤ its.length + 1 ∧
    LessL st [(4, .rf 48000 []), (12, .c (.sl true 3 (ents l))), (13, .c (.sc (.int .i64 (l.length : Int)))), (14, .c (.sc (.int .i64 ((i + 1 : Nat) : Int))))] [(48000, .sv (.sl false 3 (itms m)))])
theorem s_rep_n (l : List Ent) (its : List Itm) (i : Nat) (kd : Int) (nm tx : ByteArray) (hl : i < l.length) (he : l[i] = ⟨kd, nm, tx⟩) (h40 : l.length ≤ 40) (hil : its.length ≤ 40) (hw : nm.size ≤ 9223372036854775807 ∧ tx.size ≤ 9223372036854775807) (hN : nameOK nm = false) : AW Try.prog 88 (cAt Try.f89 [2, 2, 2, 1, 2, 5, 7]) (mk [(4, .rf 48000 []), (12, .c (.sl true 3 (ents l))), (13, .c (.sc (.int .i64 (l.length : Int)))), (14, .c (.sc (.int .i64 (i : Int))))] [(48000, .sv (.sl false 3 (itms its)))]) (RepQ l its i) := by
  have e1 : wrap64 ((i : Int) + 1) = ((i + 1 : Nat) : Int) := by rw [w64 (by omega) (by omega)]; omega
  have hge : l[i]?.getD default = ⟨kd, nm, tx⟩ := by rw [List.getElem?_eq_getElem hl, Option.getD_some, he]
  have cn := c_impl_isName nm hw.1
  have ct := c_impl_isText tx hw.2
  have cf := c_slices_IndexFunc_item its 114 [.sc (.int .i64 kd), .sc (.string nm), .sc (.string tx)] (fun x => decide (x.nm.toList = nm.toList)) (by omega) (by simp) (fun x => c_impl_replayed_1 x kd nm tx)
  rw [show idx (fun x : Itm => decide (x.nm.toList = nm.toList)) its = fnd its nm from rfl] at cf
  have b1 : (its.length + 1) * 40 ≤ 140737488355328 := by omega
  have b2 : its.length + 1 ≤ 4611686018427387904 := by omega
  have hn : playE its (l[i]?.getD default) = none := by rw [hge]; exact play_not (by simp [hN])
  rw [hN] at cn
  replace hn : Hd _ := hn
  clear hge hw
  repeat' (first | with_reducible refine OutOK.done ?_ | refine thenQ_n ?_ | refine thenQ_r ?_ | refine thenQ_e ?_ | refine AW.seq ?_ | refine AW.dreg tok mixed [10, 11]  [(0, false), (1, false), (2, false), (3, false), (4, false), (5, false), (6, false), (7, false), (9, false), (8, false), (10, true), (11, true), (12, false), (13, false)] (by decide +kernel) rfl (by simp [*]; rfl) ?_ | refine AW.reg tok (by simp [*]; rfl) ?_ | refine AW.ifB (by simp [*]; rfl) ?_ | refine IfG.t ?_ | refine IfG.f ?_ | (refine IfG.p (fun hg => ?_) (fun hg => ?_) <;> (try (have hg' := hg; simp at hg'))) | (refine IfG.n (fun hg => ?_) (fun hg => ?_) <;> (try (have hg' := hg; simp at hg'))) | (refine OutOK.gateP (fun hg => ?_) (fun hg => ?_) <;> (try (have hg' := hg; simp at hg'))) | (refine OutOK.gateN (fun hg => ?_) (fun hg => ?_) <;> (try (have hg' := hg; simp at hg'))) | (refine IfG.g (fun hg => ?_) (fun hg => ?_) <;> (try (have hg' := hg; simp at hg'))) | (refine OutOK.gate (fun hg => ?_) (fun hg => ?_) <;> (try (have hg' := hg; simp at hg'))) | (refine OutOK.callF [] (by simp [*]; rfl) (by simp [*]; rfl) (by simp [*]; rfl) hb111 (by apply cn <;> first | assumption | exact Hd.out (by assumption) | ((try (clear e0)); (try (clear e1)); (try (clear e2)); (try (clear e3)); (try (clear e4)); (try (clear e5)); (try (clear e6)); (try (clear e7)); (try (clear e8)); (try (clear e9)); (try (clear e10)); (try (clear e11)); omega)) ⟨by simp [*], by simp [*], by simp [*], by simp [*], by simp [*]⟩ (by simp [*]) (by simp [*]; rfl) ?_) | (refine OutOK.callF [] (by simp [*]; rfl) (by simp [*]; rfl) (by simp [*]; rfl) hb113 (by apply ct <;> first | assumption | exact Hd.out (by assumption) | ((try (clear e0)); (try (clear e1)); (try (clear e2)); (try (clear e3)); (try (clear e4)); (try (clear e5)); (try (clear e6)); (try (clear e7)); (try (clear e8)); (try (clear e9)); (try (clear e10)); (try (clear e11)); omega)) ⟨by simp [*], by simp [*], by simp [*], by simp [*], by simp [*]⟩ (by simp [*]) (by simp [*]; rfl) ?_) | (refine OutOK.callF [] (by simp [*]; rfl) (by simp [*]; rfl) (by simp [*]; rfl) hb93 (by apply cf <;> first | assumption | exact Hd.out (by assumption) | ((try (clear e0)); (try (clear e1)); (try (clear e2)); (try (clear e3)); (try (clear e4)); (try (clear e5)); (try (clear e6)); (try (clear e7)); (try (clear e8)); (try (clear e9)); (try (clear e10)); (try (clear e11)); omega)) ⟨by simp [*], by simp [*], by simp [*], by simp [*], by simp [*]⟩ (by simp [*]) (by simp [*]; rfl) ?_) | refine OutOK.run (by simp [*]; rfl) ?_ | refine AW.ret ?_ | refine AW.skip ?_ | refine AW.exit ?_ | refine fin_r ?_ | refine fin_n ?_ | refine AW.block ?_ | refine blockQ_n ?_ | refine blockQ_r ?_ | refine blockQ_e ?_ | refine blockQ_o rfl ?_)
  exact .inl ⟨rfl, hn.out, by simp [Try.f89]⟩
theorem s_rep_t (l : List Ent) (its : List Itm) (i : Nat) (kd : Int) (nm tx : ByteArray) (hl : i < l.length) (he : l[i] = ⟨kd, nm, tx⟩) (h40 : l.length ≤ 40) (hil : its.length ≤ 40) (hw : nm.size ≤ 9223372036854775807 ∧ tx.size ≤ 9223372036854775807) (hN : nameOK nm = true) (hT : textOK tx = false) : AW Try.prog 88 (cAt Try.f89 [2, 2, 2, 1, 2, 5, 7]) (mk [(4, .rf 48000 []), (12, .c (.sl true 3 (ents l))), (13, .c (.sc (.int .i64 (l.length : Int)))), (14, .c (.sc (.int .i64 (i : Int))))] [(48000, .sv (.sl false 3 (itms its)))]) (RepQ l its i) := by
  have e1 : wrap64 ((i : Int) + 1) = ((i + 1 : Nat) : Int) := by rw [w64 (by omega) (by omega)]; omega
  have hge : l[i]?.getD default = ⟨kd, nm, tx⟩ := by rw [List.getElem?_eq_getElem hl, Option.getD_some, he]
  have cn := c_impl_isName nm hw.1
  have ct := c_impl_isText tx hw.2
  have cf := c_slices_IndexFunc_item its 114 [.sc (.int .i64 kd), .sc (.string nm), .sc (.string tx)] (fun x => decide (x.nm.toList = nm.toList)) (by omega) (by simp) (fun x => c_impl_replayed_1 x kd nm tx)
  rw [show idx (fun x : Itm => decide (x.nm.toList = nm.toList)) its = fnd its nm from rfl] at cf
  have b1 : (its.length + 1) * 40 ≤ 140737488355328 := by omega
  have b2 : its.length + 1 ≤ 4611686018427387904 := by omega
  have hn : playE its (l[i]?.getD default) = none := by rw [hge]; exact play_not (by simp [hT])
  rw [hN] at cn
  rw [hT] at ct
  replace hn : Hd _ := hn
  clear hge hw
  repeat' (first | with_reducible refine OutOK.done ?_ | refine thenQ_n ?_ | refine thenQ_r ?_ | refine thenQ_e ?_ | refine AW.seq ?_ | refine AW.dreg tok mixed [10, 11]  [(0, false), (1, false), (2, false), (3, false), (4, false), (5, false), (6, false), (7, false), (9, false), (8, false), (10, true), (11, true), (12, false), (13, false)] (by decide +kernel) rfl (by simp [*]; rfl) ?_ | refine AW.reg tok (by simp [*]; rfl) ?_ | refine AW.ifB (by simp [*]; rfl) ?_ | refine IfG.t ?_ | refine IfG.f ?_ | (refine IfG.p (fun hg => ?_) (fun hg => ?_) <;> (try (have hg' := hg; simp at hg'))) | (refine IfG.n (fun hg => ?_) (fun hg => ?_) <;> (try (have hg' := hg; simp at hg'))) | (refine OutOK.gateP (fun hg => ?_) (fun hg => ?_) <;> (try (have hg' := hg; simp at hg'))) | (refine OutOK.gateN (fun hg => ?_) (fun hg => ?_) <;> (try (have hg' := hg; simp at hg'))) | (refine IfG.g (fun hg => ?_) (fun hg => ?_) <;> (try (have hg' := hg; simp at hg'))) | (refine OutOK.gate (fun hg => ?_) (fun hg => ?_) <;> (try (have hg' := hg; simp at hg'))) | (refine OutOK.callF [] (by simp [*]; rfl) (by simp [*]; rfl) (by simp [*]; rfl) hb111 (by apply cn <;> first | assumption | exact Hd.out (by assumption) | ((try (clear e0)); (try (clear e1)); (try (clear e2)); (try (clear e3)); (try (clear e4)); (try (clear e5)); (try (clear e6)); (try (clear e7)); (try (clear e8)); (try (clear e9)); (try (clear e10)); (try (clear e11)); omega)) ⟨by simp [*], by simp [*], by simp [*], by simp [*], by simp [*]⟩ (by simp [*]) (by simp [*]; rfl) ?_) | (refine OutOK.callF [] (by simp [*]; rfl) (by simp [*]; rfl) (by simp [*]; rfl) hb113 (by apply ct <;> first | assumption | exact Hd.out (by assumption) | ((try (clear e0)); (try (clear e1)); (try (clear e2)); (try (clear e3)); (try (clear e4)); (try (clear e5)); (try (clear e6)); (try (clear e7)); (try (clear e8)); (try (clear e9)); (try (clear e10)); (try (clear e11)); omega)) ⟨by simp [*], by simp [*], by simp [*], by simp [*], by simp [*]⟩ (by simp [*]) (by simp [*]; rfl) ?_) | (refine OutOK.callF [] (by simp [*]; rfl) (by simp [*]; rfl) (by simp [*]; rfl) hb93 (by apply cf <;> first | assumption | exact Hd.out (by assumption) | ((try (clear e0)); (try (clear e1)); (try (clear e2)); (try (clear e3)); (try (clear e4)); (try (clear e5)); (try (clear e6)); (try (clear e7)); (try (clear e8)); (try (clear e9)); (try (clear e10)); (try (clear e11)); omega)) ⟨by simp [*], by simp [*], by simp [*], by simp [*], by simp [*]⟩ (by simp [*]) (by simp [*]; rfl) ?_) | refine OutOK.run (by simp [*]; rfl) ?_ | refine AW.ret ?_ | refine AW.skip ?_ | refine AW.exit ?_ | refine fin_r ?_ | refine fin_n ?_ | refine AW.block ?_ | refine blockQ_n ?_ | refine blockQ_r ?_ | refine blockQ_e ?_ | refine blockQ_o rfl ?_)
  exact .inl ⟨rfl, hn.out, by simp [Try.f89]⟩
theorem s_rep_1 (l : List Ent) (its : List Itm) (i : Nat) (kd : Int) (nm tx : ByteArray) (hl : i < l.length) (he : l[i] = ⟨kd, nm, tx⟩) (h40 : l.length ≤ 40) (hil : its.length ≤ 40) (hw : nm.size ≤ 9223372036854775807 ∧ tx.size ≤ 9223372036854775807) (hnt : nameOK nm = true ∧ textOK tx = true) (hf : fnd its nm < 0) (hk : kd = 1) : AW Try.prog 88 (cAt Try.f89 [2, 2, 2, 1, 2, 5, 7]) (mk [(4, .rf 48000 []), (12, .c (.sl true 3 (ents l))), (13, .c (.sc (.int .i64 (l.length : Int)))), (14, .c (.sc (.int .i64 (i : Int))))] [(48000, .sv (.sl false 3 (itms its)))]) (RepQ l its i) := by
  have e1 : wrap64 ((i : Int) + 1) = ((i + 1 : Nat) : Int) := by rw [w64 (by omega) (by omega)]; omega
  have hge : l[i]?.getD default = ⟨kd, nm, tx⟩ := by rw [List.getElem?_eq_getElem hl, Option.getD_some, he]
  have cn := c_impl_isName nm hw.1
  have ct := c_impl_isText tx hw.2
  have cf := c_slices_IndexFunc_item its 114 [.sc (.int .i64 kd), .sc (.string nm), .sc (.string tx)] (fun x => decide (x.nm.toList = nm.toList)) (by omega) (by simp) (fun x => c_impl_replayed_1 x kd nm tx)
  rw [show idx (fun x : Itm => decide (x.nm.toList = nm.toList)) its = fnd its nm from rfl] at cf
  have b1 : (its.length + 1) * 40 ≤ 140737488355328 := by omega
  have b2 : its.length + 1 ≤ 4611686018427387904 := by omega
  have hn : playE its (l[i]?.getD default) = some (its ++ [⟨nm, tx, false⟩]) := by rw [hge, play_new hnt hf, if_pos hk]
  obtain ⟨hN, hT⟩ := hnt
  rw [hN] at cn
  rw [hT] at ct
  obtain ⟨z, hz⟩ : ∃ z : Int, fnd its nm = z := ⟨_, rfl⟩
  rw [hz] at cf
  have hz0 : z < 0 := by omega
  clear hz hf
  subst hk
  replace hn : Hd _ := hn
  clear hge hw
  repeat' (first | with_reducible refine OutOK.done ?_ | refine thenQ_n ?_ | refine thenQ_r ?_ | refine thenQ_e ?_ | refine AW.seq ?_ | refine AW.dreg tok mixed [10, 11]  [(0, false), (1, false), (2, false), (3, false), (4, false), (5, false), (6, false), (7, false), (9, false), (8, false), (10, true), (11, true), (12, false), (13, false)] (by decide +kernel) rfl (by simp [*]; rfl) ?_ | refine AW.reg tok (by simp [*]; rfl) ?_ | refine AW.ifB (by simp [*]; rfl) ?_ | refine IfG.t ?_ | refine IfG.f ?_ | (refine IfG.p (fun hg => ?_) (fun hg => ?_) <;> (try (have hg' := hg; simp at hg'))) | (refine IfG.n (fun hg => ?_) (fun hg => ?_) <;> (try (have hg' := hg; simp at hg'))) | (refine OutOK.gateP (fun hg => ?_) (fun hg => ?_) <;> (try (have hg' := hg; simp at hg'))) | (refine OutOK.gateN (fun hg => ?_) (fun hg => ?_) <;> (try (have hg' := hg; simp at hg'))) | (refine IfG.g (fun hg => ?_) (fun hg => ?_) <;> (try (have hg' := hg; simp at hg'))) | (refine OutOK.gate (fun hg => ?_) (fun hg => ?_) <;> (try (have hg' := hg; simp at hg'))) | (refine OutOK.callF [] (by simp [*]; rfl) (by simp [*]; rfl) (by simp [*]; rfl) hb111 (by apply cn <;> first | assumption | exact Hd.out (by assumption) | ((try (clear e0)); (try (clear e1)); (try (clear e2)); (try (clear e3)); (try (clear e4)); (try (clear e5)); (try (clear e6)); (try (clear e7)); (try (clear e8)); (try (clear e9)); (try (clear e10)); (try (clear e11)); omega)) ⟨by simp [*], by simp [*], by simp [*], by simp [*], by simp [*]⟩ (by simp [*]) (by simp [*]; rfl) ?_) | (refine OutOK.callF [] (by simp [*]; rfl) (by simp [*]; rfl) (by simp [*]; rfl) hb113 (by apply ct <;> first | assumption | exact Hd.out (by assumption) | ((try (clear e0)); (try (clear e1)); (try (clear e2)); (try (clear e3)); (try (clear e4)); (try (clear e5)); (try (clear e6)); (try (clear e7)); (try (clear e8)); (try (clear e9)); (try (clear e10)); (try (clear e11)); omega)) ⟨by simp [*], by simp [*], by simp [*], by simp [*], by simp [*]⟩ (by simp [*]) (by simp [*]; rfl) ?_) | (refine OutOK.callF [] (by simp [*]; rfl) (by simp [*]; rfl) (by simp [*]; rfl) hb93 (by apply cf <;> first | assumption | exact Hd.out (by assumption) | ((try (clear e0)); (try (clear e1)); (try (clear e2)); (try (clear e3)); (try (clear e4)); (try (clear e5)); (try (clear e6)); (try (clear e7)); (try (clear e8)); (try (clear e9)); (try (clear e10)); (try (clear e11)); omega)) ⟨by simp [*], by simp [*], by simp [*], by simp [*], by simp [*]⟩ (by simp [*]) (by simp [*]; rfl) ?_) | refine OutOK.run (by simp [*]; rfl) ?_ | refine AW.ret ?_ | refine AW.skip ?_ | refine AW.exit ?_ | refine fin_r ?_ | refine fin_n ?_ | refine AW.block ?_ | refine blockQ_n ?_ | refine blockQ_r ?_ | refine blockQ_e ?_ | refine blockQ_o rfl ?_)
  exact .inr ⟨rfl, its ++ [⟨nm, tx, false⟩], hn.out, by simp, ⟨by simp, by simp, by simp⟩⟩
theorem s_rep_1n (l : List Ent) (its : List Itm) (i : Nat) (kd : Int) (nm tx : ByteArray) (hl : i < l.length) (he : l[i] = ⟨kd, nm, tx⟩) (h40 : l.length ≤ 40) (hil : its.length ≤ 40) (hw : nm.size ≤ 9223372036854775807 ∧ tx.size ≤ 9223372036854775807) (hnt : nameOK nm = true ∧ textOK tx = true) (hf : fnd its nm < 0) (hk : ¬ kd = 1) : AW Try.prog 88 (cAt Try.f89 [2, 2, 2, 1, 2, 5, 7]) (mk [(4, .rf 48000 []), (12, .c (.sl true 3 (ents l))), (13, .c (.sc (.int .i64 (l.length : Int)))), (14, .c (.sc (.int .i64 (i : Int))))] [(48000, .sv (.sl false 3 (itms its)))]) (RepQ l its i) := by
  have e1 : wrap64 ((i : Int) + 1) = ((i + 1 : Nat) : Int) := by rw [w64 (by omega) (by omega)]; omega
  have hge : l[i]?.getD default = ⟨kd, nm, tx⟩ := by rw [List.getElem?_eq_getElem hl, Option.getD_some, he]
  have cn := c_impl_isName nm hw.1
  have ct := c_impl_isText tx hw.2
  have cf := c_slices_IndexFunc_item its 114 [.sc (.int .i64 kd), .sc (.string nm), .sc (.string tx)] (fun x => decide (x.nm.toList = nm.toList)) (by omega) (by simp) (fun x => c_impl_replayed_1 x kd nm tx)
  rw [show idx (fun x : Itm => decide (x.nm.toList = nm.toList)) its = fnd its nm from rfl] at cf
  have b1 : (its.length + 1) * 40 ≤ 140737488355328 := by omega
  have b2 : its.length + 1 ≤ 4611686018427387904 := by omega
  have hn : playE its (l[i]?.getD default) = none := by rw [hge, play_new hnt hf, if_neg hk]
  obtain ⟨hN, hT⟩ := hnt
  rw [hN] at cn
  rw [hT] at ct
  obtain ⟨z, hz⟩ : ∃ z : Int, fnd its nm = z := ⟨_, rfl⟩
  rw [hz] at cf
  have hz0 : z < 0 := by omega
  clear hz hf
  replace hn : Hd _ := hn
  clear hge hw
  repeat' (first | with_reducible refine OutOK.done ?_ | refine thenQ_n ?_ | refine thenQ_r ?_ | refine thenQ_e ?_ | refine AW.seq ?_ | refine AW.dreg tok mixed [10, 11]  [(0, false), (1, false), (2, false), (3, false), (4, false), (5, false), (6, false), (7, false), (9, false), (8, false), (10, true), (11, true), (12, false), (13, false)] (by decide +kernel) rfl (by simp [*]; rfl) ?_ | refine AW.reg tok (by simp [*]; rfl) ?_ | refine AW.ifB (by simp [*]; rfl) ?_ | refine IfG.t ?_ | refine IfG.f ?_ | (refine IfG.p (fun hg => ?_) (fun hg => ?_) <;> (try (have hg' := hg; simp at hg'))) | (refine IfG.n (fun hg => ?_) (fun hg => ?_) <;> (try (have hg' := hg; simp at hg'))) | (refine OutOK.gateP (fun hg => ?_) (fun hg => ?_) <;> (try (have hg' := hg; simp at hg'))) | (refine OutOK.gateN (fun hg => ?_) (fun hg => ?_) <;> (try (have hg' := hg; simp at hg'))) | (refine IfG.g (fun hg => ?_) (fun hg => ?_) <;> (try (have hg' := hg; simp at hg'))) | (refine OutOK.gate (fun hg => ?_) (fun hg => ?_) <;> (try (have hg' := hg; simp at hg'))) | (refine OutOK.callF [] (by simp [*]; rfl) (by simp [*]; rfl) (by simp [*]; rfl) hb111 (by apply cn <;> first | assumption | exact Hd.out (by assumption) | ((try (clear e0)); (try (clear e1)); (try (clear e2)); (try (clear e3)); (try (clear e4)); (try (clear e5)); (try (clear e6)); (try (clear e7)); (try (clear e8)); (try (clear e9)); (try (clear e10)); (try (clear e11)); omega)) ⟨by simp [*], by simp [*], by simp [*], by simp [*], by simp [*]⟩ (by simp [*]) (by simp [*]; rfl) ?_) | (refine OutOK.callF [] (by simp [*]; rfl) (by simp [*]; rfl) (by simp [*]; rfl) hb113 (by apply ct <;> first | assumption | exact Hd.out (by assumption) | ((try (clear e0)); (try (clear e1)); (try (clear e2)); (try (clear e3)); (try (clear e4)); (try (clear e5)); (try (clear e6)); (try (clear e7)); (try (clear e8)); (try (clear e9)); (try (clear e10)); (try (clear e11)); omega)) ⟨by simp [*], by simp [*], by simp [*], by simp [*], by simp [*]⟩ (by simp [*]) (by simp [*]; rfl) ?_) | (refine OutOK.callF [] (by simp [*]; rfl) (by simp [*]; rfl) (by simp [*]; rfl) hb93 (by apply cf <;> first | assumption | exact Hd.out (by assumption) | ((try (clear e0)); (try (clear e1)); (try (clear e2)); (try (clear e3)); (try (clear e4)); (try (clear e5)); (try (clear e6)); (try (clear e7)); (try (clear e8)); (try (clear e9)); (try (clear e10)); (try (clear e11)); omega)) ⟨by simp [*], by simp [*], by simp [*], by simp [*], by simp [*]⟩ (by simp [*]) (by simp [*]; rfl) ?_) | refine OutOK.run (by simp [*]; rfl) ?_ | refine AW.ret ?_ | refine AW.skip ?_ | refine AW.exit ?_ | refine fin_r ?_ | refine fin_n ?_ | refine AW.block ?_ | refine blockQ_n ?_ | refine blockQ_r ?_ | refine blockQ_e ?_ | refine blockQ_o rfl ?_)
  exact .inl ⟨rfl, hn.out, by simp [Try.f89]⟩
theorem s_rep_o (l : List Ent) (its : List Itm) (i : Nat) (kd : Int) (nm tx : ByteArray) (hl : i < l.length) (he : l[i] = ⟨kd, nm, tx⟩) (h40 : l.length ≤ 40) (hil : its.length ≤ 40) (hw : nm.size ≤ 9223372036854775807 ∧ tx.size ≤ 9223372036854775807) (hnt : nameOK nm = true ∧ textOK tx = true) (k : Nat) (hf : fnd its nm = (k : Int)) (hkl : k < its.length) (hk : kd = 1) : AW Try.prog 88 (cAt Try.f89 [2, 2, 2, 1, 2, 5, 7]) (mk [(4, .rf 48000 []), (12, .c (.sl true 3 (ents l))), (13, .c (.sc (.int .i64 (l.length : Int)))), (14, .c (.sc (.int .i64 (i : Int))))] [(48000, .sv (.sl false 3 (itms its)))]) (RepQ l its i) := by
  have e1 : wrap64 ((i : Int) + 1) = ((i + 1 : Nat) : Int) := by rw [w64 (by omega) (by omega)]; omega
  have hge : l[i]?.getD default = ⟨kd, nm, tx⟩ := by rw [List.getElem?_eq_getElem hl, Option.getD_some, he]
  have cn := c_impl_isName nm hw.1
  have ct := c_impl_isText tx hw.2
  have cf := c_slices_IndexFunc_item its 114 [.sc (.int .i64 kd), .sc (.string nm), .sc (.string tx)] (fun x => decide (x.nm.toList = nm.toList)) (by omega) (by simp) (fun x => c_impl_replayed_1 x kd nm tx)
  rw [show idx (fun x : Itm => decide (x.nm.toList = nm.toList)) its = fnd its nm from rfl] at cf
  have b1 : (its.length + 1) * 40 ≤ 140737488355328 := by omega
  have b2 : its.length + 1 ≤ 4611686018427387904 := by omega
  have hn : playE its (l[i]?.getD default) = none := by rw [hge, play_at hnt hf hkl]; simp [hk]
  obtain ⟨hN, hT⟩ := hnt
  rw [hN] at cn
  rw [hT] at ct
  rw [hf] at cf
  have hz0 : ¬ (k : Int) < 0 := by omega
  clear hf
  subst hk
  replace hn : Hd _ := hn
  clear hge hw
  repeat' (first | with_reducible refine OutOK.done ?_ | refine thenQ_n ?_ | refine thenQ_r ?_ | refine thenQ_e ?_ | refine AW.seq ?_ | refine AW.dreg tok mixed [10, 11]  [(0, false), (1, false), (2, false), (3, false), (4, false), (5, false), (6, false), (7, false), (9, false), (8, false), (10, true), (11, true), (12, false), (13, false)] (by decide +kernel) rfl (by simp [*]; rfl) ?_ | refine AW.reg tok (by simp [*]; rfl) ?_ | refine AW.ifB (by simp [*]; rfl) ?_ | refine IfG.t ?_ | refine IfG.f ?_ | (refine IfG.p (fun hg => ?_) (fun hg => ?_) <;> (try (have hg' := hg; simp at hg'))) | (refine IfG.n (fun hg => ?_) (fun hg => ?_) <;> (try (have hg' := hg; simp at hg'))) | (refine OutOK.gateP (fun hg => ?_) (fun hg => ?_) <;> (try (have hg' := hg; simp at hg'))) | (refine OutOK.gateN (fun hg => ?_) (fun hg => ?_) <;> (try (have hg' := hg; simp at hg'))) | (refine IfG.g (fun hg => ?_) (fun hg => ?_) <;> (try (have hg' := hg; simp at hg'))) | (refine OutOK.gate (fun hg => ?_) (fun hg => ?_) <;> (try (have hg' := hg; simp at hg'))) | (refine OutOK.callF [] (by simp [*]; rfl) (by simp [*]; rfl) (by simp [*]; rfl) hb111 (by apply cn <;> first | assumption | exact Hd.out (by assumption) | ((try (clear e0)); (try (clear e1)); (try (clear e2)); (try (clear e3)); (try (clear e4)); (try (clear e5)); (try (clear e6)); (try (clear e7)); (try (clear e8)); (try (clear e9)); (try (clear e10)); (try (clear e11)); omega)) ⟨by simp [*], by simp [*], by simp [*], by simp [*], by simp [*]⟩ (by simp [*]) (by simp [*]; rfl) ?_) | (refine OutOK.callF [] (by simp [*]; rfl) (by simp [*]; rfl) (by simp [*]; rfl) hb113 (by apply ct <;> first | assumption | exact Hd.out (by assumption) | ((try (clear e0)); (try (clear e1)); (try (clear e2)); (try (clear e3)); (try (clear e4)); (try (clear e5)); (try (clear e6)); (try (clear e7)); (try (clear e8)); (try (clear e9)); (try (clear e10)); (try (clear e11)); omega)) ⟨by simp [*], by simp [*], by simp [*], by simp [*], by simp [*]⟩ (by simp [*]) (by simp [*]; rfl) ?_) | (refine OutOK.callF [] (by simp [*]; rfl) (by simp [*]; rfl) (by simp [*]; rfl) hb93 (by apply cf <;> first | assumption | exact Hd.out (by assumption) | ((try (clear e0)); (try (clear e1)); (try (clear e2)); (try (clear e3)); (try (clear e4)); (try (clear e5)); (try (clear e6)); (try (clear e7)); (try (clear e8)); (try (clear e9)); (try (clear e10)); (try (clear e11)); omega)) ⟨by simp [*], by simp [*], by simp [*], by simp [*], by simp [*]⟩ (by simp [*]) (by simp [*]; rfl) ?_) | refine OutOK.run (by simp [*]; rfl) ?_ | refine AW.ret ?_ | refine AW.skip ?_ | refine AW.exit ?_ | refine fin_r ?_ | refine fin_n ?_ | refine AW.block ?_ | refine blockQ_n ?_ | refine blockQ_r ?_ | refine blockQ_e ?_ | refine blockQ_o rfl ?_)
  exact .inl ⟨rfl, hn.out, by simp [Try.f89]⟩
theorem s_rep_2n (l : List Ent) (its : List Itm) (i : Nat) (kd : Int) (nm tx : ByteArray) (hl : i < l.length) (he : l[i] = ⟨kd, nm, tx⟩) (h40 : l.length ≤ 40) (hil : its.length ≤ 40) (hw : nm.size ≤ 9223372036854775807 ∧ tx.size ≤ 9223372036854775807) (hnt : nameOK nm = true ∧ textOK tx = true) (k : Nat) (hf : fnd its nm = (k : Int)) (hkl : k < its.length) (hk : kd = 2) (hv : its[k].vd = true) : AW Try.prog 88 (cAt Try.f89 [2, 2, 2, 1, 2, 5, 7]) (mk [(4, .rf 48000 []), (12, .c (.sl true 3 (ents l))), (13, .c (.sc (.int .i64 (l.length : Int)))), (14, .c (.sc (.int .i64 (i : Int))))] [(48000, .sv (.sl false 3 (itms its)))]) (RepQ l its i) := by
  have e1 : wrap64 ((i : Int) + 1) = ((i + 1 : Nat) : Int) := by rw [w64 (by omega) (by omega)]; omega
  have hge : l[i]?.getD default = ⟨kd, nm, tx⟩ := by rw [List.getElem?_eq_getElem hl, Option.getD_some, he]
  have cn := c_impl_isName nm hw.1
  have ct := c_impl_isText tx hw.2
  have cf := c_slices_IndexFunc_item its 114 [.sc (.int .i64 kd), .sc (.string nm), .sc (.string tx)] (fun x => decide (x.nm.toList = nm.toList)) (by omega) (by simp) (fun x => c_impl_replayed_1 x kd nm tx)
  rw [show idx (fun x : Itm => decide (x.nm.toList = nm.toList)) its = fnd its nm from rfl] at cf
  have b1 : (its.length + 1) * 40 ≤ 140737488355328 := by omega
  have b2 : its.length + 1 ≤ 4611686018427387904 := by omega
  have hn : playE its (l[i]?.getD default) = none := by rw [hge, play_at hnt hf hkl]; simp [hk, hv]
  obtain ⟨hN, hT⟩ := hnt
  rw [hN] at cn
  rw [hT] at ct
  rw [hf] at cf
  have hz0 : ¬ (k : Int) < 0 := by omega
  clear hf
  subst hk
  replace hn : Hd _ := hn
  clear hge hw
  repeat' (first | with_reducible refine OutOK.done ?_ | refine thenQ_n ?_ | refine thenQ_r ?_ | refine thenQ_e ?_ | refine AW.seq ?_ | refine AW.dreg tok mixed [10, 11]  [(0, false), (1, false), (2, false), (3, false), (4, false), (5, false), (6, false), (7, false), (9, false), (8, false), (10, true), (11, true), (12, false), (13, false)] (by decide +kernel) rfl (by simp [*]; rfl) ?_ | refine AW.reg tok (by simp [*]; rfl) ?_ | refine AW.ifB (by simp [*]; rfl) ?_ | refine IfG.t ?_ | refine IfG.f ?_ | (refine IfG.p (fun hg => ?_) (fun hg => ?_) <;> (try (have hg' := hg; simp at hg'))) | (refine IfG.n (fun hg => ?_) (fun hg => ?_) <;> (try (have hg' := hg; simp at hg'))) | (refine OutOK.gateP (fun hg => ?_) (fun hg => ?_) <;> (try (have hg' := hg; simp at hg'))) | (refine OutOK.gateN (fun hg => ?_) (fun hg => ?_) <;> (try (have hg' := hg; simp at hg'))) | (refine IfG.g (fun hg => ?_) (fun hg => ?_) <;> (try (have hg' := hg; simp at hg'))) | (refine OutOK.gate (fun hg => ?_) (fun hg => ?_) <;> (try (have hg' := hg; simp at hg'))) | (refine OutOK.callF [] (by simp [*]; rfl) (by simp [*]; rfl) (by simp [*]; rfl) hb111 (by apply cn <;> first | assumption | exact Hd.out (by assumption) | ((try (clear e0)); (try (clear e1)); (try (clear e2)); (try (clear e3)); (try (clear e4)); (try (clear e5)); (try (clear e6)); (try (clear e7)); (try (clear e8)); (try (clear e9)); (try (clear e10)); (try (clear e11)); omega)) ⟨by simp [*], by simp [*], by simp [*], by simp [*], by simp [*]⟩ (by simp [*]) (by simp [*]; rfl) ?_) | (refine OutOK.callF [] (by simp [*]; rfl) (by simp [*]; rfl) (by simp [*]; rfl) hb113 (by apply ct <;> first | assumption | exact Hd.out (by assumption) | ((try (clear e0)); (try (clear e1)); (try (clear e2)); (try (clear e3)); (try (clear e4)); (try (clear e5)); (try (clear e6)); (try (clear e7)); (try (clear e8)); (try (clear e9)); (try (clear e10)); (try (clear e11)); omega)) ⟨by simp [*], by simp [*], by simp [*], by simp [*], by simp [*]⟩ (by simp [*]) (by simp [*]; rfl) ?_) | (refine OutOK.callF [] (by simp [*]; rfl) (by simp [*]; rfl) (by simp [*]; rfl) hb93 (by apply cf <;> first | assumption | exact Hd.out (by assumption) | ((try (clear e0)); (try (clear e1)); (try (clear e2)); (try (clear e3)); (try (clear e4)); (try (clear e5)); (try (clear e6)); (try (clear e7)); (try (clear e8)); (try (clear e9)); (try (clear e10)); (try (clear e11)); omega)) ⟨by simp [*], by simp [*], by simp [*], by simp [*], by simp [*]⟩ (by simp [*]) (by simp [*]; rfl) ?_) | refine OutOK.run (by simp [*]; rfl) ?_ | refine AW.ret ?_ | refine AW.skip ?_ | refine AW.exit ?_ | refine fin_r ?_ | refine fin_n ?_ | refine AW.block ?_ | refine blockQ_n ?_ | refine blockQ_r ?_ | refine blockQ_e ?_ | refine blockQ_o rfl ?_)
  exact .inl ⟨rfl, hn.out, by simp [Try.f89]⟩
theorem s_rep_2 (l : List Ent) (its : List Itm) (i : Nat) (kd : Int) (nm tx : ByteArray) (hl : i < l.length) (he : l[i] = ⟨kd, nm, tx⟩) (h40 : l.length ≤ 40) (hil : its.length ≤ 40) (hw : nm.size ≤ 9223372036854775807 ∧ tx.size ≤ 9223372036854775807) (hnt : nameOK nm = true ∧ textOK tx = true) (k : Nat) (hf : fnd its nm = (k : Int)) (hkl : k < its.length) (hk : kd = 2) (hv : its[k].vd = false) : AW Try.prog 88 (cAt Try.f89 [2, 2, 2, 1, 2, 5, 7]) (mk [(4, .rf 48000 []), (12, .c (.sl true 3 (ents l))), (13, .c (.sc (.int .i64 (l.length : Int)))), (14, .c (.sc (.int .i64 (i : Int))))] [(48000, .sv (.sl false 3 (itms its)))]) (RepQ l its i) := by
  have e1 : wrap64 ((i : Int) + 1) = ((i + 1 : Nat) : Int) := by rw [w64 (by omega) (by omega)]; omega
  have hge : l[i]?.getD default = ⟨kd, nm, tx⟩ := by rw [List.getElem?_eq_getElem hl, Option.getD_some, he]
  have cn := c_impl_isName nm hw.1
  have ct := c_impl_isText tx hw.2
  have cf := c_slices_IndexFunc_item its 114 [.sc (.int .i64 kd), .sc (.string nm), .sc (.string tx)] (fun x => decide (x.nm.toList = nm.toList)) (by omega) (by simp) (fun x => c_impl_replayed_1 x kd nm tx)
  rw [show idx (fun x : Itm => decide (x.nm.toList = nm.toList)) its = fnd its nm from rfl] at cf
  have b1 : (its.length + 1) * 40 ≤ 140737488355328 := by omega
  have b2 : its.length + 1 ≤ 4611686018427387904 := by omega
  have hn : playE its (l[i]?.getD default) = some (its.set k ⟨its[k].nm, tx, false⟩) := by rw [hge, play_at hnt hf hkl]; simp [hk, hv]
  obtain ⟨hN, hT⟩ := hnt
  rw [hN] at cn
  rw [hT] at ct
  rw [hf] at cf
  have hz0 : ¬ (k : Int) < 0 := by omega
  clear hf
  subst hk
  replace hn : Hd _ := hn
  clear hge hw
  repeat' (first | with_reducible refine OutOK.done ?_ | refine thenQ_n ?_ | refine thenQ_r ?_ | refine thenQ_e ?_ | refine AW.seq ?_ | refine AW.dreg tok mixed [10, 11]  [(0, false), (1, false), (2, false), (3, false), (4, false), (5, false), (6, false), (7, false), (9, false), (8, false), (10, true), (11, true), (12, false), (13, false)] (by decide +kernel) rfl (by simp [*]; rfl) ?_ | refine AW.reg tok (by simp [*]; rfl) ?_ | refine AW.ifB (by simp [*]; rfl) ?_ | refine IfG.t ?_ | refine IfG.f ?_ | (refine IfG.p (fun hg => ?_) (fun hg => ?_) <;> (try (have hg' := hg; simp at hg'))) | (refine IfG.n (fun hg => ?_) (fun hg => ?_) <;> (try (have hg' := hg; simp at hg'))) | (refine OutOK.gateP (fun hg => ?_) (fun hg => ?_) <;> (try (have hg' := hg; simp at hg'))) | (refine OutOK.gateN (fun hg => ?_) (fun hg => ?_) <;> (try (have hg' := hg; simp at hg'))) | (refine IfG.g (fun hg => ?_) (fun hg => ?_) <;> (try (have hg' := hg; simp at hg'))) | (refine OutOK.gate (fun hg => ?_) (fun hg => ?_) <;> (try (have hg' := hg; simp at hg'))) | (refine OutOK.callF [] (by simp [*]; rfl) (by simp [*]; rfl) (by simp [*]; rfl) hb111 (by apply cn <;> first | assumption | exact Hd.out (by assumption) | ((try (clear e0)); (try (clear e1)); (try (clear e2)); (try (clear e3)); (try (clear e4)); (try (clear e5)); (try (clear e6)); (try (clear e7)); (try (clear e8)); (try (clear e9)); (try (clear e10)); (try (clear e11)); omega)) ⟨by simp [*], by simp [*], by simp [*], by simp [*], by simp [*]⟩ (by simp [*]) (by simp [*]; rfl) ?_) | (refine OutOK.callF [] (by simp [*]; rfl) (by simp [*]; rfl) (by simp [*]; rfl) hb113 (by apply ct <;> first | assumption | exact Hd.out (by assumption) | ((try (clear e0)); (try (clear e1)); (try (clear e2)); (try (clear e3)); (try (clear e4)); (try (clear e5)); (try (clear e6)); (try (clear e7)); (try (clear e8)); (try (clear e9)); (try (clear e10)); (try (clear e11)); omega)) ⟨by simp [*], by simp [*], by simp [*], by simp [*], by simp [*]⟩ (by simp [*]) (by simp [*]; rfl) ?_) | (refine OutOK.callF [] (by simp [*]; rfl) (by simp [*]; rfl) (by simp [*]; rfl) hb93 (by apply cf <;> first | assumption | exact Hd.out (by assumption) | ((try (clear e0)); (try (clear e1)); (try (clear e2)); (try (clear e3)); (try (clear e4)); (try (clear e5)); (try (clear e6)); (try (clear e7)); (try (clear e8)); (try (clear e9)); (try (clear e10)); (try (clear e11)); omega)) ⟨by simp [*], by simp [*], by simp [*], by simp [*], by simp [*]⟩ (by simp [*]) (by simp [*]; rfl) ?_) | refine OutOK.run (by simp [*]; rfl) ?_ | refine AW.ret ?_ | refine AW.skip ?_ | refine AW.exit ?_ | refine fin_r ?_ | refine fin_n ?_ | refine AW.block ?_ | refine blockQ_n ?_ | refine blockQ_r ?_ | refine blockQ_e ?_ | refine blockQ_o rfl ?_)
  exact .inr ⟨rfl, its.set k ⟨its[k].nm, tx, false⟩, hn.out, by simp, ⟨by simp, by simp, by simp⟩⟩
theorem s_rep_3t (l : List Ent) (its : List Itm) (i : Nat) (kd : Int) (nm tx : ByteArray) (hl : i < l.length) (he : l[i] = ⟨kd, nm, tx⟩) (h40 : l.length ≤ 40) (hil : its.length ≤ 40) (hw : nm.size ≤ 9223372036854775807 ∧ tx.size ≤ 9223372036854775807) (hnt : nameOK nm = true ∧ textOK tx = true) (k : Nat) (hf : fnd its nm = (k : Int)) (hkl : k < its.length) (hk : kd = 3 ∨ kd = 4) (hx : ¬ tx.toList = []) : AW Try.prog 88 (cAt Try.f89 [2, 2, 2, 1, 2, 5, 7]) (mk [(4, .rf 48000 []), (12, .c (.sl true 3 (ents l))), (13, .c (.sc (.int .i64 (l.length : Int)))), (14, .c (.sc (.int .i64 (i : Int))))] [(48000, .sv (.sl false 3 (itms its)))]) (RepQ l its i) := by
  have e1 : wrap64 ((i : Int) + 1) = ((i + 1 : Nat) : Int) := by rw [w64 (by omega) (by omega)]; omega
  have hge : l[i]?.getD default = ⟨kd, nm, tx⟩ := by rw [List.getElem?_eq_getElem hl, Option.getD_some, he]
  have cn := c_impl_isName nm hw.1
  have ct := c_impl_isText tx hw.2
  have cf := c_slices_IndexFunc_item its 114 [.sc (.int .i64 kd), .sc (.string nm), .sc (.string tx)] (fun x => decide (x.nm.toList = nm.toList)) (by omega) (by simp) (fun x => c_impl_replayed_1 x kd nm tx)
  rw [show idx (fun x : Itm => decide (x.nm.toList = nm.toList)) its = fnd its nm from rfl] at cf
  have b1 : (its.length + 1) * 40 ≤ 140737488355328 := by omega
  have b2 : its.length + 1 ≤ 4611686018427387904 := by omega
  have hn : playE its (l[i]?.getD default) = none := by rw [hge, play_at hnt hf hkl]; rcases hk with hk | hk <;> simp [hk, hx]
  obtain ⟨hN, hT⟩ := hnt
  rw [hN] at cn
  rw [hT] at ct
  rw [hf] at cf
  have hz0 : ¬ (k : Int) < 0 := by omega
  clear hf
  replace hn : Hd _ := hn
  clear hge hw
  rcases hk with rfl | rfl
  all_goals
    repeat' (first | with_reducible refine OutOK.done ?_ | refine thenQ_n ?_ | refine thenQ_r ?_ | refine thenQ_e ?_ | refine AW.seq ?_ | refine AW.dreg tok mixed [10, 11]  [(0, false), (1, false), (2, false), (3, false), (4, false), (5, false), (6, false), (7, false), (9, false), (8, false), (10, true), (11, true), (12, false), (13, false)] (by decide +kernel) rfl (by simp [*]; rfl) ?_ | refine AW.reg tok (by simp [*]; rfl) ?_ | refine AW.ifB (by simp [*]; rfl) ?_ | refine IfG.t ?_ | refine IfG.f ?_ | (refine IfG.p (fun hg => ?_) (fun hg => ?_) <;> (try (have hg' := hg; simp at hg'))) | (refine IfG.n (fun hg => ?_) (fun hg => ?_) <;> (try (have hg' := hg; simp at hg'))) | (refine OutOK.gateP (fun hg => ?_) (fun hg => ?_) <;> (try (have hg' := hg; simp at hg'))) | (refine OutOK.gateN (fun hg => ?_) (fun hg => ?_) <;> (try (have hg' := hg; simp at hg'))) | (refine IfG.g (fun hg => ?_) (fun hg => ?_) <;> (try (have hg' := hg; simp at hg'))) | (refine OutOK.gate (fun hg => ?_) (fun hg => ?_) <;> (try (have hg' := hg; simp at hg'))) | (refine OutOK.callF [] (by simp [*]; rfl) (by simp [*]; rfl) (by simp [*]; rfl) hb111 (by apply cn <;> first | assumption | exact Hd.out (by assumption) | ((try (clear e0)); (try (clear e1)); (try (clear e2)); (try (clear e3)); (try (clear e4)); (try (clear e5)); (try (clear e6)); (try (clear e7)); (try (clear e8)); (try (clear e9)); (try (clear e10)); (try (clear e11)); omega)) ⟨by simp [*], by simp [*], by simp [*], by simp [*], by simp [*]⟩ (by simp [*]) (by simp [*]; rfl) ?_) | (refine OutOK.callF [] (by simp [*]; rfl) (by simp [*]; rfl) (by simp [*]; rfl) hb113 (by apply ct <;> first | assumption | exact Hd.out (by assumption) | ((try (clear e0)); (try (clear e1)); (try (clear e2)); (try (clear e3)); (try (clear e4)); (try (clear e5)); (try (clear e6)); (try (clear e7)); (try (clear e8)); (try (clear e9)); (try (clear e10)); (try (clear e11)); omega)) ⟨by simp [*], by simp [*], by simp [*], by simp [*], by simp [*]⟩ (by simp [*]) (by simp [*]; rfl) ?_) | (refine OutOK.callF [] (by simp [*]; rfl) (by simp [*]; rfl) (by simp [*]; rfl) hb93 (by apply cf <;> first | assumption | exact Hd.out (by assumption) | ((try (clear e0)); (try (clear e1)); (try (clear e2)); (try (clear e3)); (try (clear e4)); (try (clear e5)); (try (clear e6)); (try (clear e7)); (try (clear e8)); (try (clear e9)); (try (clear e10)); (try (clear e11)); omega)) ⟨by simp [*], by simp [*], by simp [*], by simp [*], by simp [*]⟩ (by simp [*]) (by simp [*]; rfl) ?_) | refine OutOK.run (by simp [*]; rfl) ?_ | refine AW.ret ?_ | refine AW.skip ?_ | refine AW.exit ?_ | refine fin_r ?_ | refine fin_n ?_ | refine AW.block ?_ | refine blockQ_n ?_ | refine blockQ_r ?_ | refine blockQ_e ?_ | refine blockQ_o rfl ?_)
    exact .inl ⟨rfl, hn.out, by simp [Try.f89]⟩
theorem s_rep_3n (l : List Ent) (its : List Itm) (i : Nat) (kd : Int) (nm tx : ByteArray) (hl : i < l.length) (he : l[i] = ⟨kd, nm, tx⟩) (h40 : l.length ≤ 40) (hil : its.length ≤ 40) (hw : nm.size ≤ 9223372036854775807 ∧ tx.size ≤ 9223372036854775807) (hnt : nameOK nm = true ∧ textOK tx = true) (k : Nat) (hf : fnd its nm = (k : Int)) (hkl : k < its.length) (hk : kd = 3) (hx : tx.toList = []) (hv : its[k].vd = true) : AW Try.prog 88 (cAt Try.f89 [2, 2, 2, 1, 2, 5, 7]) (mk [(4, .rf 48000 []), (12, .c (.sl true 3 (ents l))), (13, .c (.sc (.int .i64 (l.length : Int)))), (14, .c (.sc (.int .i64 (i : Int))))] [(48000, .sv (.sl false 3 (itms its)))]) (RepQ l its i) := by
  have e1 : wrap64 ((i : Int) + 1) = ((i + 1 : Nat) : Int) := by rw [w64 (by omega) (by omega)]; omega
  have hge : l[i]?.getD default = ⟨kd, nm, tx⟩ := by rw [List.getElem?_eq_getElem hl, Option.getD_some, he]
  have cn := c_impl_isName nm hw.1
  have ct := c_impl_isText tx hw.2
  have cf := c_slices_IndexFunc_item its 114 [.sc (.int .i64 kd), .sc (.string nm), .sc (.string tx)] (fun x => decide (x.nm.toList = nm.toList)) (by omega) (by simp) (fun x => c_impl_replayed_1 x kd nm tx)
  rw [show idx (fun x : Itm => decide (x.nm.toList = nm.toList)) its = fnd its nm from rfl] at cf
  have b1 : (its.length + 1) * 40 ≤ 140737488355328 := by omega
  have b2 : its.length + 1 ≤ 4611686018427387904 := by omega
  have hn : playE its (l[i]?.getD default) = none := by rw [hge, play_at hnt hf hkl]; simp [hk, hv, hx]
  obtain ⟨hN, hT⟩ := hnt
  rw [hN] at cn
  rw [hT] at ct
  rw [hf] at cf
  have hz0 : ¬ (k : Int) < 0 := by omega
  clear hf
  subst hk
  replace hn : Hd _ := hn
  clear hge hw
  repeat' (first | with_reducible refine OutOK.done ?_ | refine thenQ_n ?_ | refine thenQ_r ?_ | refine thenQ_e ?_ | refine AW.seq ?_ | refine AW.dreg tok mixed [10, 11]  [(0, false), (1, false), (2, false), (3, false), (4, false), (5, false), (6, false), (7, false), (9, false), (8, false), (10, true), (11, true), (12, false), (13, false)] (by decide +kernel) rfl (by simp [*]; rfl) ?_ | refine AW.reg tok (by simp [*]; rfl) ?_ | refine AW.ifB (by simp [*]; rfl) ?_ | refine IfG.t ?_ | refine IfG.f ?_ | (refine IfG.p (fun hg => ?_) (fun hg => ?_) <;> (try (have hg' := hg; simp at hg'))) | (refine IfG.n (fun hg => ?_) (fun hg => ?_) <;> (try (have hg' := hg; simp at hg'))) | (refine OutOK.gateP (fun hg => ?_) (fun hg => ?_) <;> (try (have hg' := hg; simp at hg'))) | (refine OutOK.gateN (fun hg => ?_) (fun hg => ?_) <;> (try (have hg' := hg; simp at hg'))) | (refine IfG.g (fun hg => ?_) (fun hg => ?_) <;> (try (have hg' := hg; simp at hg'))) | (refine OutOK.gate (fun hg => ?_) (fun hg => ?_) <;> (try (have hg' := hg; simp at hg'))) | (refine OutOK.callF [] (by simp [*]; rfl) (by simp [*]; rfl) (by simp [*]; rfl) hb111 (by apply cn <;> first | assumption | exact Hd.out (by assumption) | ((try (clear e0)); (try (clear e1)); (try (clear e2)); (try (clear e3)); (try (clear e4)); (try (clear e5)); (try (clear e6)); (try (clear e7)); (try (clear e8)); (try (clear e9)); (try (clear e10)); (try (clear e11)); omega)) ⟨by simp [*], by simp [*], by simp [*], by simp [*], by simp [*]⟩ (by simp [*]) (by simp [*]; rfl) ?_) | (refine OutOK.callF [] (by simp [*]; rfl) (by simp [*]; rfl) (by simp [*]; rfl) hb113 (by apply ct <;> first | assumption | exact Hd.out (by assumption) | ((try (clear e0)); (try (clear e1)); (try (clear e2)); (try (clear e3)); (try (clear e4)); (try (clear e5)); (try (clear e6)); (try (clear e7)); (try (clear e8)); (try (clear e9)); (try (clear e10)); (try (clear e11)); omega)) ⟨by simp [*], by simp [*], by simp [*], by simp [*], by simp [*]⟩ (by simp [*]) (by simp [*]; rfl) ?_) | (refine OutOK.callF [] (by simp [*]; rfl) (by simp [*]; rfl) (by simp [*]; rfl) hb93 (by apply cf <;> first | assumption | exact Hd.out (by assumption) | ((try (clear e0)); (try (clear e1)); (try (clear e2)); (try (clear e3)); (try (clear e4)); (try (clear e5)); (try (clear e6)); (try (clear e7)); (try (clear e8)); (try (clear e9)); (try (clear e10)); (try (clear e11)); omega)) ⟨by simp [*], by simp [*], by simp [*], by simp [*], by simp [*]⟩ (by simp [*]) (by simp [*]; rfl) ?_) | refine OutOK.run (by simp [*]; rfl) ?_ | refine AW.ret ?_ | refine AW.skip ?_ | refine AW.exit ?_ | refine fin_r ?_ | refine fin_n ?_ | refine AW.block ?_ | refine blockQ_n ?_ | refine blockQ_r ?_ | refine blockQ_e ?_ | refine blockQ_o rfl ?_)
  exact .inl ⟨rfl, hn.out, by simp [Try.f89]⟩
theorem s_rep_3 (l : List Ent) (its : List Itm) (i : Nat) (kd : Int) (nm tx : ByteArray) (hl : i < l.length) (he : l[i] = ⟨kd, nm, tx⟩) (h40 : l.length ≤ 40) (hil : its.length ≤ 40) (hw : nm.size ≤ 9223372036854775807 ∧ tx.size ≤ 9223372036854775807) (hnt : nameOK nm = true ∧ textOK tx = true) (k : Nat) (hf : fnd its nm = (k : Int)) (hkl : k < its.length) (hk : kd = 3) (hx : tx.toList = []) (hv : its[k].vd = false) : AW Try.prog 88 (cAt Try.f89 [2, 2, 2, 1, 2, 5, 7]) (mk [(4, .rf 48000 []), (12, .c (.sl true 3 (ents l))), (13, .c (.sc (.int .i64 (l.length : Int)))), (14, .c (.sc (.int .i64 (i : Int))))] [(48000, .sv (.sl false 3 (itms its)))]) (RepQ l its i) := by
  have e1 : wrap64 ((i : Int) + 1) = ((i + 1 : Nat) : Int) := by rw [w64 (by omega) (by omega)]; omega
  have hge : l[i]?.getD default = ⟨kd, nm, tx⟩ := by rw [List.getElem?_eq_getElem hl, Option.getD_some, he]
  have cn := c_impl_isName nm hw.1
  have ct := c_impl_isText tx hw.2
  have cf := c_slices_IndexFunc_item its 114 [.sc (.int .i64 kd), .sc (.string nm), .sc (.string tx)] (fun x => decide (x.nm.toList = nm.toList)) (by omega) (by simp) (fun x => c_impl_replayed_1 x kd nm tx)
  rw [show idx (fun x : Itm => decide (x.nm.toList = nm.toList)) its = fnd its nm from rfl] at cf
  have b1 : (its.length + 1) * 40 ≤ 140737488355328 := by omega
  have b2 : its.length + 1 ≤ 4611686018427387904 := by omega
  have hn : playE its (l[i]?.getD default) = some (its.set k ⟨its[k].nm, its[k].tx, true⟩) := by rw [hge, play_at hnt hf hkl]; simp [hk, hv, hx]
  obtain ⟨hN, hT⟩ := hnt
  rw [hN] at cn
  rw [hT] at ct
  rw [hf] at cf
  have hz0 : ¬ (k : Int) < 0 := by omega
  clear hf
  subst hk
  replace hn : Hd _ := hn
  clear hge hw
  repeat' (first | with_reducible refine OutOK.done ?_ | refine thenQ_n ?_ | refine thenQ_r ?_ | refine thenQ_e ?_ | refine AW.seq ?_ | refine AW.dreg tok mixed [10, 11]  [(0, false), (1, false), (2, false), (3, false), (4, false), (5, false), (6, false), (7, false), (9, false), (8, false), (10, true), (11, true), (12, false), (13, false)] (by decide +kernel) rfl (by simp [*]; rfl) ?_ | refine AW.reg tok (by simp [*]; rfl) ?_ | refine AW.ifB (by simp [*]; rfl) ?_ | refine IfG.t ?_ | refine IfG.f ?_ | (refine IfG.p (fun hg => ?_) (fun hg => ?_) <;> (try (have hg' := hg; simp at hg'))) | (refine IfG.n (fun hg => ?_) (fun hg => ?_) <;> (try (have hg' := hg; simp at hg'))) | (refine OutOK.gateP (fun hg => ?_) (fun hg => ?_) <;> (try (have hg' := hg; simp at hg'))) | (refine OutOK.gateN (fun hg => ?_) (fun hg => ?_) <;> (try (have hg' := hg; simp at hg'))) | (refine IfG.g (fun hg => ?_) (fun hg => ?_) <;> (try (have hg' := hg; simp at hg'))) | (refine OutOK.gate (fun hg => ?_) (fun hg => ?_) <;> (try (have hg' := hg; simp at hg'))) | (refine OutOK.callF [] (by simp [*]; rfl) (by simp [*]; rfl) (by simp [*]; rfl) hb111 (by apply cn <;> first | assumption | exact Hd.out (by assumption) | ((try (clear e0)); (try (clear e1)); (try (clear e2)); (try (clear e3)); (try (clear e4)); (try (clear e5)); (try (clear e6)); (try (clear e7)); (try (clear e8)); (try (clear e9)); (try (clear e10)); (try (clear e11)); omega)) ⟨by simp [*], by simp [*], by simp [*], by simp [*], by simp [*]⟩ (by simp [*]) (by simp [*]; rfl) ?_) | (refine OutOK.callF [] (by simp [*]; rfl) (by simp [*]; rfl) (by simp [*]; rfl) hb113 (by apply ct <;> first | assumption | exact Hd.out (by assumption) | ((try (clear e0)); (try (clear e1)); (try (clear e2)); (try (clear e3)); (try (clear e4)); (try (clear e5)); (try (clear e6)); (try (clear e7)); (try (clear e8)); (try (clear e9)); (try (clear e10)); (try (clear e11)); omega)) ⟨by simp [*], by simp [*], by simp [*], by simp [*], by simp [*]⟩ (by simp [*]) (by simp [*]; rfl) ?_) | (refine OutOK.callF [] (by simp [*]; rfl) (by simp [*]; rfl) (by simp [*]; rfl) hb93 (by apply cf <;> first | assumption | exact Hd.out (by assumption) | ((try (clear e0)); (try (clear e1)); (try (clear e2)); (try (clear e3)); (try (clear e4)); (try (clear e5)); (try (clear e6)); (try (clear e7)); (try (clear e8)); (try (clear e9)); (try (clear e10)); (try (clear e11)); omega)) ⟨by simp [*], by simp [*], by simp [*], by simp [*], by simp [*]⟩ (by simp [*]) (by simp [*]; rfl) ?_) | refine OutOK.run (by simp [*]; rfl) ?_ | refine AW.ret ?_ | refine AW.skip ?_ | refine AW.exit ?_ | refine fin_r ?_ | refine fin_n ?_ | refine AW.block ?_ | refine blockQ_n ?_ | refine blockQ_r ?_ | refine blockQ_e ?_ | refine blockQ_o rfl ?_)
  exact .inr ⟨rfl, its.set k ⟨its[k].nm, its[k].tx, true⟩, hn.out, by simp, ⟨by simp, by simp, by simp⟩⟩
theorem s_rep_4n (l : List Ent) (its : List Itm) (i : Nat) (kd : Int) (nm tx : ByteArray) (hl : i < l.length) (he : l[i] = ⟨kd, nm, tx⟩) (h40 : l.length ≤ 40) (hil : its.length ≤ 40) (hw : nm.size ≤ 9223372036854775807 ∧ tx.size ≤ 9223372036854775807) (hnt : nameOK nm = true ∧ textOK tx = true) (k : Nat) (hf : fnd its nm = (k : Int)) (hkl : k < its.length) (hk : kd = 4) (hx : tx.toList = []) (hv : its[k].vd = false) : AW Try.prog 88 (cAt Try.f89 [2, 2, 2, 1, 2, 5, 7]) (mk [(4, .rf 48000 []), (12, .c (.sl true 3 (ents l))), (13, .c (.sc (.int .i64 (l.length : Int)))), (14, .c (.sc (.int .i64 (i : Int))))] [(48000, .sv (.sl false 3 (itms its)))]) (RepQ l its i) := by
  have e1 : wrap64 ((i : Int) + 1) = ((i + 1 : Nat) : Int) := by rw [w64 (by omega) (by omega)]; omega
  have hge : l[i]?.getD default = ⟨kd, nm, tx⟩ := by rw [List.getElem?_eq_getElem hl, Option.getD_some, he]
  have cn := c_impl_isName nm hw.1
  have ct := c_impl_isText tx hw.2
  have cf := c_slices_IndexFunc_item its 114 [.sc (.int .i64 kd), .sc (.string nm), .sc (.string tx)] (fun x => decide (x.nm.toList = nm.toList)) (by omega) (by simp) (fun x => c_impl_replayed_1 x kd nm tx)
  rw [show idx (fun x : Itm => decide (x.nm.toList = nm.toList)) its = fnd its nm from rfl] at cf
  have b1 : (its.length + 1) * 40 ≤ 140737488355328 := by omega
  have b2 : its.length + 1 ≤ 4611686018427387904 := by omega
  have hn : playE its (l[i]?.getD default) = none := by rw [hge, play_at hnt hf hkl]; simp [hk, hv, hx]
  obtain ⟨hN, hT⟩ := hnt
  rw [hN] at cn
  rw [hT] at ct
  rw [hf] at cf
  have hz0 : ¬ (k : Int) < 0 := by omega
  clear hf
  subst hk
  replace hn : Hd _ := hn
  clear hge hw
  repeat' (first | with_reducible refine OutOK.done ?_ | refine thenQ_n ?_ | refine thenQ_r ?_ | refine thenQ_e ?_ | refine AW.seq ?_ | refine AW.dreg tok mixed [10, 11]  [(0, false), (1, false), (2, false), (3, false), (4, false), (5, false), (6, false), (7, false), (9, false), (8, false), (10, true), (11, true), (12, false), (13, false)] (by decide +kernel) rfl (by simp [*]; rfl) ?_ | refine AW.reg tok (by simp [*]; rfl) ?_ | refine AW.ifB (by simp [*]; rfl) ?_ | refine IfG.t ?_ | refine IfG.f ?_ | (refine IfG.p (fun hg => ?_) (fun hg => ?_) <;> (try (have hg' := hg; simp at hg'))) | (refine IfG.n (fun hg => ?_) (fun hg => ?_) <;> (try (have hg' := hg; simp at hg'))) | (refine OutOK.gateP (fun hg => ?_) (fun hg => ?_) <;> (try (have hg' := hg; simp at hg'))) | (refine OutOK.gateN (fun hg => ?_) (fun hg => ?_) <;> (try (have hg' := hg; simp at hg'))) | (refine IfG.g (fun hg => ?_) (fun hg => ?_) <;> (try (have hg' := hg; simp at hg'))) | (refine OutOK.gate (fun hg => ?_) (fun hg => ?_) <;> (try (have hg' := hg; simp at hg'))) | (refine OutOK.callF [] (by simp [*]; rfl) (by simp [*]; rfl) (by simp [*]; rfl) hb111 (by apply cn <;> first | assumption | exact Hd.out (by assumption) | ((try (clear e0)); (try (clear e1)); (try (clear e2)); (try (clear e3)); (try (clear e4)); (try (clear e5)); (try (clear e6)); (try (clear e7)); (try (clear e8)); (try (clear e9)); (try (clear e10)); (try (clear e11)); omega)) ⟨by simp [*], by simp [*], by simp [*], by simp [*], by simp [*]⟩ (by simp [*]) (by simp [*]; rfl) ?_) | (refine OutOK.callF [] (by simp [*]; rfl) (by simp [*]; rfl) (by simp [*]; rfl) hb113 (by apply ct <;> first | assumption | exact Hd.out (by assumption) | ((try (clear e0)); (try (clear e1)); (try (clear e2)); (try (clear e3)); (try (clear e4)); (try (clear e5)); (try (clear e6)); (try (clear e7)); (try (clear e8)); (try (clear e9)); (try (clear e10)); (try (clear e11)); omega)) ⟨by simp [*], by simp [*], by simp [*], by simp [*], by simp [*]⟩ (by simp [*]) (by simp [*]; rfl) ?_) | (refine OutOK.callF [] (by simp [*]; rfl) (by simp [*]; rfl) (by simp [*]; rfl) hb93 (by apply cf <;> first | assumption | exact Hd.out (by assumption) | ((try (clear e0)); (try (clear e1)); (try (clear e2)); (try (clear e3)); (try (clear e4)); (try (clear e5)); (try (clear e6)); (try (clear e7)); (try (clear e8)); (try (clear e9)); (try (clear e10)); (try (clear e11)); omega)) ⟨by simp [*], by simp [*], by simp [*], by simp [*], by simp [*]⟩ (by simp [*]) (by simp [*]; rfl) ?_) | refine OutOK.run (by simp [*]; rfl) ?_ | refine AW.ret ?_ | refine AW.skip ?_ | refine AW.exit ?_ | refine fin_r ?_ | refine fin_n ?_ | refine AW.block ?_ | refine blockQ_n ?_ | refine blockQ_r ?_ | refine blockQ_e ?_ | refine blockQ_o rfl ?_)
  exact .inl ⟨rfl, hn.out, by simp [Try.f89]⟩
theorem s_rep_4 (l : List Ent) (its : List Itm) (i : Nat) (kd : Int) (nm tx : ByteArray) (hl : i < l.length) (he : l[i] = ⟨kd, nm, tx⟩) (h40 : l.length ≤ 40) (hil : its.length ≤ 40) (hw : nm.size ≤ 9223372036854775807 ∧ tx.size ≤ 9223372036854775807) (hnt : nameOK nm = true ∧ textOK tx = true) (k : Nat) (hf : fnd its nm = (k : Int)) (hkl : k < its.length) (hk : kd = 4) (hx : tx.toList = []) (hv : its[k].vd = true) : AW Try.prog 88 (cAt Try.f89 [2, 2, 2, 1, 2, 5, 7]) (mk [(4, .rf 48000 []), (12, .c (.sl true 3 (ents l))), (13, .c (.sc (.int .i64 (l.length : Int)))), (14, .c (.sc (.int .i64 (i : Int))))] [(48000, .sv (.sl false 3 (itms its)))]) (RepQ l its i) := by
  have e1 : wrap64 ((i : Int) + 1) = ((i + 1 : Nat) : Int) := by rw [w64 (by omega) (by omega)]; omega
  have hge : l[i]?.getD default = ⟨kd, nm, tx⟩ := by rw [List.getElem?_eq_getElem hl, Option.getD_some, he]
  have cn := c_impl_isName nm hw.1
  have ct := c_impl_isText tx hw.2
  have cf := c_slices_IndexFunc_item its 114 [.sc (.int .i64 kd), .sc (.string nm), .sc (.string tx)] (fun x => decide (x.nm.toList = nm.toList)) (by omega) (by simp) (fun x => c_impl_replayed_1 x kd nm tx)
  rw [show idx (fun x : Itm => decide (x.nm.toList = nm.toList)) its = fnd its nm from rfl] at cf
  have b1 : (its.length + 1) * 40 ≤ 140737488355328 := by omega
  have b2 : its.length + 1 ≤ 4611686018427387904 := by omega
  have hn : playE its (l[i]?.getD default) = some (its.set k ⟨its[k].nm, its[k].tx, false⟩) := by rw [hge, play_at hnt hf hkl]; simp [hk, hv, hx]
  obtain ⟨hN, hT⟩ := hnt
  rw [hN] at cn
  rw [hT] at ct
  rw [hf] at cf
  have hz0 : ¬ (k : Int) < 0 := by omega
  clear hf
  subst hk
  replace hn : Hd _ := hn
  clear hge hw
  repeat' (first | with_reducible refine OutOK.done ?_ | refine thenQ_n ?_ | refine thenQ_r ?_ | refine thenQ_e ?_ | refine AW.seq ?_ | refine AW.dreg tok mixed [10, 11]  [(0, false), (1, false), (2, false), (3, false), (4, false), (5, false), (6, false), (7, false), (9, false), (8, false), (10, true), (11, true), (12, false), (13, false)] (by decide +kernel) rfl (by simp [*]; rfl) ?_ | refine AW.reg tok (by simp [*]; rfl) ?_ | refine AW.ifB (by simp [*]; rfl) ?_ | refine IfG.t ?_ | refine IfG.f ?_ | (refine IfG.p (fun hg => ?_) (fun hg => ?_) <;> (try (have hg' := hg; simp at hg'))) | (refine IfG.n (fun hg => ?_) (fun hg => ?_) <;> (try (have hg' := hg; simp at hg'))) | (refine OutOK.gateP (fun hg => ?_) (fun hg => ?_) <;> (try (have hg' := hg; simp at hg'))) | (refine OutOK.gateN (fun hg => ?_) (fun hg => ?_) <;> (try (have hg' := hg; simp at hg'))) | (refine IfG.g (fun hg => ?_) (fun hg => ?_) <;> (try (have hg' := hg; simp at hg'))) | (refine OutOK.gate (fun hg => ?_) (fun hg => ?_) <;> (try (have hg' := hg; simp at hg'))) | (refine OutOK.callF [] (by simp [*]; rfl) (by simp [*]; rfl) (by simp [*]; rfl) hb111 (by apply cn <;> first | assumption | exact Hd.out (by assumption) | ((try (clear e0)); (try (clear e1)); (try (clear e2)); (try (clear e3)); (try (clear e4)); (try (clear e5)); (try (clear e6)); (try (clear e7)); (try (clear e8)); (try (clear e9)); (try (clear e10)); (try (clear e11)); omega)) ⟨by simp [*], by simp [*], by simp [*], by simp [*], by simp [*]⟩ (by simp [*]) (by simp [*]; rfl) ?_) | (refine OutOK.callF [] (by simp [*]; rfl) (by simp [*]; rfl) (by simp [*]; rfl) hb113 (by apply ct <;> first | assumption | exact Hd.out (by assumption) | ((try (clear e0)); (try (clear e1)); (try (clear e2)); (try (clear e3)); (try (clear e4)); (try (clear e5)); (try (clear e6)); (try (clear e7)); (try (clear e8)); (try (clear e9)); (try (clear e10)); (try (clear e11)); omega)) ⟨by simp [*], by simp [*], by simp [*], by simp [*], by simp [*]⟩ (by simp [*]) (by simp [*]; rfl) ?_) | (refine OutOK.callF [] (by simp [*]; rfl) (by simp [*]; rfl) (by simp [*]; rfl) hb93 (by apply cf <;> first | assumption | exact Hd.out (by assumption) | ((try (clear e0)); (try (clear e1)); (try (clear e2)); (try (clear e3)); (try (clear e4)); (try (clear e5)); (try (clear e6)); (try (clear e7)); (try (clear e8)); (try (clear e9)); (try (clear e10)); (try (clear e11)); omega)) ⟨by simp [*], by simp [*], by simp [*], by simp [*], by simp [*]⟩ (by simp [*]) (by simp [*]; rfl) ?_) | refine OutOK.run (by simp [*]; rfl) ?_ | refine AW.ret ?_ | refine AW.skip ?_ | refine AW.exit ?_ | refine fin_r ?_ | refine fin_n ?_ | refine AW.block ?_ | refine blockQ_n ?_ | refine blockQ_r ?_ | refine blockQ_e ?_ | refine blockQ_o rfl ?_)
  exact .inr ⟨rfl, its.set k ⟨its[k].nm, its[k].tx, false⟩, hn.out, by simp, ⟨by simp, by simp, by simp⟩⟩
theorem s_rep_z (l : List Ent) (its : List Itm) (i : Nat) (kd : Int) (nm tx : ByteArray) (hl : i < l.length) (he : l[i] = ⟨kd, nm, tx⟩) (h40 : l.length ≤ 40) (hil : its.length ≤ 40) (hw : nm.size ≤ 9223372036854775807 ∧ tx.size ≤ 9223372036854775807) (hnt : nameOK nm = true ∧ textOK tx = true) (k : Nat) (hf : fnd its nm = (k : Int)) (hkl : k < its.length) (h1 : ¬ kd = 1) (h2 : ¬ kd = 2) (h3 : ¬ kd = 3) (h4 : ¬ kd = 4) : AW Try.prog 88 (cAt Try.f89 [2, 2, 2, 1, 2, 5, 7]) (mk [(4, .rf 48000 []), (12, .c (.sl true 3 (ents l))), (13, .c (.sc (.int .i64 (l.length : Int)))), (14, .c (.sc (.int .i64 (i : Int))))] [(48000, .sv (.sl false 3 (itms its)))]) (RepQ l its i) := by
  have e1 : wrap64 ((i : Int) + 1) = ((i + 1 : Nat) : Int) := by rw [w64 (by omega) (by omega)]; omega
  have hge : l[i]?.getD default = ⟨kd, nm, tx⟩ := by rw [List.getElem?_eq_getElem hl, Option.getD_some, he]
  have cn := c_impl_isName nm hw.1
  have ct := c_impl_isText tx hw.2
  have cf := c_slices_IndexFunc_item its 114 [.sc (.int .i64 kd), .sc (.string nm), .sc (.string tx)] (fun x => decide (x.nm.toList = nm.toList)) (by omega) (by simp) (fun x => c_impl_replayed_1 x kd nm tx)
  rw [show idx (fun x : Itm => decide (x.nm.toList = nm.toList)) its = fnd its nm from rfl] at cf
  have b1 : (its.length + 1) * 40 ≤ 140737488355328 := by omega
  have b2 : its.length + 1 ≤ 4611686018427387904 := by omega
  have hn : playE its (l[i]?.getD default) = none := by rw [hge, play_at hnt hf hkl]; simp [h2, h3, h4]
  obtain ⟨hN, hT⟩ := hnt
  rw [hN] at cn
  rw [hT] at ct
  rw [hf] at cf
  have hz0 : ¬ (k : Int) < 0 := by omega
  clear hf
  replace hn : Hd _ := hn
  clear hge hw
  repeat' (first | with_reducible refine OutOK.done ?_ | refine thenQ_n ?_ | refine thenQ_r ?_ | refine thenQ_e ?_ | refine AW.seq ?_ | refine AW.dreg tok mixed [10, 11]  [(0, false), (1, false), (2, false), (3, false), (4, false), (5, false), (6, false), (7, false), (9, false), (8, false), (10, true), (11, true), (12, false), (13, false)] (by decide +kernel) rfl (by simp [*]; rfl) ?_ | refine AW.reg tok (by simp [*]; rfl) ?_ | refine AW.ifB (by simp [*]; rfl) ?_ | refine IfG.t ?_ | refine IfG.f ?_ | (refine IfG.p (fun hg => ?_) (fun hg => ?_) <;> (try (have hg' := hg; simp at hg'))) | (refine IfG.n (fun hg => ?_) (fun hg => ?_) <;> (try (have hg' := hg; simp at hg'))) | (refine OutOK.gateP (fun hg => ?_) (fun hg => ?_) <;> (try (have hg' := hg; simp at hg'))) | (refine OutOK.gateN (fun hg => ?_) (fun hg => ?_) <;> (try (have hg' := hg; simp at hg'))) | (refine IfG.g (fun hg => ?_) (fun hg => ?_) <;> (try (have hg' := hg; simp at hg'))) | (refine OutOK.gate (fun hg => ?_) (fun hg => ?_) <;> (try (have hg' := hg; simp at hg'))) | (refine OutOK.callF [] (by simp [*]; rfl) (by simp [*]; rfl) (by simp [*]; rfl) hb111 (by apply cn <;> first | assumption | exact Hd.out (by assumption) | ((try (clear e0)); (try (clear e1)); (try (clear e2)); (try (clear e3)); (try (clear e4)); (try (clear e5)); (try (clear e6)); (try (clear e7)); (try (clear e8)); (try (clear e9)); (try (clear e10)); (try (clear e11)); omega)) ⟨by simp [*], by simp [*], by simp [*], by simp [*], by simp [*]⟩ (by simp [*]) (by simp [*]; rfl) ?_) | (refine OutOK.callF [] (by simp [*]; rfl) (by simp [*]; rfl) (by simp [*]; rfl) hb113 (by apply ct <;> first | assumption | exact Hd.out (by assumption) | ((try (clear e0)); (try (clear e1)); (try (clear e2)); (try (clear e3)); (try (clear e4)); (try (clear e5)); (try (clear e6)); (try (clear e7)); (try (clear e8)); (try (clear e9)); (try (clear e10)); (try (clear e11)); omega)) ⟨by simp [*], by simp [*], by simp [*], by simp [*], by simp [*]⟩ (by simp [*]) (by simp [*]; rfl) ?_) | (refine OutOK.callF [] (by simp [*]; rfl) (by simp [*]; rfl) (by simp [*]; rfl) hb93 (by apply cf <;> first | assumption | exact Hd.out (by assumption) | ((try (clear e0)); (try (clear e1)); (try (clear e2)); (try (clear e3)); (try (clear e4)); (try (clear e5)); (try (clear e6)); (try (clear e7)); (try (clear e8)); (try (clear e9)); (try (clear e10)); (try (clear e11)); omega)) ⟨by simp [*], by simp [*], by simp [*], by simp [*], by simp [*]⟩ (by simp [*]) (by simp [*]; rfl) ?_) | refine OutOK.run (by simp [*]; rfl) ?_ | refine AW.ret ?_ | refine AW.skip ?_ | refine AW.exit ?_ | refine fin_r ?_ | refine fin_n ?_ | refine AW.block ?_ | refine blockQ_n ?_ | refine blockQ_r ?_ | refine blockQ_e ?_ | refine blockQ_o rfl ?_)
  exact .inl ⟨rfl, hn.out, by simp [Try.f89]⟩
end Go.Proofs.Ytodombkmnnggeaa.EngS


set_option linter.unusedSimpArgs false
set_option linter.unusedVariables false
set_option maxHeartbeats 4000000
set_option maxRecDepth 100000
namespace Go.Proofs.Ytodombkmnnggeaa.EngS
open Go Go.Proofs Go.Eng Go.RowKit
def EntW (e : Ent) : Prop := e.itm.size ≤ 9223372036854775807 ∧ e.txt.size ≤ 9223372036854775807
theorem w_rep (l : List Ent) (its : List Itm) (i : Nat) (hl : i < l.length) (h40 : l.length ≤ 40) (hil : its.length ≤ 40) (hw : ∀ e ∈ l, EntW e) :
    AW Try.prog 88 (cAt Try.f89 [2, 2, 2, 1, 2, 5, 7]) (mk [(4, .rf 48000 []), (12, .c (.sl true 3 (ents l))), (13, .c (.sc (.int .i64 (l.length : Int)))), (14, .c (.sc (.int .i64 (i : Int))))] [(48000, .sv (.sl false 3 (itms its)))]) (RepQ l its i) := by
  have hw := hw l[i] (List.getElem_mem hl)
  obtain ⟨kd, nm, tx, he⟩ : ∃ kd nm tx, l[i] = ⟨kd, nm, tx⟩ := ⟨_, _, _, rfl⟩
  rw [he] at hw
  cases hN : nameOK nm with
  | false => exact s_rep_n l its i kd nm tx hl he h40 hil hw hN
  | true =>
    cases hT : textOK tx with
    | false => exact s_rep_t l its i kd nm tx hl he h40 hil hw hN hT
    | true =>
      rcases idx_cases (fun x : Itm => decide (x.nm.toList = nm.toList)) its with hf | ⟨k, hf, hkl⟩
      · by_cases h1 : kd = 1
        · exact s_rep_1 l its i kd nm tx hl he h40 hil hw ⟨hN, hT⟩ hf h1
        · exact s_rep_1n l its i kd nm tx hl he h40 hil hw ⟨hN, hT⟩ hf h1
      by_cases h1 : kd = 1
      · exact s_rep_o l its i kd nm tx hl he h40 hil hw ⟨hN, hT⟩ k hf hkl h1
      by_cases h2 : kd = 2
      · cases hv : its[k].vd
        · exact s_rep_2 l its i kd nm tx hl he h40 hil hw ⟨hN, hT⟩ k hf hkl h2 hv
        · exact s_rep_2n l its i kd nm tx hl he h40 hil hw ⟨hN, hT⟩ k hf hkl h2 hv
      by_cases h3 : kd = 3
      · by_cases hx : tx.toList = []
        · cases hv : its[k].vd
          · exact s_rep_3 l its i kd nm tx hl he h40 hil hw ⟨hN, hT⟩ k hf hkl h3 hx hv
          · exact s_rep_3n l its i kd nm tx hl he h40 hil hw ⟨hN, hT⟩ k hf hkl h3 hx hv
        · exact s_rep_3t l its i kd nm tx hl he h40 hil hw ⟨hN, hT⟩ k hf hkl (.inl h3) hx
      by_cases h4 : kd = 4
      · by_cases hx : tx.toList = []
        · cases hv : its[k].vd
          · exact s_rep_4n l its i kd nm tx hl he h40 hil hw ⟨hN, hT⟩ k hf hkl h4 hx hv
          · exact s_rep_4 l its i kd nm tx hl he h40 hil hw ⟨hN, hT⟩ k hf hkl h4 hx hv
        · exact s_rep_3t l its i kd nm tx hl he h40 hil hw ⟨hN, hT⟩ k hf hkl (.inr h4) hx
      · exact s_rep_z l its i kd nm tx hl he h40 hil hw ⟨hN, hT⟩ k hf hkl h1 h2 h3 h4
def regOK (l : List Ent) : Bool := decide (l.length ≤ 40) && (playL [] l).isSome
def regI (l : List Ent) : List Itm := if regOK l = true then (playL [] l).getD [] else []
theorem c_impl_replayed (l : List Ent) (h : l.length ≤ 9223372036854775807) (hw : ∀ e ∈ l, EntW e) : ACall Try.prog 89 [.v (.sl true 3 (ents l))] [.x] [.v (.sl false 3 (itms (regI l))), boo (regOK l)] := by
  rcases Nat.lt_or_ge 40 l.length with h40 | h40
  · have hb : regOK l = false := by simp [regOK]; omega
    rw [show regI l = [] by simp [regI, hb], hb]
    have h40' : (40 : Int) < l.length := by omega
    clear hw hb
    refine ACall.of (N := 88) tok Try.func89 rfl rfl rfl (by simp) ?_
    repeat' (first | with_reducible refine OutOK.done ?_ | refine thenQ_n ?_ | refine thenQ_r ?_ | refine thenQ_e ?_ | refine AW.seq ?_ | refine AW.dreg tok mixed [10, 11]  [(0, false), (1, false), (2, false), (3, false), (4, false), (5, false), (6, false), (7, false), (9, false), (8, false), (10, true), (11, true), (12, false), (13, false)] (by decide +kernel) rfl (by simp [*]; rfl) ?_ | refine AW.reg tok (by simp [*]; rfl) ?_ | refine AW.ifB (by simp [*]; rfl) ?_ | refine IfG.t ?_ | refine IfG.f ?_ | (refine IfG.p (fun hg => ?_) (fun hg => ?_) <;> (try (have hg' := hg; simp at hg'))) | (refine IfG.n (fun hg => ?_) (fun hg => ?_) <;> (try (have hg' := hg; simp at hg'))) | (refine OutOK.gateP (fun hg => ?_) (fun hg => ?_) <;> (try (have hg' := hg; simp at hg'))) | (refine OutOK.gateN (fun hg => ?_) (fun hg => ?_) <;> (try (have hg' := hg; simp at hg'))) | (refine IfG.g (fun hg => ?_) (fun hg => ?_) <;> (try (have hg' := hg; simp at hg'))) | (refine OutOK.gate (fun hg => ?_) (fun hg => ?_) <;> (try (have hg' := hg; simp at hg'))) | refine OutOK.run (by simp [*]; rfl) ?_ | refine AW.ret ?_ | refine AW.skip ?_ | refine AW.exit ?_ | refine fin_r ?_ | refine fin_n ?_ | refine AW.block ?_ | refine blockQ_n ?_ | refine blockQ_r ?_ | refine blockQ_e ?_ | refine blockQ_o rfl ?_)
    simp [Try.f89, itms]
  have h40' : ¬ (40 : Int) < l.length := by omega
  have hP : Hd (playL [] l = playL [] (l.drop 0)) := by simp [Hd]
  have hw' : Hd _ := hw
  have hno : Hd (playL [] l = none → regOK l = false ∧ regI l = []) := by
    intro e
    have : regOK l = false := by simp [regOK, e]
    exact ⟨this, by simp [regI, this]⟩
  have hyes : Hd (∀ m, playL [] l = some m → regOK l = true ∧ regI l = m) := by
    intro m e
    have : regOK l = true := by simp [regOK, e, h40]
    exact ⟨this, by simp [regI, this, e]⟩
  generalize regOK l = R at *
  generalize regI l = RI at *
  generalize playL [] l = pl at *
  clear hw
  refine ACall.of (N := 88) tok Try.func89 rfl rfl rfl (by simp) ?_
  repeat' (first | with_reducible refine OutOK.done ?_ | refine thenQ_n ?_ | refine thenQ_r ?_ | refine thenQ_e ?_ | refine AW.seq ?_ | refine AW.dreg tok mixed [10, 11]  [(0, false), (1, false), (2, false), (3, false), (4, false), (5, false), (6, false), (7, false), (9, false), (8, false), (10, true), (11, true), (12, false), (13, false)] (by decide +kernel) rfl (by simp [*]; rfl) ?_ | refine AW.reg tok (by simp [*]; rfl) ?_ | refine AW.ifB (by simp [*]; rfl) ?_ | refine IfG.t ?_ | refine IfG.f ?_ | (refine IfG.p (fun hg => ?_) (fun hg => ?_) <;> (try (have hg' := hg; simp at hg'))) | (refine IfG.n (fun hg => ?_) (fun hg => ?_) <;> (try (have hg' := hg; simp at hg'))) | (refine OutOK.gateP (fun hg => ?_) (fun hg => ?_) <;> (try (have hg' := hg; simp at hg'))) | (refine OutOK.gateN (fun hg => ?_) (fun hg => ?_) <;> (try (have hg' := hg; simp at hg'))) | (refine IfG.g (fun hg => ?_) (fun hg => ?_) <;> (try (have hg' := hg; simp at hg'))) | (refine OutOK.gate (fun hg => ?_) (fun hg => ?_) <;> (try (have hg' := hg; simp at hg'))) | refine OutOK.run (by simp [*]; rfl) ?_ | refine AW.ret ?_ | refine AW.skip ?_ | refine AW.exit ?_ | refine fin_r ?_ | refine fin_n ?_ | refine AW.block ?_ | refine blockQ_n ?_ | refine blockQ_r ?_ | refine blockQ_e ?_ | refine blockQ_o rfl ?_)
  refine AW.loopS (α := Nat × List Itm) (fun q => q.1 ≤ l.length ∧ q.2.length ≤ q.1 ∧ Hd (pl = playL q.2 (l.drop q.1))) (fun q => [(4, .rf 48000 []), (12, .c (.sl true 3 (ents l))), (13, .c (.sc (.int .i64 (l.length : Int)))), (14, .c (.sc (.int .i64 (q.1 : Int))))])
    (fun q => [(48000, .sv (.sl false 3 (itms q.2)))]) (fun q => l.length - q.1) (0, []) ⟨Nat.zero_le _, by simp, hP⟩ [(8000, 48000)] (by simp) ⟨by simp, by simp, by simp⟩ ?_
  rintro ⟨i, its⟩ ⟨hi, hil, hp⟩
  simp only at hi hil hp
  rcases Nat.lt_or_ge i l.length with hl | hl
  · refine (w_rep l its i hl h40 (by omega) hw'.out).mono fun e st hq => ?_
    have hge : l[i]?.getD default = l[i] := by rw [List.getElem?_eq_getElem hl, Option.getD_some]
    rcases hq with ⟨rfl, hn, hq⟩ | ⟨rfl, m, hm, hml, hq⟩
    · rw [hge] at hn
      obtain ⟨r1, r2⟩ := hno.out (by rw [hp.out, playL_no hl hn])
      subst r1 r2
      exact ⟨.inr rfl, hq⟩
    · rw [hge] at hm
      exact ⟨(i + 1, m), ⟨hl, by simp only; omega, by rw [Hd, hp.out, playL_go hl hm]⟩, ⟨[], by simp, hq⟩, by simp only; omega⟩
  · have hii : i = l.length := by omega
    subst hii
    obtain ⟨r1, r2⟩ := hyes.out its (by rw [hp.out, playL_end (Nat.le_refl _)])
    subst r1 r2
    clear hno hyes hP hp
    repeat' (first | with_reducible refine OutOK.done ?_ | refine thenQ_n ?_ | refine thenQ_r ?_ | refine thenQ_e ?_ | refine AW.seq ?_ | refine AW.dreg tok mixed [10, 11]  [(0, false), (1, false), (2, false), (3, false), (4, false), (5, false), (6, false), (7, false), (9, false), (8, false), (10, true), (11, true), (12, false), (13, false)] (by decide +kernel) rfl (by simp [*]; rfl) ?_ | refine AW.reg tok (by simp [*]; rfl) ?_ | refine AW.ifB (by simp [*]; rfl) ?_ | refine IfG.t ?_ | refine IfG.f ?_ | (refine IfG.p (fun hg => ?_) (fun hg => ?_) <;> (try (have hg' := hg; simp at hg'))) | (refine IfG.n (fun hg => ?_) (fun hg => ?_) <;> (try (have hg' := hg; simp at hg'))) | (refine OutOK.gateP (fun hg => ?_) (fun hg => ?_) <;> (try (have hg' := hg; simp at hg'))) | (refine OutOK.gateN (fun hg => ?_) (fun hg => ?_) <;> (try (have hg' := hg; simp at hg'))) | (refine IfG.g (fun hg => ?_) (fun hg => ?_) <;> (try (have hg' := hg; simp at hg'))) | (refine OutOK.gate (fun hg => ?_) (fun hg => ?_) <;> (try (have hg' := hg; simp at hg'))) | refine OutOK.run (by simp [*]; rfl) ?_ | refine AW.ret ?_ | refine AW.skip ?_ | refine AW.exit ?_ | refine fin_r ?_ | refine fin_n ?_ | refine AW.block ?_ | refine blockQ_n ?_ | refine blockQ_r ?_ | refine blockQ_e ?_ | refine blockQ_o rfl ?_)
    simp [Try.f89]
end Go.Proofs.Ytodombkmnnggeaa.EngS


set_option linter.unusedSimpArgs false
set_option linter.unusedVariables false
set_option maxHeartbeats 4000000
set_option maxRecDepth 100000
namespace Go.Proofs.Ytodombkmnnggeaa.EngS
open Go Go.Proofs Go.Eng Go.RowKit
def PlyQ (l : List Ent) (its : List Itm) (i : Nat) (e : Exit) (st : St) : Prop :=
  (e = .ret ∧ playE its (l[i]?.getD default) = none ∧ FinP T Try.f91.results.toList [.v (.sl true 3 (ents l))] [.x] [.v (.sl false 3 (itms its)), boo false] st) ∨
  (e = .normal ∧ ∃ m : List Itm, playE its (l[i]?.getD default) = some m ∧ m.length ≤ its.length + 1 ∧
    LessL st [(0, .c (.sl true 3 (ents l))), (4, .rf 58000 []), (5, .c (.sc (.int .i64 ((i + 1 : Nat) : Int))))] [(58000, .sv (.sl false 3 (itms m)))])
theorem s_ply_n (l : List Ent) (its : List Itm) (i : Nat) (kd : Int) (nm tx : ByteArray) (hl : i < l.length) (he : l[i] = ⟨kd, nm, tx⟩) (h40 : l.length ≤ 40) (hil : its.length ≤ 40) (hw : nm.size ≤ 9223372036854775807 ∧ tx.size ≤ 9223372036854775807) (hN : nameOK nm = false) : AW Try.prog 98 (cAt Try.f91 [2, 2, 1, 2, 5, 7]) (mk [(0, .c (.sl true 3 (ents l))), (4, .rf 58000 []), (5, .c (.sc (.int .i64 (i : Int))))] [(58000, .sv (.sl false 3 (itms its)))]) (PlyQ l its i) := by
  have e1 : wrap64 ((i : Int) + 1) = ((i + 1 : Nat) : Int) := by rw [w64 (by omega) (by omega)]; omega
  have hge : l[i]?.getD default = ⟨kd, nm, tx⟩ := by rw [List.getElem?_eq_getElem hl, Option.getD_some, he]
  have cn := c_spec_l7Name nm hw.1
  have ct := c_spec_l21Text tx hw.2
  have cf := c_spec_l21Find its nm (by omega)
  have b1 : (its.length + 1) * 40 ≤ 140737488355328 := by omega
  have b2 : its.length + 1 ≤ 4611686018427387904 := by omega
  have hn : playE its (l[i]?.getD default) = none := by rw [hge]; exact play_not (by simp [hN])
  rw [hN] at cn
  obtain ⟨z, hz⟩ : ∃ z : Int, fnd its nm = z := ⟨_, rfl⟩
  rw [hz] at cf
  clear hz
  replace hn : Hd _ := hn
  clear hge hw
  repeat' (first | with_reducible refine OutOK.done ?_ | refine thenQ_n ?_ | refine thenQ_r ?_ | refine thenQ_e ?_ | refine AW.seq ?_ | refine AW.dreg tok mixed [15, 16]  [(0, false), (1, false), (2, false), (3, false), (4, false), (5, false), (6, false), (7, false), (8, false), (9, false), (10, false), (11, false), (12, false), (14, false), (13, false), (15, true), (16, true), (17, false), (18, false)] (by decide +kernel) rfl (by simp [*]; rfl) ?_ | refine AW.reg tok (by simp [*]; rfl) ?_ | refine AW.ifB (by simp [*]; rfl) ?_ | refine IfG.t ?_ | refine IfG.f ?_ | (refine IfG.p (fun hg => ?_) (fun hg => ?_) <;> (try (have hg' := hg; simp at hg'))) | (refine IfG.n (fun hg => ?_) (fun hg => ?_) <;> (try (have hg' := hg; simp at hg'))) | (refine OutOK.gateP (fun hg => ?_) (fun hg => ?_) <;> (try (have hg' := hg; simp at hg'))) | (refine OutOK.gateN (fun hg => ?_) (fun hg => ?_) <;> (try (have hg' := hg; simp at hg'))) | (refine IfG.g (fun hg => ?_) (fun hg => ?_) <;> (try (have hg' := hg; simp at hg'))) | (refine OutOK.gate (fun hg => ?_) (fun hg => ?_) <;> (try (have hg' := hg; simp at hg'))) | (refine OutOK.callF [] (by simp [*]; rfl) (by simp [*]; rfl) (by simp [*]; rfl) hb115 (by apply cn <;> first | assumption | exact Hd.out (by assumption) | ((try (clear e0)); (try (clear e1)); (try (clear e2)); (try (clear e3)); (try (clear e4)); (try (clear e5)); (try (clear e6)); (try (clear e7)); (try (clear e8)); (try (clear e9)); (try (clear e10)); (try (clear e11)); omega)) ⟨by simp [*], by simp [*], by simp [*], by simp [*], by simp [*]⟩ (by simp [*]) (by simp [*]; rfl) ?_) | (refine OutOK.callF [] (by simp [*]; rfl) (by simp [*]; rfl) (by simp [*]; rfl) hb116 (by apply ct <;> first | assumption | exact Hd.out (by assumption) | ((try (clear e0)); (try (clear e1)); (try (clear e2)); (try (clear e3)); (try (clear e4)); (try (clear e5)); (try (clear e6)); (try (clear e7)); (try (clear e8)); (try (clear e9)); (try (clear e10)); (try (clear e11)); omega)) ⟨by simp [*], by simp [*], by simp [*], by simp [*], by simp [*]⟩ (by simp [*]) (by simp [*]; rfl) ?_) | (refine OutOK.callF [] (by simp [*]; rfl) (by simp [*]; rfl) (by simp [*]; rfl) hb92 (by apply cf <;> first | assumption | exact Hd.out (by assumption) | ((try (clear e0)); (try (clear e1)); (try (clear e2)); (try (clear e3)); (try (clear e4)); (try (clear e5)); (try (clear e6)); (try (clear e7)); (try (clear e8)); (try (clear e9)); (try (clear e10)); (try (clear e11)); omega)) ⟨by simp [*], by simp [*], by simp [*], by simp [*], by simp [*]⟩ (by simp [*]) (by simp [*]; rfl) ?_) | (refine OutOK.callF [] (by simp [*]; rfl) (by simp [*]; rfl) (by simp [*]; rfl) hb95 (by apply c_spec_l1In <;> first | assumption | exact Hd.out (by assumption) | ((try (clear e0)); (try (clear e1)); (try (clear e2)); (try (clear e3)); (try (clear e4)); (try (clear e5)); (try (clear e6)); (try (clear e7)); (try (clear e8)); (try (clear e9)); (try (clear e10)); (try (clear e11)); omega)) ⟨by simp [*], by simp [*], by simp [*], by simp [*], by simp [*]⟩ (by simp [*]) (by simp [*]; rfl) ?_) | refine OutOK.run (by simp [*]; rfl) ?_ | refine AW.ret ?_ | refine AW.skip ?_ | refine AW.exit ?_ | refine fin_r ?_ | refine fin_n ?_ | refine AW.block ?_ | refine blockQ_n ?_ | refine blockQ_r ?_ | refine blockQ_e ?_ | refine blockQ_o rfl ?_)
  exact .inl ⟨rfl, hn.out, by simp [Try.f91]⟩
theorem s_ply_t (l : List Ent) (its : List Itm) (i : Nat) (kd : Int) (nm tx : ByteArray) (hl : i < l.length) (he : l[i] = ⟨kd, nm, tx⟩) (h40 : l.length ≤ 40) (hil : its.length ≤ 40) (hw : nm.size ≤ 9223372036854775807 ∧ tx.size ≤ 9223372036854775807) (hN : nameOK nm = true) (hT : textOK tx = false) : AW Try.prog 98 (cAt Try.f91 [2, 2, 1, 2, 5, 7]) (mk [(0, .c (.sl true 3 (ents l))), (4, .rf 58000 []), (5, .c (.sc (.int .i64 (i : Int))))] [(58000, .sv (.sl false 3 (itms its)))]) (PlyQ l its i) := by
  have e1 : wrap64 ((i : Int) + 1) = ((i + 1 : Nat) : Int) := by rw [w64 (by omega) (by omega)]; omega
  have hge : l[i]?.getD default = ⟨kd, nm, tx⟩ := by rw [List.getElem?_eq_getElem hl, Option.getD_some, he]
  have cn := c_spec_l7Name nm hw.1
  have ct := c_spec_l21Text tx hw.2
  have cf := c_spec_l21Find its nm (by omega)
  have b1 : (its.length + 1) * 40 ≤ 140737488355328 := by omega
  have b2 : its.length + 1 ≤ 4611686018427387904 := by omega
  have hn : playE its (l[i]?.getD default) = none := by rw [hge]; exact play_not (by simp [hT])
  rw [hN] at cn
  rw [hT] at ct
  obtain ⟨z, hz⟩ : ∃ z : Int, fnd its nm = z := ⟨_, rfl⟩
  rw [hz] at cf
  clear hz
  replace hn : Hd _ := hn
  clear hge hw
  repeat' (first | with_reducible refine OutOK.done ?_ | refine thenQ_n ?_ | refine thenQ_r ?_ | refine thenQ_e ?_ | refine AW.seq ?_ | refine AW.dreg tok mixed [15, 16]  [(0, false), (1, false), (2, false), (3, false), (4, false), (5, false), (6, false), (7, false), (8, false), (9, false), (10, false), (11, false), (12, false), (14, false), (13, false), (15, true), (16, true), (17, false), (18, false)] (by decide +kernel) rfl (by simp [*]; rfl) ?_ | refine AW.reg tok (by simp [*]; rfl) ?_ | refine AW.ifB (by simp [*]; rfl) ?_ | refine IfG.t ?_ | refine IfG.f ?_ | (refine IfG.p (fun hg => ?_) (fun hg => ?_) <;> (try (have hg' := hg; simp at hg'))) | (refine IfG.n (fun hg => ?_) (fun hg => ?_) <;> (try (have hg' := hg; simp at hg'))) | (refine OutOK.gateP (fun hg => ?_) (fun hg => ?_) <;> (try (have hg' := hg; simp at hg'))) | (refine OutOK.gateN (fun hg => ?_) (fun hg => ?_) <;> (try (have hg' := hg; simp at hg'))) | (refine IfG.g (fun hg => ?_) (fun hg => ?_) <;> (try (have hg' := hg; simp at hg'))) | (refine OutOK.gate (fun hg => ?_) (fun hg => ?_) <;> (try (have hg' := hg; simp at hg'))) | (refine OutOK.callF [] (by simp [*]; rfl) (by simp [*]; rfl) (by simp [*]; rfl) hb115 (by apply cn <;> first | assumption | exact Hd.out (by assumption) | ((try (clear e0)); (try (clear e1)); (try (clear e2)); (try (clear e3)); (try (clear e4)); (try (clear e5)); (try (clear e6)); (try (clear e7)); (try (clear e8)); (try (clear e9)); (try (clear e10)); (try (clear e11)); omega)) ⟨by simp [*], by simp [*], by simp [*], by simp [*], by simp [*]⟩ (by simp [*]) (by simp [*]; rfl) ?_) | (refine OutOK.callF [] (by simp [*]; rfl) (by simp [*]; rfl) (by simp [*]; rfl) hb116 (by apply ct <;> first | assumption | exact Hd.out (by assumption) | ((try (clear e0)); (try (clear e1)); (try (clear e2)); (try (clear e3)); (try (clear e4)); (try (clear e5)); (try (clear e6)); (try (clear e7)); (try (clear e8)); (try (clear e9)); (try (clear e10)); (try (clear e11)); omega)) ⟨by simp [*], by simp [*], by simp [*], by simp [*], by simp [*]⟩ (by simp [*]) (by simp [*]; rfl) ?_) | (refine OutOK.callF [] (by simp [*]; rfl) (by simp [*]; rfl) (by simp [*]; rfl) hb92 (by apply cf <;> first | assumption | exact Hd.out (by assumption) | ((try (clear e0)); (try (clear e1)); (try (clear e2)); (try (clear e3)); (try (clear e4)); (try (clear e5)); (try (clear e6)); (try (clear e7)); (try (clear e8)); (try (clear e9)); (try (clear e10)); (try (clear e11)); omega)) ⟨by simp [*], by simp [*], by simp [*], by simp [*], by simp [*]⟩ (by simp [*]) (by simp [*]; rfl) ?_) | (refine OutOK.callF [] (by simp [*]; rfl) (by simp [*]; rfl) (by simp [*]; rfl) hb95 (by apply c_spec_l1In <;> first | assumption | exact Hd.out (by assumption) | ((try (clear e0)); (try (clear e1)); (try (clear e2)); (try (clear e3)); (try (clear e4)); (try (clear e5)); (try (clear e6)); (try (clear e7)); (try (clear e8)); (try (clear e9)); (try (clear e10)); (try (clear e11)); omega)) ⟨by simp [*], by simp [*], by simp [*], by simp [*], by simp [*]⟩ (by simp [*]) (by simp [*]; rfl) ?_) | refine OutOK.run (by simp [*]; rfl) ?_ | refine AW.ret ?_ | refine AW.skip ?_ | refine AW.exit ?_ | refine fin_r ?_ | refine fin_n ?_ | refine AW.block ?_ | refine blockQ_n ?_ | refine blockQ_r ?_ | refine blockQ_e ?_ | refine blockQ_o rfl ?_)
  exact .inl ⟨rfl, hn.out, by simp [Try.f91]⟩
theorem s_ply_x (l : List Ent) (its : List Itm) (i : Nat) (kd : Int) (nm tx : ByteArray) (hl : i < l.length) (he : l[i] = ⟨kd, nm, tx⟩) (h40 : l.length ≤ 40) (hil : its.length ≤ 40) (hw : nm.size ≤ 9223372036854775807 ∧ tx.size ≤ 9223372036854775807) (hnt : nameOK nm = true ∧ textOK tx = true) (hn : playE its ⟨kd, nm, tx⟩ = none) (h3 : 3 ≤ kd) (hx : ¬ tx.toList = []) : AW Try.prog 98 (cAt Try.f91 [2, 2, 1, 2, 5, 7]) (mk [(0, .c (.sl true 3 (ents l))), (4, .rf 58000 []), (5, .c (.sc (.int .i64 (i : Int))))] [(58000, .sv (.sl false 3 (itms its)))]) (PlyQ l its i) := by
  have e1 : wrap64 ((i : Int) + 1) = ((i + 1 : Nat) : Int) := by rw [w64 (by omega) (by omega)]; omega
  have hge : l[i]?.getD default = ⟨kd, nm, tx⟩ := by rw [List.getElem?_eq_getElem hl, Option.getD_some, he]
  have cn := c_spec_l7Name nm hw.1
  have ct := c_spec_l21Text tx hw.2
  have cf := c_spec_l21Find its nm (by omega)
  have b1 : (its.length + 1) * 40 ≤ 140737488355328 := by omega
  have b2 : its.length + 1 ≤ 4611686018427387904 := by omega
  rw [← hge] at hn
  obtain ⟨hN, hT⟩ := hnt
  rw [hN] at cn
  rw [hT] at ct
  obtain ⟨z, hz⟩ : ∃ z : Int, fnd its nm = z := ⟨_, rfl⟩
  rw [hz] at cf
  clear hz
  replace hn : Hd _ := hn
  clear hge hw
  repeat' (first | with_reducible refine OutOK.done ?_ | refine thenQ_n ?_ | refine thenQ_r ?_ | refine thenQ_e ?_ | refine AW.seq ?_ | refine AW.dreg tok mixed [15, 16]  [(0, false), (1, false), (2, false), (3, false), (4, false), (5, false), (6, false), (7, false), (8, false), (9, false), (10, false), (11, false), (12, false), (14, false), (13, false), (15, true), (16, true), (17, false), (18, false)] (by decide +kernel) rfl (by simp [*]; rfl) ?_ | refine AW.reg tok (by simp [*]; rfl) ?_ | refine AW.ifB (by simp [*]; rfl) ?_ | refine IfG.t ?_ | refine IfG.f ?_ | (refine IfG.p (fun hg => ?_) (fun hg => ?_) <;> (try (have hg' := hg; simp at hg'))) | (refine IfG.n (fun hg => ?_) (fun hg => ?_) <;> (try (have hg' := hg; simp at hg'))) | (refine OutOK.gateP (fun hg => ?_) (fun hg => ?_) <;> (try (have hg' := hg; simp at hg'))) | (refine OutOK.gateN (fun hg => ?_) (fun hg => ?_) <;> (try (have hg' := hg; simp at hg'))) | (refine IfG.g (fun hg => ?_) (fun hg => ?_) <;> (try (have hg' := hg; simp at hg'))) | (refine OutOK.gate (fun hg => ?_) (fun hg => ?_) <;> (try (have hg' := hg; simp at hg'))) | (refine OutOK.callF [] (by simp [*]; rfl) (by simp [*]; rfl) (by simp [*]; rfl) hb115 (by apply cn <;> first | assumption | exact Hd.out (by assumption) | ((try (clear e0)); (try (clear e1)); (try (clear e2)); (try (clear e3)); (try (clear e4)); (try (clear e5)); (try (clear e6)); (try (clear e7)); (try (clear e8)); (try (clear e9)); (try (clear e10)); (try (clear e11)); omega)) ⟨by simp [*], by simp [*], by simp [*], by simp [*], by simp [*]⟩ (by simp [*]) (by simp [*]; rfl) ?_) | (refine OutOK.callF [] (by simp [*]; rfl) (by simp [*]; rfl) (by simp [*]; rfl) hb116 (by apply ct <;> first | assumption | exact Hd.out (by assumption) | ((try (clear e0)); (try (clear e1)); (try (clear e2)); (try (clear e3)); (try (clear e4)); (try (clear e5)); (try (clear e6)); (try (clear e7)); (try (clear e8)); (try (clear e9)); (try (clear e10)); (try (clear e11)); omega)) ⟨by simp [*], by simp [*], by simp [*], by simp [*], by simp [*]⟩ (by simp [*]) (by simp [*]; rfl) ?_) | (refine OutOK.callF [] (by simp [*]; rfl) (by simp [*]; rfl) (by simp [*]; rfl) hb92 (by apply cf <;> first | assumption | exact Hd.out (by assumption) | ((try (clear e0)); (try (clear e1)); (try (clear e2)); (try (clear e3)); (try (clear e4)); (try (clear e5)); (try (clear e6)); (try (clear e7)); (try (clear e8)); (try (clear e9)); (try (clear e10)); (try (clear e11)); omega)) ⟨by simp [*], by simp [*], by simp [*], by simp [*], by simp [*]⟩ (by simp [*]) (by simp [*]; rfl) ?_) | (refine OutOK.callF [] (by simp [*]; rfl) (by simp [*]; rfl) (by simp [*]; rfl) hb95 (by apply c_spec_l1In <;> first | assumption | exact Hd.out (by assumption) | ((try (clear e0)); (try (clear e1)); (try (clear e2)); (try (clear e3)); (try (clear e4)); (try (clear e5)); (try (clear e6)); (try (clear e7)); (try (clear e8)); (try (clear e9)); (try (clear e10)); (try (clear e11)); omega)) ⟨by simp [*], by simp [*], by simp [*], by simp [*], by simp [*]⟩ (by simp [*]) (by simp [*]; rfl) ?_) | refine OutOK.run (by simp [*]; rfl) ?_ | refine AW.ret ?_ | refine AW.skip ?_ | refine AW.exit ?_ | refine fin_r ?_ | refine fin_n ?_ | refine AW.block ?_ | refine blockQ_n ?_ | refine blockQ_r ?_ | refine blockQ_e ?_ | refine blockQ_o rfl ?_)
  exact .inl ⟨rfl, hn.out, by simp [Try.f91]⟩
theorem s_ply_1 (l : List Ent) (its : List Itm) (i : Nat) (kd : Int) (nm tx : ByteArray) (hl : i < l.length) (he : l[i] = ⟨kd, nm, tx⟩) (h40 : l.length ≤ 40) (hil : its.length ≤ 40) (hw : nm.size ≤ 9223372036854775807 ∧ tx.size ≤ 9223372036854775807) (hnt : nameOK nm = true ∧ textOK tx = true) (hf : fnd its nm < 0) (hk : kd = 1) : AW Try.prog 98 (cAt Try.f91 [2, 2, 1, 2, 5, 7]) (mk [(0, .c (.sl true 3 (ents l))), (4, .rf 58000 []), (5, .c (.sc (.int .i64 (i : Int))))] [(58000, .sv (.sl false 3 (itms its)))]) (PlyQ l its i) := by
  have e1 : wrap64 ((i : Int) + 1) = ((i + 1 : Nat) : Int) := by rw [w64 (by omega) (by omega)]; omega
  have hge : l[i]?.getD default = ⟨kd, nm, tx⟩ := by rw [List.getElem?_eq_getElem hl, Option.getD_some, he]
  have cn := c_spec_l7Name nm hw.1
  have ct := c_spec_l21Text tx hw.2
  have cf := c_spec_l21Find its nm (by omega)
  have b1 : (its.length + 1) * 40 ≤ 140737488355328 := by omega
  have b2 : its.length + 1 ≤ 4611686018427387904 := by omega
  have hn : playE its (l[i]?.getD default) = some (its ++ [⟨nm, tx, false⟩]) := by rw [hge, play_new hnt hf, if_pos hk]
  obtain ⟨hN, hT⟩ := hnt
  rw [hN] at cn
  rw [hT] at ct
  obtain ⟨z, hz⟩ : ∃ z : Int, fnd its nm = z := ⟨_, rfl⟩
  rw [hz] at cf
  have hz0 : z < 0 := by omega
  have hz1 : ¬ 0 ≤ z := by omega
  clear hz hf
  subst hk
  replace hn : Hd _ := hn
  clear hge hw
  repeat' (first | with_reducible refine OutOK.done ?_ | refine thenQ_n ?_ | refine thenQ_r ?_ | refine thenQ_e ?_ | refine AW.seq ?_ | refine AW.dreg tok mixed [15, 16]  [(0, false), (1, false), (2, false), (3, false), (4, false), (5, false), (6, false), (7, false), (8, false), (9, false), (10, false), (11, false), (12, false), (14, false), (13, false), (15, true), (16, true), (17, false), (18, false)] (by decide +kernel) rfl (by simp [*]; rfl) ?_ | refine AW.reg tok (by simp [*]; rfl) ?_ | refine AW.ifB (by simp [*]; rfl) ?_ | refine IfG.t ?_ | refine IfG.f ?_ | (refine IfG.p (fun hg => ?_) (fun hg => ?_) <;> (try (have hg' := hg; simp at hg'))) | (refine IfG.n (fun hg => ?_) (fun hg => ?_) <;> (try (have hg' := hg; simp at hg'))) | (refine OutOK.gateP (fun hg => ?_) (fun hg => ?_) <;> (try (have hg' := hg; simp at hg'))) | (refine OutOK.gateN (fun hg => ?_) (fun hg => ?_) <;> (try (have hg' := hg; simp at hg'))) | (refine IfG.g (fun hg => ?_) (fun hg => ?_) <;> (try (have hg' := hg; simp at hg'))) | (refine OutOK.gate (fun hg => ?_) (fun hg => ?_) <;> (try (have hg' := hg; simp at hg'))) | (refine OutOK.callF [] (by simp [*]; rfl) (by simp [*]; rfl) (by simp [*]; rfl) hb115 (by apply cn <;> first | assumption | exact Hd.out (by assumption) | ((try (clear e0)); (try (clear e1)); (try (clear e2)); (try (clear e3)); (try (clear e4)); (try (clear e5)); (try (clear e6)); (try (clear e7)); (try (clear e8)); (try (clear e9)); (try (clear e10)); (try (clear e11)); omega)) ⟨by simp [*], by simp [*], by simp [*], by simp [*], by simp [*]⟩ (by simp [*]) (by simp [*]; rfl) ?_) | (refine OutOK.callF [] (by simp [*]; rfl) (by simp [*]; rfl) (by simp [*]; rfl) hb116 (by apply ct <;> first | assumption | exact Hd.out (by assumption) | ((try (clear e0)); (try (clear e1)); (try (clear e2)); (try (clear e3)); (try (clear e4)); (try (clear e5)); (try (clear e6)); (try (clear e7)); (try (clear e8)); (try (clear e9)); (try (clear e10)); (try (clear e11)); omega)) ⟨by simp [*], by simp [*], by simp [*], by simp [*], by simp [*]⟩ (by simp [*]) (by simp [*]; rfl) ?_) | (refine OutOK.callF [] (by simp [*]; rfl) (by simp [*]; rfl) (by simp [*]; rfl) hb92 (by apply cf <;> first | assumption | exact Hd.out (by assumption) | ((try (clear e0)); (try (clear e1)); (try (clear e2)); (try (clear e3)); (try (clear e4)); (try (clear e5)); (try (clear e6)); (try (clear e7)); (try (clear e8)); (try (clear e9)); (try (clear e10)); (try (clear e11)); omega)) ⟨by simp [*], by simp [*], by simp [*], by simp [*], by simp [*]⟩ (by simp [*]) (by simp [*]; rfl) ?_) | (refine OutOK.callF [] (by simp [*]; rfl) (by simp [*]; rfl) (by simp [*]; rfl) hb95 (by apply c_spec_l1In <;> first | assumption | exact Hd.out (by assumption) | ((try (clear e0)); (try (clear e1)); (try (clear e2)); (try (clear e3)); (try (clear e4)); (try (clear e5)); (try (clear e6)); (try (clear e7)); (try (clear e8)); (try (clear e9)); (try (clear e10)); (try (clear e11)); omega)) ⟨by simp [*], by simp [*], by simp [*], by simp [*], by simp [*]⟩ (by simp [*]) (by simp [*]; rfl) ?_) | refine OutOK.run (by simp [*]; rfl) ?_ | refine AW.ret ?_ | refine AW.skip ?_ | refine AW.exit ?_ | refine fin_r ?_ | refine fin_n ?_ | refine AW.block ?_ | refine blockQ_n ?_ | refine blockQ_r ?_ | refine blockQ_e ?_ | refine blockQ_o rfl ?_)
  exact .inr ⟨rfl, its ++ [⟨nm, tx, false⟩], hn.out, by simp, ⟨by simp, by simp, by simp⟩⟩
theorem s_ply_1n (l : List Ent) (its : List Itm) (i : Nat) (kd : Int) (nm tx : ByteArray) (hl : i < l.length) (he : l[i] = ⟨kd, nm, tx⟩) (h40 : l.length ≤ 40) (hil : its.length ≤ 40) (hw : nm.size ≤ 9223372036854775807 ∧ tx.size ≤ 9223372036854775807) (hnt : nameOK nm = true ∧ textOK tx = true) (hf : fnd its nm < 0) (hk : ¬ kd = 1) (hx : 3 ≤ kd → tx.toList = []) : AW Try.prog 98 (cAt Try.f91 [2, 2, 1, 2, 5, 7]) (mk [(0, .c (.sl true 3 (ents l))), (4, .rf 58000 []), (5, .c (.sc (.int .i64 (i : Int))))] [(58000, .sv (.sl false 3 (itms its)))]) (PlyQ l its i) := by
  have e1 : wrap64 ((i : Int) + 1) = ((i + 1 : Nat) : Int) := by rw [w64 (by omega) (by omega)]; omega
  have hge : l[i]?.getD default = ⟨kd, nm, tx⟩ := by rw [List.getElem?_eq_getElem hl, Option.getD_some, he]
  have cn := c_spec_l7Name nm hw.1
  have ct := c_spec_l21Text tx hw.2
  have cf := c_spec_l21Find its nm (by omega)
  have b1 : (its.length + 1) * 40 ≤ 140737488355328 := by omega
  have b2 : its.length + 1 ≤ 4611686018427387904 := by omega
  have hn : playE its (l[i]?.getD default) = none := by rw [hge, play_new hnt hf, if_neg hk]
  obtain ⟨hN, hT⟩ := hnt
  rw [hN] at cn
  rw [hT] at ct
  obtain ⟨z, hz⟩ : ∃ z : Int, fnd its nm = z := ⟨_, rfl⟩
  rw [hz] at cf
  have hz0 : z < 0 := by omega
  have hz1 : ¬ 0 ≤ z := by omega
  clear hz hf
  by_cases h3 : 3 ≤ kd
  · replace hx := hx h3
    replace hn : Hd _ := hn
    clear hge hw
    repeat' (first | with_reducible refine OutOK.done ?_ | refine thenQ_n ?_ | refine thenQ_r ?_ | refine thenQ_e ?_ | refine AW.seq ?_ | refine AW.dreg tok mixed [15, 16]  [(0, false), (1, false), (2, false), (3, false), (4, false), (5, false), (6, false), (7, false), (8, false), (9, false), (10, false), (11, false), (12, false), (14, false), (13, false), (15, true), (16, true), (17, false), (18, false)] (by decide +kernel) rfl (by simp [*]; rfl) ?_ | refine AW.reg tok (by simp [*]; rfl) ?_ | refine AW.ifB (by simp [*]; rfl) ?_ | refine IfG.t ?_ | refine IfG.f ?_ | (refine IfG.p (fun hg => ?_) (fun hg => ?_) <;> (try (have hg' := hg; simp at hg'))) | (refine IfG.n (fun hg => ?_) (fun hg => ?_) <;> (try (have hg' := hg; simp at hg'))) | (refine OutOK.gateP (fun hg => ?_) (fun hg => ?_) <;> (try (have hg' := hg; simp at hg'))) | (refine OutOK.gateN (fun hg => ?_) (fun hg => ?_) <;> (try (have hg' := hg; simp at hg'))) | (refine IfG.g (fun hg => ?_) (fun hg => ?_) <;> (try (have hg' := hg; simp at hg'))) | (refine OutOK.gate (fun hg => ?_) (fun hg => ?_) <;> (try (have hg' := hg; simp at hg'))) | (refine OutOK.callF [] (by simp [*]; rfl) (by simp [*]; rfl) (by simp [*]; rfl) hb115 (by apply cn <;> first | assumption | exact Hd.out (by assumption) | ((try (clear e0)); (try (clear e1)); (try (clear e2)); (try (clear e3)); (try (clear e4)); (try (clear e5)); (try (clear e6)); (try (clear e7)); (try (clear e8)); (try (clear e9)); (try (clear e10)); (try (clear e11)); omega)) ⟨by simp [*], by simp [*], by simp [*], by simp [*], by simp [*]⟩ (by simp [*]) (by simp [*]; rfl) ?_) | (refine OutOK.callF [] (by simp [*]; rfl) (by simp [*]; rfl) (by simp [*]; rfl) hb116 (by apply ct <;> first | assumption | exact Hd.out (by assumption) | ((try (clear e0)); (try (clear e1)); (try (clear e2)); (try (clear e3)); (try (clear e4)); (try (clear e5)); (try (clear e6)); (try (clear e7)); (try (clear e8)); (try (clear e9)); (try (clear e10)); (try (clear e11)); omega)) ⟨by simp [*], by simp [*], by simp [*], by simp [*], by simp [*]⟩ (by simp [*]) (by simp [*]; rfl) ?_) | (refine OutOK.callF [] (by simp [*]; rfl) (by simp [*]; rfl) (by simp [*]; rfl) hb92 (by apply cf <;> first | assumption | exact Hd.out (by assumption) | ((try (clear e0)); (try (clear e1)); (try (clear e2)); (try (clear e3)); (try (clear e4)); (try (clear e5)); (try (clear e6)); (try (clear e7)); (try (clear e8)); (try (clear e9)); (try (clear e10)); (try (clear e11)); omega)) ⟨by simp [*], by simp [*], by simp [*], by simp [*], by simp [*]⟩ (by simp [*]) (by simp [*]; rfl) ?_) | (refine OutOK.callF [] (by simp [*]; rfl) (by simp [*]; rfl) (by simp [*]; rfl) hb95 (by apply c_spec_l1In <;> first | assumption | exact Hd.out (by assumption) | ((try (clear e0)); (try (clear e1)); (try (clear e2)); (try (clear e3)); (try (clear e4)); (try (clear e5)); (try (clear e6)); (try (clear e7)); (try (clear e8)); (try (clear e9)); (try (clear e10)); (try (clear e11)); omega)) ⟨by simp [*], by simp [*], by simp [*], by simp [*], by simp [*]⟩ (by simp [*]) (by simp [*]; rfl) ?_) | refine OutOK.run (by simp [*]; rfl) ?_ | refine AW.ret ?_ | refine AW.skip ?_ | refine AW.exit ?_ | refine fin_r ?_ | refine fin_n ?_ | refine AW.block ?_ | refine blockQ_n ?_ | refine blockQ_r ?_ | refine blockQ_e ?_ | refine blockQ_o rfl ?_)
    exact .inl ⟨rfl, hn.out, by simp [Try.f91]⟩
  clear hx
  replace hn : Hd _ := hn
  clear hge hw
  repeat' (first | with_reducible refine OutOK.done ?_ | refine thenQ_n ?_ | refine thenQ_r ?_ | refine thenQ_e ?_ | refine AW.seq ?_ | refine AW.dreg tok mixed [15, 16]  [(0, false), (1, false), (2, false), (3, false), (4, false), (5, false), (6, false), (7, false), (8, false), (9, false), (10, false), (11, false), (12, false), (14, false), (13, false), (15, true), (16, true), (17, false), (18, false)] (by decide +kernel) rfl (by simp [*]; rfl) ?_ | refine AW.reg tok (by simp [*]; rfl) ?_ | refine AW.ifB (by simp [*]; rfl) ?_ | refine IfG.t ?_ | refine IfG.f ?_ | (refine IfG.p (fun hg => ?_) (fun hg => ?_) <;> (try (have hg' := hg; simp at hg'))) | (refine IfG.n (fun hg => ?_) (fun hg => ?_) <;> (try (have hg' := hg; simp at hg'))) | (refine OutOK.gateP (fun hg => ?_) (fun hg => ?_) <;> (try (have hg' := hg; simp at hg'))) | (refine OutOK.gateN (fun hg => ?_) (fun hg => ?_) <;> (try (have hg' := hg; simp at hg'))) | (refine IfG.g (fun hg => ?_) (fun hg => ?_) <;> (try (have hg' := hg; simp at hg'))) | (refine OutOK.gate (fun hg => ?_) (fun hg => ?_) <;> (try (have hg' := hg; simp at hg'))) | (refine OutOK.callF [] (by simp [*]; rfl) (by simp [*]; rfl) (by simp [*]; rfl) hb115 (by apply cn <;> first | assumption | exact Hd.out (by assumption) | ((try (clear e0)); (try (clear e1)); (try (clear e2)); (try (clear e3)); (try (clear e4)); (try (clear e5)); (try (clear e6)); (try (clear e7)); (try (clear e8)); (try (clear e9)); (try (clear e10)); (try (clear e11)); omega)) ⟨by simp [*], by simp [*], by simp [*], by simp [*], by simp [*]⟩ (by simp [*]) (by simp [*]; rfl) ?_) | (refine OutOK.callF [] (by simp [*]; rfl) (by simp [*]; rfl) (by simp [*]; rfl) hb116 (by apply ct <;> first | assumption | exact Hd.out (by assumption) | ((try (clear e0)); (try (clear e1)); (try (clear e2)); (try (clear e3)); (try (clear e4)); (try (clear e5)); (try (clear e6)); (try (clear e7)); (try (clear e8)); (try (clear e9)); (try (clear e10)); (try (clear e11)); omega)) ⟨by simp [*], by simp [*], by simp [*], by simp [*], by simp [*]⟩ (by simp [*]) (by simp [*]; rfl) ?_) | (refine OutOK.callF [] (by simp [*]; rfl) (by simp [*]; rfl) (by simp [*]; rfl) hb92 (by apply cf <;> first | assumption | exact Hd.out (by assumption) | ((try (clear e0)); (try (clear e1)); (try (clear e2)); (try (clear e3)); (try (clear e4)); (try (clear e5)); (try (clear e6)); (try (clear e7)); (try (clear e8)); (try (clear e9)); (try (clear e10)); (try (clear e11)); omega)) ⟨by simp [*], by simp [*], by simp [*], by simp [*], by simp [*]⟩ (by simp [*]) (by simp [*]; rfl) ?_) | (refine OutOK.callF [] (by simp [*]; rfl) (by simp [*]; rfl) (by simp [*]; rfl) hb95 (by apply c_spec_l1In <;> first | assumption | exact Hd.out (by assumption) | ((try (clear e0)); (try (clear e1)); (try (clear e2)); (try (clear e3)); (try (clear e4)); (try (clear e5)); (try (clear e6)); (try (clear e7)); (try (clear e8)); (try (clear e9)); (try (clear e10)); (try (clear e11)); omega)) ⟨by simp [*], by simp [*], by simp [*], by simp [*], by simp [*]⟩ (by simp [*]) (by simp [*]; rfl) ?_) | refine OutOK.run (by simp [*]; rfl) ?_ | refine AW.ret ?_ | refine AW.skip ?_ | refine AW.exit ?_ | refine fin_r ?_ | refine fin_n ?_ | refine AW.block ?_ | refine blockQ_n ?_ | refine blockQ_r ?_ | refine blockQ_e ?_ | refine blockQ_o rfl ?_)
  exact .inl ⟨rfl, hn.out, by simp [Try.f91]⟩
theorem s_ply_o (l : List Ent) (its : List Itm) (i : Nat) (kd : Int) (nm tx : ByteArray) (hl : i < l.length) (he : l[i] = ⟨kd, nm, tx⟩) (h40 : l.length ≤ 40) (hil : its.length ≤ 40) (hw : nm.size ≤ 9223372036854775807 ∧ tx.size ≤ 9223372036854775807) (hnt : nameOK nm = true ∧ textOK tx = true) (k : Nat) (hf : fnd its nm = (k : Int)) (hkl : k < its.length) (hk : kd = 1) : AW Try.prog 98 (cAt Try.f91 [2, 2, 1, 2, 5, 7]) (mk [(0, .c (.sl true 3 (ents l))), (4, .rf 58000 []), (5, .c (.sc (.int .i64 (i : Int))))] [(58000, .sv (.sl false 3 (itms its)))]) (PlyQ l its i) := by
  have e1 : wrap64 ((i : Int) + 1) = ((i + 1 : Nat) : Int) := by rw [w64 (by omega) (by omega)]; omega
  have hge : l[i]?.getD default = ⟨kd, nm, tx⟩ := by rw [List.getElem?_eq_getElem hl, Option.getD_some, he]
  have cn := c_spec_l7Name nm hw.1
  have ct := c_spec_l21Text tx hw.2
  have cf := c_spec_l21Find its nm (by omega)
  have b1 : (its.length + 1) * 40 ≤ 140737488355328 := by omega
  have b2 : its.length + 1 ≤ 4611686018427387904 := by omega
  have hn : playE its (l[i]?.getD default) = none := by rw [hge, play_at hnt hf hkl]; simp [hk]
  obtain ⟨hN, hT⟩ := hnt
  rw [hN] at cn
  rw [hT] at ct
  rw [hf] at cf
  have hz0 : ¬ (k : Int) < 0 := by omega
  have hz1 : (0 : Int) ≤ k := by omega
  clear hf
  subst hk
  replace hn : Hd _ := hn
  clear hge hw
  repeat' (first | with_reducible refine OutOK.done ?_ | refine thenQ_n ?_ | refine thenQ_r ?_ | refine thenQ_e ?_ | refine AW.seq ?_ | refine AW.dreg tok mixed [15, 16]  [(0, false), (1, false), (2, false), (3, false), (4, false), (5, false), (6, false), (7, false), (8, false), (9, false), (10, false), (11, false), (12, false), (14, false), (13, false), (15, true), (16, true), (17, false), (18, false)] (by decide +kernel) rfl (by simp [*]; rfl) ?_ | refine AW.reg tok (by simp [*]; rfl) ?_ | refine AW.ifB (by simp [*]; rfl) ?_ | refine IfG.t ?_ | refine IfG.f ?_ | (refine IfG.p (fun hg => ?_) (fun hg => ?_) <;> (try (have hg' := hg; simp at hg'))) | (refine IfG.n (fun hg => ?_) (fun hg => ?_) <;> (try (have hg' := hg; simp at hg'))) | (refine OutOK.gateP (fun hg => ?_) (fun hg => ?_) <;> (try (have hg' := hg; simp at hg'))) | (refine OutOK.gateN (fun hg => ?_) (fun hg => ?_) <;> (try (have hg' := hg; simp at hg'))) | (refine IfG.g (fun hg => ?_) (fun hg => ?_) <;> (try (have hg' := hg; simp at hg'))) | (refine OutOK.gate (fun hg => ?_) (fun hg => ?_) <;> (try (have hg' := hg; simp at hg'))) | (refine OutOK.callF [] (by simp [*]; rfl) (by simp [*]; rfl) (by simp [*]; rfl) hb115 (by apply cn <;> first | assumption | exact Hd.out (by assumption) | ((try (clear e0)); (try (clear e1)); (try (clear e2)); (try (clear e3)); (try (clear e4)); (try (clear e5)); (try (clear e6)); (try (clear e7)); (try (clear e8)); (try (clear e9)); (try (clear e10)); (try (clear e11)); omega)) ⟨by simp [*], by simp [*], by simp [*], by simp [*], by simp [*]⟩ (by simp [*]) (by simp [*]; rfl) ?_) | (refine OutOK.callF [] (by simp [*]; rfl) (by simp [*]; rfl) (by simp [*]; rfl) hb116 (by apply ct <;> first | assumption | exact Hd.out (by assumption) | ((try (clear e0)); (try (clear e1)); (try (clear e2)); (try (clear e3)); (try (clear e4)); (try (clear e5)); (try (clear e6)); (try (clear e7)); (try (clear e8)); (try (clear e9)); (try (clear e10)); (try (clear e11)); omega)) ⟨by simp [*], by simp [*], by simp [*], by simp [*], by simp [*]⟩ (by simp [*]) (by simp [*]; rfl) ?_) | (refine OutOK.callF [] (by simp [*]; rfl) (by simp [*]; rfl) (by simp [*]; rfl) hb92 (by apply cf <;> first | assumption | exact Hd.out (by assumption) | ((try (clear e0)); (try (clear e1)); (try (clear e2)); (try (clear e3)); (try (clear e4)); (try (clear e5)); (try (clear e6)); (try (clear e7)); (try (clear e8)); (try (clear e9)); (try (clear e10)); (try (clear e11)); omega)) ⟨by simp [*], by simp [*], by simp [*], by simp [*], by simp [*]⟩ (by simp [*]) (by simp [*]; rfl) ?_) | (refine OutOK.callF [] (by simp [*]; rfl) (by simp [*]; rfl) (by simp [*]; rfl) hb95 (by apply c_spec_l1In <;> first | assumption | exact Hd.out (by assumption) | ((try (clear e0)); (try (clear e1)); (try (clear e2)); (try (clear e3)); (try (clear e4)); (try (clear e5)); (try (clear e6)); (try (clear e7)); (try (clear e8)); (try (clear e9)); (try (clear e10)); (try (clear e11)); omega)) ⟨by simp [*], by simp [*], by simp [*], by simp [*], by simp [*]⟩ (by simp [*]) (by simp [*]; rfl) ?_) | refine OutOK.run (by simp [*]; rfl) ?_ | refine AW.ret ?_ | refine AW.skip ?_ | refine AW.exit ?_ | refine fin_r ?_ | refine fin_n ?_ | refine AW.block ?_ | refine blockQ_n ?_ | refine blockQ_r ?_ | refine blockQ_e ?_ | refine blockQ_o rfl ?_)
  exact .inl ⟨rfl, hn.out, by simp [Try.f91]⟩
theorem s_ply_2n (l : List Ent) (its : List Itm) (i : Nat) (kd : Int) (nm tx : ByteArray) (hl : i < l.length) (he : l[i] = ⟨kd, nm, tx⟩) (h40 : l.length ≤ 40) (hil : its.length ≤ 40) (hw : nm.size ≤ 9223372036854775807 ∧ tx.size ≤ 9223372036854775807) (hnt : nameOK nm = true ∧ textOK tx = true) (k : Nat) (hf : fnd its nm = (k : Int)) (hkl : k < its.length) (hk : kd = 2) (hv : its[k].vd = true) : AW Try.prog 98 (cAt Try.f91 [2, 2, 1, 2, 5, 7]) (mk [(0, .c (.sl true 3 (ents l))), (4, .rf 58000 []), (5, .c (.sc (.int .i64 (i : Int))))] [(58000, .sv (.sl false 3 (itms its)))]) (PlyQ l its i) := by
  have e1 : wrap64 ((i : Int) + 1) = ((i + 1 : Nat) : Int) := by rw [w64 (by omega) (by omega)]; omega
  have hge : l[i]?.getD default = ⟨kd, nm, tx⟩ := by rw [List.getElem?_eq_getElem hl, Option.getD_some, he]
  have cn := c_spec_l7Name nm hw.1
  have ct := c_spec_l21Text tx hw.2
  have cf := c_spec_l21Find its nm (by omega)
  have b1 : (its.length + 1) * 40 ≤ 140737488355328 := by omega
  have b2 : its.length + 1 ≤ 4611686018427387904 := by omega
  have hn : playE its (l[i]?.getD default) = none := by rw [hge, play_at hnt hf hkl]; simp [hk, hv]
  obtain ⟨hN, hT⟩ := hnt
  rw [hN] at cn
  rw [hT] at ct
  rw [hf] at cf
  have hz0 : ¬ (k : Int) < 0 := by omega
  have hz1 : (0 : Int) ≤ k := by omega
  clear hf
  have r1 : inR 2 4 2 = true := inR_iff.2 ⟨by omega, by omega⟩
  have r2 : inR 2 4 3 = true := inR_iff.2 ⟨by omega, by omega⟩
  have r3 : inR 2 4 4 = true := inR_iff.2 ⟨by omega, by omega⟩
  subst hk
  replace hn : Hd _ := hn
  clear hge hw
  repeat' (first | with_reducible refine OutOK.done ?_ | refine thenQ_n ?_ | refine thenQ_r ?_ | refine thenQ_e ?_ | refine AW.seq ?_ | refine AW.dreg tok mixed [15, 16]  [(0, false), (1, false), (2, false), (3, false), (4, false), (5, false), (6, false), (7, false), (8, false), (9, false), (10, false), (11, false), (12, false), (14, false), (13, false), (15, true), (16, true), (17, false), (18, false)] (by decide +kernel) rfl (by simp [*]; rfl) ?_ | refine AW.reg tok (by simp [*]; rfl) ?_ | refine AW.ifB (by simp [*]; rfl) ?_ | refine IfG.t ?_ | refine IfG.f ?_ | (refine IfG.p (fun hg => ?_) (fun hg => ?_) <;> (try (have hg' := hg; simp at hg'))) | (refine IfG.n (fun hg => ?_) (fun hg => ?_) <;> (try (have hg' := hg; simp at hg'))) | (refine OutOK.gateP (fun hg => ?_) (fun hg => ?_) <;> (try (have hg' := hg; simp at hg'))) | (refine OutOK.gateN (fun hg => ?_) (fun hg => ?_) <;> (try (have hg' := hg; simp at hg'))) | (refine IfG.g (fun hg => ?_) (fun hg => ?_) <;> (try (have hg' := hg; simp at hg'))) | (refine OutOK.gate (fun hg => ?_) (fun hg => ?_) <;> (try (have hg' := hg; simp at hg'))) | (refine OutOK.callF [] (by simp [*]; rfl) (by simp [*]; rfl) (by simp [*]; rfl) hb115 (by apply cn <;> first | assumption | exact Hd.out (by assumption) | ((try (clear e0)); (try (clear e1)); (try (clear e2)); (try (clear e3)); (try (clear e4)); (try (clear e5)); (try (clear e6)); (try (clear e7)); (try (clear e8)); (try (clear e9)); (try (clear e10)); (try (clear e11)); omega)) ⟨by simp [*], by simp [*], by simp [*], by simp [*], by simp [*]⟩ (by simp [*]) (by simp [*]; rfl) ?_) | (refine OutOK.callF [] (by simp [*]; rfl) (by simp [*]; rfl) (by simp [*]; rfl) hb116 (by apply ct <;> first | assumption | exact Hd.out (by assumption) | ((try (clear e0)); (try (clear e1)); (try (clear e2)); (try (clear e3)); (try (clear e4)); (try (clear e5)); (try (clear e6)); (try (clear e7)); (try (clear e8)); (try (clear e9)); (try (clear e10)); (try (clear e11)); omega)) ⟨by simp [*], by simp [*], by simp [*], by simp [*], by simp [*]⟩ (by simp [*]) (by simp [*]; rfl) ?_) | (refine OutOK.callF [] (by simp [*]; rfl) (by simp [*]; rfl) (by simp [*]; rfl) hb92 (by apply cf <;> first | assumption | exact Hd.out (by assumption) | ((try (clear e0)); (try (clear e1)); (try (clear e2)); (try (clear e3)); (try (clear e4)); (try (clear e5)); (try (clear e6)); (try (clear e7)); (try (clear e8)); (try (clear e9)); (try (clear e10)); (try (clear e11)); omega)) ⟨by simp [*], by simp [*], by simp [*], by simp [*], by simp [*]⟩ (by simp [*]) (by simp [*]; rfl) ?_) | (refine OutOK.callF [] (by simp [*]; rfl) (by simp [*]; rfl) (by simp [*]; rfl) hb95 (by apply c_spec_l1In <;> first | assumption | exact Hd.out (by assumption) | ((try (clear e0)); (try (clear e1)); (try (clear e2)); (try (clear e3)); (try (clear e4)); (try (clear e5)); (try (clear e6)); (try (clear e7)); (try (clear e8)); (try (clear e9)); (try (clear e10)); (try (clear e11)); omega)) ⟨by simp [*], by simp [*], by simp [*], by simp [*], by simp [*]⟩ (by simp [*]) (by simp [*]; rfl) ?_) | refine OutOK.run (by simp [*]; rfl) ?_ | refine AW.ret ?_ | refine AW.skip ?_ | refine AW.exit ?_ | refine fin_r ?_ | refine fin_n ?_ | refine AW.block ?_ | refine blockQ_n ?_ | refine blockQ_r ?_ | refine blockQ_e ?_ | refine blockQ_o rfl ?_)
  exact .inl ⟨rfl, hn.out, by simp [Try.f91]⟩
theorem s_ply_2 (l : List Ent) (its : List Itm) (i : Nat) (kd : Int) (nm tx : ByteArray) (hl : i < l.length) (he : l[i] = ⟨kd, nm, tx⟩) (h40 : l.length ≤ 40) (hil : its.length ≤ 40) (hw : nm.size ≤ 9223372036854775807 ∧ tx.size ≤ 9223372036854775807) (hnt : nameOK nm = true ∧ textOK tx = true) (k : Nat) (hf : fnd its nm = (k : Int)) (hkl : k < its.length) (hk : kd = 2) (hv : its[k].vd = false) : AW Try.prog 98 (cAt Try.f91 [2, 2, 1, 2, 5, 7]) (mk [(0, .c (.sl true 3 (ents l))), (4, .rf 58000 []), (5, .c (.sc (.int .i64 (i : Int))))] [(58000, .sv (.sl false 3 (itms its)))]) (PlyQ l its i) := by
  have e1 : wrap64 ((i : Int) + 1) = ((i + 1 : Nat) : Int) := by rw [w64 (by omega) (by omega)]; omega
  have hge : l[i]?.getD default = ⟨kd, nm, tx⟩ := by rw [List.getElem?_eq_getElem hl, Option.getD_some, he]
  have cn := c_spec_l7Name nm hw.1
  have ct := c_spec_l21Text tx hw.2
  have cf := c_spec_l21Find its nm (by omega)
  have b1 : (its.length + 1) * 40 ≤ 140737488355328 := by omega
  have b2 : its.length + 1 ≤ 4611686018427387904 := by omega
  have hn : playE its (l[i]?.getD default) = some (its.set k ⟨its[k].nm, tx, false⟩) := by rw [hge, play_at hnt hf hkl]; simp [hk, hv]
  obtain ⟨hN, hT⟩ := hnt
  rw [hN] at cn
  rw [hT] at ct
  rw [hf] at cf
  have hz0 : ¬ (k : Int) < 0 := by omega
  have hz1 : (0 : Int) ≤ k := by omega
  clear hf
  have r1 : inR 2 4 2 = true := inR_iff.2 ⟨by omega, by omega⟩
  have r2 : inR 2 4 3 = true := inR_iff.2 ⟨by omega, by omega⟩
  have r3 : inR 2 4 4 = true := inR_iff.2 ⟨by omega, by omega⟩
  subst hk
  replace hn : Hd _ := hn
  clear hge hw
  repeat' (first | with_reducible refine OutOK.done ?_ | refine thenQ_n ?_ | refine thenQ_r ?_ | refine thenQ_e ?_ | refine AW.seq ?_ | refine AW.dreg tok mixed [15, 16]  [(0, false), (1, false), (2, false), (3, false), (4, false), (5, false), (6, false), (7, false), (8, false), (9, false), (10, false), (11, false), (12, false), (14, false), (13, false), (15, true), (16, true), (17, false), (18, false)] (by decide +kernel) rfl (by simp [*]; rfl) ?_ | refine AW.reg tok (by simp [*]; rfl) ?_ | refine AW.ifB (by simp [*]; rfl) ?_ | refine IfG.t ?_ | refine IfG.f ?_ | (refine IfG.p (fun hg => ?_) (fun hg => ?_) <;> (try (have hg' := hg; simp at hg'))) | (refine IfG.n (fun hg => ?_) (fun hg => ?_) <;> (try (have hg' := hg; simp at hg'))) | (refine OutOK.gateP (fun hg => ?_) (fun hg => ?_) <;> (try (have hg' := hg; simp at hg'))) | (refine OutOK.gateN (fun hg => ?_) (fun hg => ?_) <;> (try (have hg' := hg; simp at hg'))) | (refine IfG.g (fun hg => ?_) (fun hg => ?_) <;> (try (have hg' := hg; simp at hg'))) | (refine OutOK.gate (fun hg => ?_) (fun hg => ?_) <;> (try (have hg' := hg; simp at hg'))) | (refine OutOK.callF [] (by simp [*]; rfl) (by simp [*]; rfl) (by simp [*]; rfl) hb115 (by apply cn <;> first | assumption | exact Hd.out (by assumption) | ((try (clear e0)); (try (clear e1)); (try (clear e2)); (try (clear e3)); (try (clear e4)); (try (clear e5)); (try (clear e6)); (try (clear e7)); (try (clear e8)); (try (clear e9)); (try (clear e10)); (try (clear e11)); omega)) ⟨by simp [*], by simp [*], by simp [*], by simp [*], by simp [*]⟩ (by simp [*]) (by simp [*]; rfl) ?_) | (refine OutOK.callF [] (by simp [*]; rfl) (by simp [*]; rfl) (by simp [*]; rfl) hb116 (by apply ct <;> first | assumption | exact Hd.out (by assumption) | ((try (clear e0)); (try (clear e1)); (try (clear e2)); (try (clear e3)); (try (clear e4)); (try (clear e5)); (try (clear e6)); (try (clear e7)); (try (clear e8)); (try (clear e9)); (try (clear e10)); (try (clear e11)); omega)) ⟨by simp [*], by simp [*], by simp [*], by simp [*], by simp [*]⟩ (by simp [*]) (by simp [*]; rfl) ?_) | (refine OutOK.callF [] (by simp [*]; rfl) (by simp [*]; rfl) (by simp [*]; rfl) hb92 (by apply cf <;> first | assumption | exact Hd.out (by assumption) | ((try (clear e0)); (try (clear e1)); (try (clear e2)); (try (clear e3)); (try (clear e4)); (try (clear e5)); (try (clear e6)); (try (clear e7)); (try (clear e8)); (try (clear e9)); (try (clear e10)); (try (clear e11)); omega)) ⟨by simp [*], by simp [*], by simp [*], by simp [*], by simp [*]⟩ (by simp [*]) (by simp [*]; rfl) ?_) | (refine OutOK.callF [] (by simp [*]; rfl) (by simp [*]; rfl) (by simp [*]; rfl) hb95 (by apply c_spec_l1In <;> first | assumption | exact Hd.out (by assumption) | ((try (clear e0)); (try (clear e1)); (try (clear e2)); (try (clear e3)); (try (clear e4)); (try (clear e5)); (try (clear e6)); (try (clear e7)); (try (clear e8)); (try (clear e9)); (try (clear e10)); (try (clear e11)); omega)) ⟨by simp [*], by simp [*], by simp [*], by simp [*], by simp [*]⟩ (by simp [*]) (by simp [*]; rfl) ?_) | refine OutOK.run (by simp [*]; rfl) ?_ | refine AW.ret ?_ | refine AW.skip ?_ | refine AW.exit ?_ | refine fin_r ?_ | refine fin_n ?_ | refine AW.block ?_ | refine blockQ_n ?_ | refine blockQ_r ?_ | refine blockQ_e ?_ | refine blockQ_o rfl ?_)
  exact .inr ⟨rfl, its.set k ⟨its[k].nm, tx, false⟩, hn.out, by simp, ⟨by simp, by simp, by simp⟩⟩
theorem s_ply_3n (l : List Ent) (its : List Itm) (i : Nat) (kd : Int) (nm tx : ByteArray) (hl : i < l.length) (he : l[i] = ⟨kd, nm, tx⟩) (h40 : l.length ≤ 40) (hil : its.length ≤ 40) (hw : nm.size ≤ 9223372036854775807 ∧ tx.size ≤ 9223372036854775807) (hnt : nameOK nm = true ∧ textOK tx = true) (k : Nat) (hf : fnd its nm = (k : Int)) (hkl : k < its.length) (hk : kd = 3) (hx : tx.toList = []) (hv : its[k].vd = true) : AW Try.prog 98 (cAt Try.f91 [2, 2, 1, 2, 5, 7]) (mk [(0, .c (.sl true 3 (ents l))), (4, .rf 58000 []), (5, .c (.sc (.int .i64 (i : Int))))] [(58000, .sv (.sl false 3 (itms its)))]) (PlyQ l its i) := by
  have e1 : wrap64 ((i : Int) + 1) = ((i + 1 : Nat) : Int) := by rw [w64 (by omega) (by omega)]; omega
  have hge : l[i]?.getD default = ⟨kd, nm, tx⟩ := by rw [List.getElem?_eq_getElem hl, Option.getD_some, he]
  have cn := c_spec_l7Name nm hw.1
  have ct := c_spec_l21Text tx hw.2
  have cf := c_spec_l21Find its nm (by omega)
  have b1 : (its.length + 1) * 40 ≤ 140737488355328 := by omega
  have b2 : its.length + 1 ≤ 4611686018427387904 := by omega
  have hn : playE its (l[i]?.getD default) = none := by rw [hge, play_at hnt hf hkl]; simp [hk, hv, hx]
  obtain ⟨hN, hT⟩ := hnt
  rw [hN] at cn
  rw [hT] at ct
  rw [hf] at cf
  have hz0 : ¬ (k : Int) < 0 := by omega
  have hz1 : (0 : Int) ≤ k := by omega
  clear hf
  have r1 : inR 2 4 2 = true := inR_iff.2 ⟨by omega, by omega⟩
  have r2 : inR 2 4 3 = true := inR_iff.2 ⟨by omega, by omega⟩
  have r3 : inR 2 4 4 = true := inR_iff.2 ⟨by omega, by omega⟩
  subst hk
  replace hn : Hd _ := hn
  clear hge hw
  repeat' (first | with_reducible refine OutOK.done ?_ | refine thenQ_n ?_ | refine thenQ_r ?_ | refine thenQ_e ?_ | refine AW.seq ?_ | refine AW.dreg tok mixed [15, 16]  [(0, false), (1, false), (2, false), (3, false), (4, false), (5, false), (6, false), (7, false), (8, false), (9, false), (10, false), (11, false), (12, false), (14, false), (13, false), (15, true), (16, true), (17, false), (18, false)] (by decide +kernel) rfl (by simp [*]; rfl) ?_ | refine AW.reg tok (by simp [*]; rfl) ?_ | refine AW.ifB (by simp [*]; rfl) ?_ | refine IfG.t ?_ | refine IfG.f ?_ | (refine IfG.p (fun hg => ?_) (fun hg => ?_) <;> (try (have hg' := hg; simp at hg'))) | (refine IfG.n (fun hg => ?_) (fun hg => ?_) <;> (try (have hg' := hg; simp at hg'))) | (refine OutOK.gateP (fun hg => ?_) (fun hg => ?_) <;> (try (have hg' := hg; simp at hg'))) | (refine OutOK.gateN (fun hg => ?_) (fun hg => ?_) <;> (try (have hg' := hg; simp at hg'))) | (refine IfG.g (fun hg => ?_) (fun hg => ?_) <;> (try (have hg' := hg; simp at hg'))) | (refine OutOK.gate (fun hg => ?_) (fun hg => ?_) <;> (try (have hg' := hg; simp at hg'))) | (refine OutOK.callF [] (by simp [*]; rfl) (by simp [*]; rfl) (by simp [*]; rfl) hb115 (by apply cn <;> first | assumption | exact Hd.out (by assumption) | ((try (clear e0)); (try (clear e1)); (try (clear e2)); (try (clear e3)); (try (clear e4)); (try (clear e5)); (try (clear e6)); (try (clear e7)); (try (clear e8)); (try (clear e9)); (try (clear e10)); (try (clear e11)); omega)) ⟨by simp [*], by simp [*], by simp [*], by simp [*], by simp [*]⟩ (by simp [*]) (by simp [*]; rfl) ?_) | (refine OutOK.callF [] (by simp [*]; rfl) (by simp [*]; rfl) (by simp [*]; rfl) hb116 (by apply ct <;> first | assumption | exact Hd.out (by assumption) | ((try (clear e0)); (try (clear e1)); (try (clear e2)); (try (clear e3)); (try (clear e4)); (try (clear e5)); (try (clear e6)); (try (clear e7)); (try (clear e8)); (try (clear e9)); (try (clear e10)); (try (clear e11)); omega)) ⟨by simp [*], by simp [*], by simp [*], by simp [*], by simp [*]⟩ (by simp [*]) (by simp [*]; rfl) ?_) | (refine OutOK.callF [] (by simp [*]; rfl) (by simp [*]; rfl) (by simp [*]; rfl) hb92 (by apply cf <;> first | assumption | exact Hd.out (by assumption) | ((try (clear e0)); (try (clear e1)); (try (clear e2)); (try (clear e3)); (try (clear e4)); (try (clear e5)); (try (clear e6)); (try (clear e7)); (try (clear e8)); (try (clear e9)); (try (clear e10)); (try (clear e11)); omega)) ⟨by simp [*], by simp [*], by simp [*], by simp [*], by simp [*]⟩ (by simp [*]) (by simp [*]; rfl) ?_) | (refine OutOK.callF [] (by simp [*]; rfl) (by simp [*]; rfl) (by simp [*]; rfl) hb95 (by apply c_spec_l1In <;> first | assumption | exact Hd.out (by assumption) | ((try (clear e0)); (try (clear e1)); (try (clear e2)); (try (clear e3)); (try (clear e4)); (try (clear e5)); (try (clear e6)); (try (clear e7)); (try (clear e8)); (try (clear e9)); (try (clear e10)); (try (clear e11)); omega)) ⟨by simp [*], by simp [*], by simp [*], by simp [*], by simp [*]⟩ (by simp [*]) (by simp [*]; rfl) ?_) | refine OutOK.run (by simp [*]; rfl) ?_ | refine AW.ret ?_ | refine AW.skip ?_ | refine AW.exit ?_ | refine fin_r ?_ | refine fin_n ?_ | refine AW.block ?_ | refine blockQ_n ?_ | refine blockQ_r ?_ | refine blockQ_e ?_ | refine blockQ_o rfl ?_)
  exact .inl ⟨rfl, hn.out, by simp [Try.f91]⟩
theorem s_ply_3 (l : List Ent) (its : List Itm) (i : Nat) (kd : Int) (nm tx : ByteArray) (hl : i < l.length) (he : l[i] = ⟨kd, nm, tx⟩) (h40 : l.length ≤ 40) (hil : its.length ≤ 40) (hw : nm.size ≤ 9223372036854775807 ∧ tx.size ≤ 9223372036854775807) (hnt : nameOK nm = true ∧ textOK tx = true) (k : Nat) (hf : fnd its nm = (k : Int)) (hkl : k < its.length) (hk : kd = 3) (hx : tx.toList = []) (hv : its[k].vd = false) : AW Try.prog 98 (cAt Try.f91 [2, 2, 1, 2, 5, 7]) (mk [(0, .c (.sl true 3 (ents l))), (4, .rf 58000 []), (5, .c (.sc (.int .i64 (i : Int))))] [(58000, .sv (.sl false 3 (itms its)))]) (PlyQ l its i) := by
  have e1 : wrap64 ((i : Int) + 1) = ((i + 1 : Nat) : Int) := by rw [w64 (by omega) (by omega)]; omega
  have hge : l[i]?.getD default = ⟨kd, nm, tx⟩ := by rw [List.getElem?_eq_getElem hl, Option.getD_some, he]
  have cn := c_spec_l7Name nm hw.1
  have ct := c_spec_l21Text tx hw.2
  have cf := c_spec_l21Find its nm (by omega)
  have b1 : (its.length + 1) * 40 ≤ 140737488355328 := by omega
  have b2 : its.length + 1 ≤ 4611686018427387904 := by omega
  have hn : playE its (l[i]?.getD default) = some (its.set k ⟨its[k].nm, its[k].tx, true⟩) := by rw [hge, play_at hnt hf hkl]; simp [hk, hv, hx]
  obtain ⟨hN, hT⟩ := hnt
  rw [hN] at cn
  rw [hT] at ct
  rw [hf] at cf
  have hz0 : ¬ (k : Int) < 0 := by omega
  have hz1 : (0 : Int) ≤ k := by omega
  clear hf
  have r1 : inR 2 4 2 = true := inR_iff.2 ⟨by omega, by omega⟩
  have r2 : inR 2 4 3 = true := inR_iff.2 ⟨by omega, by omega⟩
  have r3 : inR 2 4 4 = true := inR_iff.2 ⟨by omega, by omega⟩
  subst hk
  replace hn : Hd _ := hn
  clear hge hw
  repeat' (first | with_reducible refine OutOK.done ?_ | refine thenQ_n ?_ | refine thenQ_r ?_ | refine thenQ_e ?_ | refine AW.seq ?_ | refine AW.dreg tok mixed [15, 16]  [(0, false), (1, false), (2, false), (3, false), (4, false), (5, false), (6, false), (7, false), (8, false), (9, false), (10, false), (11, false), (12, false), (14, false), (13, false), (15, true), (16, true), (17, false), (18, false)] (by decide +kernel) rfl (by simp [*]; rfl) ?_ | refine AW.reg tok (by simp [*]; rfl) ?_ | refine AW.ifB (by simp [*]; rfl) ?_ | refine IfG.t ?_ | refine IfG.f ?_ | (refine IfG.p (fun hg => ?_) (fun hg => ?_) <;> (try (have hg' := hg; simp at hg'))) | (refine IfG.n (fun hg => ?_) (fun hg => ?_) <;> (try (have hg' := hg; simp at hg'))) | (refine OutOK.gateP (fun hg => ?_) (fun hg => ?_) <;> (try (have hg' := hg; simp at hg'))) | (refine OutOK.gateN (fun hg => ?_) (fun hg => ?_) <;> (try (have hg' := hg; simp at hg'))) | (refine IfG.g (fun hg => ?_) (fun hg => ?_) <;> (try (have hg' := hg; simp at hg'))) | (refine OutOK.gate (fun hg => ?_) (fun hg => ?_) <;> (try (have hg' := hg; simp at hg'))) | (refine OutOK.callF [] (by simp [*]; rfl) (by simp [*]; rfl) (by simp [*]; rfl) hb115 (by apply cn <;> first | assumption | exact Hd.out (by assumption) | ((try (clear e0)); (try (clear e1)); (try (clear e2)); (try (clear e3)); (try (clear e4)); (try (clear e5)); (try (clear e6)); (try (clear e7)); (try (clear e8)); (try (clear e9)); (try (clear e10)); (try (clear e11)); omega)) ⟨by simp [*], by simp [*], by simp [*], by simp [*], by simp [*]⟩ (by simp [*]) (by simp [*]; rfl) ?_) | (refine OutOK.callF [] (by simp [*]; rfl) (by simp [*]; rfl) (by simp [*]; rfl) hb116 (by apply ct <;> first | assumption | exact Hd.out (by assumption) | ((try (clear e0)); (try (clear e1)); (try (clear e2)); (try (clear e3)); (try (clear e4)); (try (clear e5)); (try (clear e6)); (try (clear e7)); (try (clear e8)); (try (clear e9)); (try (clear e10)); (try (clear e11)); omega)) ⟨by simp [*], by simp [*], by simp [*], by simp [*], by simp [*]⟩ (by simp [*]) (by simp [*]; rfl) ?_) | (refine OutOK.callF [] (by simp [*]; rfl) (by simp [*]; rfl) (by simp [*]; rfl) hb92 (by apply cf <;> first | assumption | exact Hd.out (by assumption) | ((try (clear e0)); (try (clear e1)); (try (clear e2)); (try (clear e3)); (try (clear e4)); (try (clear e5)); (try (clear e6)); (try (clear e7)); (try (clear e8)); (try (clear e9)); (try (clear e10)); (try (clear e11)); omega)) ⟨by simp [*], by simp [*], by simp [*], by simp [*], by simp [*]⟩ (by simp [*]) (by simp [*]; rfl) ?_) | (refine OutOK.callF [] (by simp [*]; rfl) (by simp [*]; rfl) (by simp [*]; rfl) hb95 (by apply c_spec_l1In <;> first | assumption | exact Hd.out (by assumption) | ((try (clear e0)); (try (clear e1)); (try (clear e2)); (try (clear e3)); (try (clear e4)); (try (clear e5)); (try (clear e6)); (try (clear e7)); (try (clear e8)); (try (clear e9)); (try (clear e10)); (try (clear e11)); omega)) ⟨by simp [*], by simp [*], by simp [*], by simp [*], by simp [*]⟩ (by simp [*]) (by simp [*]; rfl) ?_) | refine OutOK.run (by simp [*]; rfl) ?_ | refine AW.ret ?_ | refine AW.skip ?_ | refine AW.exit ?_ | refine fin_r ?_ | refine fin_n ?_ | refine AW.block ?_ | refine blockQ_n ?_ | refine blockQ_r ?_ | refine blockQ_e ?_ | refine blockQ_o rfl ?_)
  exact .inr ⟨rfl, its.set k ⟨its[k].nm, its[k].tx, true⟩, hn.out, by simp, ⟨by simp, by simp, by simp⟩⟩
theorem s_ply_4n (l : List Ent) (its : List Itm) (i : Nat) (kd : Int) (nm tx : ByteArray) (hl : i < l.length) (he : l[i] = ⟨kd, nm, tx⟩) (h40 : l.length ≤ 40) (hil : its.length ≤ 40) (hw : nm.size ≤ 9223372036854775807 ∧ tx.size ≤ 9223372036854775807) (hnt : nameOK nm = true ∧ textOK tx = true) (k : Nat) (hf : fnd its nm = (k : Int)) (hkl : k < its.length) (hk : kd = 4) (hx : tx.toList = []) (hv : its[k].vd = false) : AW Try.prog 98 (cAt Try.f91 [2, 2, 1, 2, 5, 7]) (mk [(0, .c (.sl true 3 (ents l))), (4, .rf 58000 []), (5, .c (.sc (.int .i64 (i : Int))))] [(58000, .sv (.sl false 3 (itms its)))]) (PlyQ l its i) := by
  have e1 : wrap64 ((i : Int) + 1) = ((i + 1 : Nat) : Int) := by rw [w64 (by omega) (by omega)]; omega
  have hge : l[i]?.getD default = ⟨kd, nm, tx⟩ := by rw [List.getElem?_eq_getElem hl, Option.getD_some, he]
  have cn := c_spec_l7Name nm hw.1
  have ct := c_spec_l21Text tx hw.2
  have cf := c_spec_l21Find its nm (by omega)
  have b1 : (its.length + 1) * 40 ≤ 140737488355328 := by omega
  have b2 : its.length + 1 ≤ 4611686018427387904 := by omega
  have hn : playE its (l[i]?.getD default) = none := by rw [hge, play_at hnt hf hkl]; simp [hk, hv, hx]
  obtain ⟨hN, hT⟩ := hnt
  rw [hN] at cn
  rw [hT] at ct
  rw [hf] at cf
  have hz0 : ¬ (k : Int) < 0 := by omega
  have hz1 : (0 : Int) ≤ k := by omega
  clear hf
  have r1 : inR 2 4 2 = true := inR_iff.2 ⟨by omega, by omega⟩
  have r2 : inR 2 4 3 = true := inR_iff.2 ⟨by omega, by omega⟩
  have r3 : inR 2 4 4 = true := inR_iff.2 ⟨by omega, by omega⟩
  subst hk
  replace hn : Hd _ := hn
  clear hge hw
  repeat' (first | with_reducible refine OutOK.done ?_ | refine thenQ_n ?_ | refine thenQ_r ?_ | refine thenQ_e ?_ | refine AW.seq ?_ | refine AW.dreg tok mixed [15, 16]  [(0, false), (1, false), (2, false), (3, false), (4, false), (5, false), (6, false), (7, false), (8, false), (9, false), (10, false), (11, false), (12, false), (14, false), (13, false), (15, true), (16, true), (17, false), (18, false)] (by decide +kernel) rfl (by simp [*]; rfl) ?_ | refine AW.reg tok (by simp [*]; rfl) ?_ | refine AW.ifB (by simp [*]; rfl) ?_ | refine IfG.t ?_ | refine IfG.f ?_ | (refine IfG.p (fun hg => ?_) (fun hg => ?_) <;> (try (have hg' := hg; simp at hg'))) | (refine IfG.n (fun hg => ?_) (fun hg => ?_) <;> (try (have hg' := hg; simp at hg'))) | (refine OutOK.gateP (fun hg => ?_) (fun hg => ?_) <;> (try (have hg' := hg; simp at hg'))) | (refine OutOK.gateN (fun hg => ?_) (fun hg => ?_) <;> (try (have hg' := hg; simp at hg'))) | (refine IfG.g (fun hg => ?_) (fun hg => ?_) <;> (try (have hg' := hg; simp at hg'))) | (refine OutOK.gate (fun hg => ?_) (fun hg => ?_) <;> (try (have hg' := hg; simp at hg'))) | (refine OutOK.callF [] (by simp [*]; rfl) (by simp [*]; rfl) (by simp [*]; rfl) hb115 (by apply cn <;> first | assumption | exact Hd.out (by assumption) | ((try (clear e0)); (try (clear e1)); (try (clear e2)); (try (clear e3)); (try (clear e4)); (try (clear e5)); (try (clear e6)); (try (clear e7)); (try (clear e8)); (try (clear e9)); (try (clear e10)); (try (clear e11)); omega)) ⟨by simp [*], by simp [*], by simp [*], by simp [*], by simp [*]⟩ (by simp [*]) (by simp [*]; rfl) ?_) | (refine OutOK.callF [] (by simp [*]; rfl) (by simp [*]; rfl) (by simp [*]; rfl) hb116 (by apply ct <;> first | assumption | exact Hd.out (by assumption) | ((try (clear e0)); (try (clear e1)); (try (clear e2)); (try (clear e3)); (try (clear e4)); (try (clear e5)); (try (clear e6)); (try (clear e7)); (try (clear e8)); (try (clear e9)); (try (clear e10)); (try (clear e11)); omega)) ⟨by simp [*], by simp [*], by simp [*], by simp [*], by simp [*]⟩ (by simp [*]) (by simp [*]; rfl) ?_) | (refine OutOK.callF [] (by simp [*]; rfl) (by simp [*]; rfl) (by simp [*]; rfl) hb92 (by apply cf <;> first | assumption | exact Hd.out (by assumption) | ((try (clear e0)); (try (clear e1)); (try (clear e2)); (try (clear e3)); (try (clear e4)); (try (clear e5)); (try (clear e6)); (try (clear e7)); (try (clear e8)); (try (clear e9)); (try (clear e10)); (try (clear e11)); omega)) ⟨by simp [*], by simp [*], by simp [*], by simp [*], by simp [*]⟩ (by simp [*]) (by simp [*]; rfl) ?_) | (refine OutOK.callF [] (by simp [*]; rfl) (by simp [*]; rfl) (by simp [*]; rfl) hb95 (by apply c_spec_l1In <;> first | assumption | exact Hd.out (by assumption) | ((try (clear e0)); (try (clear e1)); (try (clear e2)); (try (clear e3)); (try (clear e4)); (try (clear e5)); (try (clear e6)); (try (clear e7)); (try (clear e8)); (try (clear e9)); (try (clear e10)); (try (clear e11)); omega)) ⟨by simp [*], by simp [*], by simp [*], by simp [*], by simp [*]⟩ (by simp [*]) (by simp [*]; rfl) ?_) | refine OutOK.run (by simp [*]; rfl) ?_ | refine AW.ret ?_ | refine AW.skip ?_ | refine AW.exit ?_ | refine fin_r ?_ | refine fin_n ?_ | refine AW.block ?_ | refine blockQ_n ?_ | refine blockQ_r ?_ | refine blockQ_e ?_ | refine blockQ_o rfl ?_)
  exact .inl ⟨rfl, hn.out, by simp [Try.f91]⟩
theorem s_ply_4 (l : List Ent) (its : List Itm) (i : Nat) (kd : Int) (nm tx : ByteArray) (hl : i < l.length) (he : l[i] = ⟨kd, nm, tx⟩) (h40 : l.length ≤ 40) (hil : its.length ≤ 40) (hw : nm.size ≤ 9223372036854775807 ∧ tx.size ≤ 9223372036854775807) (hnt : nameOK nm = true ∧ textOK tx = true) (k : Nat) (hf : fnd its nm = (k : Int)) (hkl : k < its.length) (hk : kd = 4) (hx : tx.toList = []) (hv : its[k].vd = true) : AW Try.prog 98 (cAt Try.f91 [2, 2, 1, 2, 5, 7]) (mk [(0, .c (.sl true 3 (ents l))), (4, .rf 58000 []), (5, .c (.sc (.int .i64 (i : Int))))] [(58000, .sv (.sl false 3 (itms its)))]) (PlyQ l its i) := by
  have e1 : wrap64 ((i : Int) + 1) = ((i + 1 : Nat) : Int) := by rw [w64 (by omega) (by omega)]; omega
  have hge : l[i]?.getD default = ⟨kd, nm, tx⟩ := by rw [List.getElem?_eq_getElem hl, Option.getD_some, he]
  have cn := c_spec_l7Name nm hw.1
  have ct := c_spec_l21Text tx hw.2
  have cf := c_spec_l21Find its nm (by omega)
  have b1 : (its.length + 1) * 40 ≤ 140737488355328 := by omega
  have b2 : its.length + 1 ≤ 4611686018427387904 := by omega
  have hn : playE its (l[i]?.getD default) = some (its.set k ⟨its[k].nm, its[k].tx, false⟩) := by rw [hge, play_at hnt hf hkl]; simp [hk, hv, hx]
  obtain ⟨hN, hT⟩ := hnt
  rw [hN] at cn
  rw [hT] at ct
  rw [hf] at cf
  have hz0 : ¬ (k : Int) < 0 := by omega
  have hz1 : (0 : Int) ≤ k := by omega
  clear hf
  have r1 : inR 2 4 2 = true := inR_iff.2 ⟨by omega, by omega⟩
  have r2 : inR 2 4 3 = true := inR_iff.2 ⟨by omega, by omega⟩
  have r3 : inR 2 4 4 = true := inR_iff.2 ⟨by omega, by omega⟩
  subst hk
  replace hn : Hd _ := hn
  clear hge hw
  repeat' (first | with_reducible refine OutOK.done ?_ | refine thenQ_n ?_ | refine thenQ_r ?_ | refine thenQ_e ?_ | refine AW.seq ?_ | refine AW.dreg tok mixed [15, 16]  [(0, false), (1, false), (2, false), (3, false), (4, false), (5, false), (6, false), (7, false), (8, false), (9, false), (10, false), (11, false), (12, false), (14, false), (13, false), (15, true), (16, true), (17, false), (18, false)] (by decide +kernel) rfl (by simp [*]; rfl) ?_ | refine AW.reg tok (by simp [*]; rfl) ?_ | refine AW.ifB (by simp [*]; rfl) ?_ | refine IfG.t ?_ | refine IfG.f ?_ | (refine IfG.p (fun hg => ?_) (fun hg => ?_) <;> (try (have hg' := hg; simp at hg'))) | (refine IfG.n (fun hg => ?_) (fun hg => ?_) <;> (try (have hg' := hg; simp at hg'))) | (refine OutOK.gateP (fun hg => ?_) (fun hg => ?_) <;> (try (have hg' := hg; simp at hg'))) | (refine OutOK.gateN (fun hg => ?_) (fun hg => ?_) <;> (try (have hg' := hg; simp at hg'))) | (refine IfG.g (fun hg => ?_) (fun hg => ?_) <;> (try (have hg' := hg; simp at hg'))) | (refine OutOK.gate (fun hg => ?_) (fun hg => ?_) <;> (try (have hg' := hg; simp at hg'))) | (refine OutOK.callF [] (by simp [*]; rfl) (by simp [*]; rfl) (by simp [*]; rfl) hb115 (by apply cn <;> first | assumption | exact Hd.out (by assumption) | ((try (clear e0)); (try (clear e1)); (try (clear e2)); (try (clear e3)); (try (clear e4)); (try (clear e5)); (try (clear e6)); (try (clear e7)); (try (clear e8)); (try (clear e9)); (try (clear e10)); (try (clear e11)); omega)) ⟨by simp [*], by simp [*], by simp [*], by simp [*], by simp [*]⟩ (by simp [*]) (by simp [*]; rfl) ?_) | (refine OutOK.callF [] (by simp [*]; rfl) (by simp [*]; rfl) (by simp [*]; rfl) hb116 (by apply ct <;> first | assumption | exact Hd.out (by assumption) | ((try (clear e0)); (try (clear e1)); (try (clear e2)); (try (clear e3)); (try (clear e4)); (try (clear e5)); (try (clear e6)); (try (clear e7)); (try (clear e8)); (try (clear e9)); (try (clear e10)); (try (clear e11)); omega)) ⟨by simp [*], by simp [*], by simp [*], by simp [*], by simp [*]⟩ (by simp [*]) (by simp [*]; rfl) ?_) | (refine OutOK.callF [] (by simp [*]; rfl) (by simp [*]; rfl) (by simp [*]; rfl) hb92 (by apply cf <;> first | assumption | exact Hd.out (by assumption) | ((try (clear e0)); (try (clear e1)); (try (clear e2)); (try (clear e3)); (try (clear e4)); (try (clear e5)); (try (clear e6)); (try (clear e7)); (try (clear e8)); (try (clear e9)); (try (clear e10)); (try (clear e11)); omega)) ⟨by simp [*], by simp [*], by simp [*], by simp [*], by simp [*]⟩ (by simp [*]) (by simp [*]; rfl) ?_) | (refine OutOK.callF [] (by simp [*]; rfl) (by simp [*]; rfl) (by simp [*]; rfl) hb95 (by apply c_spec_l1In <;> first | assumption | exact Hd.out (by assumption) | ((try (clear e0)); (try (clear e1)); (try (clear e2)); (try (clear e3)); (try (clear e4)); (try (clear e5)); (try (clear e6)); (try (clear e7)); (try (clear e8)); (try (clear e9)); (try (clear e10)); (try (clear e11)); omega)) ⟨by simp [*], by simp [*], by simp [*], by simp [*], by simp [*]⟩ (by simp [*]) (by simp [*]; rfl) ?_) | refine OutOK.run (by simp [*]; rfl) ?_ | refine AW.ret ?_ | refine AW.skip ?_ | refine AW.exit ?_ | refine fin_r ?_ | refine fin_n ?_ | refine AW.block ?_ | refine blockQ_n ?_ | refine blockQ_r ?_ | refine blockQ_e ?_ | refine blockQ_o rfl ?_)
  exact .inr ⟨rfl, its.set k ⟨its[k].nm, its[k].tx, false⟩, hn.out, by simp, ⟨by simp, by simp, by simp⟩⟩
theorem s_ply_z (l : List Ent) (its : List Itm) (i : Nat) (kd : Int) (nm tx : ByteArray) (hl : i < l.length) (he : l[i] = ⟨kd, nm, tx⟩) (h40 : l.length ≤ 40) (hil : its.length ≤ 40) (hw : nm.size ≤ 9223372036854775807 ∧ tx.size ≤ 9223372036854775807) (hnt : nameOK nm = true ∧ textOK tx = true) (k : Nat) (hf : fnd its nm = (k : Int)) (hkl : k < its.length) (h1 : ¬ kd = 1) (h2 : inR 2 4 kd = false) (hx : 3 ≤ kd → tx.toList = []) : AW Try.prog 98 (cAt Try.f91 [2, 2, 1, 2, 5, 7]) (mk [(0, .c (.sl true 3 (ents l))), (4, .rf 58000 []), (5, .c (.sc (.int .i64 (i : Int))))] [(58000, .sv (.sl false 3 (itms its)))]) (PlyQ l its i) := by
  have e1 : wrap64 ((i : Int) + 1) = ((i + 1 : Nat) : Int) := by rw [w64 (by omega) (by omega)]; omega
  have hge : l[i]?.getD default = ⟨kd, nm, tx⟩ := by rw [List.getElem?_eq_getElem hl, Option.getD_some, he]
  have cn := c_spec_l7Name nm hw.1
  have ct := c_spec_l21Text tx hw.2
  have cf := c_spec_l21Find its nm (by omega)
  have b1 : (its.length + 1) * 40 ≤ 140737488355328 := by omega
  have b2 : its.length + 1 ≤ 4611686018427387904 := by omega
  have hn : playE its (l[i]?.getD default) = none := by
    rw [inR_not] at h2
    rw [hge, play_at hnt hf hkl, if_neg (by simp only; omega), if_neg (by simp only; omega), if_neg (by simp only; omega)]
  obtain ⟨hN, hT⟩ := hnt
  rw [hN] at cn
  rw [hT] at ct
  rw [hf] at cf
  have hz0 : ¬ (k : Int) < 0 := by omega
  have hz1 : (0 : Int) ≤ k := by omega
  clear hf
  by_cases h3 : 3 ≤ kd
  · replace hx := hx h3
    replace hn : Hd _ := hn
    clear hge hw
    repeat' (first | with_reducible refine OutOK.done ?_ | refine thenQ_n ?_ | refine thenQ_r ?_ | refine thenQ_e ?_ | refine AW.seq ?_ | refine AW.dreg tok mixed [15, 16]  [(0, false), (1, false), (2, false), (3, false), (4, false), (5, false), (6, false), (7, false), (8, false), (9, false), (10, false), (11, false), (12, false), (14, false), (13, false), (15, true), (16, true), (17, false), (18, false)] (by decide +kernel) rfl (by simp [*]; rfl) ?_ | refine AW.reg tok (by simp [*]; rfl) ?_ | refine AW.ifB (by simp [*]; rfl) ?_ | refine IfG.t ?_ | refine IfG.f ?_ | (refine IfG.p (fun hg => ?_) (fun hg => ?_) <;> (try (have hg' := hg; simp at hg'))) | (refine IfG.n (fun hg => ?_) (fun hg => ?_) <;> (try (have hg' := hg; simp at hg'))) | (refine OutOK.gateP (fun hg => ?_) (fun hg => ?_) <;> (try (have hg' := hg; simp at hg'))) | (refine OutOK.gateN (fun hg => ?_) (fun hg => ?_) <;> (try (have hg' := hg; simp at hg'))) | (refine IfG.g (fun hg => ?_) (fun hg => ?_) <;> (try (have hg' := hg; simp at hg'))) | (refine OutOK.gate (fun hg => ?_) (fun hg => ?_) <;> (try (have hg' := hg; simp at hg'))) | (refine OutOK.callF [] (by simp [*]; rfl) (by simp [*]; rfl) (by simp [*]; rfl) hb115 (by apply cn <;> first | assumption | exact Hd.out (by assumption) | ((try (clear e0)); (try (clear e1)); (try (clear e2)); (try (clear e3)); (try (clear e4)); (try (clear e5)); (try (clear e6)); (try (clear e7)); (try (clear e8)); (try (clear e9)); (try (clear e10)); (try (clear e11)); omega)) ⟨by simp [*], by simp [*], by simp [*], by simp [*], by simp [*]⟩ (by simp [*]) (by simp [*]; rfl) ?_) | (refine OutOK.callF [] (by simp [*]; rfl) (by simp [*]; rfl) (by simp [*]; rfl) hb116 (by apply ct <;> first | assumption | exact Hd.out (by assumption) | ((try (clear e0)); (try (clear e1)); (try (clear e2)); (try (clear e3)); (try (clear e4)); (try (clear e5)); (try (clear e6)); (try (clear e7)); (try (clear e8)); (try (clear e9)); (try (clear e10)); (try (clear e11)); omega)) ⟨by simp [*], by simp [*], by simp [*], by simp [*], by simp [*]⟩ (by simp [*]) (by simp [*]; rfl) ?_) | (refine OutOK.callF [] (by simp [*]; rfl) (by simp [*]; rfl) (by simp [*]; rfl) hb92 (by apply cf <;> first | assumption | exact Hd.out (by assumption) | ((try (clear e0)); (try (clear e1)); (try (clear e2)); (try (clear e3)); (try (clear e4)); (try (clear e5)); (try (clear e6)); (try (clear e7)); (try (clear e8)); (try (clear e9)); (try (clear e10)); (try (clear e11)); omega)) ⟨by simp [*], by simp [*], by simp [*], by simp [*], by simp [*]⟩ (by simp [*]) (by simp [*]; rfl) ?_) | (refine OutOK.callF [] (by simp [*]; rfl) (by simp [*]; rfl) (by simp [*]; rfl) hb95 (by apply c_spec_l1In <;> first | assumption | exact Hd.out (by assumption) | ((try (clear e0)); (try (clear e1)); (try (clear e2)); (try (clear e3)); (try (clear e4)); (try (clear e5)); (try (clear e6)); (try (clear e7)); (try (clear e8)); (try (clear e9)); (try (clear e10)); (try (clear e11)); omega)) ⟨by simp [*], by simp [*], by simp [*], by simp [*], by simp [*]⟩ (by simp [*]) (by simp [*]; rfl) ?_) | refine OutOK.run (by simp [*]; rfl) ?_ | refine AW.ret ?_ | refine AW.skip ?_ | refine AW.exit ?_ | refine fin_r ?_ | refine fin_n ?_ | refine AW.block ?_ | refine blockQ_n ?_ | refine blockQ_r ?_ | refine blockQ_e ?_ | refine blockQ_o rfl ?_)
    exact .inl ⟨rfl, hn.out, by simp [Try.f91]⟩
  clear hx
  replace hn : Hd _ := hn
  clear hge hw
  repeat' (first | with_reducible refine OutOK.done ?_ | refine thenQ_n ?_ | refine thenQ_r ?_ | refine thenQ_e ?_ | refine AW.seq ?_ | refine AW.dreg tok mixed [15, 16]  [(0, false), (1, false), (2, false), (3, false), (4, false), (5, false), (6, false), (7, false), (8, false), (9, false), (10, false), (11, false), (12, false), (14, false), (13, false), (15, true), (16, true), (17, false), (18, false)] (by decide +kernel) rfl (by simp [*]; rfl) ?_ | refine AW.reg tok (by simp [*]; rfl) ?_ | refine AW.ifB (by simp [*]; rfl) ?_ | refine IfG.t ?_ | refine IfG.f ?_ | (refine IfG.p (fun hg => ?_) (fun hg => ?_) <;> (try (have hg' := hg; simp at hg'))) | (refine IfG.n (fun hg => ?_) (fun hg => ?_) <;> (try (have hg' := hg; simp at hg'))) | (refine OutOK.gateP (fun hg => ?_) (fun hg => ?_) <;> (try (have hg' := hg; simp at hg'))) | (refine OutOK.gateN (fun hg => ?_) (fun hg => ?_) <;> (try (have hg' := hg; simp at hg'))) | (refine IfG.g (fun hg => ?_) (fun hg => ?_) <;> (try (have hg' := hg; simp at hg'))) | (refine OutOK.gate (fun hg => ?_) (fun hg => ?_) <;> (try (have hg' := hg; simp at hg'))) | (refine OutOK.callF [] (by simp [*]; rfl) (by simp [*]; rfl) (by simp [*]; rfl) hb115 (by apply cn <;> first | assumption | exact Hd.out (by assumption) | ((try (clear e0)); (try (clear e1)); (try (clear e2)); (try (clear e3)); (try (clear e4)); (try (clear e5)); (try (clear e6)); (try (clear e7)); (try (clear e8)); (try (clear e9)); (try (clear e10)); (try (clear e11)); omega)) ⟨by simp [*], by simp [*], by simp [*], by simp [*], by simp [*]⟩ (by simp [*]) (by simp [*]; rfl) ?_) | (refine OutOK.callF [] (by simp [*]; rfl) (by simp [*]; rfl) (by simp [*]; rfl) hb116 (by apply ct <;> first | assumption | exact Hd.out (by assumption) | ((try (clear e0)); (try (clear e1)); (try (clear e2)); (try (clear e3)); (try (clear e4)); (try (clear e5)); (try (clear e6)); (try (clear e7)); (try (clear e8)); (try (clear e9)); (try (clear e10)); (try (clear e11)); omega)) ⟨by simp [*], by simp [*], by simp [*], by simp [*], by simp [*]⟩ (by simp [*]) (by simp [*]; rfl) ?_) | (refine OutOK.callF [] (by simp [*]; rfl) (by simp [*]; rfl) (by simp [*]; rfl) hb92 (by apply cf <;> first | assumption | exact Hd.out (by assumption) | ((try (clear e0)); (try (clear e1)); (try (clear e2)); (try (clear e3)); (try (clear e4)); (try (clear e5)); (try (clear e6)); (try (clear e7)); (try (clear e8)); (try (clear e9)); (try (clear e10)); (try (clear e11)); omega)) ⟨by simp [*], by simp [*], by simp [*], by simp [*], by simp [*]⟩ (by simp [*]) (by simp [*]; rfl) ?_) | (refine OutOK.callF [] (by simp [*]; rfl) (by simp [*]; rfl) (by simp [*]; rfl) hb95 (by apply c_spec_l1In <;> first | assumption | exact Hd.out (by assumption) | ((try (clear e0)); (try (clear e1)); (try (clear e2)); (try (clear e3)); (try (clear e4)); (try (clear e5)); (try (clear e6)); (try (clear e7)); (try (clear e8)); (try (clear e9)); (try (clear e10)); (try (clear e11)); omega)) ⟨by simp [*], by simp [*], by simp [*], by simp [*], by simp [*]⟩ (by simp [*]) (by simp [*]; rfl) ?_) | refine OutOK.run (by simp [*]; rfl) ?_ | refine AW.ret ?_ | refine AW.skip ?_ | refine AW.exit ?_ | refine fin_r ?_ | refine fin_n ?_ | refine AW.block ?_ | refine blockQ_n ?_ | refine blockQ_r ?_ | refine blockQ_e ?_ | refine blockQ_o rfl ?_)
  exact .inl ⟨rfl, hn.out, by simp [Try.f91]⟩
end Go.Proofs.Ytodombkmnnggeaa.EngS


set_option linter.unusedSimpArgs false
set_option linter.unusedVariables false
set_option maxHeartbeats 4000000
set_option maxRecDepth 100000
namespace Go.Proofs.Ytodombkmnnggeaa.EngS
open Go Go.Proofs Go.Eng Go.RowKit
theorem play_bad {its : List Itm} {kd : Int} {nm tx : ByteArray} (h3 : 3 ≤ kd) (hx : ¬ tx.toList = []) : playE its ⟨kd, nm, tx⟩ = none := by
  unfold playE
  split
  · split
    · rw [if_neg (by simp only; omega)]
    · rw [if_neg (by simp only; omega), if_neg (by simp [hx]), if_neg (by simp [hx])]
  · rfl
theorem w_ply (l : List Ent) (its : List Itm) (i : Nat) (hl : i < l.length) (h40 : l.length ≤ 40) (hil : its.length ≤ 40) (hw : ∀ e ∈ l, EntW e) :
    AW Try.prog 98 (cAt Try.f91 [2, 2, 1, 2, 5, 7]) (mk [(0, .c (.sl true 3 (ents l))), (4, .rf 58000 []), (5, .c (.sc (.int .i64 (i : Int))))] [(58000, .sv (.sl false 3 (itms its)))]) (PlyQ l its i) := by
  have hw := hw l[i] (List.getElem_mem hl)
  obtain ⟨kd, nm, tx, he⟩ : ∃ kd nm tx, l[i] = ⟨kd, nm, tx⟩ := ⟨_, _, _, rfl⟩
  rw [he] at hw
  cases hN : nameOK nm with
  | false => exact s_ply_n l its i kd nm tx hl he h40 hil hw hN
  | true =>
    cases hT : textOK tx with
    | false => exact s_ply_t l its i kd nm tx hl he h40 hil hw hN hT
    | true =>
      by_cases hb : 3 ≤ kd ∧ ¬ tx.toList = []
      · exact s_ply_x l its i kd nm tx hl he h40 hil hw ⟨hN, hT⟩ (play_bad hb.1 hb.2) hb.1 hb.2
      have hx : 3 ≤ kd → tx.toList = [] := fun h => Classical.byContradiction fun e => hb ⟨h, e⟩
      rcases idx_cases (fun x : Itm => decide (x.nm.toList = nm.toList)) its with hf | ⟨k, hf, hkl⟩
      · by_cases h1 : kd = 1
        · exact s_ply_1 l its i kd nm tx hl he h40 hil hw ⟨hN, hT⟩ hf h1
        · exact s_ply_1n l its i kd nm tx hl he h40 hil hw ⟨hN, hT⟩ hf h1 hx
      by_cases h1 : kd = 1
      · exact s_ply_o l its i kd nm tx hl he h40 hil hw ⟨hN, hT⟩ k hf hkl h1
      by_cases h2 : kd = 2
      · cases hv : its[k].vd
        · exact s_ply_2 l its i kd nm tx hl he h40 hil hw ⟨hN, hT⟩ k hf hkl h2 hv
        · exact s_ply_2n l its i kd nm tx hl he h40 hil hw ⟨hN, hT⟩ k hf hkl h2 hv
      by_cases h3 : kd = 3
      · cases hv : its[k].vd
        · exact s_ply_3 l its i kd nm tx hl he h40 hil hw ⟨hN, hT⟩ k hf hkl h3 (hx (by omega)) hv
        · exact s_ply_3n l its i kd nm tx hl he h40 hil hw ⟨hN, hT⟩ k hf hkl h3 (hx (by omega)) hv
      by_cases h4 : kd = 4
      · cases hv : its[k].vd
        · exact s_ply_4n l its i kd nm tx hl he h40 hil hw ⟨hN, hT⟩ k hf hkl h4 (hx (by omega)) hv
        · exact s_ply_4 l its i kd nm tx hl he h40 hil hw ⟨hN, hT⟩ k hf hkl h4 (hx (by omega)) hv
      · exact s_ply_z l its i kd nm tx hl he h40 hil hw ⟨hN, hT⟩ k hf hkl h1 (by rw [inR_not]; omega) hx
theorem x_spec_l21Play (l : List Ent) (h40 : l.length ≤ 40) (hw : ∀ e ∈ l, EntW e) : ACallX Try.prog 91 [.v (.sl true 3 (ents l))] (fun x : List Itm => x.length ≤ l.length ∧ ∀ m, playL [] l = some m → x = m) (fun _ => [.x]) (fun x => [.v (.sl false 3 (itms x)), boo (playL [] l).isSome]) := by
  have hP : Hd (playL [] l = playL [] (l.drop 0)) := by simp [Hd]
  have hw' : Hd _ := hw
  generalize playL [] l = pl at *
  clear hw
  refine ACallX.of (N := 98) tok Try.func91 rfl rfl rfl (by simp) ?_
  repeat' (first | with_reducible refine OutOK.done ?_ | refine thenQ_n ?_ | refine thenQ_r ?_ | refine thenQ_e ?_ | refine AW.seq ?_ | refine AW.dreg tok mixed [15, 16]  [(0, false), (1, false), (2, false), (3, false), (4, false), (5, false), (6, false), (7, false), (8, false), (9, false), (10, false), (11, false), (12, false), (14, false), (13, false), (15, true), (16, true), (17, false), (18, false)] (by decide +kernel) rfl (by simp [*]; rfl) ?_ | refine AW.reg tok (by simp [*]; rfl) ?_ | refine AW.ifB (by simp [*]; rfl) ?_ | refine IfG.t ?_ | refine IfG.f ?_ | (refine IfG.p (fun hg => ?_) (fun hg => ?_) <;> (try (have hg' := hg; simp at hg'))) | (refine IfG.n (fun hg => ?_) (fun hg => ?_) <;> (try (have hg' := hg; simp at hg'))) | (refine OutOK.gateP (fun hg => ?_) (fun hg => ?_) <;> (try (have hg' := hg; simp at hg'))) | (refine OutOK.gateN (fun hg => ?_) (fun hg => ?_) <;> (try (have hg' := hg; simp at hg'))) | (refine IfG.g (fun hg => ?_) (fun hg => ?_) <;> (try (have hg' := hg; simp at hg'))) | (refine OutOK.gate (fun hg => ?_) (fun hg => ?_) <;> (try (have hg' := hg; simp at hg'))) | refine OutOK.run (by simp [*]; rfl) ?_ | refine AW.ret ?_ | refine AW.skip ?_ | refine AW.exit ?_ | refine fin_r ?_ | refine fin_n ?_ | refine AW.block ?_ | refine blockQ_n ?_ | refine blockQ_r ?_ | refine blockQ_e ?_ | refine blockQ_o rfl ?_)
  refine AW.loopS (α := Nat × List Itm) (fun q => q.1 ≤ l.length ∧ q.2.length ≤ q.1 ∧ Hd (pl = playL q.2 (l.drop q.1))) (fun q => [(0, .c (.sl true 3 (ents l))), (4, .rf 58000 []), (5, .c (.sc (.int .i64 (q.1 : Int))))])
    (fun q => [(58000, .sv (.sl false 3 (itms q.2)))]) (fun q => l.length - q.1) (0, []) ⟨Nat.zero_le _, by simp, hP⟩ [(9000, 58000)] (by simp) ⟨by simp, by simp, by simp⟩ ?_
  rintro ⟨i, its⟩ ⟨hi, hil, hp⟩
  simp only at hi hil hp
  rcases Nat.lt_or_ge i l.length with hl | hl
  · refine (w_ply l its i hl h40 (by omega) hw'.out).mono fun e st hq => ?_
    have hge : l[i]?.getD default = l[i] := by rw [List.getElem?_eq_getElem hl, Option.getD_some]
    rcases hq with ⟨rfl, hn, hq⟩ | ⟨rfl, m, hm, hml, hq⟩
    · rw [hge] at hn
      have hpn : pl = none := by rw [hp.out, playL_no hl hn]
      subst hpn
      exact ⟨.inr rfl, its, ⟨by omega, fun m e => by cases e⟩, hq⟩
    · rw [hge] at hm
      exact ⟨(i + 1, m), ⟨hl, by simp only; omega, by rw [Hd, hp.out, playL_go hl hm]⟩, ⟨[], by simp, hq⟩, by simp only; omega⟩
  · have hii : i = l.length := by omega
    subst hii
    have hps : pl = some its := by rw [hp.out, playL_end (Nat.le_refl _)]
    subst hps
    clear hP hp
    repeat' (first | with_reducible refine OutOK.done ?_ | refine thenQ_n ?_ | refine thenQ_r ?_ | refine thenQ_e ?_ | refine AW.seq ?_ | refine AW.dreg tok mixed [15, 16]  [(0, false), (1, false), (2, false), (3, false), (4, false), (5, false), (6, false), (7, false), (8, false), (9, false), (10, false), (11, false), (12, false), (14, false), (13, false), (15, true), (16, true), (17, false), (18, false)] (by decide +kernel) rfl (by simp [*]; rfl) ?_ | refine AW.reg tok (by simp [*]; rfl) ?_ | refine AW.ifB (by simp [*]; rfl) ?_ | refine IfG.t ?_ | refine IfG.f ?_ | (refine IfG.p (fun hg => ?_) (fun hg => ?_) <;> (try (have hg' := hg; simp at hg'))) | (refine IfG.n (fun hg => ?_) (fun hg => ?_) <;> (try (have hg' := hg; simp at hg'))) | (refine OutOK.gateP (fun hg => ?_) (fun hg => ?_) <;> (try (have hg' := hg; simp at hg'))) | (refine OutOK.gateN (fun hg => ?_) (fun hg => ?_) <;> (try (have hg' := hg; simp at hg'))) | (refine IfG.g (fun hg => ?_) (fun hg => ?_) <;> (try (have hg' := hg; simp at hg'))) | (refine OutOK.gate (fun hg => ?_) (fun hg => ?_) <;> (try (have hg' := hg; simp at hg'))) | refine OutOK.run (by simp [*]; rfl) ?_ | refine AW.ret ?_ | refine AW.skip ?_ | refine AW.exit ?_ | refine fin_r ?_ | refine fin_n ?_ | refine AW.block ?_ | refine blockQ_n ?_ | refine blockQ_r ?_ | refine blockQ_e ?_ | refine blockQ_o rfl ?_)
    exact ⟨its, ⟨hil, fun m e => by cases e; rfl⟩, by simp [Try.f91]⟩
theorem c_spec_l21Good (l : List Ent) (h : l.length ≤ 9223372036854775807) (hw : ∀ e ∈ l, EntW e) : ACall Try.prog 88 [.v (.sl true 3 (ents l))] [.x] [boo (regOK l)] := by
  rcases Nat.lt_or_ge 40 l.length with h40 | h40
  · have hb : regOK l = false := by simp [regOK]; omega
    rw [hb]
    have h40' : (40 : Int) < l.length := by omega
    clear hw hb
    refine ACall.of (N := 14) tok Try.func88 rfl rfl rfl (by simp) ?_
    repeat' (first | with_reducible refine OutOK.done ?_ | refine thenQ_n ?_ | refine thenQ_r ?_ | refine thenQ_e ?_ | refine AW.seq ?_ | refine AW.reg tok (by simp [*]; rfl) ?_ | refine AW.ifB (by simp [*]; rfl) ?_ | refine IfG.t ?_ | refine IfG.f ?_ | (refine IfG.p (fun hg => ?_) (fun hg => ?_) <;> (try (have hg' := hg; simp at hg'))) | (refine IfG.n (fun hg => ?_) (fun hg => ?_) <;> (try (have hg' := hg; simp at hg'))) | (refine OutOK.gateP (fun hg => ?_) (fun hg => ?_) <;> (try (have hg' := hg; simp at hg'))) | (refine OutOK.gateN (fun hg => ?_) (fun hg => ?_) <;> (try (have hg' := hg; simp at hg'))) | (refine IfG.g (fun hg => ?_) (fun hg => ?_) <;> (try (have hg' := hg; simp at hg'))) | (refine OutOK.gate (fun hg => ?_) (fun hg => ?_) <;> (try (have hg' := hg; simp at hg'))) | refine OutOK.run (by simp [*]; rfl) ?_ | refine AW.ret ?_ | refine AW.skip ?_ | refine AW.exit ?_ | refine fin_r ?_ | refine fin_n ?_ | refine AW.block ?_ | refine blockQ_n ?_ | refine blockQ_r ?_ | refine blockQ_e ?_ | refine blockQ_o rfl ?_)
    simp [Try.f88]
  have h40' : ¬ (40 : Int) < l.length := by omega
  refine ACallX.one ?_
  have cp := x_spec_l21Play l h40 hw
  have hb : regOK l = (playL [] l).isSome := by simp [regOK, h40]
  rw [hb]
  generalize (playL [] l).isSome = b at *
  generalize playL [] l = pl at *
  clear hw hb
  refine ACallX.of (N := 14) tok Try.func88 rfl rfl rfl (by simp) ?_
  repeat' (first | with_reducible refine OutOK.done ?_ | refine thenQ_n ?_ | refine thenQ_r ?_ | refine thenQ_e ?_ | refine AW.seq ?_ | refine AW.reg tok (by simp [*]; rfl) ?_ | refine AW.ifB (by simp [*]; rfl) ?_ | refine IfG.t ?_ | refine IfG.f ?_ | (refine IfG.p (fun hg => ?_) (fun hg => ?_) <;> (try (have hg' := hg; simp at hg'))) | (refine IfG.n (fun hg => ?_) (fun hg => ?_) <;> (try (have hg' := hg; simp at hg'))) | (refine OutOK.gateP (fun hg => ?_) (fun hg => ?_) <;> (try (have hg' := hg; simp at hg'))) | (refine OutOK.gateN (fun hg => ?_) (fun hg => ?_) <;> (try (have hg' := hg; simp at hg'))) | (refine IfG.g (fun hg => ?_) (fun hg => ?_) <;> (try (have hg' := hg; simp at hg'))) | (refine OutOK.gate (fun hg => ?_) (fun hg => ?_) <;> (try (have hg' := hg; simp at hg'))) | refine OutOK.run (by simp [*]; rfl) ?_ | refine AW.ret ?_ | refine AW.skip ?_ | refine AW.exit ?_ | refine fin_r ?_ | refine fin_n ?_ | refine AW.block ?_ | refine blockQ_n ?_ | refine blockQ_r ?_ | refine blockQ_e ?_ | refine blockQ_o rfl ?_)
  refine OutOK.callX [] (by simp [*]; rfl) (by simp [*]; rfl) (by simp [*]; rfl) hb91 (by apply cp <;> first | assumption | exact Hd.out (by assumption) | ((try (clear e0)); (try (clear e1)); (try (clear e2)); (try (clear e3)); (try (clear e4)); (try (clear e5)); (try (clear e6)); (try (clear e7)); (try (clear e8)); (try (clear e9)); (try (clear e10)); (try (clear e11)); omega)) ⟨by simp [*], by simp [*], by simp [*]⟩ (by simp [*]) (fun x hx => ?_)
  clear cp hx
  refine CallX.mk' ⟨by simp [*], by simp [*], by simp [*], by simp [*], by simp [*]⟩ (by simp [*]; rfl) ?_
  repeat' (first | with_reducible refine OutOK.done ?_ | refine thenQ_n ?_ | refine thenQ_r ?_ | refine thenQ_e ?_ | refine AW.seq ?_ | refine AW.reg tok (by simp [*]; rfl) ?_ | refine AW.ifB (by simp [*]; rfl) ?_ | refine IfG.t ?_ | refine IfG.f ?_ | (refine IfG.p (fun hg => ?_) (fun hg => ?_) <;> (try (have hg' := hg; simp at hg'))) | (refine IfG.n (fun hg => ?_) (fun hg => ?_) <;> (try (have hg' := hg; simp at hg'))) | (refine OutOK.gateP (fun hg => ?_) (fun hg => ?_) <;> (try (have hg' := hg; simp at hg'))) | (refine OutOK.gateN (fun hg => ?_) (fun hg => ?_) <;> (try (have hg' := hg; simp at hg'))) | (refine IfG.g (fun hg => ?_) (fun hg => ?_) <;> (try (have hg' := hg; simp at hg'))) | (refine OutOK.gate (fun hg => ?_) (fun hg => ?_) <;> (try (have hg' := hg; simp at hg'))) | refine OutOK.run (by simp [*]; rfl) ?_ | refine AW.ret ?_ | refine AW.skip ?_ | refine AW.exit ?_ | refine fin_r ?_ | refine fin_n ?_ | refine AW.block ?_ | refine blockQ_n ?_ | refine blockQ_r ?_ | refine blockQ_e ?_ | refine blockQ_o rfl ?_)
  exact ⟨(), trivial, by simp [Try.f88]⟩
end Go.Proofs.Ytodombkmnnggeaa.EngS


set_option linter.unusedSimpArgs false
set_option linter.unusedVariables false
set_option maxHeartbeats 4000000
set_option maxRecDepth 10000
namespace Go.Proofs.Ytodombkmnnggeaa.EngS
open Go Go.Proofs Go.Eng Go.RowKit
def bys (xs : List Int) : List PV := xs.map fun x => .sc (.int .u8 x)
@[simp] theorem bys_len (xs) : (bys xs).length = xs.length := by simp [bys]
@[simp] theorem bys_get (xs : List Int) (i : Nat) : (bys xs)[i]? = (xs[i]?).map fun x => .sc (.int .u8 x) := by simp [bys]
@[simp] theorem bys_at (xs : List Int) (i : Nat) (h : i < (bys xs).length) : (bys xs)[i] = .sc (.int .u8 (xs[i]'(by simpa using h))) := by simp [bys]
@[simp] theorem bys_frz (xs) : PV.frzs (bys xs) = bys xs := by simp [bys]
abbrev curP (code : List Int) (a s : Int) : List PV := [.sl true 1 (bys code), .sc (.int .i64 a), .sc (.int .u64 s)]
def nxB (code : List Int) (a : Int) : Int := if a < (code.length : Int) then wrap64 (code[a.toNat]?.getD 0) else 0
def nxS (code : List Int) (a s : Int) : Int := IntKind.u64.wrap (IntKind.u64.wrap (IntKind.u64.wrap (s * 6364136223846793005) + IntKind.u64.wrap (nxB code a)) + 876876)
def nxV (code : List Int) (a s : Int) : Int := if a + 1 ≤ (code.length : Int) then nxB code a else wrap64 (IntKind.u64.wrap (((((nxS code a s).fdiv (2 ^ min 40 IntKind.u64.bits) % 2 ^ IntKind.u64.bits).toNat &&& 255 % 2 ^ IntKind.u64.bits : Nat)) : Int))
theorem u64_small (n : Nat) (h : n ≤ 255) : wrap64 (IntKind.u64.wrap (n : Int)) = (n : Int) := by
  have : IntKind.u64.wrap (n : Int) = (n : Int) := by
    simp [IntKind.wrap, IntKind.signed, IntKind.bits]
    omega
  rw [this]
  exact w64 (by omega) (by omega)
def BytesOK (code : List Int) : Prop := ∀ x ∈ code, 0 ≤ x ∧ x ≤ 255
theorem nxB_le {code : List Int} (hb : BytesOK code) (a : Int) (h0 : 0 ≤ a) : 0 ≤ nxB code a ∧ nxB code a ≤ 255 := by
  unfold nxB
  split
  · have hl : a.toNat < code.length := by omega
    rw [List.getElem?_eq_getElem hl]
    have := hb code[a.toNat] (List.getElem_mem hl)
    simp only [Option.getD_some]
    rw [w64 (by omega) (by omega)]
    exact this
  · omega
theorem nxV_le {code : List Int} (hb : BytesOK code) (a s : Int) (h0 : 0 ≤ a) : 0 ≤ nxV code a s ∧ nxV code a s ≤ 255 := by
  unfold nxV
  split
  · exact nxB_le hb a h0
  · have h := Nat.and_le_right (n := ((nxS code a s).fdiv (2 ^ min 40 IntKind.u64.bits) % 2 ^ IntKind.u64.bits).toNat) (m := 255 % 2 ^ IntKind.u64.bits)
    have h2 : 255 % 2 ^ IntKind.u64.bits = 255 := by decide
    rw [h2] at h ⊢
    rw [u64_small _ h]
    omega
theorem c_spec_l1Cur_next (code : List Int) (a s : Int) (h0 : 0 ≤ a) (h1 : a ≤ 1000000000000000) (hc : code.length ≤ 9223372036854775807) : ACall Try.prog 107 [.p (curP code a s)] [.p (curP code (a + 1) (nxS code a s))] [int (nxV code a s)] := by
  have e1 : wrap64 (a + 1) = a + 1 := w64 (by omega) (by omega)
  refine ACall.of (N := 62) tok Try.func107 rfl rfl rfl (by simp) ?_
  repeat' (first | with_reducible refine OutOK.done ?_ | refine thenQ_n ?_ | refine thenQ_r ?_ | refine thenQ_e ?_ | refine AW.seq ?_ | refine AW.dreg tok mixed [7, 8]  [(0, false), (1, false), (2, false), (4, false), (5, false), (6, false), (3, false), (7, true), (8, true), (9, false)] (by decide +kernel) rfl (by simp [*]; rfl) ?_ | refine AW.dreg tok mixed [7]  [(0, false), (1, false), (2, false), (4, false), (5, false), (6, false), (3, false), (7, true), (8, false), (9, false), (10, false), (11, false)] (by decide +kernel) rfl (by simp [*]; rfl) ?_ | refine AW.dreg tok mixed [7, 8]  [(0, false), (1, false), (2, false), (4, false), (5, false), (6, false), (3, false), (7, true), (8, true), (9, false)] (by decide +kernel) rfl (by simp [*]; rfl) ?_ | refine AW.reg tok (by simp [*]; rfl) ?_ | refine AW.ifB (by simp [*]; rfl) ?_ | refine IfG.t ?_ | refine IfG.f ?_ | (refine IfG.p (fun hg => ?_) (fun hg => ?_) <;> (try (have hg' := hg; simp at hg'))) | (refine IfG.n (fun hg => ?_) (fun hg => ?_) <;> (try (have hg' := hg; simp at hg'))) | (refine OutOK.gateP (fun hg => ?_) (fun hg => ?_) <;> (try (have hg' := hg; simp at hg'))) | (refine OutOK.gateN (fun hg => ?_) (fun hg => ?_) <;> (try (have hg' := hg; simp at hg'))) | (refine IfG.g (fun hg => ?_) (fun hg => ?_) <;> (try (have hg' := hg; simp at hg'))) | (refine OutOK.gate (fun hg => ?_) (fun hg => ?_) <;> (try (have hg' := hg; simp at hg'))) | refine OutOK.run (by simp [*]; rfl) ?_ | refine AW.ret ?_ | refine AW.skip ?_ | refine AW.exit ?_ | refine fin_r ?_ | refine fin_n ?_ | refine AW.block ?_ | refine blockQ_n ?_ | refine blockQ_r ?_ | refine blockQ_e ?_ | refine blockQ_o rfl ?_)
  all_goals simp [Try.f107, nxV, nxS, nxB, *]
theorem x_spec_l1Cur_next (code : List Int) (a s : Int) (h0 : 0 ≤ a) (h1 : a ≤ 1000000000000) (hc : code.length ≤ 9223372036854775807) (hb : BytesOK code) :
    ACallX Try.prog 107 [.p (curP code a s)] (fun x : Int × Int => 0 ≤ x.2 ∧ x.2 ≤ 255) (fun x => [.p (curP code (a + 1) x.1)]) (fun x => [int x.2]) :=
  ACallX.imp (c_spec_l1Cur_next code a s h0 (by omega) hc).x (fun _ => (nxS code a s, nxV code a s)) (fun _ _ => nxV_le hb a s h0) (fun _ _ => rfl) (fun _ _ => rfl)
theorem tmod_in {v n : Int} (h : 0 ≤ v) (hn : 0 < n) : 0 ≤ Int.tmod v n ∧ Int.tmod v n < n := by
  rw [Int.tmod_eq_emod_of_nonneg h]
  exact ⟨Int.emod_nonneg _ (by omega), Int.emod_lt_of_pos _ hn⟩
theorem x_spec_l1Cur_pick (code : List Int) (a s n : Int) (h0 : 0 ≤ a) (h1 : a ≤ 900000000000) (hc : code.length ≤ 9223372036854775807) (hb : BytesOK code) (hn : 1 < n) (hn' : n ≤ 1000000) :
    ACallX Try.prog 67 [.p (curP code a s), int n] (fun x : Int × Int × Int => a ≤ x.1 ∧ x.1 ≤ a + 2 ∧ 0 ≤ x.2.2 ∧ x.2.2 < n) (fun x => [.p (curP code x.1 x.2.1), .x]) (fun x => [int x.2.2]) := by
  have e1 : ¬ n ≤ 1 := by omega
  have e3 : ¬ n = 0 := by omega
  by_cases e2 : 200 < n
  · refine ACallX.of (N := 20) tok Try.func67 rfl rfl rfl (by simp) ?_
    repeat' (first | with_reducible refine OutOK.done ?_ | refine thenQ_n ?_ | refine thenQ_r ?_ | refine thenQ_e ?_ | refine AW.seq ?_ | refine AW.reg tok (by simp [*]; rfl) ?_ | refine AW.ifB (by simp [*]; rfl) ?_ | refine IfG.t ?_ | refine IfG.f ?_ | (refine IfG.p (fun hg => ?_) (fun hg => ?_) <;> (try (have hg' := hg; simp at hg'))) | (refine IfG.n (fun hg => ?_) (fun hg => ?_) <;> (try (have hg' := hg; simp at hg'))) | (refine OutOK.gateP (fun hg => ?_) (fun hg => ?_) <;> (try (have hg' := hg; simp at hg'))) | (refine OutOK.gateN (fun hg => ?_) (fun hg => ?_) <;> (try (have hg' := hg; simp at hg'))) | (refine IfG.g (fun hg => ?_) (fun hg => ?_) <;> (try (have hg' := hg; simp at hg'))) | (refine OutOK.gate (fun hg => ?_) (fun hg => ?_) <;> (try (have hg' := hg; simp at hg'))) | (refine OutOK.callX [] (by simp [*]; rfl) (by simp [*]; rfl) (by simp [*]; rfl) hb107 (by apply x_spec_l1Cur_next <;> first | assumption | exact Hd.out (by assumption) | ((try (clear e0)); (try (clear e1)); (try (clear e2)); (try (clear e3)); (try (clear e4)); (try (clear e5)); (try (clear e6)); (try (clear e7)); (try (clear e8)); (try (clear e9)); (try (clear e10)); (try (clear e11)); omega)) ⟨by simp [*], by simp [*], by simp [*]⟩ (by simp [*]) (fun x hx => CallX.mk' ⟨by simp [*], by simp [*], by simp [*], by simp [*], by simp [*]⟩ (by simp [*]; rfl) ?_)) | refine OutOK.run (by simp [*]; rfl) ?_ | refine AW.ret ?_ | refine AW.skip ?_ | refine AW.exit ?_ | refine fin_r ?_ | refine fin_n ?_ | refine AW.block ?_ | refine blockQ_n ?_ | refine blockQ_r ?_ | refine blockQ_e ?_ | refine blockQ_o rfl ?_)
    rename_i x1 hx1
    have hv := tmod_in (v := wrap64 (wrap64 (x1.2 * 256) + x.2)) (n := n) (by rw [w64 (x := x1.2 * 256) (by omega) (by omega), w64 (by omega) (by omega)]; omega) (by omega)
    exact ⟨(a + 1 + 1, x.1, Int.tmod (wrap64 (wrap64 (x1.2 * 256) + x.2)) n), ⟨by simp only; omega, by simp only; omega, hv.1, hv.2⟩, by simp [Try.f67]⟩
  · refine ACallX.of (N := 20) tok Try.func67 rfl rfl rfl (by simp) ?_
    repeat' (first | with_reducible refine OutOK.done ?_ | refine thenQ_n ?_ | refine thenQ_r ?_ | refine thenQ_e ?_ | refine AW.seq ?_ | refine AW.reg tok (by simp [*]; rfl) ?_ | refine AW.ifB (by simp [*]; rfl) ?_ | refine IfG.t ?_ | refine IfG.f ?_ | (refine IfG.p (fun hg => ?_) (fun hg => ?_) <;> (try (have hg' := hg; simp at hg'))) | (refine IfG.n (fun hg => ?_) (fun hg => ?_) <;> (try (have hg' := hg; simp at hg'))) | (refine OutOK.gateP (fun hg => ?_) (fun hg => ?_) <;> (try (have hg' := hg; simp at hg'))) | (refine OutOK.gateN (fun hg => ?_) (fun hg => ?_) <;> (try (have hg' := hg; simp at hg'))) | (refine IfG.g (fun hg => ?_) (fun hg => ?_) <;> (try (have hg' := hg; simp at hg'))) | (refine OutOK.gate (fun hg => ?_) (fun hg => ?_) <;> (try (have hg' := hg; simp at hg'))) | (refine OutOK.callX [] (by simp [*]; rfl) (by simp [*]; rfl) (by simp [*]; rfl) hb107 (by apply x_spec_l1Cur_next <;> first | assumption | exact Hd.out (by assumption) | ((try (clear e0)); (try (clear e1)); (try (clear e2)); (try (clear e3)); (try (clear e4)); (try (clear e5)); (try (clear e6)); (try (clear e7)); (try (clear e8)); (try (clear e9)); (try (clear e10)); (try (clear e11)); omega)) ⟨by simp [*], by simp [*], by simp [*]⟩ (by simp [*]) (fun x hx => CallX.mk' ⟨by simp [*], by simp [*], by simp [*], by simp [*], by simp [*]⟩ (by simp [*]; rfl) ?_)) | refine OutOK.run (by simp [*]; rfl) ?_ | refine AW.ret ?_ | refine AW.skip ?_ | refine AW.exit ?_ | refine fin_r ?_ | refine fin_n ?_ | refine AW.block ?_ | refine blockQ_n ?_ | refine blockQ_r ?_ | refine blockQ_e ?_ | refine blockQ_o rfl ?_)
    have hv := tmod_in (v := x.2) (n := n) (by omega) (by omega)
    exact ⟨(a + 1, x.1, Int.tmod x.2 n), ⟨by simp only; omega, by simp only; omega, hv.1, hv.2⟩, by simp [Try.f67]⟩
def strs (xs : List ByteArray) : List PV := xs.map fun x => .sc (.string x)
@[simp] theorem strs_len (xs) : (strs xs).length = xs.length := by simp [strs]
@[simp] theorem strs_get (xs : List ByteArray) (i : Nat) : (strs xs)[i]? = (xs[i]?).map fun x => .sc (.string x) := by simp [strs]
@[simp] theorem strs_at (xs : List ByteArray) (i : Nat) (h : i < (strs xs).length) : (strs xs)[i] = .sc (.string (xs[i]'(by simpa using h))) := by simp [strs]
@[simp] theorem strs_frz (xs) : PV.frzs (strs xs) = strs xs := by simp [strs]
theorem x_spec_l1Cur_of (code : List Int) (a s : Int) (xs : List ByteArray) (q : ByteArray → Prop) (h0 : 0 ≤ a) (h1 : a ≤ 900000000000) (hc : code.length ≤ 9223372036854775807) (hb : BytesOK code) (hn : 1 < xs.length) (hn' : xs.length ≤ 1000000) (hq : ∀ y ∈ xs, q y) :
    ACallX Try.prog 106 [.p (curP code a s), .v (.sl false 1 (strs xs))] (fun x : Int × Int × ByteArray => a ≤ x.1 ∧ x.1 ≤ a + 2 ∧ q x.2.2) (fun x => [.p (curP code x.1 x.2.1), .x]) (fun x => [.v (.sc (.string x.2.2))]) := by
  replace hq : Hd _ := hq
  have hn2 : (1 : Int) < xs.length := by omega
  refine ACallX.of (N := 12) tok Try.func106 rfl rfl rfl (by simp) ?_
  repeat' (first | with_reducible refine OutOK.done ?_ | refine thenQ_n ?_ | refine thenQ_r ?_ | refine thenQ_e ?_ | refine AW.seq ?_ | refine AW.reg tok (by simp [*]; rfl) ?_ | refine AW.ifB (by simp [*]; rfl) ?_ | refine IfG.t ?_ | refine IfG.f ?_ | (refine IfG.p (fun hg => ?_) (fun hg => ?_) <;> (try (have hg' := hg; simp at hg'))) | (refine IfG.n (fun hg => ?_) (fun hg => ?_) <;> (try (have hg' := hg; simp at hg'))) | (refine OutOK.gateP (fun hg => ?_) (fun hg => ?_) <;> (try (have hg' := hg; simp at hg'))) | (refine OutOK.gateN (fun hg => ?_) (fun hg => ?_) <;> (try (have hg' := hg; simp at hg'))) | (refine IfG.g (fun hg => ?_) (fun hg => ?_) <;> (try (have hg' := hg; simp at hg'))) | (refine OutOK.gate (fun hg => ?_) (fun hg => ?_) <;> (try (have hg' := hg; simp at hg'))) | refine OutOK.run (by simp [*]; rfl) ?_ | refine AW.ret ?_ | refine AW.skip ?_ | refine AW.exit ?_ | refine fin_r ?_ | refine fin_n ?_ | refine AW.block ?_ | refine blockQ_n ?_ | refine blockQ_r ?_ | refine blockQ_e ?_ | refine blockQ_o rfl ?_)
  refine OutOK.callX [] (by simp [*]; rfl) (by simp [*]; rfl) (by simp [*]; rfl) hb67 (by apply x_spec_l1Cur_pick <;> first | assumption | exact Hd.out (by assumption) | ((try (clear e0)); (try (clear e1)); (try (clear e2)); (try (clear e3)); (try (clear e4)); (try (clear e5)); (try (clear e6)); (try (clear e7)); (try (clear e8)); (try (clear e9)); (try (clear e10)); (try (clear e11)); omega)) ⟨by simp [*], by simp [*], by simp [*]⟩ (by simp [*]) (fun x hx => ?_)
  have hk : x.2.2.toNat < xs.length := by omega
  refine CallX.mk' ⟨by simp [*], by simp [*], by simp [*], by simp [*], by simp [*]⟩ (by simp [*]; rfl) ?_
  repeat' (first | with_reducible refine OutOK.done ?_ | refine thenQ_n ?_ | refine thenQ_r ?_ | refine thenQ_e ?_ | refine AW.seq ?_ | refine AW.reg tok (by simp [*]; rfl) ?_ | refine AW.ifB (by simp [*]; rfl) ?_ | refine IfG.t ?_ | refine IfG.f ?_ | (refine IfG.p (fun hg => ?_) (fun hg => ?_) <;> (try (have hg' := hg; simp at hg'))) | (refine IfG.n (fun hg => ?_) (fun hg => ?_) <;> (try (have hg' := hg; simp at hg'))) | (refine OutOK.gateP (fun hg => ?_) (fun hg => ?_) <;> (try (have hg' := hg; simp at hg'))) | (refine OutOK.gateN (fun hg => ?_) (fun hg => ?_) <;> (try (have hg' := hg; simp at hg'))) | (refine IfG.g (fun hg => ?_) (fun hg => ?_) <;> (try (have hg' := hg; simp at hg'))) | (refine OutOK.gate (fun hg => ?_) (fun hg => ?_) <;> (try (have hg' := hg; simp at hg'))) | refine OutOK.run (by simp [*]; rfl) ?_ | refine AW.ret ?_ | refine AW.skip ?_ | refine AW.exit ?_ | refine fin_r ?_ | refine fin_n ?_ | refine AW.block ?_ | refine blockQ_n ?_ | refine blockQ_r ?_ | refine blockQ_e ?_ | refine blockQ_o rfl ?_)
  exact ⟨(x.1, x.2.1, xs[x.2.2.toNat]), ⟨hx.1, hx.2.1, hq.out _ (List.getElem_mem hk)⟩, by simp [Try.f106]⟩
end Go.Proofs.Ytodombkmnnggeaa.EngS


set_option linter.unusedSimpArgs false
set_option linter.unusedVariables false
set_option maxHeartbeats 4000000
set_option maxRecDepth 100000
namespace Go.Proofs.Ytodombkmnnggeaa.EngS
open Go Go.Proofs Go.Eng Go.RowKit
@[simp] theorem strs_snoc (l : List ByteArray) (a : ByteArray) : strs l ++ [.sc (.string a)] = strs (l ++ [a]) := by simp [strs]
@[simp] theorem strs_nil : strs [] = [] := rfl
@[simp] theorem strs_coks (xs) : PV.coks (strs xs) = true := by
  induction xs with
  | nil => rfl
  | cons x xs ih => simp only [strs, List.map_cons, PV.coks, PV.cok] at ih ⊢; rw [ih]; rfl
@[simp] theorem strs_nofz (xs) : PV.nofzs (strs xs) = true := by
  induction xs with
  | nil => rfl
  | cons x xs ih => simp only [strs, List.map_cons, PV.nofzs, PV.nofz] at ih ⊢; rw [ih]; rfl
@[simp] theorem strs_flat (xs) : (strs xs).all PV.flat1 = true := by
  induction xs with
  | nil => rfl
  | cons x xs ih => simp only [strs, List.map_cons, List.all_cons] at ih ⊢; rw [ih]; rfl
@[simp] theorem strs_flat' (xs) : (∀ x ∈ strs xs, x.flat1 = true) ↔ True := by
  have := strs_flat xs
  rw [List.all_eq_true] at this
  exact ⟨fun _ => trivial, fun _ => this⟩
theorem playL_len {m : List Itm} : ∀ {l : List Ent} {its : List Itm}, playL its l = some m → m.length ≤ its.length + l.length
  | [], its, h => by simp [playL] at h; subst h; simp
  | e :: es, its, h => by
    rw [playL] at h
    cases hp : playE its e with
    | none => rw [hp] at h; cases h
    | some m1 =>
      rw [hp] at h
      have h1 := playL_len h
      have h2 : m1.length ≤ its.length + 1 := by
        unfold playE at hp
        split at hp
        · split at hp
          · split at hp
            · cases hp; simp
            · cases hp
          · split at hp
            · cases hp; simp
            · split at hp
              · cases hp; simp
              · split at hp
                · cases hp; simp
                · cases hp
        · cases hp
      simp only [List.length_cons]; omega
theorem regI_len (l : List Ent) : (regI l).length ≤ 40 := by
  unfold regI
  split
  · rename_i h
    simp only [regOK, Bool.and_eq_true, decide_eq_true_eq] at h
    cases hp : playL [] l with
    | none => simp
    | some m => have := playL_len (its := []) hp; simp at this ⊢; omega
  · simp
def namL (p : Itm → Bool) (l : List Itm) : List ByteArray := (l.filter p).map (·.nm)
theorem namL_yes {p : Itm → Bool} {l : List Itm} {i : Nat} (h : i < l.length) (hp : p l[i] = true) : namL p (l.take (i + 1)) = namL p (l.take i) ++ [l[i].nm] := by
  rw [namL, List.take_succ_eq_append_getElem h, List.filter_append, List.map_append]; simp [namL, hp]
theorem namL_no {p : Itm → Bool} {l : List Itm} {i : Nat} (h : i < l.length) (hp : p l[i] = false) : namL p (l.take (i + 1)) = namL p (l.take i) := by
  rw [namL, List.take_succ_eq_append_getElem h, List.filter_append, List.map_append]; simp [namL, hp]
theorem namL_len (p : Itm → Bool) (l : List Itm) : (namL p l).length ≤ l.length := by simp only [namL, List.length_map]; exact List.length_filter_le _ _
theorem c_impl_namesOf (l : List Itm) (f : Nat) (C : List PV) (p : Itm → Bool) (h : l.length ≤ 40) (hbf : HasBody Try.prog f) (cf : ∀ x ∈ l, ACall Try.prog f [itmD x, .p C] [.x, .p C] [boo (p x)]) :
    ACall Try.prog 97 [.v (.sl true 3 (itms l)), .f f [C]] [.x, .f f [C]] [.v (.sl false 1 (strs (namL p l)))] := by
  replace cf : Hd _ := cf
  refine ACall.of (N := 25) tok Try.func97 rfl rfl rfl (by simp) ?_
  repeat' (first | with_reducible refine OutOK.done ?_ | refine thenQ_n ?_ | refine thenQ_r ?_ | refine thenQ_e ?_ | refine AW.seq ?_ | refine AW.reg tok (by simp [*]; rfl) ?_ | refine AW.ifB (by simp [*]; rfl) ?_ | refine IfG.t ?_ | refine IfG.f ?_ | (refine IfG.p (fun hg => ?_) (fun hg => ?_) <;> (try (have hg' := hg; simp at hg'))) | (refine IfG.n (fun hg => ?_) (fun hg => ?_) <;> (try (have hg' := hg; simp at hg'))) | (refine OutOK.gateP (fun hg => ?_) (fun hg => ?_) <;> (try (have hg' := hg; simp at hg'))) | (refine OutOK.gateN (fun hg => ?_) (fun hg => ?_) <;> (try (have hg' := hg; simp at hg'))) | (refine IfG.g (fun hg => ?_) (fun hg => ?_) <;> (try (have hg' := hg; simp at hg'))) | (refine OutOK.gate (fun hg => ?_) (fun hg => ?_) <;> (try (have hg' := hg; simp at hg'))) | refine OutOK.run (by simp [*]; rfl) ?_ | refine AW.ret ?_ | refine AW.skip ?_ | refine AW.exit ?_ | refine fin_r ?_ | refine fin_n ?_ | refine AW.block ?_ | refine blockQ_n ?_ | refine blockQ_r ?_ | refine blockQ_e ?_ | refine blockQ_o rfl ?_)
  refine AW.loopS (fun i => i ≤ l.length) (fun i => [(1, .fn f [.pt 100000051 [] 0]), (5, .rf 22000 []), (9, .c (.sl true 3 (itms l))), (10, .c (.sc (.int .i64 (l.length : Int)))), (11, .c (.sc (.int .i64 (i : Int))))])
    (fun i => [(22000, .sv (.sl false 1 (strs (namL p (l.take i))))), (100000051, .bx C)]) (fun i => l.length - i) 0 (Nat.zero_le _) [(8000, 22000)] (by simp) ⟨by simp, by simp [namL], by simp⟩ ?_
  intro i hi
  rcases Nat.lt_or_ge i l.length with hl | hl
  · have e1 : wrap64 ((i : Int) + 1) = ((i + 1 : Nat) : Int) := by rw [w64 (by omega) (by omega)]; omega
    have cs := cf.out l[i] (List.getElem_mem hl)
    have hln := namL_len p (l.take i)
    have hln2 : (namL p (l.take i)).length ≤ 40 := by rw [List.length_take] at hln; ((try (clear e0)); (try (clear e1)); (try (clear e2)); (try (clear e3)); (try (clear e4)); (try (clear e5)); (try (clear e6)); (try (clear e7)); (try (clear e8)); (try (clear e9)); (try (clear e10)); (try (clear e11)); omega)
    have b1 : ((namL p (l.take i)).length + 1) * 16 ≤ 140737488355328 := by ((try (clear e0)); (try (clear e1)); (try (clear e2)); (try (clear e3)); (try (clear e4)); (try (clear e5)); (try (clear e6)); (try (clear e7)); (try (clear e8)); (try (clear e9)); (try (clear e10)); (try (clear e11)); omega)
    have b2 : (namL p (l.take i)).length + 1 ≤ 4611686018427387904 := by ((try (clear e0)); (try (clear e1)); (try (clear e2)); (try (clear e3)); (try (clear e4)); (try (clear e5)); (try (clear e6)); (try (clear e7)); (try (clear e8)); (try (clear e9)); (try (clear e10)); (try (clear e11)); omega)
    have hy : Hd (p l[i] = true → namL p (l.take (i + 1)) = namL p (l.take i) ++ [l[i].nm]) := namL_yes hl
    have hno : Hd (p l[i] = false → namL p (l.take (i + 1)) = namL p (l.take i)) := namL_no hl
    generalize hsn : namL p (l.take (i + 1)) = sn at *
    have hsn' : Hd _ := hsn
    clear hsn
    generalize hso : namL p (l.take i) = so at *
    have hso' : Hd _ := hso
    clear hso hln
    repeat' (first | with_reducible refine OutOK.done ?_ | refine thenQ_n ?_ | refine thenQ_r ?_ | refine thenQ_e ?_ | refine AW.seq ?_ | refine AW.reg tok (by simp [*]; rfl) ?_ | refine AW.ifB (by simp [*]; rfl) ?_ | refine IfG.t ?_ | refine IfG.f ?_ | (refine IfG.p (fun hg => ?_) (fun hg => ?_) <;> (try (have hg' := hg; simp at hg'))) | (refine IfG.n (fun hg => ?_) (fun hg => ?_) <;> (try (have hg' := hg; simp at hg'))) | (refine OutOK.gateP (fun hg => ?_) (fun hg => ?_) <;> (try (have hg' := hg; simp at hg'))) | (refine OutOK.gateN (fun hg => ?_) (fun hg => ?_) <;> (try (have hg' := hg; simp at hg'))) | (refine IfG.g (fun hg => ?_) (fun hg => ?_) <;> (try (have hg' := hg; simp at hg'))) | (refine OutOK.gate (fun hg => ?_) (fun hg => ?_) <;> (try (have hg' := hg; simp at hg'))) | (refine OutOK.callF [] (by simp [*]; rfl) (by simp [*]; rfl) (by simp [*]; rfl) hbf (by apply cs <;> first | assumption | exact Hd.out (by assumption) | ((try (clear e0)); (try (clear e1)); (try (clear e2)); (try (clear e3)); (try (clear e4)); (try (clear e5)); (try (clear e6)); (try (clear e7)); (try (clear e8)); (try (clear e9)); (try (clear e10)); (try (clear e11)); omega)) ⟨by simp [*], by simp [*], by simp [*], by simp [*], by simp [*]⟩ (by simp [*]) (by simp [*]; rfl) ?_) | refine OutOK.run (by simp [*]; rfl) ?_ | refine AW.ret ?_ | refine AW.skip ?_ | refine AW.exit ?_ | refine fin_r ?_ | refine fin_n ?_ | refine AW.block ?_ | refine blockQ_n ?_ | refine blockQ_r ?_ | refine blockQ_e ?_ | refine blockQ_o rfl ?_)
    · exact ⟨i + 1, hl, ⟨[], by simp, by simp, by simp [hsn'.out, hy.out (by assumption), hso'.out], by simp⟩, by ((try (clear e0)); (try (clear e1)); (try (clear e2)); (try (clear e3)); (try (clear e4)); (try (clear e5)); (try (clear e6)); (try (clear e7)); (try (clear e8)); (try (clear e9)); (try (clear e10)); (try (clear e11)); omega)⟩
    · exact ⟨i + 1, hl, ⟨[], by simp, by simp, by simp [hsn'.out, hno.out (by assumption), hso'.out], by simp⟩, by ((try (clear e0)); (try (clear e1)); (try (clear e2)); (try (clear e3)); (try (clear e4)); (try (clear e5)); (try (clear e6)); (try (clear e7)); (try (clear e8)); (try (clear e9)); (try (clear e10)); (try (clear e11)); omega)⟩
  · have hii : i = l.length := by omega
    subst hii
    repeat' (first | with_reducible refine OutOK.done ?_ | refine thenQ_n ?_ | refine thenQ_r ?_ | refine thenQ_e ?_ | refine AW.seq ?_ | refine AW.reg tok (by simp [*]; rfl) ?_ | refine AW.ifB (by simp [*]; rfl) ?_ | refine IfG.t ?_ | refine IfG.f ?_ | (refine IfG.p (fun hg => ?_) (fun hg => ?_) <;> (try (have hg' := hg; simp at hg'))) | (refine IfG.n (fun hg => ?_) (fun hg => ?_) <;> (try (have hg' := hg; simp at hg'))) | (refine OutOK.gateP (fun hg => ?_) (fun hg => ?_) <;> (try (have hg' := hg; simp at hg'))) | (refine OutOK.gateN (fun hg => ?_) (fun hg => ?_) <;> (try (have hg' := hg; simp at hg'))) | (refine IfG.g (fun hg => ?_) (fun hg => ?_) <;> (try (have hg' := hg; simp at hg'))) | (refine OutOK.gate (fun hg => ?_) (fun hg => ?_) <;> (try (have hg' := hg; simp at hg'))) | refine OutOK.run (by simp [*]; rfl) ?_ | refine AW.ret ?_ | refine AW.skip ?_ | refine AW.exit ?_ | refine fin_r ?_ | refine fin_n ?_ | refine AW.block ?_ | refine blockQ_n ?_ | refine blockQ_r ?_ | refine blockQ_e ?_ | refine blockQ_o rfl ?_)
    simp [Try.f97]
end Go.Proofs.Ytodombkmnnggeaa.EngS


set_option linter.unusedSimpArgs false
set_option linter.unusedVariables false
set_option maxHeartbeats 4000000
set_option maxRecDepth 100000
namespace Go.Proofs.Ytodombkmnnggeaa.EngS
open Go Go.Proofs Go.Eng Go.RowKit
def ItOK (its : List Itm) : Prop := (∀ x ∈ its, nameOK x.nm = true ∧ textOK x.tx = true) ∧ its.Pairwise (fun a b => a.nm.toList ≠ b.nm.toList)
def cost : List Itm → Nat
  | [] => 0
  | x :: r => (if x.vd = true then 2 else 1) + cost r
theorem cost_app : ∀ a b, cost (a ++ b) = cost a + cost b
  | [], b => by simp [cost]
  | x :: r, b => by simp only [List.cons_append, cost]; rw [cost_app r b]; omega
theorem cost_set {its : List Itm} {k : Nat} (h : k < its.length) (x : Itm) : cost (its.set k x) + (if its[k].vd = true then 2 else 1) = cost its + (if x.vd = true then 2 else 1) := by
  induction its generalizing k with
  | nil => simp at h
  | cons y r ih =>
    cases k with
    | zero => simp only [List.set_cons_zero, cost, List.getElem_cons_zero]; omega
    | succ k =>
      have := ih (k := k) (by simpa using h)
      simp only [List.set_cons_succ, cost, List.getElem_cons_succ]; omega
theorem fnd_neg {its : List Itm} {nm : ByteArray} (h : fnd its nm < 0) : ∀ x ∈ its, x.nm.toList ≠ nm.toList := by
  intro x hx e
  unfold fnd idx at h
  cases hf : its.findIdx? (fun x => decide (x.nm.toList = nm.toList)) with
  | none =>
    rw [List.findIdx?_eq_none_iff] at hf
    have := hf x hx
    simp [e] at this
  | some k => rw [hf] at h; simp at h; omega
theorem ItOK_set {its : List Itm} {k : Nat} (h : ItOK its) (hk : k < its.length) (tx : ByteArray) (v : Bool) (ht : textOK tx = true) : ItOK (its.set k ⟨its[k].nm, tx, v⟩) := by
  refine ⟨fun x hx => ?_, ?_⟩
  · rcases List.mem_or_eq_of_mem_set hx with hx | hx
    · exact h.1 x hx
    · subst hx; exact ⟨(h.1 _ (List.getElem_mem hk)).1, ht⟩
  · rw [List.pairwise_iff_getElem]
    intro i j hi hj hij
    have h0 := List.pairwise_iff_getElem.1 h.2 i j (by simpa using hi) (by simpa using hj) hij
    rw [List.getElem_set, List.getElem_set]
    split <;> split
    · omega
    · rename_i e1 e2; subst e1; exact h0
    · rename_i e1 e2; subst e2; exact h0
    · exact h0
theorem playE_ok {its m : List Itm} {e : Ent} (h : ItOK its) (hp : playE its e = some m) : ItOK m ∧ cost m ≤ cost its + 1 ∧ ∀ x ∈ m, (∃ y ∈ its, y.nm = x.nm) ∨ e.itm = x.nm := by
  by_cases hnt : nameOK e.itm = true ∧ textOK e.txt = true
  · rcases idx_cases (fun x : Itm => decide (x.nm.toList = e.itm.toList)) its with hf | ⟨k, hf, hk⟩
    · rw [play_new hnt hf] at hp
      split at hp
      · cases hp
        refine ⟨⟨fun x hx => ?_, ?_⟩, by rw [cost_app]; simp [cost], fun x hx => ?_⟩
        · rw [List.mem_append] at hx
          rcases hx with hx | hx
          · exact h.1 x hx
          · simp at hx; subst hx; exact hnt
        · rw [List.pairwise_append]
          refine ⟨h.2, by simp, fun a ha b hb => ?_⟩
          simp at hb; subst hb
          exact fnd_neg hf a ha
        · rw [List.mem_append] at hx
          rcases hx with hx | hx
          · exact .inl ⟨x, hx, rfl⟩
          · simp at hx; subst hx; exact .inr rfl
      · cases hp
    · have hx0 := h.1 _ (List.getElem_mem hk)
      have key : ∀ tx v, textOK tx = true → (v = true → its[k].vd = true ∨ True) → ItOK (its.set k ⟨its[k].nm, tx, v⟩) ∧ cost (its.set k ⟨its[k].nm, tx, v⟩) ≤ cost its + 1 ∧ ∀ x ∈ its.set k ⟨its[k].nm, tx, v⟩, (∃ y ∈ its, y.nm = x.nm) ∨ e.itm = x.nm := by
        intro tx v ht _
        refine ⟨ItOK_set h hk tx v ht, ?_, fun x hx => ?_⟩
        · have := cost_set hk (⟨its[k].nm, tx, v⟩ : Itm)
          simp only at this
          split at this <;> split at this <;> omega
        · rcases List.mem_or_eq_of_mem_set hx with hx | hx
          · exact .inl ⟨x, hx, rfl⟩
          · subst hx; exact .inl ⟨_, List.getElem_mem hk, rfl⟩
      rw [play_at hnt hf hk] at hp
      split at hp
      · cases hp; exact key _ _ hnt.2 (fun _ => .inr trivial)
      · split at hp
        · cases hp; exact key _ _ hx0.2 (fun _ => .inr trivial)
        · split at hp
          · cases hp; exact key _ _ hx0.2 (fun _ => .inr trivial)
          · cases hp
  · rw [play_not hnt] at hp; cases hp
theorem playL_ok : ∀ {l : List Ent} {its m : List Itm}, ItOK its → playL its l = some m → ItOK m ∧ cost m ≤ cost its + l.length ∧ ∀ x ∈ m, (∃ y ∈ its, y.nm = x.nm) ∨ ∃ e ∈ l, e.itm = x.nm
  | [], its, m, h, hp => by
    rw [playL] at hp; cases hp
    exact ⟨h, by simp, fun x hx => .inl ⟨x, hx, rfl⟩⟩
  | e :: es, its, m, h, hp => by
    rw [playL] at hp
    cases hq : playE its e with
    | none => rw [hq] at hp; cases hp
    | some m1 =>
      rw [hq] at hp
      obtain ⟨a1, a2, a3⟩ := playE_ok h hq
      obtain ⟨b1, b2, b3⟩ := playL_ok a1 hp
      refine ⟨b1, by simp only [List.length_cons]; omega, fun x hx => ?_⟩
      rcases b3 x hx with ⟨y, hy, e1⟩ | ⟨e', he, e1⟩
      · rcases a3 y hy with ⟨z, hz, e2⟩ | e2
        · exact .inl ⟨z, hz, e2.trans e1⟩
        · exact .inr ⟨e, by simp, e2.trans e1⟩
      · exact .inr ⟨e', by simp [he], e1⟩
end Go.Proofs.Ytodombkmnnggeaa.EngS


namespace Go.Proofs
open Go.Shelf
def Try.laysM144_ren : Go.Shelf.Ren := ⟨fun | 144 => 103 | 143 => 120 | 219 => 123 | 217 => 124 | 225 => 125 | 224 => 126 | 267 => 127 | 266 => 128 | 314 => 129 | n => n, fun | 9 => 9 | 4 => 4 | 3 => 3 | 5 => 5 | 46 => 140 | 146 => 144 | 51 => 143 | n => n, fun | 1 => 0 | n => n⟩
theorem Try.laysM144 : Go.Proofs.LaysM.n144 Try.prog Try.laysM144_ren := {
  mixed := by kernel_rfl
  f143 := Try.func120.trans (congrArg some (by kernel_rfl))
  f144 := Try.func103.trans (congrArg some (by kernel_rfl))
  f217 := Try.func124.trans (congrArg some (by kernel_rfl))
  f219 := Try.func123.trans (congrArg some (by kernel_rfl))
  f224 := Try.func126.trans (congrArg some (by kernel_rfl))
  f225 := Try.func125.trans (congrArg some (by kernel_rfl))
  f266 := Try.func128.trans (congrArg some (by kernel_rfl))
  f267 := Try.func127.trans (congrArg some (by kernel_rfl))
  f314 := Try.func129.trans (congrArg some (by kernel_rfl))
  t3 := Try.underlying3
  a3 := Try.isAgg3
  z3 := Try.sizeOf3
  v3 := Try.zeroValue3
  t4 := Try.underlying4
  a4 := Try.isAgg4
  z4 := Try.sizeOf4
  v4 := Try.zeroValue4
  t5 := Try.underlying5
  a5 := Try.isAgg5
  z5 := Try.sizeOf5
  v5 := Try.zeroValue5
  t9 := Try.underlying9
  a9 := Try.isAgg9
  z9 := Try.sizeOf9
  v9 := Try.zeroValue9
  t46 := Try.underlying140
  a46 := Try.isAgg140
  z46 := Try.sizeOf140
  v46 := Try.zeroValue140
  t51 := Try.underlying143
  a51 := Try.isAgg143
  z51 := Try.sizeOf143
  v51 := Try.zeroValue143
  t146 := Try.underlying144
  a146 := Try.isAgg144
  z146 := Try.sizeOf144
  v146 := Try.zeroValue144
  g1 := by kernel_rfl
  i3 := by kernel_rfl
  i4 := by kernel_rfl
  i5 := by kernel_rfl
  i9 := by kernel_rfl
  i46 := by kernel_rfl
  i51 := by kernel_rfl
  i146 := by kernel_rfl
  m1 := by kernel_rfl
  s1_3 := fun w h => Go.Proofs.cell_of_shapedOpen_int (zero := #[.int .i64 0]) (t := 3) h (of_decide_eq_true (by kernel_rfl)) (by kernel_rfl) rfl (by kernel_rfl) (by kernel_rfl) Try.underlying3 }
end Go.Proofs

set_option linter.unusedSimpArgs false
set_option linter.unusedVariables false
namespace Go.Eng
open Go.RowKit
variable {P : Program} {T : Nat → Option TI} {N : Nat}
structure Hold (p : Prop) : Prop where
  out : p
end Go.Eng

set_option linter.unusedSimpArgs false
set_option linter.unusedVariables false
namespace Go.Eng
open Go.RowKit
variable {P : Program} {T : Nat → Option TI} {N : Nat}
def ownR (st : St) (t m : Nat) : Option St :=
  match st.env t with
  | .rn n [] (.sub 0 hi k) => match st.σ n with
    | some (.sv (.sl false k' es)) => if k' = k ∧ m < 100000000 ∧ st.σ m = none then some (((st.move [n]).new m (.sv (.sl false k (es.take hi)))).put (some t) (.rf m [])) else none
    | _ => none
  | _ => none
theorem Rel.ownR {fr a w} (hf : FrOK P N fr) {st st2 : St} {t m : Nat} (h2 : Go.Eng.ownR st t m = some st2) (h : Rel fr st a w) : Rel fr st2 a w := by
  obtain ⟨S, rv, hR⟩ := h
  unfold Go.Eng.ownR at h2
  split at h2
  · rename_i n hi k he
    split at h2
    · rename_i k' es hσ
      split at h2
      · rename_i hk
        cases h2
        obtain ⟨rfl, hn, hm0⟩ := hk
        have hv := hR.env t
        rw [he, VR_rn] at hv
        obtain ⟨u, hu, A, mm, cap, rfl, hmc, _, him, hv⟩ := hv
        rw [VR_rf] at hu
        obtain ⟨r, hr, hat, _⟩ := hu
        rw [hσ] at hr
        cases hr
        simp only [rAt, Option.some.injEq] at hat
        obtain ⟨_, hrv⟩ := hR.rr n _ hσ
        rw [hat, RV_ow] at hrv
        have hnew : RR w fr.X (.sv (.sl false k' (es.take hi))) (a.tmps.getD t undef) (S n) := by
          refine ⟨rfl, ?_⟩
          rw [RV_ow, hv]
          rcases hrv with ⟨h1, h2⟩ | ⟨b, cap', cur, ty, h1, h2, h3, h4, h5, h6⟩
          · cases h1
            left
            have : hi = 0 := by omega
            subst this
            simp
          · cases h1
            right
            have hl : (es.take hi).length = hi := by simp; omega
            refine ⟨b, cap, cur, ty, ?_, by omega, h3, h4, h5, RE_take hi es b 0 _ h6⟩
            rw [hl]
            by_cases hc : cap = 0
            · simp [hc]
            · simp [hc, Addr.add]
        obtain ⟨S', rv', hR', hrv'⟩ := Rel0.consume hf hR (w' := w) (d := m) (ms := [n]) rfl TD.refl rfl (Nat.le_refl _) (fun _ _ _ => rfl) (.inl hm0) (fun q hq => by simp at hq; subst hq; exact ⟨_, hσ⟩) hnew (fun b hb => .inr ⟨n, by simp, hb⟩)
          (by cases e : fr.rv0 m with
              | none => rfl
              | some v => have := hf.names m v e; omega)
        refine ⟨S', rv', { hR' with env := fun t' => ?_ }⟩
        simp only [St.put]
        by_cases ht : t' = t
        · subst ht
          rw [if_pos rfl, VR_rf]
          exact ⟨.sv (.sl false k' (es.take hi)), by simp [St.new], by simp [rAt, hrv'], false, k', es.take hi, rfl⟩
        · rw [if_neg ht]; exact hR'.env t'
      · cases h2
    · cases h2
  · cases h2
theorem AW.ownR {c : Code} {st st2 : St} {Q : Exit → St → Prop} (t m : Nat) (h : Go.Eng.ownR st t m = some st2) (hc : AW P N c st2 Q) : AW P N c st Q := fun fr a w hf hr => hc fr a w hf (Rel.ownR hf h hr)
attribute [simp] ownR
def clrL (T : Nat → Option TI) (e : List (Nat × V)) (r : List (Nat × Root)) (t : Nat) : V → Option St
  | .rn n [] (.sub lo hi k) => match lookR r n with
    | some (.sv (.sl false k' es)) => (T t).bind fun i => match i.kd with
      | .sl e' kk _ => (T e').bind fun ie => if k' = k ∧ kk = k ∧ hi = es.length ∧ lo ≤ hi ∧ (ie.agg = false → k = 1) ∧ 0 < k then
          some (mk (e.map fun q => (q.1, q.2.ren (killIn n) (killIn n))) (ins n (.sv (.sl false k (es.take lo ++ List.replicate (hi - lo) (xxEl ie.agg k)))) r)) else none
      | _ => none
    | _ => none
  | _ => none
theorem mk_clr (e : List (Nat × V)) (r : List (Nat × Root)) (n : Nat) (x : Root) : ({ env := fun t => ((mk e r).env t).ren (killIn n) (killIn n), σ := fun m => if m = n then some x else (mk e r).σ m } : St) = mk (e.map fun q => (q.1, q.2.ren (killIn n) (killIn n))) (ins n x r) := by
  simp only [mk]
  congr
  · funext t; rw [look_map _ rfl]
  · funext t; rw [lookR_ins]
@[simp] theorem clrSt_mk (T : Nat → Option TI) (e r t x) : clrSt T (mk e r) t x = clrL T e r t x := by
  cases x with
  | rn n p s =>
    cases p with
    | cons i p => rfl
    | nil =>
      cases s with
      | known v => rfl
      | sub lo hi k =>
        simp only [clrSt, clrL, mk_clr]
        rfl
  | _ => rfl
attribute [simp] clrL killIn
end Go.Eng

set_option linter.all false
namespace Go.Eng
open Go Go.Proofs Go.Shelf Go.RowKit
variable {P : Program} {ρ : Ren}
theorem GW.cell {P : Program} {w : World} {Z : Nat → Prop} (h : GW P w Z) {a : Nat} (hf : ∀ w : World, w.ShapedOpen P → ∃ m : Int, w.cell? ⟨a, 0, none⟩ = some (.int .i64 m)) : ∃ m : Int, w.cell? ⟨a, 0, none⟩ = some (.int .i64 m) := by
  obtain ⟨W0, h0, h1⟩ := h
  obtain ⟨m, hm⟩ := hf W0 h0
  refine ⟨m, ?_⟩
  by_cases hb : a < W0.heap.size
  · have := (h1 a hb).2
    simp only [World.cell?] at hm ⊢
    rw [this]; exact hm
  · simp only [World.cell?] at hm
    rw [Array.getElem?_eq_none (by omega)] at hm
    simp at hm
theorem acall_contains (L : LaysM.n144 P ρ) (s sub : ByteArray) (hs : s.size < 4294967281) :
    ACall P (ρ.f 144) [.v (.sc (.string s)), .v (.sc (.string sub))] [.x, .x] [.v (.sc (.bool (Lib.contains s.data.toList sub.data.toList)))] := by
  intro w Z S vals hg hd hlt hsz
  obtain ⟨v1, vs, S1, S2, rfl, -, h1, v2, vs2, S3, S4, rfl, -, h2, rfl⟩ := hd
  simp only [DR, RV_sc] at h1 h2
  obtain rfl := h1
  obtain rfl := h2
  obtain ⟨m, hm⟩ := hg.cell (fun w h => L.s1_3 w h)
  refine (Any.strings_Contains { L with } s sub m w hs hm).mono ?_
  rintro e w' ⟨rfl, rfl⟩
  refine ⟨[_], fun _ => False, fun _ => False, rfl, rfl, TD.refl, rfl, Nat.le_refl _, fun _ _ _ => rfl, fun b h => by simp at h, fun _ h => h.elim, ?_, ?_⟩
  · exact ⟨_, _, fun _ => False, fun _ => False, rfl, ⟨fun _ h => h, fun _ h => h, fun _ h => h.elim⟩, trivial, _, _, fun _ => False, fun _ => False, rfl, ⟨fun _ h => h, fun _ h => h, fun _ h => h.elim⟩, trivial, rfl⟩
  · exact ⟨_, _, fun _ => False, fun _ => False, rfl, ⟨fun _ h => h, fun _ h => h, fun _ h => h.elim⟩, by simp only [DR, RV_sc], rfl⟩
end Go.Eng

set_option linter.unusedSimpArgs false
set_option linter.unusedVariables false
set_option maxHeartbeats 4000000
set_option maxRecDepth 100000
namespace Go.Proofs.Ytodombkmnnggeaa.EngS
open Go Go.Proofs Go.Eng Go.RowKit
def cont (s w : ByteArray) : Bool := Lib.contains s.data.toList w.data.toList
theorem c_strings_Contains (s w : ByteArray) (h : s.size < 4294967281) : ACall Try.prog 103 [.v (.sc (.string s)), .v (.sc (.string w))] [.x, .x] [boo (cont s w)] :=
  acall_contains Try.laysM144 s w h
def occB (s w : ByteArray) (k : Nat) : Bool := (List.range k).any fun j => Lib.occAt s.data.toList w.data.toList j
theorem occB_succ (s w : ByteArray) (k : Nat) (h : k + w.size ≤ s.size) : occB s w (k + 1) = (occB s w k || decide ((s.extract k (k + w.size)).toList = w.toList)) := by
  have h2 := Lib.occ_of_piece s w k h
  simp only [occB, List.range_succ, List.any_append, List.any_cons, List.any_nil, Bool.or_false]
  rw [h2]
  congr 1
  by_cases e : (s.extract k (k + w.size)).toList = w.toList <;> simp [e]
theorem first_of {p : Nat → Bool} (n : Nat) : p n = true → ∃ i, p i = true ∧ ∀ j, j < i → p j = false := by
  induction n using Nat.strongRecOn with
  | ind n ih =>
    intro h
    by_cases hx : ∃ m, m < n ∧ p m = true
    · obtain ⟨m, h1, h2⟩ := hx
      exact ih m h1 h2
    · refine ⟨n, h, fun j hj => ?_⟩
      cases hp : p j with
      | false => rfl
      | true => exact (hx ⟨j, hj, hp⟩).elim
theorem occB_end (s w : ByteArray) (k : Nat) (hw : 0 < w.size) (hk : s.size < k + w.size) (hks : k ≤ s.size + 1) : occB s w k = cont s w := by
  have hwl : w.data.toList.length = w.size := by rw [Array.length_toList]; rfl
  have hsl : s.data.toList.length = s.size := by rw [Array.length_toList]; rfl
  have hne : w.data.toList ≠ [] := by intro e; rw [e] at hwl; simp at hwl; omega
  rw [Bool.eq_iff_iff]
  simp only [occB, List.any_eq_true, List.mem_range, cont, Lib.contains, decide_eq_true_eq]
  constructor
  · rintro ⟨j, hj, ho⟩
    have hroom := Lib.occAt_room ho
    rcases hroom with h1 | h1
    · refine Classical.byContradiction fun hc => ?_
      have hm : Lib.index s.data.toList w.data.toList = -1 := by have := Lib.index_ge s.data.toList w.data.toList; omega
      obtain ⟨i, hi⟩ := first_of j ho
      have hil : i ≤ s.data.toList.length := by
        rcases Lib.occAt_room hi.1 with h | h
        · omega
        · exact (hne h).elim
      have := Lib.index_first hil hi.1 hi.2
      omega
    · exact (hne h1).elim
  · intro h0
    refine Classical.byContradiction fun hc => ?_
    have hno : ∀ j, j ≤ s.data.toList.length → Lib.occAt s.data.toList w.data.toList j = false := by
      intro j _
      cases ho : Lib.occAt s.data.toList w.data.toList j with
      | false => rfl
      | true =>
        refine (hc ⟨j, ?_, ho⟩).elim
        rcases Lib.occAt_room ho with h | h
        · omega
        · exact (hne h).elim
    rw [Lib.index_none hno] at h0
    omega
theorem txt_len {s : ByteArray} (h : textOK s = true) : s.size ≤ 40 := by
  simp only [textOK, Bool.and_eq_true, decide_eq_true_eq] at h
  exact h.1
theorem regI_txt (l : List Ent) : ∀ x ∈ regI l, x.tx.size ≤ 40 := by
  intro x hx
  unfold regI at hx
  split at hx
  · rename_i h
    simp only [regOK, Bool.and_eq_true, Option.isSome_iff_exists] at h
    obtain ⟨-, m, hm⟩ := h
    rw [hm] at hx
    exact txt_len (((playL_ok (its := []) ⟨by simp, .nil⟩ hm).1.1 x hx).2)
  · cases hx
def srP (w : ByteArray) (x : Itm) : Bool := !x.vd && cont x.tx w
def srB (l : List Ent) (w : ByteArray) : Bool := regOK l && inR 1 40 w.size
def srL (l : List Ent) (w : ByteArray) : List ByteArray := if srB l w = true then namL (srP w) (regI l) else []
theorem srL_len (l : List Ent) (w : ByteArray) : (srL l w).length ≤ 40 := by
  unfold srL
  split
  · exact Nat.le_trans (namL_len _ _) (regI_len l)
  · simp
theorem c_impl_SearchItems_1 (x : Itm) (w : ByteArray) (h : x.tx.size ≤ 40) : ACall Try.prog 102 [itmD x, .p [.sc (.string w)]] [.x, .p [.sc (.string w)]] [boo (srP w x)] := by
  have cc := c_strings_Contains x.tx w (by omega)
  obtain ⟨nm, tx, vd⟩ := x
  simp only [srP] at *
  generalize cont tx w = B at *
  cases vd
  · refine ACall.of (N := 13) tok Try.func102 rfl rfl rfl (by simp) ?_
    repeat' (first | with_reducible refine OutOK.done ?_ | refine thenQ_n ?_ | refine thenQ_r ?_ | refine thenQ_e ?_ | refine AW.seq ?_ | refine AW.reg tok (by simp [*]; rfl) ?_ | refine AW.ifB (by simp [*]; rfl) ?_ | refine IfG.t ?_ | refine IfG.f ?_ | (refine IfG.p (fun hg => ?_) (fun hg => ?_) <;> (try (have hg' := hg; simp at hg'))) | (refine IfG.n (fun hg => ?_) (fun hg => ?_) <;> (try (have hg' := hg; simp at hg'))) | (refine OutOK.gateP (fun hg => ?_) (fun hg => ?_) <;> (try (have hg' := hg; simp at hg'))) | (refine OutOK.gateN (fun hg => ?_) (fun hg => ?_) <;> (try (have hg' := hg; simp at hg'))) | (refine IfG.g (fun hg => ?_) (fun hg => ?_) <;> (try (have hg' := hg; simp at hg'))) | (refine OutOK.gate (fun hg => ?_) (fun hg => ?_) <;> (try (have hg' := hg; simp at hg'))) | (refine OutOK.callF [] (by simp [*]; rfl) (by simp [*]; rfl) (by simp [*]; rfl) hb103 (by apply cc <;> first | assumption | exact Hd.out (by assumption) | ((try (clear e0)); (try (clear e1)); (try (clear e2)); (try (clear e3)); (try (clear e4)); (try (clear e5)); (try (clear e6)); (try (clear e7)); (try (clear e8)); (try (clear e9)); (try (clear e10)); (try (clear e11)); omega)) ⟨by simp [*], by simp [*], by simp [*], by simp [*], by simp [*]⟩ (by simp [*]) (by simp [*]; rfl) ?_) | refine OutOK.run (by simp [*]; rfl) ?_ | refine AW.ret ?_ | refine AW.skip ?_ | refine AW.exit ?_ | refine fin_r ?_ | refine fin_n ?_ | refine AW.block ?_ | refine blockQ_n ?_ | refine blockQ_r ?_ | refine blockQ_e ?_ | refine blockQ_o rfl ?_)
    all_goals (try simp [*, Try.f102])
  · refine ACall.of (N := 13) tok Try.func102 rfl rfl rfl (by simp) ?_
    repeat' (first | with_reducible refine OutOK.done ?_ | refine thenQ_n ?_ | refine thenQ_r ?_ | refine thenQ_e ?_ | refine AW.seq ?_ | refine AW.reg tok (by simp [*]; rfl) ?_ | refine AW.ifB (by simp [*]; rfl) ?_ | refine IfG.t ?_ | refine IfG.f ?_ | (refine IfG.p (fun hg => ?_) (fun hg => ?_) <;> (try (have hg' := hg; simp at hg'))) | (refine IfG.n (fun hg => ?_) (fun hg => ?_) <;> (try (have hg' := hg; simp at hg'))) | (refine OutOK.gateP (fun hg => ?_) (fun hg => ?_) <;> (try (have hg' := hg; simp at hg'))) | (refine OutOK.gateN (fun hg => ?_) (fun hg => ?_) <;> (try (have hg' := hg; simp at hg'))) | (refine IfG.g (fun hg => ?_) (fun hg => ?_) <;> (try (have hg' := hg; simp at hg'))) | (refine OutOK.gate (fun hg => ?_) (fun hg => ?_) <;> (try (have hg' := hg; simp at hg'))) | (refine OutOK.callF [] (by simp [*]; rfl) (by simp [*]; rfl) (by simp [*]; rfl) hb103 (by apply cc <;> first | assumption | exact Hd.out (by assumption) | ((try (clear e0)); (try (clear e1)); (try (clear e2)); (try (clear e3)); (try (clear e4)); (try (clear e5)); (try (clear e6)); (try (clear e7)); (try (clear e8)); (try (clear e9)); (try (clear e10)); (try (clear e11)); omega)) ⟨by simp [*], by simp [*], by simp [*], by simp [*], by simp [*]⟩ (by simp [*]) (by simp [*]; rfl) ?_) | refine OutOK.run (by simp [*]; rfl) ?_ | refine AW.ret ?_ | refine AW.skip ?_ | refine AW.exit ?_ | refine fin_r ?_ | refine fin_n ?_ | refine AW.block ?_ | refine blockQ_n ?_ | refine blockQ_r ?_ | refine blockQ_e ?_ | refine blockQ_o rfl ?_)
    all_goals (try simp [*, Try.f102])
theorem c_impl_SearchItems (l : List Ent) (w : ByteArray) (h : l.length ≤ 9223372036854775807) (hw : ∀ e ∈ l, EntW e) (hws : w.size ≤ 9223372036854775807) : ACall Try.prog 65 [.v (.sl true 3 (ents l)), .v (.sc (.string w))] [.x, .x] [.v (.sl false 1 (strs (srL l w))), boo (srB l w)] := by
  have cr := c_impl_replayed l h hw
  have ci := c_impl_within w.size 1 40
  have hl := regI_len l
  have ht := regI_txt l
  have cn := c_impl_namesOf (regI l) 102 [.sc (.string w)] (srP w) hl (by simp) (fun x hx => c_impl_SearchItems_1 x w (ht x hx))
  clear hw ht
  cases hR : regOK l
  · have hb : srB l w = false := by simp [srB, hR]
    have hb2 : srL l w = [] := by simp [srL, hb]
    rw [hb, hb2]
    rw [hR] at cr
    clear hb hb2 hR cn
    generalize regI l = its at *
    generalize inR 1 40 w.size = Q at *
    refine ACall.of (N := 24) tok Try.func65 rfl rfl rfl (by simp) ?_
    repeat' (first | with_reducible refine OutOK.done ?_ | refine thenQ_n ?_ | refine thenQ_r ?_ | refine thenQ_e ?_ | refine AW.seq ?_ | refine AW.reg tok (by simp [*]; rfl) ?_ | refine AW.ifB (by simp [*]; rfl) ?_ | refine IfG.t ?_ | refine IfG.f ?_ | (refine IfG.p (fun hg => ?_) (fun hg => ?_) <;> (try (have hg' := hg; simp at hg'))) | (refine IfG.n (fun hg => ?_) (fun hg => ?_) <;> (try (have hg' := hg; simp at hg'))) | (refine OutOK.gateP (fun hg => ?_) (fun hg => ?_) <;> (try (have hg' := hg; simp at hg'))) | (refine OutOK.gateN (fun hg => ?_) (fun hg => ?_) <;> (try (have hg' := hg; simp at hg'))) | (refine IfG.g (fun hg => ?_) (fun hg => ?_) <;> (try (have hg' := hg; simp at hg'))) | (refine OutOK.gate (fun hg => ?_) (fun hg => ?_) <;> (try (have hg' := hg; simp at hg'))) | (refine OutOK.callF [] (by simp [*]; rfl) (by simp [*]; rfl) (by simp [*]; rfl) hb89 (by apply cr <;> first | assumption | exact Hd.out (by assumption) | ((try (clear e0)); (try (clear e1)); (try (clear e2)); (try (clear e3)); (try (clear e4)); (try (clear e5)); (try (clear e6)); (try (clear e7)); (try (clear e8)); (try (clear e9)); (try (clear e10)); (try (clear e11)); omega)) ⟨by simp [*], by simp [*], by simp [*], by simp [*], by simp [*]⟩ (by simp [*]) (by simp [*]; rfl) ?_) | (refine OutOK.callF [] (by simp [*]; rfl) (by simp [*]; rfl) (by simp [*]; rfl) hb76 (by apply ci <;> first | assumption | exact Hd.out (by assumption) | ((try (clear e0)); (try (clear e1)); (try (clear e2)); (try (clear e3)); (try (clear e4)); (try (clear e5)); (try (clear e6)); (try (clear e7)); (try (clear e8)); (try (clear e9)); (try (clear e10)); (try (clear e11)); omega)) ⟨by simp [*], by simp [*], by simp [*], by simp [*], by simp [*]⟩ (by simp [*]) (by simp [*]; rfl) ?_) | refine OutOK.run (by simp [*]; rfl) ?_ | refine AW.ret ?_ | refine AW.skip ?_ | refine AW.exit ?_ | refine fin_r ?_ | refine fin_n ?_ | refine AW.block ?_ | refine blockQ_n ?_ | refine blockQ_r ?_ | refine blockQ_e ?_ | refine blockQ_o rfl ?_)
    simp [Try.f65]
  cases hQ : inR 1 40 w.size
  · have hb : srB l w = false := by simp [srB, hQ]
    have hb2 : srL l w = [] := by simp [srL, hb]
    rw [hb, hb2]
    rw [hR] at cr
    rw [hQ] at ci
    clear hb hb2 hR hQ cn
    generalize regI l = its at *
    refine ACall.of (N := 24) tok Try.func65 rfl rfl rfl (by simp) ?_
    repeat' (first | with_reducible refine OutOK.done ?_ | refine thenQ_n ?_ | refine thenQ_r ?_ | refine thenQ_e ?_ | refine AW.seq ?_ | refine AW.reg tok (by simp [*]; rfl) ?_ | refine AW.ifB (by simp [*]; rfl) ?_ | refine IfG.t ?_ | refine IfG.f ?_ | (refine IfG.p (fun hg => ?_) (fun hg => ?_) <;> (try (have hg' := hg; simp at hg'))) | (refine IfG.n (fun hg => ?_) (fun hg => ?_) <;> (try (have hg' := hg; simp at hg'))) | (refine OutOK.gateP (fun hg => ?_) (fun hg => ?_) <;> (try (have hg' := hg; simp at hg'))) | (refine OutOK.gateN (fun hg => ?_) (fun hg => ?_) <;> (try (have hg' := hg; simp at hg'))) | (refine IfG.g (fun hg => ?_) (fun hg => ?_) <;> (try (have hg' := hg; simp at hg'))) | (refine OutOK.gate (fun hg => ?_) (fun hg => ?_) <;> (try (have hg' := hg; simp at hg'))) | (refine OutOK.callF [] (by simp [*]; rfl) (by simp [*]; rfl) (by simp [*]; rfl) hb89 (by apply cr <;> first | assumption | exact Hd.out (by assumption) | ((try (clear e0)); (try (clear e1)); (try (clear e2)); (try (clear e3)); (try (clear e4)); (try (clear e5)); (try (clear e6)); (try (clear e7)); (try (clear e8)); (try (clear e9)); (try (clear e10)); (try (clear e11)); omega)) ⟨by simp [*], by simp [*], by simp [*], by simp [*], by simp [*]⟩ (by simp [*]) (by simp [*]; rfl) ?_) | (refine OutOK.callF [] (by simp [*]; rfl) (by simp [*]; rfl) (by simp [*]; rfl) hb76 (by apply ci <;> first | assumption | exact Hd.out (by assumption) | ((try (clear e0)); (try (clear e1)); (try (clear e2)); (try (clear e3)); (try (clear e4)); (try (clear e5)); (try (clear e6)); (try (clear e7)); (try (clear e8)); (try (clear e9)); (try (clear e10)); (try (clear e11)); omega)) ⟨by simp [*], by simp [*], by simp [*], by simp [*], by simp [*]⟩ (by simp [*]) (by simp [*]; rfl) ?_) | refine OutOK.run (by simp [*]; rfl) ?_ | refine AW.ret ?_ | refine AW.skip ?_ | refine AW.exit ?_ | refine fin_r ?_ | refine fin_n ?_ | refine AW.block ?_ | refine blockQ_n ?_ | refine blockQ_r ?_ | refine blockQ_e ?_ | refine blockQ_o rfl ?_)
    simp [Try.f65]
  have hb : srB l w = true := by simp [srB, hR, hQ]
  have hb2 : srL l w = namL (srP w) (regI l) := by simp [srL, hb]
  rw [hb, hb2]
  rw [hR] at cr
  rw [hQ] at ci
  clear hb hb2 hR hQ
  generalize namL (srP w) (regI l) = nl at *
  generalize regI l = its at *
  refine ACall.of (N := 24) tok Try.func65 rfl rfl rfl (by simp) ?_
  repeat' (first | with_reducible refine OutOK.done ?_ | refine thenQ_n ?_ | refine thenQ_r ?_ | refine thenQ_e ?_ | refine AW.seq ?_ | refine AW.reg tok (by simp [*]; rfl) ?_ | refine AW.ifB (by simp [*]; rfl) ?_ | refine IfG.t ?_ | refine IfG.f ?_ | (refine IfG.p (fun hg => ?_) (fun hg => ?_) <;> (try (have hg' := hg; simp at hg'))) | (refine IfG.n (fun hg => ?_) (fun hg => ?_) <;> (try (have hg' := hg; simp at hg'))) | (refine OutOK.gateP (fun hg => ?_) (fun hg => ?_) <;> (try (have hg' := hg; simp at hg'))) | (refine OutOK.gateN (fun hg => ?_) (fun hg => ?_) <;> (try (have hg' := hg; simp at hg'))) | (refine IfG.g (fun hg => ?_) (fun hg => ?_) <;> (try (have hg' := hg; simp at hg'))) | (refine OutOK.gate (fun hg => ?_) (fun hg => ?_) <;> (try (have hg' := hg; simp at hg'))) | (refine OutOK.callF [] (by simp [*]; rfl) (by simp [*]; rfl) (by simp [*]; rfl) hb89 (by apply cr <;> first | assumption | exact Hd.out (by assumption) | ((try (clear e0)); (try (clear e1)); (try (clear e2)); (try (clear e3)); (try (clear e4)); (try (clear e5)); (try (clear e6)); (try (clear e7)); (try (clear e8)); (try (clear e9)); (try (clear e10)); (try (clear e11)); omega)) ⟨by simp [*], by simp [*], by simp [*], by simp [*], by simp [*]⟩ (by simp [*]) (by simp [*]; rfl) ?_) | (refine OutOK.callF [] (by simp [*]; rfl) (by simp [*]; rfl) (by simp [*]; rfl) hb76 (by apply ci <;> first | assumption | exact Hd.out (by assumption) | ((try (clear e0)); (try (clear e1)); (try (clear e2)); (try (clear e3)); (try (clear e4)); (try (clear e5)); (try (clear e6)); (try (clear e7)); (try (clear e8)); (try (clear e9)); (try (clear e10)); (try (clear e11)); omega)) ⟨by simp [*], by simp [*], by simp [*], by simp [*], by simp [*]⟩ (by simp [*]) (by simp [*]; rfl) ?_) | (refine OutOK.callF [] (by simp [*]; rfl) (by simp [*]; rfl) (by simp [*]; rfl) hb97 (by apply cn <;> first | assumption | exact Hd.out (by assumption) | ((try (clear e0)); (try (clear e1)); (try (clear e2)); (try (clear e3)); (try (clear e4)); (try (clear e5)); (try (clear e6)); (try (clear e7)); (try (clear e8)); (try (clear e9)); (try (clear e10)); (try (clear e11)); omega)) ⟨by simp [*], by simp [*], by simp [*], by simp [*], by simp [*]⟩ (by simp [*]) (by simp [*]; rfl) ?_) | refine OutOK.run (by simp [*]; rfl) ?_ | refine AW.ret ?_ | refine AW.skip ?_ | refine AW.exit ?_ | refine fin_r ?_ | refine fin_n ?_ | refine AW.block ?_ | refine blockQ_n ?_ | refine blockQ_r ?_ | refine blockQ_e ?_ | refine blockQ_o rfl ?_)
  simp [Try.f65]
end Go.Proofs.Ytodombkmnnggeaa.EngS


set_option linter.unusedSimpArgs false
set_option linter.unusedVariables false
set_option maxHeartbeats 4000000
set_option maxRecDepth 100000
namespace Go.Proofs.Ytodombkmnnggeaa.EngS
open Go Go.Proofs Go.Eng Go.RowKit
attribute [local simp] optO
@[local simp] theorem sliceV_s (k n : Nat) (s : ByteArray) (h1 : k ≤ n) (h2 : n ≤ s.size) : sliceV (k : Int) (some (n : Int)) (.c (.sc (.string s))) = some (.c (.sc (.string (s.extract k n)))) := by
  simp only [sliceV, Option.getD_some]
  rw [if_pos ⟨by omega, by omega, by omega⟩]
  rfl
theorem c_spec_SearchItems (l : List Ent) (w : ByteArray) (h : l.length ≤ 9223372036854775807) (hw : ∀ e ∈ l, EntW e) (hws : w.size ≤ 9223372036854775807) : ACall Try.prog 64 [.v (.sl true 3 (ents l)), .v (.sc (.string w))] [.x, .x] [.v (.sl false 1 (strs (srL l w))), boo (srB l w)] := by
  refine ACallX.one ?_
  have cr := c_spec_l21Good l h hw
  have ci := c_spec_l1In w.size 1 40
  cases hR : regOK l
  · have hb : srB l w = false := by simp [srB, hR]
    have hb2 : srL l w = [] := by simp [srL, hb]
    rw [hb, hb2]
    rw [hR] at cr
    clear hb hb2 hR
    generalize inR 1 40 w.size = Q at *
    refine ACallX.of (N := 81) tok Try.func64 rfl rfl rfl (by simp) ?_
    repeat' (first | with_reducible refine OutOK.done ?_ | refine thenQ_n ?_ | refine thenQ_r ?_ | refine thenQ_e ?_ | refine AW.seq ?_ | refine AW.reg tok (by simp [*]; rfl) ?_ | refine AW.ifB (by simp [*]; rfl) ?_ | refine IfG.t ?_ | refine IfG.f ?_ | (refine IfG.p (fun hg => ?_) (fun hg => ?_) <;> (try (have hg' := hg; simp at hg'))) | (refine IfG.n (fun hg => ?_) (fun hg => ?_) <;> (try (have hg' := hg; simp at hg'))) | (refine OutOK.gateP (fun hg => ?_) (fun hg => ?_) <;> (try (have hg' := hg; simp at hg'))) | (refine OutOK.gateN (fun hg => ?_) (fun hg => ?_) <;> (try (have hg' := hg; simp at hg'))) | (refine IfG.g (fun hg => ?_) (fun hg => ?_) <;> (try (have hg' := hg; simp at hg'))) | (refine OutOK.gate (fun hg => ?_) (fun hg => ?_) <;> (try (have hg' := hg; simp at hg'))) | (refine OutOK.callF [] (by simp [*]; rfl) (by simp [*]; rfl) (by simp [*]; rfl) hb88 (by apply cr <;> first | assumption | exact Hd.out (by assumption) | ((try (clear e0)); (try (clear e1)); (try (clear e2)); (try (clear e3)); (try (clear e4)); (try (clear e5)); (try (clear e6)); (try (clear e7)); (try (clear e8)); (try (clear e9)); (try (clear e10)); (try (clear e11)); omega)) ⟨by simp [*], by simp [*], by simp [*], by simp [*], by simp [*]⟩ (by simp [*]) (by simp [*]; rfl) ?_) | (refine OutOK.callF [] (by simp [*]; rfl) (by simp [*]; rfl) (by simp [*]; rfl) hb95 (by apply ci <;> first | assumption | exact Hd.out (by assumption) | ((try (clear e0)); (try (clear e1)); (try (clear e2)); (try (clear e3)); (try (clear e4)); (try (clear e5)); (try (clear e6)); (try (clear e7)); (try (clear e8)); (try (clear e9)); (try (clear e10)); (try (clear e11)); omega)) ⟨by simp [*], by simp [*], by simp [*], by simp [*], by simp [*]⟩ (by simp [*]) (by simp [*]; rfl) ?_) | refine OutOK.run (by simp [*]; rfl) ?_ | refine AW.ret ?_ | refine AW.skip ?_ | refine AW.exit ?_ | refine fin_r ?_ | refine fin_n ?_ | refine AW.block ?_ | refine blockQ_n ?_ | refine blockQ_r ?_ | refine blockQ_e ?_ | refine blockQ_o rfl ?_)
    exact ⟨(), trivial, by simp [Try.f64]⟩
  cases hQ : inR 1 40 w.size
  · have hb : srB l w = false := by simp [srB, hQ]
    have hb2 : srL l w = [] := by simp [srL, hb]
    rw [hb, hb2]
    rw [hR] at cr
    rw [hQ] at ci
    clear hb hb2 hR hQ
    refine ACallX.of (N := 81) tok Try.func64 rfl rfl rfl (by simp) ?_
    repeat' (first | with_reducible refine OutOK.done ?_ | refine thenQ_n ?_ | refine thenQ_r ?_ | refine thenQ_e ?_ | refine AW.seq ?_ | refine AW.reg tok (by simp [*]; rfl) ?_ | refine AW.ifB (by simp [*]; rfl) ?_ | refine IfG.t ?_ | refine IfG.f ?_ | (refine IfG.p (fun hg => ?_) (fun hg => ?_) <;> (try (have hg' := hg; simp at hg'))) | (refine IfG.n (fun hg => ?_) (fun hg => ?_) <;> (try (have hg' := hg; simp at hg'))) | (refine OutOK.gateP (fun hg => ?_) (fun hg => ?_) <;> (try (have hg' := hg; simp at hg'))) | (refine OutOK.gateN (fun hg => ?_) (fun hg => ?_) <;> (try (have hg' := hg; simp at hg'))) | (refine IfG.g (fun hg => ?_) (fun hg => ?_) <;> (try (have hg' := hg; simp at hg'))) | (refine OutOK.gate (fun hg => ?_) (fun hg => ?_) <;> (try (have hg' := hg; simp at hg'))) | (refine OutOK.callF [] (by simp [*]; rfl) (by simp [*]; rfl) (by simp [*]; rfl) hb88 (by apply cr <;> first | assumption | exact Hd.out (by assumption) | ((try (clear e0)); (try (clear e1)); (try (clear e2)); (try (clear e3)); (try (clear e4)); (try (clear e5)); (try (clear e6)); (try (clear e7)); (try (clear e8)); (try (clear e9)); (try (clear e10)); (try (clear e11)); omega)) ⟨by simp [*], by simp [*], by simp [*], by simp [*], by simp [*]⟩ (by simp [*]) (by simp [*]; rfl) ?_) | (refine OutOK.callF [] (by simp [*]; rfl) (by simp [*]; rfl) (by simp [*]; rfl) hb95 (by apply ci <;> first | assumption | exact Hd.out (by assumption) | ((try (clear e0)); (try (clear e1)); (try (clear e2)); (try (clear e3)); (try (clear e4)); (try (clear e5)); (try (clear e6)); (try (clear e7)); (try (clear e8)); (try (clear e9)); (try (clear e10)); (try (clear e11)); omega)) ⟨by simp [*], by simp [*], by simp [*], by simp [*], by simp [*]⟩ (by simp [*]) (by simp [*]; rfl) ?_) | refine OutOK.run (by simp [*]; rfl) ?_ | refine AW.ret ?_ | refine AW.skip ?_ | refine AW.exit ?_ | refine fin_r ?_ | refine fin_n ?_ | refine AW.block ?_ | refine blockQ_n ?_ | refine blockQ_r ?_ | refine blockQ_e ?_ | refine blockQ_o rfl ?_)
    exact ⟨(), trivial, by simp [Try.f64]⟩
  have hb : srB l w = true := by simp [srB, hR, hQ]
  have hb2 : srL l w = namL (srP w) (regI l) := by simp [srL, hb]
  rw [hb, hb2]
  rw [hR] at cr
  rw [hQ] at ci
  have hws2 : 0 < w.size ∧ w.size ≤ 40 := by simp [inR] at hQ; omega
  have h40 : l.length ≤ 40 := by simp only [regOK, Bool.and_eq_true, decide_eq_true_eq] at hR; exact hR.1
  have cp := x_spec_l21Play l h40 hw
  have hm : Hd (playL [] l = some (regI l)) := by
    have h2 := hR
    simp only [regOK, Bool.and_eq_true, Option.isSome_iff_exists] at h2
    obtain ⟨-, m, e⟩ := h2
    simp [Hd, regI, hR, e]
  have hrl := regI_len l
  have hrt : Hd _ := regI_txt l
  clear hb hb2 hR hQ hw
  generalize regI l = its at *
  generalize playL [] l = pl at *
  generalize pl.isSome = ps at *
  refine ACallX.of (N := 81) tok Try.func64 rfl rfl rfl (by simp) ?_
  repeat' (first | with_reducible refine OutOK.done ?_ | refine thenQ_n ?_ | refine thenQ_r ?_ | refine thenQ_e ?_ | refine AW.seq ?_ | refine AW.reg tok (by simp [*]; rfl) ?_ | refine AW.ifB (by simp [*]; rfl) ?_ | refine IfG.t ?_ | refine IfG.f ?_ | (refine IfG.p (fun hg => ?_) (fun hg => ?_) <;> (try (have hg' := hg; simp at hg'))) | (refine IfG.n (fun hg => ?_) (fun hg => ?_) <;> (try (have hg' := hg; simp at hg'))) | (refine OutOK.gateP (fun hg => ?_) (fun hg => ?_) <;> (try (have hg' := hg; simp at hg'))) | (refine OutOK.gateN (fun hg => ?_) (fun hg => ?_) <;> (try (have hg' := hg; simp at hg'))) | (refine IfG.g (fun hg => ?_) (fun hg => ?_) <;> (try (have hg' := hg; simp at hg'))) | (refine OutOK.gate (fun hg => ?_) (fun hg => ?_) <;> (try (have hg' := hg; simp at hg'))) | (refine OutOK.callF [] (by simp [*]; rfl) (by simp [*]; rfl) (by simp [*]; rfl) hb88 (by apply cr <;> first | assumption | exact Hd.out (by assumption) | ((try (clear e0)); (try (clear e1)); (try (clear e2)); (try (clear e3)); (try (clear e4)); (try (clear e5)); (try (clear e6)); (try (clear e7)); (try (clear e8)); (try (clear e9)); (try (clear e10)); (try (clear e11)); omega)) ⟨by simp [*], by simp [*], by simp [*], by simp [*], by simp [*]⟩ (by simp [*]) (by simp [*]; rfl) ?_) | (refine OutOK.callF [] (by simp [*]; rfl) (by simp [*]; rfl) (by simp [*]; rfl) hb95 (by apply ci <;> first | assumption | exact Hd.out (by assumption) | ((try (clear e0)); (try (clear e1)); (try (clear e2)); (try (clear e3)); (try (clear e4)); (try (clear e5)); (try (clear e6)); (try (clear e7)); (try (clear e8)); (try (clear e9)); (try (clear e10)); (try (clear e11)); omega)) ⟨by simp [*], by simp [*], by simp [*], by simp [*], by simp [*]⟩ (by simp [*]) (by simp [*]; rfl) ?_) | refine OutOK.run (by simp [*]; rfl) ?_ | refine AW.ret ?_ | refine AW.skip ?_ | refine AW.exit ?_ | refine fin_r ?_ | refine fin_n ?_ | refine AW.block ?_ | refine blockQ_n ?_ | refine blockQ_r ?_ | refine blockQ_e ?_ | refine blockQ_o rfl ?_)
  refine OutOK.callX [] (by simp [*]; rfl) (by simp [*]; rfl) (by simp [*]; rfl) hb91 (by apply cp <;> first | assumption | exact Hd.out (by assumption) | ((try (clear e0)); (try (clear e1)); (try (clear e2)); (try (clear e3)); (try (clear e4)); (try (clear e5)); (try (clear e6)); (try (clear e7)); (try (clear e8)); (try (clear e9)); (try (clear e10)); (try (clear e11)); omega)) ⟨by simp [*], by simp [*], by simp [*]⟩ (by simp [*]) (fun x hx => ?_)
  obtain ⟨-, g3⟩ := hx
  obtain rfl := g3 its hm.out
  clear g3 cp hm cr ci
  refine CallX.mk' ⟨by simp [*], by simp [*], by simp [*], by simp [*], by simp [*]⟩ (by simp [*]; rfl) ?_
  repeat' (first | with_reducible refine OutOK.done ?_ | refine thenQ_n ?_ | refine thenQ_r ?_ | refine thenQ_e ?_ | refine AW.seq ?_ | refine AW.reg tok (by simp [*]; rfl) ?_ | refine AW.ifB (by simp [*]; rfl) ?_ | refine IfG.t ?_ | refine IfG.f ?_ | (refine IfG.p (fun hg => ?_) (fun hg => ?_) <;> (try (have hg' := hg; simp at hg'))) | (refine IfG.n (fun hg => ?_) (fun hg => ?_) <;> (try (have hg' := hg; simp at hg'))) | (refine OutOK.gateP (fun hg => ?_) (fun hg => ?_) <;> (try (have hg' := hg; simp at hg'))) | (refine OutOK.gateN (fun hg => ?_) (fun hg => ?_) <;> (try (have hg' := hg; simp at hg'))) | (refine IfG.g (fun hg => ?_) (fun hg => ?_) <;> (try (have hg' := hg; simp at hg'))) | (refine OutOK.gate (fun hg => ?_) (fun hg => ?_) <;> (try (have hg' := hg; simp at hg'))) | refine OutOK.run (by simp [*]; rfl) ?_ | refine AW.ret ?_ | refine AW.skip ?_ | refine AW.exit ?_ | refine fin_r ?_ | refine fin_n ?_ | refine AW.block ?_ | refine blockQ_n ?_ | refine blockQ_r ?_ | refine blockQ_e ?_ | refine blockQ_o rfl ?_)
  refine AW.loopS (fun i => i ≤ x.length) (fun i => [(1, .c (.sc (.string w))), (6, .rf 79000 []), (7, .rf 25000 []), (9, .c (.sc (.int .i64 (i : Int))))])
    (fun i => [(79000, .sv (.sl false 1 (strs (namL (srP w) (x.take i))))), (25000, .sv (.sl false 3 (itms x)))]) (fun i => x.length - i) 0 (Nat.zero_le _) [(12000, 79000)] (by simp) ⟨by simp, by simp [namL], by simp⟩ ?_
  intro i hi
  rcases Nat.lt_or_ge i x.length with hl | hl
  · have e1 : wrap64 ((i : Int) + 1) = ((i + 1 : Nat) : Int) := by rw [w64 (by omega) (by omega)]; omega
    obtain ⟨nm, tx, vd, he⟩ : ∃ nm tx vd, x[i] = ⟨nm, tx, vd⟩ := ⟨_, _, _, rfl⟩
    have htx : tx.size ≤ 40 := by have := hrt.out x[i] (List.getElem_mem hl); rw [he] at this; exact this
    have hln := namL_len (srP w) (x.take i)
    have hln2 : (namL (srP w) (x.take i)).length ≤ 40 := by rw [List.length_take] at hln; ((try (clear e0)); (try (clear e1)); (try (clear e2)); (try (clear e3)); (try (clear e4)); (try (clear e5)); (try (clear e6)); (try (clear e7)); (try (clear e8)); (try (clear e9)); (try (clear e10)); (try (clear e11)); omega)
    have b1 : ((namL (srP w) (x.take i)).length + 1) * 16 ≤ 140737488355328 := by ((try (clear e0)); (try (clear e1)); (try (clear e2)); (try (clear e3)); (try (clear e4)); (try (clear e5)); (try (clear e6)); (try (clear e7)); (try (clear e8)); (try (clear e9)); (try (clear e10)); (try (clear e11)); omega)
    have b2 : (namL (srP w) (x.take i)).length + 1 ≤ 4611686018427387904 := by ((try (clear e0)); (try (clear e1)); (try (clear e2)); (try (clear e3)); (try (clear e4)); (try (clear e5)); (try (clear e6)); (try (clear e7)); (try (clear e8)); (try (clear e9)); (try (clear e10)); (try (clear e11)); omega)
    have hy : Hd (srP w ⟨nm, tx, vd⟩ = true → namL (srP w) (x.take (i + 1)) = namL (srP w) (x.take i) ++ [nm]) := fun h => by rw [namL_yes hl (by rw [he]; exact h), he]
    have hno : Hd (srP w ⟨nm, tx, vd⟩ = false → namL (srP w) (x.take (i + 1)) = namL (srP w) (x.take i)) := fun h => namL_no hl (by rw [he]; exact h)
    generalize hsn : namL (srP w) (x.take (i + 1)) = sn at *
    have hsn' : Hd _ := hsn
    clear hsn
    generalize hso : namL (srP w) (x.take i) = so at *
    have hso' : Hd _ := hso
    clear hso hln
    repeat' (first | with_reducible refine OutOK.done ?_ | refine thenQ_n ?_ | refine thenQ_r ?_ | refine thenQ_e ?_ | refine AW.seq ?_ | refine AW.reg tok (by simp [*]; rfl) ?_ | refine AW.ifB (by simp [*]; rfl) ?_ | refine IfG.t ?_ | refine IfG.f ?_ | (refine IfG.p (fun hg => ?_) (fun hg => ?_) <;> (try (have hg' := hg; simp at hg'))) | (refine IfG.n (fun hg => ?_) (fun hg => ?_) <;> (try (have hg' := hg; simp at hg'))) | (refine OutOK.gateP (fun hg => ?_) (fun hg => ?_) <;> (try (have hg' := hg; simp at hg'))) | (refine OutOK.gateN (fun hg => ?_) (fun hg => ?_) <;> (try (have hg' := hg; simp at hg'))) | (refine IfG.g (fun hg => ?_) (fun hg => ?_) <;> (try (have hg' := hg; simp at hg'))) | (refine OutOK.gate (fun hg => ?_) (fun hg => ?_) <;> (try (have hg' := hg; simp at hg'))) | refine OutOK.run (by simp [*]; rfl) ?_ | refine AW.ret ?_ | refine AW.skip ?_ | refine AW.exit ?_ | refine fin_r ?_ | refine fin_n ?_ | refine AW.block ?_ | refine blockQ_n ?_ | refine blockQ_r ?_ | refine blockQ_e ?_ | refine blockQ_o rfl ?_)
    refine AW.loopL (α := Nat × Bool) (fun p => p.1 ≤ tx.size ∧ Hd (p.2 = occB tx w p.1)) (fun p => [(1, .c (.sc (.string w))), (6, .rf 79000 []), (7, .rf 25000 []), (9, .c (.sc (.int .i64 (i : Int)))), (10, .c (.sc (.bool p.2))), (11, .c (.sc (.int .i64 (p.1 : Int))))])
      (fun p => [(79000, .sv (.sl false 1 (strs so))), (25000, .sv (.sl false 3 (itms x)))]) (fun p => tx.size - p.1) (0, false) ⟨Nat.zero_le _, rfl⟩ ⟨by simp, by simp, by simp⟩ ?_
    rintro ⟨k, b⟩ ⟨hk, hb⟩
    simp only at hk hb
    have e2 : wrap64 ((k : Int) + (w.size : Int)) = ((k + w.size : Nat) : Int) := by rw [w64 (by omega) (by omega)]; omega
    rcases Nat.lt_or_ge tx.size (k + w.size) with hc | hc
    · obtain ⟨n, hn⟩ : ∃ n, n = k + w.size := ⟨_, rfl⟩
      rw [← hn] at e2 hc
      have hc' : ¬ (n : Int) ≤ (tx.size : Int) := by ((try (clear e0)); (try (clear e1)); (try (clear e2)); (try (clear e3)); (try (clear e4)); (try (clear e5)); (try (clear e6)); (try (clear e7)); (try (clear e8)); (try (clear e9)); (try (clear e10)); (try (clear e11)); omega)
      have hbc : Hd (b = cont tx w) := hb.out.trans (occB_end tx w k hws2.1 (by omega) (by omega))
      clear hn
      cases b
      · have hp : Hd (srP w ⟨nm, tx, vd⟩ = false) := by simp [Hd, srP, ← hbc.out]
        repeat' (first | with_reducible refine OutOK.done ?_ | refine thenQ_n ?_ | refine thenQ_r ?_ | refine thenQ_e ?_ | refine AW.seq ?_ | refine AW.reg tok (by simp [*]; rfl) ?_ | refine AW.ifB (by simp [*]; rfl) ?_ | refine IfG.t ?_ | refine IfG.f ?_ | (refine IfG.p (fun hg => ?_) (fun hg => ?_) <;> (try (have hg' := hg; simp at hg'))) | (refine IfG.n (fun hg => ?_) (fun hg => ?_) <;> (try (have hg' := hg; simp at hg'))) | (refine OutOK.gateP (fun hg => ?_) (fun hg => ?_) <;> (try (have hg' := hg; simp at hg'))) | (refine OutOK.gateN (fun hg => ?_) (fun hg => ?_) <;> (try (have hg' := hg; simp at hg'))) | (refine IfG.g (fun hg => ?_) (fun hg => ?_) <;> (try (have hg' := hg; simp at hg'))) | (refine OutOK.gate (fun hg => ?_) (fun hg => ?_) <;> (try (have hg' := hg; simp at hg'))) | refine OutOK.run (by simp [*]; rfl) ?_ | refine AW.ret ?_ | refine AW.skip ?_ | refine AW.exit ?_ | refine fin_r ?_ | refine fin_n ?_ | refine AW.block ?_ | refine blockQ_n ?_ | refine blockQ_r ?_ | refine blockQ_e ?_ | refine blockQ_o rfl ?_)
        all_goals exact ⟨i + 1, hl, ⟨[], by simp, by simp, by simp [hsn'.out, hno.out hp.out, hso'.out], by simp⟩, by ((try (clear e0)); (try (clear e1)); (try (clear e2)); (try (clear e3)); (try (clear e4)); (try (clear e5)); (try (clear e6)); (try (clear e7)); (try (clear e8)); (try (clear e9)); (try (clear e10)); (try (clear e11)); omega)⟩
      · cases vd
        · have hp : Hd (srP w ⟨nm, tx, false⟩ = true) := by simp [Hd, srP, ← hbc.out]
          repeat' (first | with_reducible refine OutOK.done ?_ | refine thenQ_n ?_ | refine thenQ_r ?_ | refine thenQ_e ?_ | refine AW.seq ?_ | refine AW.reg tok (by simp [*]; rfl) ?_ | refine AW.ifB (by simp [*]; rfl) ?_ | refine IfG.t ?_ | refine IfG.f ?_ | (refine IfG.p (fun hg => ?_) (fun hg => ?_) <;> (try (have hg' := hg; simp at hg'))) | (refine IfG.n (fun hg => ?_) (fun hg => ?_) <;> (try (have hg' := hg; simp at hg'))) | (refine OutOK.gateP (fun hg => ?_) (fun hg => ?_) <;> (try (have hg' := hg; simp at hg'))) | (refine OutOK.gateN (fun hg => ?_) (fun hg => ?_) <;> (try (have hg' := hg; simp at hg'))) | (refine IfG.g (fun hg => ?_) (fun hg => ?_) <;> (try (have hg' := hg; simp at hg'))) | (refine OutOK.gate (fun hg => ?_) (fun hg => ?_) <;> (try (have hg' := hg; simp at hg'))) | refine OutOK.run (by simp [*]; rfl) ?_ | refine AW.ret ?_ | refine AW.skip ?_ | refine AW.exit ?_ | refine fin_r ?_ | refine fin_n ?_ | refine AW.block ?_ | refine blockQ_n ?_ | refine blockQ_r ?_ | refine blockQ_e ?_ | refine blockQ_o rfl ?_)
          all_goals exact ⟨i + 1, hl, ⟨[], by simp, by simp, by simp [hsn'.out, hy.out hp.out, hso'.out], by simp⟩, by ((try (clear e0)); (try (clear e1)); (try (clear e2)); (try (clear e3)); (try (clear e4)); (try (clear e5)); (try (clear e6)); (try (clear e7)); (try (clear e8)); (try (clear e9)); (try (clear e10)); (try (clear e11)); omega)⟩
        · have hp : Hd (srP w ⟨nm, tx, true⟩ = false) := by simp [Hd, srP]
          repeat' (first | with_reducible refine OutOK.done ?_ | refine thenQ_n ?_ | refine thenQ_r ?_ | refine thenQ_e ?_ | refine AW.seq ?_ | refine AW.reg tok (by simp [*]; rfl) ?_ | refine AW.ifB (by simp [*]; rfl) ?_ | refine IfG.t ?_ | refine IfG.f ?_ | (refine IfG.p (fun hg => ?_) (fun hg => ?_) <;> (try (have hg' := hg; simp at hg'))) | (refine IfG.n (fun hg => ?_) (fun hg => ?_) <;> (try (have hg' := hg; simp at hg'))) | (refine OutOK.gateP (fun hg => ?_) (fun hg => ?_) <;> (try (have hg' := hg; simp at hg'))) | (refine OutOK.gateN (fun hg => ?_) (fun hg => ?_) <;> (try (have hg' := hg; simp at hg'))) | (refine IfG.g (fun hg => ?_) (fun hg => ?_) <;> (try (have hg' := hg; simp at hg'))) | (refine OutOK.gate (fun hg => ?_) (fun hg => ?_) <;> (try (have hg' := hg; simp at hg'))) | refine OutOK.run (by simp [*]; rfl) ?_ | refine AW.ret ?_ | refine AW.skip ?_ | refine AW.exit ?_ | refine fin_r ?_ | refine fin_n ?_ | refine AW.block ?_ | refine blockQ_n ?_ | refine blockQ_r ?_ | refine blockQ_e ?_ | refine blockQ_o rfl ?_)
          all_goals exact ⟨i + 1, hl, ⟨[], by simp, by simp, by simp [hsn'.out, hno.out hp.out, hso'.out], by simp⟩, by ((try (clear e0)); (try (clear e1)); (try (clear e2)); (try (clear e3)); (try (clear e4)); (try (clear e5)); (try (clear e6)); (try (clear e7)); (try (clear e8)); (try (clear e9)); (try (clear e10)); (try (clear e11)); omega)⟩
    · have e3 : wrap64 ((k : Int) + 1) = ((k + 1 : Nat) : Int) := by rw [w64 (by clear e1 e2; omega) (by clear e1 e2; omega)]; clear e1 e2; omega
      have hs := occB_succ tx w k hc
      obtain ⟨n, hn⟩ : ∃ n, n = k + w.size := ⟨_, rfl⟩
      rw [← hn] at e2 hc hs
      have hkn : k ≤ n := by ((try (clear e0)); (try (clear e1)); (try (clear e2)); (try (clear e3)); (try (clear e4)); (try (clear e5)); (try (clear e6)); (try (clear e7)); (try (clear e8)); (try (clear e9)); (try (clear e10)); (try (clear e11)); omega)
      have hc' : (n : Int) ≤ (tx.size : Int) := by ((try (clear e0)); (try (clear e1)); (try (clear e2)); (try (clear e3)); (try (clear e4)); (try (clear e5)); (try (clear e6)); (try (clear e7)); (try (clear e8)); (try (clear e9)); (try (clear e10)); (try (clear e11)); omega)
      have hk1 : k + 1 ≤ tx.size := by ((try (clear e0)); (try (clear e1)); (try (clear e2)); (try (clear e3)); (try (clear e4)); (try (clear e5)); (try (clear e6)); (try (clear e7)); (try (clear e8)); (try (clear e9)); (try (clear e10)); (try (clear e11)); omega)
      clear hn
      cases b
      · by_cases hx : (tx.extract k n).toList = w.toList
        · have hq : Hd (true = occB tx w (k + 1)) := by rw [Hd, hs]; simp [hx]
          replace hs : Hd _ := hs
          repeat' (first | with_reducible refine OutOK.done ?_ | refine thenQ_n ?_ | refine thenQ_r ?_ | refine thenQ_e ?_ | refine AW.seq ?_ | refine AW.reg tok (by simp [*]; rfl) ?_ | refine AW.ifB (by simp [*]; rfl) ?_ | refine IfG.t ?_ | refine IfG.f ?_ | (refine IfG.p (fun hg => ?_) (fun hg => ?_) <;> (try (have hg' := hg; simp at hg'))) | (refine IfG.n (fun hg => ?_) (fun hg => ?_) <;> (try (have hg' := hg; simp at hg'))) | (refine OutOK.gateP (fun hg => ?_) (fun hg => ?_) <;> (try (have hg' := hg; simp at hg'))) | (refine OutOK.gateN (fun hg => ?_) (fun hg => ?_) <;> (try (have hg' := hg; simp at hg'))) | (refine IfG.g (fun hg => ?_) (fun hg => ?_) <;> (try (have hg' := hg; simp at hg'))) | (refine OutOK.gate (fun hg => ?_) (fun hg => ?_) <;> (try (have hg' := hg; simp at hg'))) | refine OutOK.run (by simp [*]; rfl) ?_ | refine AW.ret ?_ | refine AW.skip ?_ | refine AW.exit ?_ | refine fin_r ?_ | refine fin_n ?_ | refine AW.block ?_ | refine blockQ_n ?_ | refine blockQ_r ?_ | refine blockQ_e ?_ | refine blockQ_o rfl ?_)
          all_goals exact ⟨(k + 1, true), ⟨hk1, hq⟩, ⟨by simp, by simp, by simp⟩, by simp only; ((try (clear e0)); (try (clear e1)); (try (clear e2)); (try (clear e3)); (try (clear e4)); (try (clear e5)); (try (clear e6)); (try (clear e7)); (try (clear e8)); (try (clear e9)); (try (clear e10)); (try (clear e11)); omega)⟩
        · have hq : Hd (false = occB tx w (k + 1)) := by rw [Hd, hs, ← hb.out]; simp [hx]
          replace hs : Hd _ := hs
          repeat' (first | with_reducible refine OutOK.done ?_ | refine thenQ_n ?_ | refine thenQ_r ?_ | refine thenQ_e ?_ | refine AW.seq ?_ | refine AW.reg tok (by simp [*]; rfl) ?_ | refine AW.ifB (by simp [*]; rfl) ?_ | refine IfG.t ?_ | refine IfG.f ?_ | (refine IfG.p (fun hg => ?_) (fun hg => ?_) <;> (try (have hg' := hg; simp at hg'))) | (refine IfG.n (fun hg => ?_) (fun hg => ?_) <;> (try (have hg' := hg; simp at hg'))) | (refine OutOK.gateP (fun hg => ?_) (fun hg => ?_) <;> (try (have hg' := hg; simp at hg'))) | (refine OutOK.gateN (fun hg => ?_) (fun hg => ?_) <;> (try (have hg' := hg; simp at hg'))) | (refine IfG.g (fun hg => ?_) (fun hg => ?_) <;> (try (have hg' := hg; simp at hg'))) | (refine OutOK.gate (fun hg => ?_) (fun hg => ?_) <;> (try (have hg' := hg; simp at hg'))) | refine OutOK.run (by simp [*]; rfl) ?_ | refine AW.ret ?_ | refine AW.skip ?_ | refine AW.exit ?_ | refine fin_r ?_ | refine fin_n ?_ | refine AW.block ?_ | refine blockQ_n ?_ | refine blockQ_r ?_ | refine blockQ_e ?_ | refine blockQ_o rfl ?_)
          all_goals exact ⟨(k + 1, false), ⟨hk1, hq⟩, ⟨by simp, by simp, by simp⟩, by simp only; ((try (clear e0)); (try (clear e1)); (try (clear e2)); (try (clear e3)); (try (clear e4)); (try (clear e5)); (try (clear e6)); (try (clear e7)); (try (clear e8)); (try (clear e9)); (try (clear e10)); (try (clear e11)); omega)⟩
      · have hq : Hd (true = occB tx w (k + 1)) := by rw [Hd, hs, ← hb.out]; simp
        replace hs : Hd _ := hs
        repeat' (first | with_reducible refine OutOK.done ?_ | refine thenQ_n ?_ | refine thenQ_r ?_ | refine thenQ_e ?_ | refine AW.seq ?_ | refine AW.reg tok (by simp [*]; rfl) ?_ | refine AW.ifB (by simp [*]; rfl) ?_ | refine IfG.t ?_ | refine IfG.f ?_ | (refine IfG.p (fun hg => ?_) (fun hg => ?_) <;> (try (have hg' := hg; simp at hg'))) | (refine IfG.n (fun hg => ?_) (fun hg => ?_) <;> (try (have hg' := hg; simp at hg'))) | (refine OutOK.gateP (fun hg => ?_) (fun hg => ?_) <;> (try (have hg' := hg; simp at hg'))) | (refine OutOK.gateN (fun hg => ?_) (fun hg => ?_) <;> (try (have hg' := hg; simp at hg'))) | (refine IfG.g (fun hg => ?_) (fun hg => ?_) <;> (try (have hg' := hg; simp at hg'))) | (refine OutOK.gate (fun hg => ?_) (fun hg => ?_) <;> (try (have hg' := hg; simp at hg'))) | refine OutOK.run (by simp [*]; rfl) ?_ | refine AW.ret ?_ | refine AW.skip ?_ | refine AW.exit ?_ | refine fin_r ?_ | refine fin_n ?_ | refine AW.block ?_ | refine blockQ_n ?_ | refine blockQ_r ?_ | refine blockQ_e ?_ | refine blockQ_o rfl ?_)
        all_goals exact ⟨(k + 1, true), ⟨hk1, hq⟩, ⟨by simp, by simp, by simp⟩, by simp only; ((try (clear e0)); (try (clear e1)); (try (clear e2)); (try (clear e3)); (try (clear e4)); (try (clear e5)); (try (clear e6)); (try (clear e7)); (try (clear e8)); (try (clear e9)); (try (clear e10)); (try (clear e11)); omega)⟩
  · have hn : ¬ i < x.length := by omega
    rw [List.take_of_length_le hl]
    generalize namL (srP w) x = so
    repeat' (first | with_reducible refine OutOK.done ?_ | refine thenQ_n ?_ | refine thenQ_r ?_ | refine thenQ_e ?_ | refine AW.seq ?_ | refine AW.reg tok (by simp [*]; rfl) ?_ | refine AW.ifB (by simp [*]; rfl) ?_ | refine IfG.t ?_ | refine IfG.f ?_ | (refine IfG.p (fun hg => ?_) (fun hg => ?_) <;> (try (have hg' := hg; simp at hg'))) | (refine IfG.n (fun hg => ?_) (fun hg => ?_) <;> (try (have hg' := hg; simp at hg'))) | (refine OutOK.gateP (fun hg => ?_) (fun hg => ?_) <;> (try (have hg' := hg; simp at hg'))) | (refine OutOK.gateN (fun hg => ?_) (fun hg => ?_) <;> (try (have hg' := hg; simp at hg'))) | (refine IfG.g (fun hg => ?_) (fun hg => ?_) <;> (try (have hg' := hg; simp at hg'))) | (refine OutOK.gate (fun hg => ?_) (fun hg => ?_) <;> (try (have hg' := hg; simp at hg'))) | refine OutOK.run (by simp [*]; rfl) ?_ | refine AW.ret ?_ | refine AW.skip ?_ | refine AW.exit ?_ | refine fin_r ?_ | refine fin_n ?_ | refine AW.block ?_ | refine blockQ_n ?_ | refine blockQ_r ?_ | refine blockQ_e ?_ | refine blockQ_o rfl ?_)
    exact ⟨(), trivial, by simp [Try.f64]⟩
end Go.Proofs.Ytodombkmnnggeaa.EngS


set_option linter.unusedSimpArgs false
set_option linter.unusedVariables false
set_option maxHeartbeats 4000000
set_option maxRecDepth 100000
namespace Go.Proofs.Ytodombkmnnggeaa.EngS
open Go Go.Proofs Go.Eng Go.RowKit
@[simp] theorem ents_set (l : List Ent) (i : Nat) (a : Int) (b c : ByteArray) : (ents l).set i (.ag [.sc (.int .i64 a), .sc (.string b), .sc (.string c)]) = ents (l.set i ⟨a, b, c⟩) := by
  simp [ents, els, List.map_set]
abbrev entG (s : Ent) : D := .g [.sc (.int .i64 s.kd), .sc (.string s.itm), .sc (.string s.txt)]
theorem c_laws_toEntry (s : Ent) : ACall Try.prog 48 [entG s] [.x] [entG s] := by
  refine ACall.of (N := 14) tok Try.func48 rfl rfl rfl (by simp) ?_
  repeat' (first | with_reducible refine OutOK.done ?_ | refine thenQ_n ?_ | refine thenQ_r ?_ | refine thenQ_e ?_ | refine AW.seq ?_ | refine AW.reg tok (by simp [*]; rfl) ?_ | refine AW.ifB (by simp [*]; rfl) ?_ | refine IfG.t ?_ | refine IfG.f ?_ | (refine IfG.p (fun hg => ?_) (fun hg => ?_) <;> (try (have hg' := hg; simp at hg'))) | (refine IfG.n (fun hg => ?_) (fun hg => ?_) <;> (try (have hg' := hg; simp at hg'))) | (refine OutOK.gateP (fun hg => ?_) (fun hg => ?_) <;> (try (have hg' := hg; simp at hg'))) | (refine OutOK.gateN (fun hg => ?_) (fun hg => ?_) <;> (try (have hg' := hg; simp at hg'))) | (refine IfG.g (fun hg => ?_) (fun hg => ?_) <;> (try (have hg' := hg; simp at hg'))) | (refine OutOK.gate (fun hg => ?_) (fun hg => ?_) <;> (try (have hg' := hg; simp at hg'))) | refine OutOK.run (by simp [*]; rfl) ?_ | refine AW.ret ?_ | refine AW.skip ?_ | refine AW.exit ?_ | refine fin_r ?_ | refine fin_n ?_ | refine AW.block ?_ | refine blockQ_n ?_ | refine blockQ_r ?_ | refine blockQ_e ?_ | refine blockQ_o rfl ?_)
  all_goals (try simp [*, Try.f48])
theorem c_laws_eqEntry (s : Ent) : ACall Try.prog 90 [entG s, entG s] [.x, .x] [boo true] := by
  refine ACall.of (N := 20) tok Try.func90 rfl rfl rfl (by simp) ?_
  repeat' (first | with_reducible refine OutOK.done ?_ | refine thenQ_n ?_ | refine thenQ_r ?_ | refine thenQ_e ?_ | refine AW.seq ?_ | refine AW.reg tok (by simp [*]; rfl) ?_ | refine AW.ifB (by simp [*]; rfl) ?_ | refine IfG.t ?_ | refine IfG.f ?_ | (refine IfG.p (fun hg => ?_) (fun hg => ?_) <;> (try (have hg' := hg; simp at hg'))) | (refine IfG.n (fun hg => ?_) (fun hg => ?_) <;> (try (have hg' := hg; simp at hg'))) | (refine OutOK.gateP (fun hg => ?_) (fun hg => ?_) <;> (try (have hg' := hg; simp at hg'))) | (refine OutOK.gateN (fun hg => ?_) (fun hg => ?_) <;> (try (have hg' := hg; simp at hg'))) | (refine IfG.g (fun hg => ?_) (fun hg => ?_) <;> (try (have hg' := hg; simp at hg'))) | (refine OutOK.gate (fun hg => ?_) (fun hg => ?_) <;> (try (have hg' := hg; simp at hg'))) | refine OutOK.run (by simp [*]; rfl) ?_ | refine AW.ret ?_ | refine AW.skip ?_ | refine AW.exit ?_ | refine fin_r ?_ | refine fin_n ?_ | refine AW.block ?_ | refine blockQ_n ?_ | refine blockQ_r ?_ | refine blockQ_e ?_ | refine blockQ_o rfl ?_)
  all_goals (try simp [*, Try.f90])
theorem c_laws_eqEntryS (l : List Ent) (h : l.length < 9223372036854775807) : ACall Try.prog 37 [.v (.sl true 3 (ents l)), .v (.sl true 3 (ents l))] [.x, .x] [boo true] := by
  refine ACall.of (N := 27) tok Try.func37 rfl rfl rfl (by simp) ?_
  repeat' (first | with_reducible refine OutOK.done ?_ | refine thenQ_n ?_ | refine thenQ_r ?_ | refine thenQ_e ?_ | refine AW.seq ?_ | refine AW.dreg tok mixed [7]  [(0, false), (1, false), (2, false), (4, false), (5, false), (6, false), (3, false), (7, true), (8, false), (9, false)] (by decide +kernel) rfl (by simp [*]; rfl) ?_ | refine AW.reg tok (by simp [*]; rfl) ?_ | refine AW.ifB (by simp [*]; rfl) ?_ | refine IfG.t ?_ | refine IfG.f ?_ | (refine IfG.p (fun hg => ?_) (fun hg => ?_) <;> (try (have hg' := hg; simp at hg'))) | (refine IfG.n (fun hg => ?_) (fun hg => ?_) <;> (try (have hg' := hg; simp at hg'))) | (refine OutOK.gateP (fun hg => ?_) (fun hg => ?_) <;> (try (have hg' := hg; simp at hg'))) | (refine OutOK.gateN (fun hg => ?_) (fun hg => ?_) <;> (try (have hg' := hg; simp at hg'))) | (refine IfG.g (fun hg => ?_) (fun hg => ?_) <;> (try (have hg' := hg; simp at hg'))) | (refine OutOK.gate (fun hg => ?_) (fun hg => ?_) <;> (try (have hg' := hg; simp at hg'))) | (refine OutOK.callF [] (by simp [*]; rfl) (by simp [*]; rfl) (by simp [*]; rfl) hb90 (by apply c_laws_eqEntry <;> first | assumption | exact Hd.out (by assumption) | ((try (clear e0)); (try (clear e1)); (try (clear e2)); (try (clear e3)); (try (clear e4)); (try (clear e5)); (try (clear e6)); (try (clear e7)); (try (clear e8)); (try (clear e9)); (try (clear e10)); (try (clear e11)); omega)) ⟨by simp [*], by simp [*], by simp [*], by simp [*], by simp [*]⟩ (by simp [*]) (by simp [*]; rfl) ?_) | refine OutOK.run (by simp [*]; rfl) ?_ | refine AW.ret ?_ | refine AW.skip ?_ | refine AW.exit ?_ | refine fin_r ?_ | refine fin_n ?_ | refine AW.block ?_ | refine blockQ_n ?_ | refine blockQ_r ?_ | refine blockQ_e ?_ | refine blockQ_o rfl ?_)
  refine AW.loopL (fun i => i ≤ l.length) (fun i => [(0, .c (.sl true 3 (ents l))), (1, .c (.sl true 3 (ents l))), (5, .c (.sc (.int .i64 (i : Int))))]) (fun _ => []) (fun i => l.length - i) 0 (Nat.zero_le _) ⟨by simp, by simp, by simp⟩ ?_
  intro i hi
  rcases Nat.lt_or_ge i l.length with hl | hl
  · have e1 : wrap64 ((i : Int) + 1) = ((i + 1 : Nat) : Int) := by rw [w64 (by omega) (by omega)]; omega
    repeat' (first | with_reducible refine OutOK.done ?_ | refine thenQ_n ?_ | refine thenQ_r ?_ | refine thenQ_e ?_ | refine AW.seq ?_ | refine AW.dreg tok mixed [7]  [(0, false), (1, false), (2, false), (4, false), (5, false), (6, false), (3, false), (7, true), (8, false), (9, false)] (by decide +kernel) rfl (by simp [*]; rfl) ?_ | refine AW.reg tok (by simp [*]; rfl) ?_ | refine AW.ifB (by simp [*]; rfl) ?_ | refine IfG.t ?_ | refine IfG.f ?_ | (refine IfG.p (fun hg => ?_) (fun hg => ?_) <;> (try (have hg' := hg; simp at hg'))) | (refine IfG.n (fun hg => ?_) (fun hg => ?_) <;> (try (have hg' := hg; simp at hg'))) | (refine OutOK.gateP (fun hg => ?_) (fun hg => ?_) <;> (try (have hg' := hg; simp at hg'))) | (refine OutOK.gateN (fun hg => ?_) (fun hg => ?_) <;> (try (have hg' := hg; simp at hg'))) | (refine IfG.g (fun hg => ?_) (fun hg => ?_) <;> (try (have hg' := hg; simp at hg'))) | (refine OutOK.gate (fun hg => ?_) (fun hg => ?_) <;> (try (have hg' := hg; simp at hg'))) | (refine OutOK.callF [] (by simp [*]; rfl) (by simp [*]; rfl) (by simp [*]; rfl) hb90 (by apply c_laws_eqEntry <;> first | assumption | exact Hd.out (by assumption) | ((try (clear e0)); (try (clear e1)); (try (clear e2)); (try (clear e3)); (try (clear e4)); (try (clear e5)); (try (clear e6)); (try (clear e7)); (try (clear e8)); (try (clear e9)); (try (clear e10)); (try (clear e11)); omega)) ⟨by simp [*], by simp [*], by simp [*], by simp [*], by simp [*]⟩ (by simp [*]) (by simp [*]; rfl) ?_) | refine OutOK.run (by simp [*]; rfl) ?_ | refine AW.ret ?_ | refine AW.skip ?_ | refine AW.exit ?_ | refine fin_r ?_ | refine fin_n ?_ | refine AW.block ?_ | refine blockQ_n ?_ | refine blockQ_r ?_ | refine blockQ_e ?_ | refine blockQ_o rfl ?_)
    exact ⟨i + 1, hl, ⟨by simp, by simp, by simp⟩, by ((try (clear e0)); (try (clear e1)); (try (clear e2)); (try (clear e3)); (try (clear e4)); (try (clear e5)); (try (clear e6)); (try (clear e7)); (try (clear e8)); (try (clear e9)); (try (clear e10)); (try (clear e11)); omega)⟩
  · have hn : ¬ i < l.length := by omega
    repeat' (first | with_reducible refine OutOK.done ?_ | refine thenQ_n ?_ | refine thenQ_r ?_ | refine thenQ_e ?_ | refine AW.seq ?_ | refine AW.dreg tok mixed [7]  [(0, false), (1, false), (2, false), (4, false), (5, false), (6, false), (3, false), (7, true), (8, false), (9, false)] (by decide +kernel) rfl (by simp [*]; rfl) ?_ | refine AW.reg tok (by simp [*]; rfl) ?_ | refine AW.ifB (by simp [*]; rfl) ?_ | refine IfG.t ?_ | refine IfG.f ?_ | (refine IfG.p (fun hg => ?_) (fun hg => ?_) <;> (try (have hg' := hg; simp at hg'))) | (refine IfG.n (fun hg => ?_) (fun hg => ?_) <;> (try (have hg' := hg; simp at hg'))) | (refine OutOK.gateP (fun hg => ?_) (fun hg => ?_) <;> (try (have hg' := hg; simp at hg'))) | (refine OutOK.gateN (fun hg => ?_) (fun hg => ?_) <;> (try (have hg' := hg; simp at hg'))) | (refine IfG.g (fun hg => ?_) (fun hg => ?_) <;> (try (have hg' := hg; simp at hg'))) | (refine OutOK.gate (fun hg => ?_) (fun hg => ?_) <;> (try (have hg' := hg; simp at hg'))) | (refine OutOK.callF [] (by simp [*]; rfl) (by simp [*]; rfl) (by simp [*]; rfl) hb90 (by apply c_laws_eqEntry <;> first | assumption | exact Hd.out (by assumption) | ((try (clear e0)); (try (clear e1)); (try (clear e2)); (try (clear e3)); (try (clear e4)); (try (clear e5)); (try (clear e6)); (try (clear e7)); (try (clear e8)); (try (clear e9)); (try (clear e10)); (try (clear e11)); omega)) ⟨by simp [*], by simp [*], by simp [*], by simp [*], by simp [*]⟩ (by simp [*]) (by simp [*]; rfl) ?_) | refine OutOK.run (by simp [*]; rfl) ?_ | refine AW.ret ?_ | refine AW.skip ?_ | refine AW.exit ?_ | refine fin_r ?_ | refine fin_n ?_ | refine AW.block ?_ | refine blockQ_n ?_ | refine blockQ_r ?_ | refine blockQ_e ?_ | refine blockQ_o rfl ?_)
    all_goals (try simp [*, Try.f37])
theorem x_laws_szEntry (s : Ent) (l : Int) (hw : EntW s) (h0 : 0 ≤ l) (h1 : l ≤ 1048576) : ACallX Try.prog 46 [entG s, int l] (fun r : Int => -1 ≤ r ∧ r ≤ l) (fun _ => [.x, .x]) (fun r => [int r]) := by
  obtain ⟨w1, w2⟩ := hw
  obtain ⟨q, hq⟩ : ∃ q, l - (s.itm.size : Int) = q := ⟨_, rfl⟩
  have e1 : wrap64 (l - s.itm.size) = q := by rw [w64 (by omega) (by omega)]; exact hq
  rcases Int.lt_or_le q 0 with n2 | n2
  · clear hq
    refine ACallX.of (N := 20) tok Try.func46 rfl rfl rfl (by simp) ?_
    repeat' (first | with_reducible refine OutOK.done ?_ | refine thenQ_n ?_ | refine thenQ_r ?_ | refine thenQ_e ?_ | refine AW.seq ?_ | refine AW.reg tok (by simp [*]; rfl) ?_ | refine AW.ifB (by simp [*]; rfl) ?_ | refine IfG.t ?_ | refine IfG.f ?_ | (refine IfG.p (fun hg => ?_) (fun hg => ?_) <;> (try (have hg' := hg; simp at hg'))) | (refine IfG.n (fun hg => ?_) (fun hg => ?_) <;> (try (have hg' := hg; simp at hg'))) | (refine OutOK.gateP (fun hg => ?_) (fun hg => ?_) <;> (try (have hg' := hg; simp at hg'))) | (refine OutOK.gateN (fun hg => ?_) (fun hg => ?_) <;> (try (have hg' := hg; simp at hg'))) | (refine IfG.g (fun hg => ?_) (fun hg => ?_) <;> (try (have hg' := hg; simp at hg'))) | (refine OutOK.gate (fun hg => ?_) (fun hg => ?_) <;> (try (have hg' := hg; simp at hg'))) | refine OutOK.run (by simp [*]; rfl) ?_ | refine AW.ret ?_ | refine AW.skip ?_ | refine AW.exit ?_ | refine fin_r ?_ | refine fin_n ?_ | refine AW.block ?_ | refine blockQ_n ?_ | refine blockQ_r ?_ | refine blockQ_e ?_ | refine blockQ_o rfl ?_)
    exact ⟨-1, ⟨by ((try (clear e0)); (try (clear e1)); (try (clear e2)); (try (clear e3)); (try (clear e4)); (try (clear e5)); (try (clear e6)); (try (clear e7)); (try (clear e8)); (try (clear e9)); (try (clear e10)); (try (clear e11)); omega), by ((try (clear e0)); (try (clear e1)); (try (clear e2)); (try (clear e3)); (try (clear e4)); (try (clear e5)); (try (clear e6)); (try (clear e7)); (try (clear e8)); (try (clear e9)); (try (clear e10)); (try (clear e11)); omega)⟩, by simp [Try.f46]⟩
  have n2' : ¬ q < 0 := by clear e1; omega
  obtain ⟨q2, hq2⟩ : ∃ q2, q - (s.txt.size : Int) = q2 := ⟨_, rfl⟩
  have e2 : wrap64 (q - s.txt.size) = q2 := by rw [w64 (by clear e1; omega) (by clear e1; omega)]; exact hq2
  have hle : q2 ≤ l := by clear e1 e2; omega
  clear hq hq2
  rcases Int.lt_or_le q2 0 with n3 | n3
  · refine ACallX.of (N := 20) tok Try.func46 rfl rfl rfl (by simp) ?_
    repeat' (first | with_reducible refine OutOK.done ?_ | refine thenQ_n ?_ | refine thenQ_r ?_ | refine thenQ_e ?_ | refine AW.seq ?_ | refine AW.reg tok (by simp [*]; rfl) ?_ | refine AW.ifB (by simp [*]; rfl) ?_ | refine IfG.t ?_ | refine IfG.f ?_ | (refine IfG.p (fun hg => ?_) (fun hg => ?_) <;> (try (have hg' := hg; simp at hg'))) | (refine IfG.n (fun hg => ?_) (fun hg => ?_) <;> (try (have hg' := hg; simp at hg'))) | (refine OutOK.gateP (fun hg => ?_) (fun hg => ?_) <;> (try (have hg' := hg; simp at hg'))) | (refine OutOK.gateN (fun hg => ?_) (fun hg => ?_) <;> (try (have hg' := hg; simp at hg'))) | (refine IfG.g (fun hg => ?_) (fun hg => ?_) <;> (try (have hg' := hg; simp at hg'))) | (refine OutOK.gate (fun hg => ?_) (fun hg => ?_) <;> (try (have hg' := hg; simp at hg'))) | refine OutOK.run (by simp [*]; rfl) ?_ | refine AW.ret ?_ | refine AW.skip ?_ | refine AW.exit ?_ | refine fin_r ?_ | refine fin_n ?_ | refine AW.block ?_ | refine blockQ_n ?_ | refine blockQ_r ?_ | refine blockQ_e ?_ | refine blockQ_o rfl ?_)
    exact ⟨-1, ⟨by ((try (clear e0)); (try (clear e1)); (try (clear e2)); (try (clear e3)); (try (clear e4)); (try (clear e5)); (try (clear e6)); (try (clear e7)); (try (clear e8)); (try (clear e9)); (try (clear e10)); (try (clear e11)); omega), by ((try (clear e0)); (try (clear e1)); (try (clear e2)); (try (clear e3)); (try (clear e4)); (try (clear e5)); (try (clear e6)); (try (clear e7)); (try (clear e8)); (try (clear e9)); (try (clear e10)); (try (clear e11)); omega)⟩, by simp [Try.f46]⟩
  · have n3' : ¬ q2 < 0 := by ((try (clear e0)); (try (clear e1)); (try (clear e2)); (try (clear e3)); (try (clear e4)); (try (clear e5)); (try (clear e6)); (try (clear e7)); (try (clear e8)); (try (clear e9)); (try (clear e10)); (try (clear e11)); omega)
    refine ACallX.of (N := 20) tok Try.func46 rfl rfl rfl (by simp) ?_
    repeat' (first | with_reducible refine OutOK.done ?_ | refine thenQ_n ?_ | refine thenQ_r ?_ | refine thenQ_e ?_ | refine AW.seq ?_ | refine AW.reg tok (by simp [*]; rfl) ?_ | refine AW.ifB (by simp [*]; rfl) ?_ | refine IfG.t ?_ | refine IfG.f ?_ | (refine IfG.p (fun hg => ?_) (fun hg => ?_) <;> (try (have hg' := hg; simp at hg'))) | (refine IfG.n (fun hg => ?_) (fun hg => ?_) <;> (try (have hg' := hg; simp at hg'))) | (refine OutOK.gateP (fun hg => ?_) (fun hg => ?_) <;> (try (have hg' := hg; simp at hg'))) | (refine OutOK.gateN (fun hg => ?_) (fun hg => ?_) <;> (try (have hg' := hg; simp at hg'))) | (refine IfG.g (fun hg => ?_) (fun hg => ?_) <;> (try (have hg' := hg; simp at hg'))) | (refine OutOK.gate (fun hg => ?_) (fun hg => ?_) <;> (try (have hg' := hg; simp at hg'))) | refine OutOK.run (by simp [*]; rfl) ?_ | refine AW.ret ?_ | refine AW.skip ?_ | refine AW.exit ?_ | refine fin_r ?_ | refine fin_n ?_ | refine AW.block ?_ | refine blockQ_n ?_ | refine blockQ_r ?_ | refine blockQ_e ?_ | refine blockQ_o rfl ?_)
    exact ⟨q2, ⟨by ((try (clear e0)); (try (clear e1)); (try (clear e2)); (try (clear e3)); (try (clear e4)); (try (clear e5)); (try (clear e6)); (try (clear e7)); (try (clear e8)); (try (clear e9)); (try (clear e10)); (try (clear e11)); omega), by ((try (clear e0)); (try (clear e1)); (try (clear e2)); (try (clear e3)); (try (clear e4)); (try (clear e5)); (try (clear e6)); (try (clear e7)); (try (clear e8)); (try (clear e9)); (try (clear e10)); (try (clear e11)); omega)⟩, by simp [Try.f46]⟩
theorem x_laws_szEntryS (xs : List Ent) (l : Int) (h : xs.length ≤ 9223372036854775807) (hW : ∀ e ∈ xs, EntW e) (h0 : 0 ≤ l) (h1 : l ≤ 1048576) : ACallX Try.prog 33 [.v (.sl true 3 (ents xs)), int l] (fun r : Int => -1 ≤ r ∧ (0 ≤ r → xs.length ≤ 1048576)) (fun _ => [.x, .x]) (fun r => [int r]) := by
  have e1 : wrap64 (l - xs.length) = l - xs.length := w64 (by omega) (by omega)
  rcases Int.lt_or_le (l - xs.length) 0 with hn | hn
  · clear hW
    refine ACallX.of (N := 27) tok Try.func33 rfl rfl rfl (by simp) ?_
    repeat' (first | with_reducible refine OutOK.done ?_ | refine thenQ_n ?_ | refine thenQ_r ?_ | refine thenQ_e ?_ | refine AW.seq ?_ | refine AW.reg tok (by simp [*]; rfl) ?_ | refine AW.ifB (by simp [*]; rfl) ?_ | refine IfG.t ?_ | refine IfG.f ?_ | (refine IfG.p (fun hg => ?_) (fun hg => ?_) <;> (try (have hg' := hg; simp at hg'))) | (refine IfG.n (fun hg => ?_) (fun hg => ?_) <;> (try (have hg' := hg; simp at hg'))) | (refine OutOK.gateP (fun hg => ?_) (fun hg => ?_) <;> (try (have hg' := hg; simp at hg'))) | (refine OutOK.gateN (fun hg => ?_) (fun hg => ?_) <;> (try (have hg' := hg; simp at hg'))) | (refine IfG.g (fun hg => ?_) (fun hg => ?_) <;> (try (have hg' := hg; simp at hg'))) | (refine OutOK.gate (fun hg => ?_) (fun hg => ?_) <;> (try (have hg' := hg; simp at hg'))) | refine OutOK.run (by simp [*]; rfl) ?_ | refine AW.ret ?_ | refine AW.skip ?_ | refine AW.exit ?_ | refine fin_r ?_ | refine fin_n ?_ | refine AW.block ?_ | refine blockQ_n ?_ | refine blockQ_r ?_ | refine blockQ_e ?_ | refine blockQ_o rfl ?_)
    exact ⟨-1, ⟨by omega, by omega⟩, by simp [Try.f33]⟩
  have hn' : ¬ l - (xs.length : Int) < 0 := by ((try (clear e0)); (try (clear e1)); (try (clear e2)); (try (clear e3)); (try (clear e4)); (try (clear e5)); (try (clear e6)); (try (clear e7)); (try (clear e8)); (try (clear e9)); (try (clear e10)); (try (clear e11)); omega)
  have hxl : xs.length ≤ 1048576 := by ((try (clear e0)); (try (clear e1)); (try (clear e2)); (try (clear e3)); (try (clear e4)); (try (clear e5)); (try (clear e6)); (try (clear e7)); (try (clear e8)); (try (clear e9)); (try (clear e10)); (try (clear e11)); omega)
  have hW' : Hd _ := hW
  clear hW
  refine ACallX.of (N := 27) tok Try.func33 rfl rfl rfl (by simp) ?_
  repeat' (first | with_reducible refine OutOK.done ?_ | refine thenQ_n ?_ | refine thenQ_r ?_ | refine thenQ_e ?_ | refine AW.seq ?_ | refine AW.reg tok (by simp [*]; rfl) ?_ | refine AW.ifB (by simp [*]; rfl) ?_ | refine IfG.t ?_ | refine IfG.f ?_ | (refine IfG.p (fun hg => ?_) (fun hg => ?_) <;> (try (have hg' := hg; simp at hg'))) | (refine IfG.n (fun hg => ?_) (fun hg => ?_) <;> (try (have hg' := hg; simp at hg'))) | (refine OutOK.gateP (fun hg => ?_) (fun hg => ?_) <;> (try (have hg' := hg; simp at hg'))) | (refine OutOK.gateN (fun hg => ?_) (fun hg => ?_) <;> (try (have hg' := hg; simp at hg'))) | (refine IfG.g (fun hg => ?_) (fun hg => ?_) <;> (try (have hg' := hg; simp at hg'))) | (refine OutOK.gate (fun hg => ?_) (fun hg => ?_) <;> (try (have hg' := hg; simp at hg'))) | refine OutOK.run (by simp [*]; rfl) ?_ | refine AW.ret ?_ | refine AW.skip ?_ | refine AW.exit ?_ | refine fin_r ?_ | refine fin_n ?_ | refine AW.block ?_ | refine blockQ_n ?_ | refine blockQ_r ?_ | refine blockQ_e ?_ | refine blockQ_o rfl ?_)
  refine AW.loopL (α := Nat × Int) (fun p => p.1 ≤ xs.length ∧ (0 ≤ p.2 ∧ p.2 ≤ 1048576)) (fun p => [(0, .c (.sl true 3 (ents xs))), (1, .c (.sc (.int .i64 p.2))), (5, .c (.sc (.int .i64 (p.1 : Int))))]) (fun _ => []) (fun p => xs.length - p.1) (0, l - xs.length) ⟨Nat.zero_le _, hn, by simp only; ((try (clear e0)); (try (clear e1)); (try (clear e2)); (try (clear e3)); (try (clear e4)); (try (clear e5)); (try (clear e6)); (try (clear e7)); (try (clear e8)); (try (clear e9)); (try (clear e10)); (try (clear e11)); omega)⟩ ⟨by simp, by simp, by simp⟩ ?_
  rintro ⟨i, k⟩ ⟨hi, hk0, hk1⟩
  simp only at hi hk0 hk1
  clear e1 hn hn'
  rcases Nat.lt_or_ge i xs.length with hl | hl
  · have e2 : wrap64 ((i : Int) + 1) = ((i + 1 : Nat) : Int) := by rw [w64 (by omega) (by omega)]; omega
    have cz := x_laws_szEntry xs[i] k (hW'.out _ (List.getElem_mem hl)) hk0 hk1
    repeat' (first | with_reducible refine OutOK.done ?_ | refine thenQ_n ?_ | refine thenQ_r ?_ | refine thenQ_e ?_ | refine AW.seq ?_ | refine AW.reg tok (by simp [*]; rfl) ?_ | refine AW.ifB (by simp [*]; rfl) ?_ | refine IfG.t ?_ | refine IfG.f ?_ | (refine IfG.p (fun hg => ?_) (fun hg => ?_) <;> (try (have hg' := hg; simp at hg'))) | (refine IfG.n (fun hg => ?_) (fun hg => ?_) <;> (try (have hg' := hg; simp at hg'))) | (refine OutOK.gateP (fun hg => ?_) (fun hg => ?_) <;> (try (have hg' := hg; simp at hg'))) | (refine OutOK.gateN (fun hg => ?_) (fun hg => ?_) <;> (try (have hg' := hg; simp at hg'))) | (refine IfG.g (fun hg => ?_) (fun hg => ?_) <;> (try (have hg' := hg; simp at hg'))) | (refine OutOK.gate (fun hg => ?_) (fun hg => ?_) <;> (try (have hg' := hg; simp at hg'))) | refine OutOK.run (by simp [*]; rfl) ?_ | refine AW.ret ?_ | refine AW.skip ?_ | refine AW.exit ?_ | refine fin_r ?_ | refine fin_n ?_ | refine AW.block ?_ | refine blockQ_n ?_ | refine blockQ_r ?_ | refine blockQ_e ?_ | refine blockQ_o rfl ?_)
    refine OutOK.callX [] (by simp [*]; rfl) (by simp [*]; rfl) (by simp [*]; rfl) hb46 (by apply cz <;> first | assumption | exact Hd.out (by assumption) | ((try (clear e0)); (try (clear e1)); (try (clear e2)); (try (clear e3)); (try (clear e4)); (try (clear e5)); (try (clear e6)); (try (clear e7)); (try (clear e8)); (try (clear e9)); (try (clear e10)); (try (clear e11)); omega)) ⟨by simp [*], by simp [*], by simp [*]⟩ (by simp [*]) (fun x hx => ?_)
    obtain ⟨c1, c2⟩ := hx
    rcases Int.lt_or_le x 0 with hc | hc
    · clear c1 c2
      refine CallX.mk' ⟨by simp [*], by simp [*], by simp [*], by simp [*], by simp [*]⟩ (by simp [*]; rfl) ?_
      repeat' (first | with_reducible refine OutOK.done ?_ | refine thenQ_n ?_ | refine thenQ_r ?_ | refine thenQ_e ?_ | refine AW.seq ?_ | refine AW.reg tok (by simp [*]; rfl) ?_ | refine AW.ifB (by simp [*]; rfl) ?_ | refine IfG.t ?_ | refine IfG.f ?_ | (refine IfG.p (fun hg => ?_) (fun hg => ?_) <;> (try (have hg' := hg; simp at hg'))) | (refine IfG.n (fun hg => ?_) (fun hg => ?_) <;> (try (have hg' := hg; simp at hg'))) | (refine OutOK.gateP (fun hg => ?_) (fun hg => ?_) <;> (try (have hg' := hg; simp at hg'))) | (refine OutOK.gateN (fun hg => ?_) (fun hg => ?_) <;> (try (have hg' := hg; simp at hg'))) | (refine IfG.g (fun hg => ?_) (fun hg => ?_) <;> (try (have hg' := hg; simp at hg'))) | (refine OutOK.gate (fun hg => ?_) (fun hg => ?_) <;> (try (have hg' := hg; simp at hg'))) | refine OutOK.run (by simp [*]; rfl) ?_ | refine AW.ret ?_ | refine AW.skip ?_ | refine AW.exit ?_ | refine fin_r ?_ | refine fin_n ?_ | refine AW.block ?_ | refine blockQ_n ?_ | refine blockQ_r ?_ | refine blockQ_e ?_ | refine blockQ_o rfl ?_)
      exact ⟨-1, ⟨by omega, by omega⟩, by simp [Try.f33]⟩
    · have hc' : ¬ x < 0 := by ((try (clear e0)); (try (clear e1)); (try (clear e2)); (try (clear e3)); (try (clear e4)); (try (clear e5)); (try (clear e6)); (try (clear e7)); (try (clear e8)); (try (clear e9)); (try (clear e10)); (try (clear e11)); omega)
      refine CallX.mk' ⟨by simp [*], by simp [*], by simp [*], by simp [*], by simp [*]⟩ (by simp [*]; rfl) ?_
      repeat' (first | with_reducible refine OutOK.done ?_ | refine thenQ_n ?_ | refine thenQ_r ?_ | refine thenQ_e ?_ | refine AW.seq ?_ | refine AW.reg tok (by simp [*]; rfl) ?_ | refine AW.ifB (by simp [*]; rfl) ?_ | refine IfG.t ?_ | refine IfG.f ?_ | (refine IfG.p (fun hg => ?_) (fun hg => ?_) <;> (try (have hg' := hg; simp at hg'))) | (refine IfG.n (fun hg => ?_) (fun hg => ?_) <;> (try (have hg' := hg; simp at hg'))) | (refine OutOK.gateP (fun hg => ?_) (fun hg => ?_) <;> (try (have hg' := hg; simp at hg'))) | (refine OutOK.gateN (fun hg => ?_) (fun hg => ?_) <;> (try (have hg' := hg; simp at hg'))) | (refine IfG.g (fun hg => ?_) (fun hg => ?_) <;> (try (have hg' := hg; simp at hg'))) | (refine OutOK.gate (fun hg => ?_) (fun hg => ?_) <;> (try (have hg' := hg; simp at hg'))) | refine OutOK.run (by simp [*]; rfl) ?_ | refine AW.ret ?_ | refine AW.skip ?_ | refine AW.exit ?_ | refine fin_r ?_ | refine fin_n ?_ | refine AW.block ?_ | refine blockQ_n ?_ | refine blockQ_r ?_ | refine blockQ_e ?_ | refine blockQ_o rfl ?_)
      exact ⟨(i + 1, x), ⟨hl, hc, by simp only; ((try (clear e0)); (try (clear e1)); (try (clear e2)); (try (clear e3)); (try (clear e4)); (try (clear e5)); (try (clear e6)); (try (clear e7)); (try (clear e8)); (try (clear e9)); (try (clear e10)); (try (clear e11)); omega)⟩, ⟨by simp, by simp, by simp⟩, by simp only; ((try (clear e0)); (try (clear e1)); (try (clear e2)); (try (clear e3)); (try (clear e4)); (try (clear e5)); (try (clear e6)); (try (clear e7)); (try (clear e8)); (try (clear e9)); (try (clear e10)); (try (clear e11)); omega)⟩
  · have hnl : ¬ i < xs.length := by ((try (clear e0)); (try (clear e1)); (try (clear e2)); (try (clear e3)); (try (clear e4)); (try (clear e5)); (try (clear e6)); (try (clear e7)); (try (clear e8)); (try (clear e9)); (try (clear e10)); (try (clear e11)); omega)
    repeat' (first | with_reducible refine OutOK.done ?_ | refine thenQ_n ?_ | refine thenQ_r ?_ | refine thenQ_e ?_ | refine AW.seq ?_ | refine AW.reg tok (by simp [*]; rfl) ?_ | refine AW.ifB (by simp [*]; rfl) ?_ | refine IfG.t ?_ | refine IfG.f ?_ | (refine IfG.p (fun hg => ?_) (fun hg => ?_) <;> (try (have hg' := hg; simp at hg'))) | (refine IfG.n (fun hg => ?_) (fun hg => ?_) <;> (try (have hg' := hg; simp at hg'))) | (refine OutOK.gateP (fun hg => ?_) (fun hg => ?_) <;> (try (have hg' := hg; simp at hg'))) | (refine OutOK.gateN (fun hg => ?_) (fun hg => ?_) <;> (try (have hg' := hg; simp at hg'))) | (refine IfG.g (fun hg => ?_) (fun hg => ?_) <;> (try (have hg' := hg; simp at hg'))) | (refine OutOK.gate (fun hg => ?_) (fun hg => ?_) <;> (try (have hg' := hg; simp at hg'))) | refine OutOK.run (by simp [*]; rfl) ?_ | refine AW.ret ?_ | refine AW.skip ?_ | refine AW.exit ?_ | refine fin_r ?_ | refine fin_n ?_ | refine AW.block ?_ | refine blockQ_n ?_ | refine blockQ_r ?_ | refine blockQ_e ?_ | refine blockQ_o rfl ?_)
    exact ⟨k, ⟨by omega, fun _ => hxl⟩, by simp [Try.f33]⟩
def zE : Ent := ⟨0, ⟨#[]⟩, ⟨#[]⟩⟩
@[simp] theorem rep_ents (n : Nat) : List.replicate n (PV.ag [.sc (.int .i64 0), .sc (.string ⟨#[]⟩), .sc (.string ⟨#[]⟩)]) = ents (List.replicate n zE) := by simp [ents, els, zE]
theorem c_laws_toEntryS (xs : List Ent) (h : xs.length ≤ 1048576) : ACall Try.prog 35 [.v (.sl true 3 (ents xs))] [.x] [.v (.sl false 3 (ents xs))] := by
  have h1 : (xs.length : Int) * 40 ≤ 140737488355328 := by omega
  have h2 : (xs.length : Int) ≤ 4611686018427387904 := by omega
  refine ACall.of (N := 23) tok Try.func35 rfl rfl rfl (by simp) ?_
  repeat' (first | with_reducible refine OutOK.done ?_ | refine thenQ_n ?_ | refine thenQ_r ?_ | refine thenQ_e ?_ | refine AW.seq ?_ | refine AW.reg tok (by simp [*]; rfl) ?_ | refine AW.ifB (by simp [*]; rfl) ?_ | refine IfG.t ?_ | refine IfG.f ?_ | (refine IfG.p (fun hg => ?_) (fun hg => ?_) <;> (try (have hg' := hg; simp at hg'))) | (refine IfG.n (fun hg => ?_) (fun hg => ?_) <;> (try (have hg' := hg; simp at hg'))) | (refine OutOK.gateP (fun hg => ?_) (fun hg => ?_) <;> (try (have hg' := hg; simp at hg'))) | (refine OutOK.gateN (fun hg => ?_) (fun hg => ?_) <;> (try (have hg' := hg; simp at hg'))) | (refine IfG.g (fun hg => ?_) (fun hg => ?_) <;> (try (have hg' := hg; simp at hg'))) | (refine OutOK.gate (fun hg => ?_) (fun hg => ?_) <;> (try (have hg' := hg; simp at hg'))) | (refine OutOK.callF [] (by simp [*]; rfl) (by simp [*]; rfl) (by simp [*]; rfl) hb48 (by apply c_laws_toEntry <;> first | assumption | exact Hd.out (by assumption) | ((try (clear e0)); (try (clear e1)); (try (clear e2)); (try (clear e3)); (try (clear e4)); (try (clear e5)); (try (clear e6)); (try (clear e7)); (try (clear e8)); (try (clear e9)); (try (clear e10)); (try (clear e11)); omega)) ⟨by simp [*], by simp [*], by simp [*], by simp [*], by simp [*]⟩ (by simp [*]) (by simp [*]; rfl) ?_) | refine OutOK.run (by simp [*]; rfl) ?_ | refine AW.ret ?_ | refine AW.skip ?_ | refine AW.exit ?_ | refine fin_r ?_ | refine fin_n ?_ | refine AW.block ?_ | refine blockQ_n ?_ | refine blockQ_r ?_ | refine blockQ_e ?_ | refine blockQ_o rfl ?_)
  refine AW.loopL (fun i => i ≤ xs.length) (fun i => [(0, .c (.sl true 3 (ents xs))), (3, .rf 7000 []), (4, .c (.sc (.int .i64 (i : Int))))]) (fun i => [(7000, .sv (.sl false 3 (ents (copied zE xs i))))]) (fun i => xs.length - i) 0 (Nat.zero_le _) ⟨by simp, by simp [copied_zero], by simp⟩ ?_
  intro i hi
  rcases Nat.lt_or_ge i xs.length with hl | hl
  · have e1 : wrap64 ((i : Int) + 1) = (i : Int) + 1 := w64 (by omega) (by omega)
    repeat' (first | with_reducible refine OutOK.done ?_ | refine thenQ_n ?_ | refine thenQ_r ?_ | refine thenQ_e ?_ | refine AW.seq ?_ | refine AW.reg tok (by simp [*]; rfl) ?_ | refine AW.ifB (by simp [*]; rfl) ?_ | refine IfG.t ?_ | refine IfG.f ?_ | (refine IfG.p (fun hg => ?_) (fun hg => ?_) <;> (try (have hg' := hg; simp at hg'))) | (refine IfG.n (fun hg => ?_) (fun hg => ?_) <;> (try (have hg' := hg; simp at hg'))) | (refine OutOK.gateP (fun hg => ?_) (fun hg => ?_) <;> (try (have hg' := hg; simp at hg'))) | (refine OutOK.gateN (fun hg => ?_) (fun hg => ?_) <;> (try (have hg' := hg; simp at hg'))) | (refine IfG.g (fun hg => ?_) (fun hg => ?_) <;> (try (have hg' := hg; simp at hg'))) | (refine OutOK.gate (fun hg => ?_) (fun hg => ?_) <;> (try (have hg' := hg; simp at hg'))) | (refine OutOK.callF [] (by simp [*]; rfl) (by simp [*]; rfl) (by simp [*]; rfl) hb48 (by apply c_laws_toEntry <;> first | assumption | exact Hd.out (by assumption) | ((try (clear e0)); (try (clear e1)); (try (clear e2)); (try (clear e3)); (try (clear e4)); (try (clear e5)); (try (clear e6)); (try (clear e7)); (try (clear e8)); (try (clear e9)); (try (clear e10)); (try (clear e11)); omega)) ⟨by simp [*], by simp [*], by simp [*], by simp [*], by simp [*]⟩ (by simp [*]) (by simp [*]; rfl) ?_) | refine OutOK.run (by simp [*]; rfl) ?_ | refine AW.ret ?_ | refine AW.skip ?_ | refine AW.exit ?_ | refine fin_r ?_ | refine fin_n ?_ | refine AW.block ?_ | refine blockQ_n ?_ | refine blockQ_r ?_ | refine blockQ_e ?_ | refine blockQ_o rfl ?_)
    refine ⟨i + 1, by clear e1; omega, ⟨by simp [e1], ?_, by simp⟩, by clear e1; omega⟩
    have := copied_step zE xs i hl
    simp [← this]
  · have hn : ¬ i < xs.length := by omega
    have hc := copied_all zE xs i hl
    repeat' (first | with_reducible refine OutOK.done ?_ | refine thenQ_n ?_ | refine thenQ_r ?_ | refine thenQ_e ?_ | refine AW.seq ?_ | refine AW.reg tok (by simp [*]; rfl) ?_ | refine AW.ifB (by simp [*]; rfl) ?_ | refine IfG.t ?_ | refine IfG.f ?_ | (refine IfG.p (fun hg => ?_) (fun hg => ?_) <;> (try (have hg' := hg; simp at hg'))) | (refine IfG.n (fun hg => ?_) (fun hg => ?_) <;> (try (have hg' := hg; simp at hg'))) | (refine OutOK.gateP (fun hg => ?_) (fun hg => ?_) <;> (try (have hg' := hg; simp at hg'))) | (refine OutOK.gateN (fun hg => ?_) (fun hg => ?_) <;> (try (have hg' := hg; simp at hg'))) | (refine IfG.g (fun hg => ?_) (fun hg => ?_) <;> (try (have hg' := hg; simp at hg'))) | (refine OutOK.gate (fun hg => ?_) (fun hg => ?_) <;> (try (have hg' := hg; simp at hg'))) | (refine OutOK.callF [] (by simp [*]; rfl) (by simp [*]; rfl) (by simp [*]; rfl) hb48 (by apply c_laws_toEntry <;> first | assumption | exact Hd.out (by assumption) | ((try (clear e0)); (try (clear e1)); (try (clear e2)); (try (clear e3)); (try (clear e4)); (try (clear e5)); (try (clear e6)); (try (clear e7)); (try (clear e8)); (try (clear e9)); (try (clear e10)); (try (clear e11)); omega)) ⟨by simp [*], by simp [*], by simp [*], by simp [*], by simp [*]⟩ (by simp [*]) (by simp [*]; rfl) ?_) | refine OutOK.run (by simp [*]; rfl) ?_ | refine AW.ret ?_ | refine AW.skip ?_ | refine AW.exit ?_ | refine fin_r ?_ | refine fin_n ?_ | refine AW.block ?_ | refine blockQ_n ?_ | refine blockQ_r ?_ | refine blockQ_e ?_ | refine blockQ_o rfl ?_)
    simp [Try.f35, hc]
theorem c_laws_markEntryS (l : List Ent) (k : Nat) (h : l.length ≤ 1048576) (h1 : 0 < k) (h2 : k ≤ 100000000) : ACall Try.prog 42 [.v (.sl false 3 (ents l)), int k] [.x, .x] [int ((k + 3 * l.length : Nat) : Int)] := by
  refine ACall.of (N := 36) tok Try.func42 rfl rfl rfl (by simp) ?_
  repeat' (first | with_reducible refine OutOK.done ?_ | refine thenQ_n ?_ | refine thenQ_r ?_ | refine thenQ_e ?_ | refine AW.seq ?_ | refine AW.reg tok (by simp [*]; rfl) ?_ | refine AW.ifB (by simp [*]; rfl) ?_ | refine IfG.t ?_ | refine IfG.f ?_ | (refine IfG.p (fun hg => ?_) (fun hg => ?_) <;> (try (have hg' := hg; simp at hg'))) | (refine IfG.n (fun hg => ?_) (fun hg => ?_) <;> (try (have hg' := hg; simp at hg'))) | (refine OutOK.gateP (fun hg => ?_) (fun hg => ?_) <;> (try (have hg' := hg; simp at hg'))) | (refine OutOK.gateN (fun hg => ?_) (fun hg => ?_) <;> (try (have hg' := hg; simp at hg'))) | (refine IfG.g (fun hg => ?_) (fun hg => ?_) <;> (try (have hg' := hg; simp at hg'))) | (refine OutOK.gate (fun hg => ?_) (fun hg => ?_) <;> (try (have hg' := hg; simp at hg'))) | (refine OutOK.callF [] (by simp [*]; rfl) (by simp [*]; rfl) (by simp [*]; rfl) hb87 (by apply c_laws_markText <;> first | assumption | exact Hd.out (by assumption) | ((try (clear e0)); (try (clear e1)); (try (clear e2)); (try (clear e3)); (try (clear e4)); (try (clear e5)); (try (clear e6)); (try (clear e7)); (try (clear e8)); (try (clear e9)); (try (clear e10)); (try (clear e11)); omega)) ⟨by simp [*], by simp [*], by simp [*], by simp [*], by simp [*]⟩ (by simp [*]) (by simp [*]; rfl) ?_) | refine OutOK.run (by simp [*]; rfl) ?_ | refine AW.ret ?_ | refine AW.skip ?_ | refine AW.exit ?_ | refine fin_r ?_ | refine fin_n ?_ | refine AW.block ?_ | refine blockQ_n ?_ | refine blockQ_r ?_ | refine blockQ_e ?_ | refine blockQ_o rfl ?_)
  refine AW.loopL (α := Nat × List Ent) (fun q => q.1 ≤ l.length ∧ Hd (q.2.length = l.length)) (fun q => [(0, .rf 100000000 []), (1, .c (.sc (.int .i64 ((k + 3 * q.1 : Nat) : Int)))), (5, .c (.sc (.int .i64 (q.1 : Int))))]) (fun q => [(100000000, .sv (.sl false 3 (ents q.2)))]) (fun q => l.length - q.1) (0, l) ⟨Nat.zero_le _, rfl⟩ ⟨by simp, by simp, by simp⟩ ?_
  rintro ⟨i, m⟩ ⟨hi, hml⟩
  simp only at hi hml
  rcases Nat.lt_or_ge i l.length with hl | hl
  · have hlm : i < m.length := by have := hml.out; omega
    have e1 : wrap64 ((i : Int) + 1) = ((i + 1 : Nat) : Int) := by rw [w64 (by omega) (by omega)]; omega
    obtain ⟨K, hK⟩ : ∃ K, K = k + 3 * i := ⟨_, rfl⟩
    rw [← hK]
    obtain ⟨a, b, c, hE, q1, q2, q3, z1, z2, z3, z4⟩ : ∃ a b c : Nat, Hd (c = K + 3) ∧ wrap64 ((K : Int) + 1) = a ∧ wrap64 ((a : Int) + 1) = b ∧ wrap64 ((b : Int) + 1) = c ∧ a ≠ 0 ∧ a ≤ 1000000000000 ∧ b ≠ 0 ∧ b ≤ 1000000000000 := by
      refine ⟨K + 1, K + 2, K + 3, rfl, ?_, ?_, ?_, by omega, by omega, by omega, by omega⟩
      all_goals (rw [w64 (by omega) (by omega)]; omega)
    have hK' : Hd (K = k + 3 * i) := hK
    clear hK
    repeat' (first | with_reducible refine OutOK.done ?_ | refine thenQ_n ?_ | refine thenQ_r ?_ | refine thenQ_e ?_ | refine AW.seq ?_ | refine AW.reg tok (by simp [*]; rfl) ?_ | refine AW.ifB (by simp [*]; rfl) ?_ | refine IfG.t ?_ | refine IfG.f ?_ | (refine IfG.p (fun hg => ?_) (fun hg => ?_) <;> (try (have hg' := hg; simp at hg'))) | (refine IfG.n (fun hg => ?_) (fun hg => ?_) <;> (try (have hg' := hg; simp at hg'))) | (refine OutOK.gateP (fun hg => ?_) (fun hg => ?_) <;> (try (have hg' := hg; simp at hg'))) | (refine OutOK.gateN (fun hg => ?_) (fun hg => ?_) <;> (try (have hg' := hg; simp at hg'))) | (refine IfG.g (fun hg => ?_) (fun hg => ?_) <;> (try (have hg' := hg; simp at hg'))) | (refine OutOK.gate (fun hg => ?_) (fun hg => ?_) <;> (try (have hg' := hg; simp at hg'))) | (refine OutOK.callF [] (by simp [*]; rfl) (by simp [*]; rfl) (by simp [*]; rfl) hb87 (by apply c_laws_markText <;> first | assumption | exact Hd.out (by assumption) | ((try (clear e0)); (try (clear e1)); (try (clear e2)); (try (clear e3)); (try (clear e4)); (try (clear e5)); (try (clear e6)); (try (clear e7)); (try (clear e8)); (try (clear e9)); (try (clear e10)); (try (clear e11)); omega)) ⟨by simp [*], by simp [*], by simp [*], by simp [*], by simp [*]⟩ (by simp [*]) (by simp [*]; rfl) ?_) | refine OutOK.run (by simp [*]; rfl) ?_ | refine AW.ret ?_ | refine AW.skip ?_ | refine AW.exit ?_ | refine fin_r ?_ | refine fin_n ?_ | refine AW.block ?_ | refine blockQ_n ?_ | refine blockQ_r ?_ | refine blockQ_e ?_ | refine blockQ_o rfl ?_)
    have r := hE.out
    have hk := hK'.out
    exact ⟨(i + 1, m.set i ⟨K, ⟨#[109]⟩ ++ figs a ⟨#[]⟩, ⟨#[109]⟩ ++ figs b ⟨#[]⟩⟩), ⟨hl, by rw [Hd, List.length_set]; exact hml.out⟩, ⟨by simp; clear e1 q1 q2 q3; omega, by simp, by simp⟩, by clear e1 q1 q2 q3; simp only; omega⟩
  · have hn : i = l.length := by omega
    subst hn
    have hlm : ¬ l.length < m.length := by have := hml.out; omega
    have hml' := hml.out
    repeat' (first | with_reducible refine OutOK.done ?_ | refine thenQ_n ?_ | refine thenQ_r ?_ | refine thenQ_e ?_ | refine AW.seq ?_ | refine AW.reg tok (by simp [*]; rfl) ?_ | refine AW.ifB (by simp [*]; rfl) ?_ | refine IfG.t ?_ | refine IfG.f ?_ | (refine IfG.p (fun hg => ?_) (fun hg => ?_) <;> (try (have hg' := hg; simp at hg'))) | (refine IfG.n (fun hg => ?_) (fun hg => ?_) <;> (try (have hg' := hg; simp at hg'))) | (refine OutOK.gateP (fun hg => ?_) (fun hg => ?_) <;> (try (have hg' := hg; simp at hg'))) | (refine OutOK.gateN (fun hg => ?_) (fun hg => ?_) <;> (try (have hg' := hg; simp at hg'))) | (refine IfG.g (fun hg => ?_) (fun hg => ?_) <;> (try (have hg' := hg; simp at hg'))) | (refine OutOK.gate (fun hg => ?_) (fun hg => ?_) <;> (try (have hg' := hg; simp at hg'))) | (refine OutOK.callF [] (by simp [*]; rfl) (by simp [*]; rfl) (by simp [*]; rfl) hb87 (by apply c_laws_markText <;> first | assumption | exact Hd.out (by assumption) | ((try (clear e0)); (try (clear e1)); (try (clear e2)); (try (clear e3)); (try (clear e4)); (try (clear e5)); (try (clear e6)); (try (clear e7)); (try (clear e8)); (try (clear e9)); (try (clear e10)); (try (clear e11)); omega)) ⟨by simp [*], by simp [*], by simp [*], by simp [*], by simp [*]⟩ (by simp [*]) (by simp [*]; rfl) ?_) | refine OutOK.run (by simp [*]; rfl) ?_ | refine AW.ret ?_ | refine AW.skip ?_ | refine AW.exit ?_ | refine fin_r ?_ | refine fin_n ?_ | refine AW.block ?_ | refine blockQ_n ?_ | refine blockQ_r ?_ | refine blockQ_e ?_ | refine blockQ_o rfl ?_)
    simp [Try.f42]
end Go.Proofs.Ytodombkmnnggeaa.EngS

