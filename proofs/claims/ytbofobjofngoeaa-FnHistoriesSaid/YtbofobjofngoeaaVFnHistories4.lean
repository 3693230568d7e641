-- Written by this session's texts and program for this claim. Lean checks it.
import Derived.Test.YtbofobjofngoeaaVFnHistories3
set_option autoImplicit true
set_option relaxedAutoImplicit true
set_option linter.unusedSimpArgs false
set_option linter.unusedVariables false
set_option maxHeartbeats 4000000
set_option maxRecDepth 100000
namespace Go.Proofs.Ytbofobjofngoeaa.EngS
open Go Go.Proofs Go.Eng Go.RowKit
attribute [local irreducible] Go.RowKit.wrap64
def KnB (l : List Edt) (e : Edt) (t m : Nat) : Prop := ∃ k, ∃ hk : k < l.length, fndE l t m = (k : Int) ∧ ¬ ((¬ (t : Int) = e.tm ∨ ¬ (m : Int) = e.ct) ∧ e.ct ≤ ckAt l[k].ck e.tm) ∧ noGr l[k].ck e.ck = true
def KnT (l : List Edt) (e : Edt) (t : Nat) : Prop := inR 0 l.length (ckAt e.ck t) = true ∧ ∀ m : Nat, 1 ≤ m → (m : Int) ≤ ckAt e.ck t → KnB l e t m
def Kn (l : List Edt) (e : Edt) : Prop := ∀ t, t < e.ck.length → KnT l e t
def KuQ (l : List Edt) (TT : Nat) (ct : Int) (ck : List Int) (it tx : ByteArray) (t m k u : Nat) (e : Exit) (st : St) : Prop :=
  (e = .ret ∧ ck[u]?.getD 0 < ((l[k]?.getD default).ck)[u]?.getD 0 ∧ FinP EngS.T Try.f118.results.toList [.v (.sl true 5 (edts true l)), edtD ⟨(TT : Nat), ct, ck, it, tx⟩] [.x, .x] [boo false] st) ∨
  (e = .normal ∧ ¬ ck[u]?.getD 0 < ((l[k]?.getD default).ck)[u]?.getD 0 ∧ LessL st [(0, .c (.sl true 5 (edts true l))), (3, .pt 3000 [] 0), (5, .c (.sc (.int .i64 (t : Int)))), (6, .c (.sc (.int .i64 (m : Int)))), (7, .c (.sc (.int .i64 (k : Int)))), (8, .c (.sc (.int .i64 ((u + 1 : Nat) : Int))))] [(3000, .bx (edtC true ⟨(TT : Nat), ct, ck, it, tx⟩))])
theorem w_knU (l : List Edt) (TT : Nat) (ct : Int) (ck : List Int) (it tx : ByteArray) (t m k u : Nat) (hk : k < l.length) (hl : l.length ≤ 24) (hu : u < ck.length) (hck : ck.length ≤ 3) (hkk : l[k].ck.length = ck.length) : AW Try.prog 85 (cAt Try.f118 [2, 1, 2, 5, 7, 2, 1, 5, 2, 2, 5, 7, 2, 1, 5, 2, 2, 2, 2, 5, 7]) (mk [(0, .c (.sl true 5 (edts true l))), (3, .pt 3000 [] 0), (5, .c (.sc (.int .i64 (t : Int)))), (6, .c (.sc (.int .i64 (m : Int)))), (7, .c (.sc (.int .i64 (k : Int)))), (8, .c (.sc (.int .i64 (u : Int))))] [(3000, .bx (edtC true ⟨(TT : Nat), ct, ck, it, tx⟩))]) (KuQ l TT ct ck it tx t m k u) := by
  have e3 : wrap64 ((u : Int) + 1) = ((u + 1 : Nat) : Int) := by rw [w64 (by omega) (by omega)]; omega
  have huk : u < l[k].ck.length := by omega
  have h1 : Hd (ck[u]?.getD 0 = ck[u]) := by simp [Hd, hu]
  have h2 : Hd (((l[k]?.getD default).ck)[u]?.getD 0 = l[k].ck[u]) := by simp [Hd, hk, huk]
  by_cases hg0 : ck[u] < l[k].ck[u]
  · repeat' (first | with_reducible refine OutOK.done ?_ | refine thenQ_n ?_ | refine thenQ_r ?_ | refine thenQ_e ?_ | refine AW.seq ?_ | refine AW.dreg tok mixed [17, 21]  [(0, false), (1, false), (2, false), (3, false), (4, false), (5, false), (6, false), (7, false), (8, false), (9, false), (10, false), (11, false), (12, false), (13, false), (14, false), (16, false), (20, false), (15, false), (17, true), (18, false), (19, false), (21, true), (22, false), (23, false)] (by decide +kernel) rfl (by simp [*]; rfl) ?_ | refine AW.dreg tok mixed [9, 11, 12]  [(0, false), (1, false), (2, false), (3, false), (5, false), (8, false), (10, false), (4, false), (6, false), (7, false), (9, true), (11, true), (12, true), (13, false)] (by decide +kernel) rfl (by simp [*]; rfl) ?_ | refine AW.reg tok (by simp [*]; rfl) ?_ | refine AW.ifB (by simp [*]; rfl) ?_ | refine IfG.t ?_ | refine IfG.f ?_ | ((first | refine IfG.p (fun hg => ?_) (fun hg => ?_) | refine IfG.n (fun hg => ?_) (fun hg => ?_) | refine OutOK.gateP (fun hg => ?_) (fun hg => ?_) | refine OutOK.gateN (fun hg => ?_) (fun hg => ?_) | refine IfG.g (fun hg => ?_) (fun hg => ?_) | refine OutOK.gate (fun hg => ?_) (fun hg => ?_)) <;> (try (have hg' := hg; simp at hg'))) | refine OutOK.run (by simp [*]; rfl) ?_ | refine AW.ret ?_ | refine AW.skip ?_ | refine AW.exit ?_ | refine fin_r ?_ | refine fin_n ?_ | refine AW.block ?_ | refine blockQ_n ?_ | refine blockQ_r ?_ | refine blockQ_e ?_ | refine blockQ_o rfl ?_)
    exact .inl ⟨rfl, by rw [h1.out, h2.out]; exact hg0, by simp [Try.f118]⟩
  · repeat' (first | with_reducible refine OutOK.done ?_ | refine thenQ_n ?_ | refine thenQ_r ?_ | refine thenQ_e ?_ | refine AW.seq ?_ | refine AW.dreg tok mixed [17, 21]  [(0, false), (1, false), (2, false), (3, false), (4, false), (5, false), (6, false), (7, false), (8, false), (9, false), (10, false), (11, false), (12, false), (13, false), (14, false), (16, false), (20, false), (15, false), (17, true), (18, false), (19, false), (21, true), (22, false), (23, false)] (by decide +kernel) rfl (by simp [*]; rfl) ?_ | refine AW.dreg tok mixed [9, 11, 12]  [(0, false), (1, false), (2, false), (3, false), (5, false), (8, false), (10, false), (4, false), (6, false), (7, false), (9, true), (11, true), (12, true), (13, false)] (by decide +kernel) rfl (by simp [*]; rfl) ?_ | refine AW.reg tok (by simp [*]; rfl) ?_ | refine AW.ifB (by simp [*]; rfl) ?_ | refine IfG.t ?_ | refine IfG.f ?_ | ((first | refine IfG.p (fun hg => ?_) (fun hg => ?_) | refine IfG.n (fun hg => ?_) (fun hg => ?_) | refine OutOK.gateP (fun hg => ?_) (fun hg => ?_) | refine OutOK.gateN (fun hg => ?_) (fun hg => ?_) | refine IfG.g (fun hg => ?_) (fun hg => ?_) | refine OutOK.gate (fun hg => ?_) (fun hg => ?_)) <;> (try (have hg' := hg; simp at hg'))) | refine OutOK.run (by simp [*]; rfl) ?_ | refine AW.ret ?_ | refine AW.skip ?_ | refine AW.exit ?_ | refine fin_r ?_ | refine fin_n ?_ | refine AW.block ?_ | refine blockQ_n ?_ | refine blockQ_r ?_ | refine blockQ_e ?_ | refine blockQ_o rfl ?_)
    exact .inr ⟨rfl, by rw [h1.out, h2.out]; exact hg0, by simp, by simp, by simp⟩
def KmQ (l : List Edt) (TT : Nat) (ct : Int) (ck : List Int) (it tx : ByteArray) (t m : Nat) (e : Exit) (st : St) : Prop :=
  (e = .ret ∧ ¬ KnB l ⟨(TT : Nat), ct, ck, it, tx⟩ t m ∧ FinP EngS.T Try.f118.results.toList [.v (.sl true 5 (edts true l)), edtD ⟨(TT : Nat), ct, ck, it, tx⟩] [.x, .x] [boo false] st) ∨
  (e = .normal ∧ KnB l ⟨(TT : Nat), ct, ck, it, tx⟩ t m ∧ LessL st [(0, .c (.sl true 5 (edts true l))), (3, .pt 3000 [] 0), (5, .c (.sc (.int .i64 (t : Int)))), (6, .c (.sc (.int .i64 ((m + 1 : Nat) : Int))))] [(3000, .bx (edtC true ⟨(TT : Nat), ct, ck, it, tx⟩))])
theorem w_knM0 (l : List Edt) (TT : Nat) (ct : Int) (ck : List Int) (it tx : ByteArray) (t m : Nat) (hl : l.length ≤ 24) (hck : ck.length ≤ 3) (ht : t < ck.length) (hTl : TT < ck.length) (hcl : ∀ k (hk : k < l.length), l[k].ck.length = ck.length) (m1 : 1 ≤ m) (m2 : m ≤ 24) (hml : (m : Int) ≤ ck[t]) (hf : fndE l t m < 0) : AW Try.prog 85 (cAt Try.f118 [2, 1, 2, 5, 7, 2, 1, 5, 2, 2, 5, 7]) (mk [(0, .c (.sl true 5 (edts true l))), (3, .pt 3000 [] 0), (5, .c (.sc (.int .i64 (t : Int)))), (6, .c (.sc (.int .i64 (m : Int))))] [(3000, .bx (edtC true ⟨(TT : Nat), ct, ck, it, tx⟩))]) (KmQ l TT ct ck it tx t m) := by
  have cf := c_spec_l22Find l t m (by omega)
  have hb : ¬ KnB l ⟨(TT : Nat), ct, ck, it, tx⟩ t m := fun hk => by obtain ⟨k, _, hk2, _⟩ := hk; omega
  replace hb : Hd _ := hb
  generalize fndE l t m = F at *
  clear hcl
  repeat' (first | with_reducible refine OutOK.done ?_ | refine thenQ_n ?_ | refine thenQ_r ?_ | refine thenQ_e ?_ | refine AW.seq ?_ | refine AW.dreg tok mixed [17, 21]  [(0, false), (1, false), (2, false), (3, false), (4, false), (5, false), (6, false), (7, false), (8, false), (9, false), (10, false), (11, false), (12, false), (13, false), (14, false), (16, false), (20, false), (15, false), (17, true), (18, false), (19, false), (21, true), (22, false), (23, false)] (by decide +kernel) rfl (by simp [*]; rfl) ?_ | refine AW.dreg tok mixed [9, 11, 12]  [(0, false), (1, false), (2, false), (3, false), (5, false), (8, false), (10, false), (4, false), (6, false), (7, false), (9, true), (11, true), (12, true), (13, false)] (by decide +kernel) rfl (by simp [*]; rfl) ?_ | refine AW.reg tok (by simp [*]; rfl) ?_ | refine AW.ifB (by simp [*]; rfl) ?_ | refine IfG.t ?_ | refine IfG.f ?_ | ((first | refine IfG.p (fun hg => ?_) (fun hg => ?_) | refine IfG.n (fun hg => ?_) (fun hg => ?_) | refine OutOK.gateP (fun hg => ?_) (fun hg => ?_) | refine OutOK.gateN (fun hg => ?_) (fun hg => ?_) | refine IfG.g (fun hg => ?_) (fun hg => ?_) | refine OutOK.gate (fun hg => ?_) (fun hg => ?_)) <;> (try (have hg' := hg; simp at hg'))) | (refine OutOK.callF [] (by simp [*]; rfl) (by simp [*]; rfl) (by simp [*]; rfl) hb89 (by apply cf <;> first | assumption | exact Hd.out (by assumption) | omega) ⟨by simp [*], by simp [*], by simp [*], by simp [*], by simp [*]⟩ (by simp [*]) (by simp [*]; rfl) ?_) | refine OutOK.run (by simp [*]; rfl) ?_ | refine AW.ret ?_ | refine AW.skip ?_ | refine AW.exit ?_ | refine fin_r ?_ | refine fin_n ?_ | refine AW.block ?_ | refine blockQ_n ?_ | refine blockQ_r ?_ | refine blockQ_e ?_ | refine blockQ_o rfl ?_)
  exact .inl ⟨rfl, hb.out, by simp [Try.f118]⟩
theorem w_knM1 (l : List Edt) (TT : Nat) (ct : Int) (ck : List Int) (it tx : ByteArray) (t m : Nat) (hl : l.length ≤ 24) (hck : ck.length ≤ 3) (ht : t < ck.length) (hTl : TT < ck.length) (hcl : ∀ k (hk : k < l.length), l[k].ck.length = ck.length) (m1 : 1 ≤ m) (m2 : m ≤ 24) (hml : (m : Int) ≤ ck[t]) (k : Nat) (hkl : k < l.length) (hf : fndE l t m = (k : Int)) (b1 : ¬ t = TT) (b2 : ct ≤ l[k].ck[TT]?.getD 0) : AW Try.prog 85 (cAt Try.f118 [2, 1, 2, 5, 7, 2, 1, 5, 2, 2, 5, 7]) (mk [(0, .c (.sl true 5 (edts true l))), (3, .pt 3000 [] 0), (5, .c (.sc (.int .i64 (t : Int)))), (6, .c (.sc (.int .i64 (m : Int))))] [(3000, .bx (edtC true ⟨(TT : Nat), ct, ck, it, tx⟩))]) (KmQ l TT ct ck it tx t m) := by
  have cf := c_spec_l22Find l t m (by omega)
  rw [hf] at cf
  have hf' : Hd _ := hf
  clear hf
  have hkk := hcl k hkl
  have hTk : TT < l[k].ck.length := by omega
  have hcT : Hd (ckAt l[k].ck (TT : Int) = l[k].ck[TT]) := by simp [Hd, ckAt, hTk]
  have hkn : ¬ (k : Int) < 0 := by omega
  have hge : l[k].ck[TT]?.getD 0 = l[k].ck[TT] := by simp [hTk]
  have hTT : (t : Int) = TT ↔ t = TT := by omega
  have e2 : wrap64 ((m : Int) + 1) = ((m + 1 : Nat) : Int) := by rw [w64 (by omega) (by omega)]; omega
  clear hcl
  have hb : ¬ KnB l ⟨(TT : Nat), ct, ck, it, tx⟩ t m := fun hk => by
    obtain ⟨k', hk', hk2, hk3, _⟩ := hk
    rw [hf'.out] at hk2
    have : k' = k := by omega
    subst this
    simp only [hcT.out] at hk3
    exact hk3 ⟨by omega, by rw [← hge]; exact b2⟩
  replace hb : Hd _ := hb
  rw [hge] at b2
  clear hTT hge
  have hTT : ¬ (t : Int) = TT := by omega
  repeat' (first | with_reducible refine OutOK.done ?_ | refine thenQ_n ?_ | refine thenQ_r ?_ | refine thenQ_e ?_ | refine AW.seq ?_ | refine AW.dreg tok mixed [17, 21]  [(0, false), (1, false), (2, false), (3, false), (4, false), (5, false), (6, false), (7, false), (8, false), (9, false), (10, false), (11, false), (12, false), (13, false), (14, false), (16, false), (20, false), (15, false), (17, true), (18, false), (19, false), (21, true), (22, false), (23, false)] (by decide +kernel) rfl (by simp [*]; rfl) ?_ | refine AW.dreg tok mixed [9, 11, 12]  [(0, false), (1, false), (2, false), (3, false), (5, false), (8, false), (10, false), (4, false), (6, false), (7, false), (9, true), (11, true), (12, true), (13, false)] (by decide +kernel) rfl (by simp [*]; rfl) ?_ | refine AW.reg tok (by simp [*]; rfl) ?_ | refine AW.ifB (by simp [*]; rfl) ?_ | refine IfG.t ?_ | refine IfG.f ?_ | ((first | refine IfG.p (fun hg => ?_) (fun hg => ?_) | refine IfG.n (fun hg => ?_) (fun hg => ?_) | refine OutOK.gateP (fun hg => ?_) (fun hg => ?_) | refine OutOK.gateN (fun hg => ?_) (fun hg => ?_) | refine IfG.g (fun hg => ?_) (fun hg => ?_) | refine OutOK.gate (fun hg => ?_) (fun hg => ?_)) <;> (try (have hg' := hg; simp at hg'))) | (refine OutOK.callF [] (by simp [*]; rfl) (by simp [*]; rfl) (by simp [*]; rfl) hb89 (by apply cf <;> first | assumption | exact Hd.out (by assumption) | ((try clear e2); omega)) ⟨by simp [*], by simp [*], by simp [*], by simp [*], by simp [*]⟩ (by simp [*]) (by simp [*]; rfl) ?_) | refine OutOK.run (by simp [*]; rfl) ?_ | refine AW.ret ?_ | refine AW.skip ?_ | refine AW.exit ?_ | refine fin_r ?_ | refine fin_n ?_ | refine AW.block ?_ | refine blockQ_n ?_ | refine blockQ_r ?_ | refine blockQ_e ?_ | refine blockQ_o rfl ?_)
  exact .inl ⟨rfl, hb.out, by simp [Try.f118]⟩
theorem w_knM2 (l : List Edt) (TT : Nat) (ct : Int) (ck : List Int) (it tx : ByteArray) (t m : Nat) (hl : l.length ≤ 24) (hck : ck.length ≤ 3) (ht : t < ck.length) (hTl : TT < ck.length) (hcl : ∀ k (hk : k < l.length), l[k].ck.length = ck.length) (m1 : 1 ≤ m) (m2 : m ≤ 24) (hml : (m : Int) ≤ ck[t]) (k : Nat) (hkl : k < l.length) (hf : fndE l t m = (k : Int)) (b1 : t = TT ∧ ¬ (m : Int) = ct) (b2 : ct ≤ l[k].ck[TT]?.getD 0) : AW Try.prog 85 (cAt Try.f118 [2, 1, 2, 5, 7, 2, 1, 5, 2, 2, 5, 7]) (mk [(0, .c (.sl true 5 (edts true l))), (3, .pt 3000 [] 0), (5, .c (.sc (.int .i64 (t : Int)))), (6, .c (.sc (.int .i64 (m : Int))))] [(3000, .bx (edtC true ⟨(TT : Nat), ct, ck, it, tx⟩))]) (KmQ l TT ct ck it tx t m) := by
  have cf := c_spec_l22Find l t m (by omega)
  rw [hf] at cf
  have hf' : Hd _ := hf
  clear hf
  have hkk := hcl k hkl
  have hTk : TT < l[k].ck.length := by omega
  have hcT : Hd (ckAt l[k].ck (TT : Int) = l[k].ck[TT]) := by simp [Hd, ckAt, hTk]
  have hkn : ¬ (k : Int) < 0 := by omega
  have hge : l[k].ck[TT]?.getD 0 = l[k].ck[TT] := by simp [hTk]
  have hTT : (t : Int) = TT ↔ t = TT := by omega
  have e2 : wrap64 ((m : Int) + 1) = ((m + 1 : Nat) : Int) := by rw [w64 (by omega) (by omega)]; omega
  clear hcl
  have hb : ¬ KnB l ⟨(TT : Nat), ct, ck, it, tx⟩ t m := fun hk => by
    obtain ⟨k', hk', hk2, hk3, _⟩ := hk
    rw [hf'.out] at hk2
    have : k' = k := by omega
    subst this
    simp only [hcT.out] at hk3
    exact hk3 ⟨by omega, by rw [← hge]; exact b2⟩
  replace hb : Hd _ := hb
  rw [hge] at b2
  clear hge
  obtain ⟨b1, b3⟩ := b1
  subst b1
  repeat' (first | with_reducible refine OutOK.done ?_ | refine thenQ_n ?_ | refine thenQ_r ?_ | refine thenQ_e ?_ | refine AW.seq ?_ | refine AW.dreg tok mixed [17, 21]  [(0, false), (1, false), (2, false), (3, false), (4, false), (5, false), (6, false), (7, false), (8, false), (9, false), (10, false), (11, false), (12, false), (13, false), (14, false), (16, false), (20, false), (15, false), (17, true), (18, false), (19, false), (21, true), (22, false), (23, false)] (by decide +kernel) rfl (by simp [*]; rfl) ?_ | refine AW.dreg tok mixed [9, 11, 12]  [(0, false), (1, false), (2, false), (3, false), (5, false), (8, false), (10, false), (4, false), (6, false), (7, false), (9, true), (11, true), (12, true), (13, false)] (by decide +kernel) rfl (by simp [*]; rfl) ?_ | refine AW.reg tok (by simp [*]; rfl) ?_ | refine AW.ifB (by simp [*]; rfl) ?_ | refine IfG.t ?_ | refine IfG.f ?_ | ((first | refine IfG.p (fun hg => ?_) (fun hg => ?_) | refine IfG.n (fun hg => ?_) (fun hg => ?_) | refine OutOK.gateP (fun hg => ?_) (fun hg => ?_) | refine OutOK.gateN (fun hg => ?_) (fun hg => ?_) | refine IfG.g (fun hg => ?_) (fun hg => ?_) | refine OutOK.gate (fun hg => ?_) (fun hg => ?_)) <;> (try (have hg' := hg; simp at hg'))) | (refine OutOK.callF [] (by simp [*]; rfl) (by simp [*]; rfl) (by simp [*]; rfl) hb89 (by apply cf <;> first | assumption | exact Hd.out (by assumption) | ((try clear e2); omega)) ⟨by simp [*], by simp [*], by simp [*], by simp [*], by simp [*]⟩ (by simp [*]) (by simp [*]; rfl) ?_) | refine OutOK.run (by simp [*]; rfl) ?_ | refine AW.ret ?_ | refine AW.skip ?_ | refine AW.exit ?_ | refine fin_r ?_ | refine fin_n ?_ | refine AW.block ?_ | refine blockQ_n ?_ | refine blockQ_r ?_ | refine blockQ_e ?_ | refine blockQ_o rfl ?_)
  exact .inl ⟨rfl, hb.out, by simp [Try.f118]⟩
theorem w_knM3 (l : List Edt) (TT : Nat) (ct : Int) (ck : List Int) (it tx : ByteArray) (t m : Nat) (hl : l.length ≤ 24) (hck : ck.length ≤ 3) (ht : t < ck.length) (hTl : TT < ck.length) (hcl : ∀ k (hk : k < l.length), l[k].ck.length = ck.length) (m1 : 1 ≤ m) (m2 : m ≤ 24) (hml : (m : Int) ≤ ck[t]) (k : Nat) (hkl : k < l.length) (hf : fndE l t m = (k : Int)) (b1 : t = TT ∧ (m : Int) = ct) : AW Try.prog 85 (cAt Try.f118 [2, 1, 2, 5, 7, 2, 1, 5, 2, 2, 5, 7]) (mk [(0, .c (.sl true 5 (edts true l))), (3, .pt 3000 [] 0), (5, .c (.sc (.int .i64 (t : Int)))), (6, .c (.sc (.int .i64 (m : Int))))] [(3000, .bx (edtC true ⟨(TT : Nat), ct, ck, it, tx⟩))]) (KmQ l TT ct ck it tx t m) := by
  have cf := c_spec_l22Find l t m (by omega)
  rw [hf] at cf
  have hf' : Hd _ := hf
  clear hf
  have hkk := hcl k hkl
  have hTk : TT < l[k].ck.length := by omega
  have hcT : Hd (ckAt l[k].ck (TT : Int) = l[k].ck[TT]) := by simp [Hd, ckAt, hTk]
  have hkn : ¬ (k : Int) < 0 := by omega
  have hge : l[k].ck[TT]?.getD 0 = l[k].ck[TT] := by simp [hTk]
  have hTT : (t : Int) = TT ↔ t = TT := by omega
  have e2 : wrap64 ((m : Int) + 1) = ((m + 1 : Nat) : Int) := by rw [w64 (by omega) (by omega)]; omega
  clear hcl
  have hgood : Hd (¬ ((¬ (t : Int) = (TT : Int) ∨ ¬ (m : Int) = ct) ∧ ct ≤ ckAt l[k].ck (TT : Int))) := by rw [Hd, hcT.out]; omega
  obtain ⟨b1, b2⟩ := b1
  clear hge
  subst b1
  subst b2
  repeat' (first | with_reducible refine OutOK.done ?_ | refine thenQ_n ?_ | refine thenQ_r ?_ | refine thenQ_e ?_ | refine AW.seq ?_ | refine AW.dreg tok mixed [17, 21]  [(0, false), (1, false), (2, false), (3, false), (4, false), (5, false), (6, false), (7, false), (8, false), (9, false), (10, false), (11, false), (12, false), (13, false), (14, false), (16, false), (20, false), (15, false), (17, true), (18, false), (19, false), (21, true), (22, false), (23, false)] (by decide +kernel) rfl (by simp [*]; rfl) ?_ | refine AW.dreg tok mixed [9, 11, 12]  [(0, false), (1, false), (2, false), (3, false), (5, false), (8, false), (10, false), (4, false), (6, false), (7, false), (9, true), (11, true), (12, true), (13, false)] (by decide +kernel) rfl (by simp [*]; rfl) ?_ | refine AW.reg tok (by simp [*]; rfl) ?_ | refine AW.ifB (by simp [*]; rfl) ?_ | refine IfG.t ?_ | refine IfG.f ?_ | ((first | refine IfG.p (fun hg => ?_) (fun hg => ?_) | refine IfG.n (fun hg => ?_) (fun hg => ?_) | refine OutOK.gateP (fun hg => ?_) (fun hg => ?_) | refine OutOK.gateN (fun hg => ?_) (fun hg => ?_) | refine IfG.g (fun hg => ?_) (fun hg => ?_) | refine OutOK.gate (fun hg => ?_) (fun hg => ?_)) <;> (try (have hg' := hg; simp at hg'))) | (refine OutOK.callF [] (by simp [*]; rfl) (by simp [*]; rfl) (by simp [*]; rfl) hb89 (by apply cf <;> first | assumption | exact Hd.out (by assumption) | ((try clear e2); omega)) ⟨by simp [*], by simp [*], by simp [*], by simp [*], by simp [*]⟩ (by simp [*]) (by simp [*]; rfl) ?_) | refine OutOK.run (by simp [*]; rfl) ?_ | refine AW.ret ?_ | refine AW.skip ?_ | refine AW.exit ?_ | refine fin_r ?_ | refine fin_n ?_ | refine AW.block ?_ | refine blockQ_n ?_ | refine blockQ_r ?_ | refine blockQ_e ?_ | refine blockQ_o rfl ?_)
  refine AW.loopL (α := Nat) (fun u => u ≤ ck.length ∧ Hd (∀ j < u, l[k].ck[j]?.getD 0 ≤ ck[j]?.getD 0)) (fun u => [(0, .c (.sl true 5 (edts true l))), (3, .pt 3000 [] 0), (5, .c (.sc (.int .i64 (t : Int)))), (6, .c (.sc (.int .i64 (m : Int)))), (7, .c (.sc (.int .i64 (k : Int)))), (8, .c (.sc (.int .i64 (u : Int))))]) (fun _ => [(3000, .bx (edtC true ⟨(t : Nat), (m : Int), ck, it, tx⟩))]) (fun u => ck.length - u) 0 ⟨Nat.zero_le _, fun j hj => by omega⟩ ⟨by simp, by simp, by simp⟩ ?_
  rintro u ⟨hu, hus⟩
  have hge : Hd (l[k]?.getD default = l[k]) := by simp [Hd, hkl]
  rcases Nat.lt_or_ge u ck.length with hul | hul
  · refine (w_knU l t m ck it tx t m k u hkl hl hul hck hkk).mono fun e st hq => ?_
    have huk : u < l[k].ck.length := by omega
    rcases hq with ⟨rfl, hn, hq⟩ | ⟨rfl, hn, hq⟩
    · rw [hge.out] at hn
      refine .inl ⟨rfl, fun hk => ?_, hq⟩
      obtain ⟨k', hk', hk2, _, hk4⟩ := hk
      rw [hf'.out] at hk2
      have : k' = k := by omega
      subst this
      have := noGr_iff.1 hk4 u huk
      simp only at this
      omega
    · rw [hge.out] at hn
      refine ⟨u + 1, ⟨hul, fun j hj => ?_⟩, hq, by omega⟩
      rcases Nat.lt_succ_iff_lt_or_eq.1 hj with h1 | rfl
      · exact hus.out j h1
      · omega
  · have hU : noGr l[k].ck ck = true := noGr_iff.2 (fun j hj => hus.out j (by omega))
    have hul' : ¬ u < ck.length := by omega
    have hB : Hd (KnB l ⟨(t : Nat), (m : Int), ck, it, tx⟩ t m) := ⟨k, hkl, hf'.out, hgood.out, hU⟩
    clear hU
    repeat' (first | with_reducible refine OutOK.done ?_ | refine thenQ_n ?_ | refine thenQ_r ?_ | refine thenQ_e ?_ | refine AW.seq ?_ | refine AW.dreg tok mixed [17, 21]  [(0, false), (1, false), (2, false), (3, false), (4, false), (5, false), (6, false), (7, false), (8, false), (9, false), (10, false), (11, false), (12, false), (13, false), (14, false), (16, false), (20, false), (15, false), (17, true), (18, false), (19, false), (21, true), (22, false), (23, false)] (by decide +kernel) rfl (by simp [*]; rfl) ?_ | refine AW.dreg tok mixed [9, 11, 12]  [(0, false), (1, false), (2, false), (3, false), (5, false), (8, false), (10, false), (4, false), (6, false), (7, false), (9, true), (11, true), (12, true), (13, false)] (by decide +kernel) rfl (by simp [*]; rfl) ?_ | refine AW.reg tok (by simp [*]; rfl) ?_ | refine AW.ifB (by simp [*]; rfl) ?_ | refine IfG.t ?_ | refine IfG.f ?_ | ((first | refine IfG.p (fun hg => ?_) (fun hg => ?_) | refine IfG.n (fun hg => ?_) (fun hg => ?_) | refine OutOK.gateP (fun hg => ?_) (fun hg => ?_) | refine OutOK.gateN (fun hg => ?_) (fun hg => ?_) | refine IfG.g (fun hg => ?_) (fun hg => ?_) | refine OutOK.gate (fun hg => ?_) (fun hg => ?_)) <;> (try (have hg' := hg; simp at hg'))) | refine OutOK.run (by simp [*]; rfl) ?_ | refine AW.ret ?_ | refine AW.skip ?_ | refine AW.exit ?_ | refine fin_r ?_ | refine fin_n ?_ | refine AW.block ?_ | refine blockQ_n ?_ | refine blockQ_r ?_ | refine blockQ_e ?_ | refine blockQ_o rfl ?_)
    exact .inr ⟨rfl, hB.out, by simp, by simp, by simp⟩
theorem w_knM4 (l : List Edt) (TT : Nat) (ct : Int) (ck : List Int) (it tx : ByteArray) (t m : Nat) (hl : l.length ≤ 24) (hck : ck.length ≤ 3) (ht : t < ck.length) (hTl : TT < ck.length) (hcl : ∀ k (hk : k < l.length), l[k].ck.length = ck.length) (m1 : 1 ≤ m) (m2 : m ≤ 24) (hml : (m : Int) ≤ ck[t]) (k : Nat) (hkl : k < l.length) (hf : fndE l t m = (k : Int)) (b1 : ¬ t = TT ∧ ¬ ct ≤ l[k].ck[TT]?.getD 0) : AW Try.prog 85 (cAt Try.f118 [2, 1, 2, 5, 7, 2, 1, 5, 2, 2, 5, 7]) (mk [(0, .c (.sl true 5 (edts true l))), (3, .pt 3000 [] 0), (5, .c (.sc (.int .i64 (t : Int)))), (6, .c (.sc (.int .i64 (m : Int))))] [(3000, .bx (edtC true ⟨(TT : Nat), ct, ck, it, tx⟩))]) (KmQ l TT ct ck it tx t m) := by
  have cf := c_spec_l22Find l t m (by omega)
  rw [hf] at cf
  have hf' : Hd _ := hf
  clear hf
  have hkk := hcl k hkl
  have hTk : TT < l[k].ck.length := by omega
  have hcT : Hd (ckAt l[k].ck (TT : Int) = l[k].ck[TT]) := by simp [Hd, ckAt, hTk]
  have hkn : ¬ (k : Int) < 0 := by omega
  have hge : l[k].ck[TT]?.getD 0 = l[k].ck[TT] := by simp [hTk]
  have hTT : (t : Int) = TT ↔ t = TT := by omega
  have e2 : wrap64 ((m : Int) + 1) = ((m + 1 : Nat) : Int) := by rw [w64 (by omega) (by omega)]; omega
  clear hcl
  have hgood : Hd (¬ ((¬ (t : Int) = (TT : Int) ∨ ¬ (m : Int) = ct) ∧ ct ≤ ckAt l[k].ck (TT : Int))) := by rw [Hd, hcT.out]; rw [hge] at b1; omega
  rw [hge] at b1
  clear hge
  obtain ⟨b1, b2⟩ := b1
  clear hTT
  have hTT : ¬ (t : Int) = TT := by omega
  repeat' (first | with_reducible refine OutOK.done ?_ | refine thenQ_n ?_ | refine thenQ_r ?_ | refine thenQ_e ?_ | refine AW.seq ?_ | refine AW.dreg tok mixed [17, 21]  [(0, false), (1, false), (2, false), (3, false), (4, false), (5, false), (6, false), (7, false), (8, false), (9, false), (10, false), (11, false), (12, false), (13, false), (14, false), (16, false), (20, false), (15, false), (17, true), (18, false), (19, false), (21, true), (22, false), (23, false)] (by decide +kernel) rfl (by simp [*]; rfl) ?_ | refine AW.dreg tok mixed [9, 11, 12]  [(0, false), (1, false), (2, false), (3, false), (5, false), (8, false), (10, false), (4, false), (6, false), (7, false), (9, true), (11, true), (12, true), (13, false)] (by decide +kernel) rfl (by simp [*]; rfl) ?_ | refine AW.reg tok (by simp [*]; rfl) ?_ | refine AW.ifB (by simp [*]; rfl) ?_ | refine IfG.t ?_ | refine IfG.f ?_ | ((first | refine IfG.p (fun hg => ?_) (fun hg => ?_) | refine IfG.n (fun hg => ?_) (fun hg => ?_) | refine OutOK.gateP (fun hg => ?_) (fun hg => ?_) | refine OutOK.gateN (fun hg => ?_) (fun hg => ?_) | refine IfG.g (fun hg => ?_) (fun hg => ?_) | refine OutOK.gate (fun hg => ?_) (fun hg => ?_)) <;> (try (have hg' := hg; simp at hg'))) | (refine OutOK.callF [] (by simp [*]; rfl) (by simp [*]; rfl) (by simp [*]; rfl) hb89 (by apply cf <;> first | assumption | exact Hd.out (by assumption) | ((try clear e2); omega)) ⟨by simp [*], by simp [*], by simp [*], by simp [*], by simp [*]⟩ (by simp [*]) (by simp [*]; rfl) ?_) | refine OutOK.run (by simp [*]; rfl) ?_ | refine AW.ret ?_ | refine AW.skip ?_ | refine AW.exit ?_ | refine fin_r ?_ | refine fin_n ?_ | refine AW.block ?_ | refine blockQ_n ?_ | refine blockQ_r ?_ | refine blockQ_e ?_ | refine blockQ_o rfl ?_)
  refine AW.loopL (α := Nat) (fun u => u ≤ ck.length ∧ Hd (∀ j < u, l[k].ck[j]?.getD 0 ≤ ck[j]?.getD 0)) (fun u => [(0, .c (.sl true 5 (edts true l))), (3, .pt 3000 [] 0), (5, .c (.sc (.int .i64 (t : Int)))), (6, .c (.sc (.int .i64 (m : Int)))), (7, .c (.sc (.int .i64 (k : Int)))), (8, .c (.sc (.int .i64 (u : Int))))]) (fun _ => [(3000, .bx (edtC true ⟨(TT : Nat), ct, ck, it, tx⟩))]) (fun u => ck.length - u) 0 ⟨Nat.zero_le _, fun j hj => by omega⟩ ⟨by simp, by simp, by simp⟩ ?_
  rintro u ⟨hu, hus⟩
  have hge : Hd (l[k]?.getD default = l[k]) := by simp [Hd, hkl]
  rcases Nat.lt_or_ge u ck.length with hul | hul
  · refine (w_knU l TT ct ck it tx t m k u hkl hl hul hck hkk).mono fun e st hq => ?_
    have huk : u < l[k].ck.length := by omega
    rcases hq with ⟨rfl, hn, hq⟩ | ⟨rfl, hn, hq⟩
    · rw [hge.out] at hn
      refine .inl ⟨rfl, fun hk => ?_, hq⟩
      obtain ⟨k', hk', hk2, _, hk4⟩ := hk
      rw [hf'.out] at hk2
      have : k' = k := by omega
      subst this
      have := noGr_iff.1 hk4 u huk
      simp only at this
      omega
    · rw [hge.out] at hn
      refine ⟨u + 1, ⟨hul, fun j hj => ?_⟩, hq, by omega⟩
      rcases Nat.lt_succ_iff_lt_or_eq.1 hj with h1 | rfl
      · exact hus.out j h1
      · omega
  · have hU : noGr l[k].ck ck = true := noGr_iff.2 (fun j hj => hus.out j (by omega))
    have hul' : ¬ u < ck.length := by omega
    have hB : Hd (KnB l ⟨(TT : Nat), ct, ck, it, tx⟩ t m) := ⟨k, hkl, hf'.out, hgood.out, hU⟩
    clear hU
    repeat' (first | with_reducible refine OutOK.done ?_ | refine thenQ_n ?_ | refine thenQ_r ?_ | refine thenQ_e ?_ | refine AW.seq ?_ | refine AW.dreg tok mixed [17, 21]  [(0, false), (1, false), (2, false), (3, false), (4, false), (5, false), (6, false), (7, false), (8, false), (9, false), (10, false), (11, false), (12, false), (13, false), (14, false), (16, false), (20, false), (15, false), (17, true), (18, false), (19, false), (21, true), (22, false), (23, false)] (by decide +kernel) rfl (by simp [*]; rfl) ?_ | refine AW.dreg tok mixed [9, 11, 12]  [(0, false), (1, false), (2, false), (3, false), (5, false), (8, false), (10, false), (4, false), (6, false), (7, false), (9, true), (11, true), (12, true), (13, false)] (by decide +kernel) rfl (by simp [*]; rfl) ?_ | refine AW.reg tok (by simp [*]; rfl) ?_ | refine AW.ifB (by simp [*]; rfl) ?_ | refine IfG.t ?_ | refine IfG.f ?_ | ((first | refine IfG.p (fun hg => ?_) (fun hg => ?_) | refine IfG.n (fun hg => ?_) (fun hg => ?_) | refine OutOK.gateP (fun hg => ?_) (fun hg => ?_) | refine OutOK.gateN (fun hg => ?_) (fun hg => ?_) | refine IfG.g (fun hg => ?_) (fun hg => ?_) | refine OutOK.gate (fun hg => ?_) (fun hg => ?_)) <;> (try (have hg' := hg; simp at hg'))) | refine OutOK.run (by simp [*]; rfl) ?_ | refine AW.ret ?_ | refine AW.skip ?_ | refine AW.exit ?_ | refine fin_r ?_ | refine fin_n ?_ | refine AW.block ?_ | refine blockQ_n ?_ | refine blockQ_r ?_ | refine blockQ_e ?_ | refine blockQ_o rfl ?_)
    exact .inr ⟨rfl, hB.out, by simp, by simp, by simp⟩
theorem w_knM5 (l : List Edt) (TT : Nat) (ct : Int) (ck : List Int) (it tx : ByteArray) (t m : Nat) (hl : l.length ≤ 24) (hck : ck.length ≤ 3) (ht : t < ck.length) (hTl : TT < ck.length) (hcl : ∀ k (hk : k < l.length), l[k].ck.length = ck.length) (m1 : 1 ≤ m) (m2 : m ≤ 24) (hml : (m : Int) ≤ ck[t]) (k : Nat) (hkl : k < l.length) (hf : fndE l t m = (k : Int)) (b1 : t = TT ∧ ¬ (m : Int) = ct ∧ ¬ ct ≤ l[k].ck[TT]?.getD 0) : AW Try.prog 85 (cAt Try.f118 [2, 1, 2, 5, 7, 2, 1, 5, 2, 2, 5, 7]) (mk [(0, .c (.sl true 5 (edts true l))), (3, .pt 3000 [] 0), (5, .c (.sc (.int .i64 (t : Int)))), (6, .c (.sc (.int .i64 (m : Int))))] [(3000, .bx (edtC true ⟨(TT : Nat), ct, ck, it, tx⟩))]) (KmQ l TT ct ck it tx t m) := by
  have cf := c_spec_l22Find l t m (by omega)
  rw [hf] at cf
  have hf' : Hd _ := hf
  clear hf
  have hkk := hcl k hkl
  have hTk : TT < l[k].ck.length := by omega
  have hcT : Hd (ckAt l[k].ck (TT : Int) = l[k].ck[TT]) := by simp [Hd, ckAt, hTk]
  have hkn : ¬ (k : Int) < 0 := by omega
  have hge : l[k].ck[TT]?.getD 0 = l[k].ck[TT] := by simp [hTk]
  have hTT : (t : Int) = TT ↔ t = TT := by omega
  have e2 : wrap64 ((m : Int) + 1) = ((m + 1 : Nat) : Int) := by rw [w64 (by omega) (by omega)]; omega
  clear hcl
  have hgood : Hd (¬ ((¬ (t : Int) = (TT : Int) ∨ ¬ (m : Int) = ct) ∧ ct ≤ ckAt l[k].ck (TT : Int))) := by rw [Hd, hcT.out]; rw [hge] at b1; omega
  rw [hge] at b1
  clear hge
  obtain ⟨b1, b2, b3⟩ := b1
  subst b1
  repeat' (first | with_reducible refine OutOK.done ?_ | refine thenQ_n ?_ | refine thenQ_r ?_ | refine thenQ_e ?_ | refine AW.seq ?_ | refine AW.dreg tok mixed [17, 21]  [(0, false), (1, false), (2, false), (3, false), (4, false), (5, false), (6, false), (7, false), (8, false), (9, false), (10, false), (11, false), (12, false), (13, false), (14, false), (16, false), (20, false), (15, false), (17, true), (18, false), (19, false), (21, true), (22, false), (23, false)] (by decide +kernel) rfl (by simp [*]; rfl) ?_ | refine AW.dreg tok mixed [9, 11, 12]  [(0, false), (1, false), (2, false), (3, false), (5, false), (8, false), (10, false), (4, false), (6, false), (7, false), (9, true), (11, true), (12, true), (13, false)] (by decide +kernel) rfl (by simp [*]; rfl) ?_ | refine AW.reg tok (by simp [*]; rfl) ?_ | refine AW.ifB (by simp [*]; rfl) ?_ | refine IfG.t ?_ | refine IfG.f ?_ | ((first | refine IfG.p (fun hg => ?_) (fun hg => ?_) | refine IfG.n (fun hg => ?_) (fun hg => ?_) | refine OutOK.gateP (fun hg => ?_) (fun hg => ?_) | refine OutOK.gateN (fun hg => ?_) (fun hg => ?_) | refine IfG.g (fun hg => ?_) (fun hg => ?_) | refine OutOK.gate (fun hg => ?_) (fun hg => ?_)) <;> (try (have hg' := hg; simp at hg'))) | (refine OutOK.callF [] (by simp [*]; rfl) (by simp [*]; rfl) (by simp [*]; rfl) hb89 (by apply cf <;> first | assumption | exact Hd.out (by assumption) | ((try clear e2); omega)) ⟨by simp [*], by simp [*], by simp [*], by simp [*], by simp [*]⟩ (by simp [*]) (by simp [*]; rfl) ?_) | refine OutOK.run (by simp [*]; rfl) ?_ | refine AW.ret ?_ | refine AW.skip ?_ | refine AW.exit ?_ | refine fin_r ?_ | refine fin_n ?_ | refine AW.block ?_ | refine blockQ_n ?_ | refine blockQ_r ?_ | refine blockQ_e ?_ | refine blockQ_o rfl ?_)
  refine AW.loopL (α := Nat) (fun u => u ≤ ck.length ∧ Hd (∀ j < u, l[k].ck[j]?.getD 0 ≤ ck[j]?.getD 0)) (fun u => [(0, .c (.sl true 5 (edts true l))), (3, .pt 3000 [] 0), (5, .c (.sc (.int .i64 (t : Int)))), (6, .c (.sc (.int .i64 (m : Int)))), (7, .c (.sc (.int .i64 (k : Int)))), (8, .c (.sc (.int .i64 (u : Int))))]) (fun _ => [(3000, .bx (edtC true ⟨(t : Nat), ct, ck, it, tx⟩))]) (fun u => ck.length - u) 0 ⟨Nat.zero_le _, fun j hj => by omega⟩ ⟨by simp, by simp, by simp⟩ ?_
  rintro u ⟨hu, hus⟩
  have hge : Hd (l[k]?.getD default = l[k]) := by simp [Hd, hkl]
  rcases Nat.lt_or_ge u ck.length with hul | hul
  · refine (w_knU l t ct ck it tx t m k u hkl hl hul hck hkk).mono fun e st hq => ?_
    have huk : u < l[k].ck.length := by omega
    rcases hq with ⟨rfl, hn, hq⟩ | ⟨rfl, hn, hq⟩
    · rw [hge.out] at hn
      refine .inl ⟨rfl, fun hk => ?_, hq⟩
      obtain ⟨k', hk', hk2, _, hk4⟩ := hk
      rw [hf'.out] at hk2
      have : k' = k := by omega
      subst this
      have := noGr_iff.1 hk4 u huk
      simp only at this
      omega
    · rw [hge.out] at hn
      refine ⟨u + 1, ⟨hul, fun j hj => ?_⟩, hq, by omega⟩
      rcases Nat.lt_succ_iff_lt_or_eq.1 hj with h1 | rfl
      · exact hus.out j h1
      · omega
  · have hU : noGr l[k].ck ck = true := noGr_iff.2 (fun j hj => hus.out j (by omega))
    have hul' : ¬ u < ck.length := by omega
    have hB : Hd (KnB l ⟨(t : Nat), ct, ck, it, tx⟩ t m) := ⟨k, hkl, hf'.out, hgood.out, hU⟩
    clear hU
    repeat' (first | with_reducible refine OutOK.done ?_ | refine thenQ_n ?_ | refine thenQ_r ?_ | refine thenQ_e ?_ | refine AW.seq ?_ | refine AW.dreg tok mixed [17, 21]  [(0, false), (1, false), (2, false), (3, false), (4, false), (5, false), (6, false), (7, false), (8, false), (9, false), (10, false), (11, false), (12, false), (13, false), (14, false), (16, false), (20, false), (15, false), (17, true), (18, false), (19, false), (21, true), (22, false), (23, false)] (by decide +kernel) rfl (by simp [*]; rfl) ?_ | refine AW.dreg tok mixed [9, 11, 12]  [(0, false), (1, false), (2, false), (3, false), (5, false), (8, false), (10, false), (4, false), (6, false), (7, false), (9, true), (11, true), (12, true), (13, false)] (by decide +kernel) rfl (by simp [*]; rfl) ?_ | refine AW.reg tok (by simp [*]; rfl) ?_ | refine AW.ifB (by simp [*]; rfl) ?_ | refine IfG.t ?_ | refine IfG.f ?_ | ((first | refine IfG.p (fun hg => ?_) (fun hg => ?_) | refine IfG.n (fun hg => ?_) (fun hg => ?_) | refine OutOK.gateP (fun hg => ?_) (fun hg => ?_) | refine OutOK.gateN (fun hg => ?_) (fun hg => ?_) | refine IfG.g (fun hg => ?_) (fun hg => ?_) | refine OutOK.gate (fun hg => ?_) (fun hg => ?_)) <;> (try (have hg' := hg; simp at hg'))) | refine OutOK.run (by simp [*]; rfl) ?_ | refine AW.ret ?_ | refine AW.skip ?_ | refine AW.exit ?_ | refine fin_r ?_ | refine fin_n ?_ | refine AW.block ?_ | refine blockQ_n ?_ | refine blockQ_r ?_ | refine blockQ_e ?_ | refine blockQ_o rfl ?_)
    exact .inr ⟨rfl, hB.out, by simp, by simp, by simp⟩
theorem w_knM (l : List Edt) (TT : Nat) (ct : Int) (ck : List Int) (it tx : ByteArray) (t m : Nat) (hl : l.length ≤ 24) (hck : ck.length ≤ 3) (ht : t < ck.length) (hTl : TT < ck.length) (hcl : ∀ k (hk : k < l.length), l[k].ck.length = ck.length) (m1 : 1 ≤ m) (m2 : m ≤ 24) (hml : (m : Int) ≤ ck[t]) : AW Try.prog 85 (cAt Try.f118 [2, 1, 2, 5, 7, 2, 1, 5, 2, 2, 5, 7]) (mk [(0, .c (.sl true 5 (edts true l))), (3, .pt 3000 [] 0), (5, .c (.sc (.int .i64 (t : Int)))), (6, .c (.sc (.int .i64 (m : Int))))] [(3000, .bx (edtC true ⟨(TT : Nat), ct, ck, it, tx⟩))]) (KmQ l TT ct ck it tx t m) := by
  rcases idx_cases (keyE t m) l with hf | ⟨k, hf, hkl⟩
  · exact w_knM0 l TT ct ck it tx t m hl hck ht hTl hcl m1 m2 hml hf
  · have hTk : TT < l[k].ck.length := by have := hcl k hkl; omega
    by_cases b1 : t = TT
    · by_cases b2 : (m : Int) = ct
      · exact w_knM3 l TT ct ck it tx t m hl hck ht hTl hcl m1 m2 hml k hkl hf ⟨b1, b2⟩
      · by_cases b3 : ct ≤ l[k].ck[TT]?.getD 0
        · exact w_knM2 l TT ct ck it tx t m hl hck ht hTl hcl m1 m2 hml k hkl hf ⟨b1, b2⟩ b3
        · exact w_knM5 l TT ct ck it tx t m hl hck ht hTl hcl m1 m2 hml k hkl hf ⟨b1, b2, b3⟩
    · by_cases b3 : ct ≤ l[k].ck[TT]?.getD 0
      · exact w_knM1 l TT ct ck it tx t m hl hck ht hTl hcl m1 m2 hml k hkl hf b1 b3
      · exact w_knM4 l TT ct ck it tx t m hl hck ht hTl hcl m1 m2 hml k hkl hf ⟨b1, b3⟩
theorem c_spec_l22Knows (l : List Edt) (e : Edt) (T : Nat) (B : Bool) (hB : B = true ↔ Kn l e) (h : l.length ≤ 24) (hn : e.ck.length ≤ 3) (hT : e.tm = T) (hTl : T < e.ck.length) (hcl : ∀ x ∈ l, x.ck.length = e.ck.length) : ACall Try.prog 118 [.v (.sl true 5 (edts true l)), edtD e] [.x, .x] [boo B] := by
  have hB' : Hd _ := hB
  have hcl' : Hd _ := hcl
  clear hB hcl
  obtain ⟨tm, ct, ck, it, tx⟩ := e
  simp only at hT hTl hn
  subst hT
  have hcl' : Hd (∀ k (hk : k < l.length), l[k].ck.length = ck.length) := fun k hk => hcl'.out _ (List.getElem_mem hk)
  have no : Hd (¬ Kn l ⟨T, ct, ck, it, tx⟩ → B = false) := fun hk => by rw [Bool.eq_false_iff]; exact fun hb => hk (hB'.out.1 hb)
  refine ACall.of (N := 85) tok Try.func118 rfl rfl rfl (by simp) ?_
  repeat' (first | with_reducible refine OutOK.done ?_ | refine thenQ_n ?_ | refine thenQ_r ?_ | refine thenQ_e ?_ | refine AW.seq ?_ | refine AW.dreg tok mixed [17, 21]  [(0, false), (1, false), (2, false), (3, false), (4, false), (5, false), (6, false), (7, false), (8, false), (9, false), (10, false), (11, false), (12, false), (13, false), (14, false), (16, false), (20, false), (15, false), (17, true), (18, false), (19, false), (21, true), (22, false), (23, false)] (by decide +kernel) rfl (by simp [*]; rfl) ?_ | refine AW.dreg tok mixed [9, 11, 12]  [(0, false), (1, false), (2, false), (3, false), (5, false), (8, false), (10, false), (4, false), (6, false), (7, false), (9, true), (11, true), (12, true), (13, false)] (by decide +kernel) rfl (by simp [*]; rfl) ?_ | refine AW.reg tok (by simp [*]; rfl) ?_ | refine AW.ifB (by simp [*]; rfl) ?_ | refine IfG.t ?_ | refine IfG.f ?_ | ((first | refine IfG.p (fun hg => ?_) (fun hg => ?_) | refine IfG.n (fun hg => ?_) (fun hg => ?_) | refine OutOK.gateP (fun hg => ?_) (fun hg => ?_) | refine OutOK.gateN (fun hg => ?_) (fun hg => ?_) | refine IfG.g (fun hg => ?_) (fun hg => ?_) | refine OutOK.gate (fun hg => ?_) (fun hg => ?_)) <;> (try (have hg' := hg; simp at hg'))) | refine OutOK.run (by simp [*]; rfl) ?_ | refine AW.ret ?_ | refine AW.skip ?_ | refine AW.exit ?_ | refine fin_r ?_ | refine fin_n ?_ | refine AW.block ?_ | refine blockQ_n ?_ | refine blockQ_r ?_ | refine blockQ_e ?_ | refine blockQ_o rfl ?_)
  refine AW.loopL (α := Nat) (fun t => t ≤ ck.length ∧ Hd (∀ j < t, KnT l ⟨T, ct, ck, it, tx⟩ j)) (fun t => [(0, .c (.sl true 5 (edts true l))), (3, .pt 3000 [] 0), (5, .c (.sc (.int .i64 (t : Int))))]) (fun _ => [(3000, .bx (edtC true ⟨T, ct, ck, it, tx⟩))]) (fun t => ck.length - t) 0 ⟨Nat.zero_le _, fun j hj => by omega⟩ ⟨by simp, by simp, by simp⟩ ?_
  rintro t ⟨ht, hs⟩
  rcases Nat.lt_or_ge t ck.length with htl | htl
  · have e1 : wrap64 ((t : Int) + 1) = ((t + 1 : Nat) : Int) := by rw [w64 (by omega) (by omega)]; omega
    have hca : Hd (ckAt ck t = ck[t]) := by simp [Hd, ckAt, htl]
    cases hR : inR 0 l.length ck[t] with
    | false =>
      have hb := no.out (fun hk => by have := (hk t htl).1; simp only [hca.out, hR] at this; cases this)
      subst hb
      clear no hB'
      repeat' (first | with_reducible refine OutOK.done ?_ | refine thenQ_n ?_ | refine thenQ_r ?_ | refine thenQ_e ?_ | refine AW.seq ?_ | refine AW.dreg tok mixed [17, 21]  [(0, false), (1, false), (2, false), (3, false), (4, false), (5, false), (6, false), (7, false), (8, false), (9, false), (10, false), (11, false), (12, false), (13, false), (14, false), (16, false), (20, false), (15, false), (17, true), (18, false), (19, false), (21, true), (22, false), (23, false)] (by decide +kernel) rfl (by simp [*]; rfl) ?_ | refine AW.dreg tok mixed [9, 11, 12]  [(0, false), (1, false), (2, false), (3, false), (5, false), (8, false), (10, false), (4, false), (6, false), (7, false), (9, true), (11, true), (12, true), (13, false)] (by decide +kernel) rfl (by simp [*]; rfl) ?_ | refine AW.reg tok (by simp [*]; rfl) ?_ | refine AW.ifB (by simp [*]; rfl) ?_ | refine IfG.t ?_ | refine IfG.f ?_ | ((first | refine IfG.p (fun hg => ?_) (fun hg => ?_) | refine IfG.n (fun hg => ?_) (fun hg => ?_) | refine OutOK.gateP (fun hg => ?_) (fun hg => ?_) | refine OutOK.gateN (fun hg => ?_) (fun hg => ?_) | refine IfG.g (fun hg => ?_) (fun hg => ?_) | refine OutOK.gate (fun hg => ?_) (fun hg => ?_)) <;> (try (have hg' := hg; simp at hg'))) | (refine OutOK.callF [] (by simp [*]; rfl) (by simp [*]; rfl) (by simp [*]; rfl) hb64 (by apply c_spec_l1In <;> first | assumption | exact Hd.out (by assumption) | ((try clear e1); omega)) ⟨by simp [*], by simp [*], by simp [*], by simp [*], by simp [*]⟩ (by simp [*]) (by simp [*]; rfl) ?_) | refine OutOK.run (by simp [*]; rfl) ?_ | refine AW.ret ?_ | refine AW.skip ?_ | refine AW.exit ?_ | refine fin_r ?_ | refine fin_n ?_ | refine AW.block ?_ | refine blockQ_n ?_ | refine blockQ_r ?_ | refine blockQ_e ?_ | refine blockQ_o rfl ?_)
      all_goals simp [Try.f118]
    | true =>
      repeat' (first | with_reducible refine OutOK.done ?_ | refine thenQ_n ?_ | refine thenQ_r ?_ | refine thenQ_e ?_ | refine AW.seq ?_ | refine AW.dreg tok mixed [17, 21]  [(0, false), (1, false), (2, false), (3, false), (4, false), (5, false), (6, false), (7, false), (8, false), (9, false), (10, false), (11, false), (12, false), (13, false), (14, false), (16, false), (20, false), (15, false), (17, true), (18, false), (19, false), (21, true), (22, false), (23, false)] (by decide +kernel) rfl (by simp [*]; rfl) ?_ | refine AW.dreg tok mixed [9, 11, 12]  [(0, false), (1, false), (2, false), (3, false), (5, false), (8, false), (10, false), (4, false), (6, false), (7, false), (9, true), (11, true), (12, true), (13, false)] (by decide +kernel) rfl (by simp [*]; rfl) ?_ | refine AW.reg tok (by simp [*]; rfl) ?_ | refine AW.ifB (by simp [*]; rfl) ?_ | refine IfG.t ?_ | refine IfG.f ?_ | ((first | refine IfG.p (fun hg => ?_) (fun hg => ?_) | refine IfG.n (fun hg => ?_) (fun hg => ?_) | refine OutOK.gateP (fun hg => ?_) (fun hg => ?_) | refine OutOK.gateN (fun hg => ?_) (fun hg => ?_) | refine IfG.g (fun hg => ?_) (fun hg => ?_) | refine OutOK.gate (fun hg => ?_) (fun hg => ?_)) <;> (try (have hg' := hg; simp at hg'))) | (refine OutOK.callF [] (by simp [*]; rfl) (by simp [*]; rfl) (by simp [*]; rfl) hb64 (by apply c_spec_l1In <;> first | assumption | exact Hd.out (by assumption) | ((try clear e1); omega)) ⟨by simp [*], by simp [*], by simp [*], by simp [*], by simp [*]⟩ (by simp [*]) (by simp [*]; rfl) ?_) | refine OutOK.run (by simp [*]; rfl) ?_ | refine AW.ret ?_ | refine AW.skip ?_ | refine AW.exit ?_ | refine fin_r ?_ | refine fin_n ?_ | refine AW.block ?_ | refine blockQ_n ?_ | refine blockQ_r ?_ | refine blockQ_e ?_ | refine blockQ_o rfl ?_)
      obtain ⟨r1, r2⟩ := inR_iff.1 hR
      refine AW.loopL (α := Nat) (fun m => (1 ≤ m ∧ m ≤ 25 ∧ (m : Int) ≤ ck[t] + 1) ∧ Hd (∀ j < m, 1 ≤ j → KnB l ⟨T, ct, ck, it, tx⟩ t j)) (fun m => [(0, .c (.sl true 5 (edts true l))), (3, .pt 3000 [] 0), (5, .c (.sc (.int .i64 (t : Int)))), (6, .c (.sc (.int .i64 (m : Int))))]) (fun _ => [(3000, .bx (edtC true ⟨T, ct, ck, it, tx⟩))]) (fun m => 26 - m) 1 ⟨⟨by omega, by omega, by omega⟩, fun j hj h1 => by omega⟩ ⟨by simp, by simp, by simp⟩ ?_
      rintro m ⟨⟨m1, m2, m3⟩, hm⟩
      by_cases hml : (m : Int) ≤ ck[t]
      · refine (w_knM l T ct ck it tx t m h hn htl hTl hcl'.out m1 (by omega) hml).mono fun e st hq => ?_
        rcases hq with ⟨rfl, hk, hq⟩ | ⟨rfl, hk, hq⟩
        · have hb := no.out (fun hh => hk ((hh t htl).2 m m1 (by simp only [hca.out]; exact hml)))
          subst hb
          exact ⟨.inr rfl, hq⟩
        · refine ⟨m + 1, ⟨⟨by omega, by omega, by omega⟩, fun j hj h1 => ?_⟩, hq, by omega⟩
          rcases Nat.lt_succ_iff_lt_or_eq.1 hj with h2 | rfl
          · exact hm.out j h2 h1
          · exact hk
      · have hTt : Hd (∀ j < t + 1, KnT l ⟨T, ct, ck, it, tx⟩ j) := by
          intro j hj
          rcases Nat.lt_succ_iff_lt_or_eq.1 hj with h2 | rfl
          · exact hs.out j h2
          · exact ⟨by simp only [hca.out]; exact hR, fun q q1 q2 => hm.out q (by simp only [hca.out] at q2; omega) q1⟩
        clear no hB' r1 r2 m3
        repeat' (first | with_reducible refine OutOK.done ?_ | refine thenQ_n ?_ | refine thenQ_r ?_ | refine thenQ_e ?_ | refine AW.seq ?_ | refine AW.dreg tok mixed [17, 21]  [(0, false), (1, false), (2, false), (3, false), (4, false), (5, false), (6, false), (7, false), (8, false), (9, false), (10, false), (11, false), (12, false), (13, false), (14, false), (16, false), (20, false), (15, false), (17, true), (18, false), (19, false), (21, true), (22, false), (23, false)] (by decide +kernel) rfl (by simp [*]; rfl) ?_ | refine AW.dreg tok mixed [9, 11, 12]  [(0, false), (1, false), (2, false), (3, false), (5, false), (8, false), (10, false), (4, false), (6, false), (7, false), (9, true), (11, true), (12, true), (13, false)] (by decide +kernel) rfl (by simp [*]; rfl) ?_ | refine AW.reg tok (by simp [*]; rfl) ?_ | refine AW.ifB (by simp [*]; rfl) ?_ | refine IfG.t ?_ | refine IfG.f ?_ | ((first | refine IfG.p (fun hg => ?_) (fun hg => ?_) | refine IfG.n (fun hg => ?_) (fun hg => ?_) | refine OutOK.gateP (fun hg => ?_) (fun hg => ?_) | refine OutOK.gateN (fun hg => ?_) (fun hg => ?_) | refine IfG.g (fun hg => ?_) (fun hg => ?_) | refine OutOK.gate (fun hg => ?_) (fun hg => ?_)) <;> (try (have hg' := hg; simp at hg'))) | refine OutOK.run (by simp [*]; rfl) ?_ | refine AW.ret ?_ | refine AW.skip ?_ | refine AW.exit ?_ | refine fin_r ?_ | refine fin_n ?_ | refine AW.block ?_ | refine blockQ_n ?_ | refine blockQ_r ?_ | refine blockQ_e ?_ | refine blockQ_o rfl ?_)
        exact ⟨t + 1, ⟨htl, hTt⟩, ⟨by simp, by simp, by simp⟩, by ((try clear e1); omega)⟩
  · have htt : t = ck.length := by omega
    subst htt
    have hb : B = true := hB'.out.2 (fun j hj => hs.out j hj)
    subst hb
    clear no hB'
    repeat' (first | with_reducible refine OutOK.done ?_ | refine thenQ_n ?_ | refine thenQ_r ?_ | refine thenQ_e ?_ | refine AW.seq ?_ | refine AW.dreg tok mixed [17, 21]  [(0, false), (1, false), (2, false), (3, false), (4, false), (5, false), (6, false), (7, false), (8, false), (9, false), (10, false), (11, false), (12, false), (13, false), (14, false), (16, false), (20, false), (15, false), (17, true), (18, false), (19, false), (21, true), (22, false), (23, false)] (by decide +kernel) rfl (by simp [*]; rfl) ?_ | refine AW.dreg tok mixed [9, 11, 12]  [(0, false), (1, false), (2, false), (3, false), (5, false), (8, false), (10, false), (4, false), (6, false), (7, false), (9, true), (11, true), (12, true), (13, false)] (by decide +kernel) rfl (by simp [*]; rfl) ?_ | refine AW.reg tok (by simp [*]; rfl) ?_ | refine AW.ifB (by simp [*]; rfl) ?_ | refine IfG.t ?_ | refine IfG.f ?_ | ((first | refine IfG.p (fun hg => ?_) (fun hg => ?_) | refine IfG.n (fun hg => ?_) (fun hg => ?_) | refine OutOK.gateP (fun hg => ?_) (fun hg => ?_) | refine OutOK.gateN (fun hg => ?_) (fun hg => ?_) | refine IfG.g (fun hg => ?_) (fun hg => ?_) | refine OutOK.gate (fun hg => ?_) (fun hg => ?_)) <;> (try (have hg' := hg; simp at hg'))) | refine OutOK.run (by simp [*]; rfl) ?_ | refine AW.ret ?_ | refine AW.skip ?_ | refine AW.exit ?_ | refine fin_r ?_ | refine fin_n ?_ | refine AW.block ?_ | refine blockQ_n ?_ | refine blockQ_r ?_ | refine blockQ_e ?_ | refine blockQ_o rfl ?_)
    simp [Try.f118]
end Go.Proofs.Ytbofobjofngoeaa.EngS


set_option linter.unusedSimpArgs false
set_option linter.unusedVariables false
set_option maxHeartbeats 4000000
set_option maxRecDepth 100000
namespace Go.Proofs.Ytbofobjofngoeaa.EngS
open Go Go.Proofs Go.Eng Go.RowKit
def cntE (l : List Edt) (t : Int) : Nat := (l.filter fun e => decide (e.tm = t)).length
theorem cntE_snoc (l : List Edt) (e : Edt) (t : Int) : cntE (l ++ [e]) t = cntE l t + (if e.tm = t then 1 else 0) := by
  simp only [cntE, List.filter_append, List.length_append]
  by_cases h : e.tm = t <;> simp [h]
theorem cntE_take (l : List Edt) (i : Nat) (h : i < l.length) (t : Int) : cntE (l.take (i + 1)) t = cntE (l.take i) t + (if l[i].tm = t then 1 else 0) := by
  rw [List.take_succ_eq_append_getElem h, cntE_snoc]
theorem cntE_le (l : List Edt) (t : Int) : cntE l t ≤ l.length := List.length_filter_le _ _
theorem cntE_mono (l : List Edt) (t : Int) {i j : Nat} (h : i ≤ j) : cntE (l.take i) t ≤ cntE (l.take j) t := by
  have : l.take j = l.take i ++ (l.take j).drop i := by
    rw [show l.take i = (l.take j).take i by rw [List.take_take, Nat.min_eq_left h], List.take_append_drop]
  rw [this, cntE, cntE, List.filter_append, List.length_append]; omega
theorem cntE_all (l : List Edt) (t : Int) (i : Nat) : cntE (l.take i) t ≤ cntE l t := by
  rcases Nat.le_total i l.length with h | h
  · have := cntE_mono l t h; rwa [List.take_length] at this
  · rw [List.take_of_length_le h]; exact Nat.le_refl _
def St1 (l : List Edt) (n : Int) (i : Nat) (h : i < l.length) : Prop := inR 0 (n - 1) l[i].tm = true ∧ (∀ j (hj : j < l.length), i = j + 1 → cmpE l[j] l[i] < 0) ∧ l[i].ct = (cntE (l.take i) l[i].tm : Int) + 1
def St2 (l : List Edt) (i : Nat) (h : i < l.length) : Prop := (i = 0 → l[i].ct = 1) ∧ ∀ j (hj : j < l.length), i = j + 1 → (l[j].tm < l[i].tm ∧ l[i].ct = 1) ∨ (l[j].tm = l[i].tm ∧ l[j].ct + 1 = l[i].ct)
def Fl (e : Edt) (n : Int) : Prop := (e.ck.length : Int) = n ∧ ckAt e.ck e.tm = e.ct ∧ nameOK e.it = true ∧ textOK e.tx = true
theorem st1_inv {l : List Edt} {n : Int} : ∀ (i : Nat) (h : i < l.length), (∀ j (hj : j < l.length), j < i + 1 → St1 l n j hj) → (∀ t, l[i].tm < t → cntE (l.take (i + 1)) t = 0) ∧ (cntE (l.take (i + 1)) l[i].tm : Int) = l[i].ct
  | 0, h, hs => by
    have h0 := (hs 0 h (by omega)).2.2
    refine ⟨fun t ht => ?_, ?_⟩
    · rw [cntE_take l 0 h, if_neg (by omega)]; simp [cntE]
    · rw [cntE_take l 0 h, if_pos rfl, h0]; simp
  | i + 1, h, hs => by
    obtain ⟨k1, k2⟩ := st1_inv (n := n) i (by omega) (fun j hj hji => hs j hj (by omega))
    obtain ⟨_, s2, s3⟩ := hs (i + 1) h (by omega)
    have s2 := cmpE_neg.1 (s2 i (by omega) rfl)
    refine ⟨fun t ht => ?_, ?_⟩
    · rw [cntE_take l (i + 1) h, if_neg (by omega), k1 t (by omega)]
    · rw [cntE_take l (i + 1) h, if_pos rfl, s3]; simp
theorem st12 {l : List Edt} {n : Int} (i : Nat) (h : i < l.length) (hs : ∀ j (hj : j < l.length), j < i → St1 l n j hj) : St1 l n i h ↔ inR 0 (n - 1) l[i].tm = true ∧ St2 l i h := by
  rcases i with _ | i
  · constructor
    · rintro ⟨h1, h2, h3⟩
      exact ⟨h1, fun _ => by rw [h3]; simp [cntE], fun j hj e => by omega⟩
    · rintro ⟨h1, h2, h3⟩
      exact ⟨h1, fun j hj e => by omega, by rw [h2 rfl]; simp [cntE]⟩
  · obtain ⟨k1, k2⟩ := st1_inv (n := n) i (by omega) hs
    constructor
    · rintro ⟨h1, h2, h3⟩
      have h2 := cmpE_neg.1 (h2 i (by omega) rfl)
      refine ⟨h1, fun e => by omega, fun j hj e => ?_⟩
      have : j = i := by omega
      subst this
      rcases h2 with h2 | ⟨h2, h4⟩
      · exact .inl ⟨h2, by rw [h3, k1 _ h2]; simp⟩
      · refine .inr ⟨h2, ?_⟩; rw [h3, ← h2]; omega
    · rintro ⟨h1, h2, h3⟩
      have h3 := h3 i (by omega) rfl
      refine ⟨h1, fun j hj e => ?_, ?_⟩
      · have : j = i := by omega
        subst this
        rw [cmpE_neg]; omega
      · rcases h3 with ⟨h3, h4⟩ | ⟨h3, h4⟩
        · rw [k1 _ h3, h4]; simp
        · rw [← h3]; omega
theorem st_all {l : List Edt} {n : Int} : ∀ N, N ≤ l.length → ((∀ j (hj : j < l.length), j < N → St1 l n j hj) ↔ (∀ j (hj : j < l.length), j < N → inR 0 (n - 1) l[j].tm = true ∧ St2 l j hj))
  | 0, _ => by constructor <;> (intro _ j _ hj; omega)
  | N + 1, h => by
    have ih := st_all (l := l) (n := n) N (by omega)
    constructor
    · intro hs j hj hjn
      rcases Nat.lt_succ_iff_lt_or_eq.1 hjn with h1 | rfl
      · exact ih.1 (fun q hq hqn => hs q hq (by omega)) j hj h1
      · exact (st12 j hj (fun q hq hqn => hs q hq (by omega))).1 (hs j hj (by omega))
    · intro hs j hj hjn
      have ih2 := ih.2 (fun q hq hqn => hs q hq (by omega))
      rcases Nat.lt_succ_iff_lt_or_eq.1 hjn with h1 | rfl
      · exact ih2 j hj h1
      · exact (st12 j hj ih2).2 (hs j hj (by omega))
structure Hist (l : List Edt) (n : Int) : Prop where
  nn : inR 1 3 n = true
  len : l.length ≤ 24
  st : ∀ i (h : i < l.length), St1 l n i h
  fl : ∀ i (h : i < l.length), Fl l[i] n
  ck : ∀ i (h : i < l.length), ∀ t < l[i].ck.length, inR 0 (cntE l (t : Int)) (ckAt l[i].ck (t : Int)) = true
  pr : ∀ i (h : i < l.length), ∀ k (hk : k < l.length), precE l[k] l[i] = true → precE l[i] l[k] = false ∧ noGr l[k].ck l[i].ck = true
section
variable {l : List Edt} {n : Int} (hs : ∀ i (h : i < l.length), St1 l n i h)
include hs
theorem key_le (k : Nat) (h : k < l.length) : 1 ≤ l[k].ct ∧ l[k].ct ≤ cntE l l[k].tm := by
  have h1 := (hs k h).2.2
  have h2 := cntE_take l k h l[k].tm
  have h3 := cntE_all l l[k].tm (k + 1)
  rw [if_pos rfl] at h2
  omega
theorem key_ex (t : Int) : ∀ i, i ≤ l.length → ∀ m : Nat, 1 ≤ m → m ≤ cntE (l.take i) t → ∃ k, ∃ h : k < l.length, k < i ∧ l[k].tm = t ∧ l[k].ct = m
  | 0, _, m, h1, h2 => by simp [cntE] at h2; omega
  | i + 1, hi, m, h1, h2 => by
    rw [cntE_take l i (by omega)] at h2
    by_cases hm : m ≤ cntE (l.take i) t
    · obtain ⟨k, hk, h3, h4, h5⟩ := key_ex t i (by omega) m h1 hm
      exact ⟨k, hk, by omega, h4, h5⟩
    · by_cases ht : l[i].tm = t
      · rw [if_pos ht] at h2
        refine ⟨i, by omega, by omega, ht, ?_⟩
        rw [(hs i (by omega)).2.2, ht]; omega
      · rw [if_neg ht] at h2; omega
theorem key_lt {j k : Nat} (hj : j < l.length) (hk : k < l.length) (hjk : j < k) (ht : l[j].tm = l[k].tm) : l[j].ct < l[k].ct := by
  have h1 := (hs j hj).2.2
  have h2 := (hs k hk).2.2
  have h3 := cntE_take l j hj l[j].tm
  rw [if_pos rfl] at h3
  have h4 := cntE_mono l l[j].tm (show j + 1 ≤ k by omega)
  rw [← ht] at h2
  omega
theorem key_inj {j k : Nat} (hj : j < l.length) (hk : k < l.length) (ht : l[j].tm = l[k].tm) (hc : l[j].ct = l[k].ct) : j = k := by
  rcases Nat.lt_trichotomy j k with h | h | h
  · have := key_lt hs hj hk h ht; omega
  · exact h
  · have := key_lt hs hk hj h ht.symm; omega
theorem key_fnd {k : Nat} (hk : k < l.length) {t m : Int} (ht : l[k].tm = t) (hm : l[k].ct = m) : fndE l t m = (k : Int) := by
  unfold fndE idx
  cases h : l.findIdx? (keyE t m) with
  | none =>
    rw [List.findIdx?_eq_none_iff] at h
    have := h _ (List.getElem_mem hk)
    simp [keyE, ht, hm] at this
  | some j =>
    rw [List.findIdx?_eq_some_iff_getElem] at h
    obtain ⟨hj, h1, _⟩ := h
    simp only [keyE, Bool.and_eq_true, decide_eq_true_eq] at h1
    have := key_inj hs hj hk (by rw [h1.1, ht]) (by rw [h1.2, hm])
    subst this
    rfl
end
theorem fnd_key {l : List Edt} {t m : Int} {k : Nat} (hk : k < l.length) (h : fndE l t m = (k : Int)) : l[k].tm = t ∧ l[k].ct = m := by
  unfold fndE idx at h
  cases h2 : l.findIdx? (keyE t m) with
  | none => rw [h2] at h; simp at h
  | some j =>
    rw [h2] at h
    simp at h
    have h : j = k := by omega
    subst h
    rw [List.findIdx?_eq_some_iff_getElem] at h2
    obtain ⟨hj, h1, _⟩ := h2
    simpa [keyE] using h1
theorem precE_iff {a b : Edt} : precE a b = true ↔ ¬ (a.tm = b.tm ∧ a.ct = b.ct) ∧ (0 ≤ a.tm ∧ a.tm ≤ (b.ck.length : Int) - 1) ∧ a.ct ≤ ckAt b.ck a.tm := by
  unfold precE
  simp only [Bool.and_eq_true, Bool.not_eq_true', Bool.and_eq_false_iff, decide_eq_true_eq, decide_eq_false_iff_not, inR_iff]
  constructor
  · rintro ⟨⟨h1, h2⟩, h3⟩; exact ⟨by omega, h2, h3⟩
  · rintro ⟨h1, h2, h3⟩; exact ⟨⟨by omega, h2⟩, h3⟩
theorem noGr_self (a : List Int) : noGr a a = true := noGr_iff.2 fun i _ => Int.le_refl _
theorem kn_iff {l : List Edt} {n : Int} (hs : ∀ i (h : i < l.length), St1 l n i h) (hf : ∀ i (h : i < l.length), Fl l[i] n) (i : Nat) (h : i < l.length) :
    Kn l l[i] ↔ (∀ t < l[i].ck.length, inR 0 (cntE l (t : Int)) (ckAt l[i].ck (t : Int)) = true) ∧ ∀ k (hk : k < l.length), precE l[k] l[i] = true → precE l[i] l[k] = false ∧ noGr l[k].ck l[i].ck = true := by
  have hlen : ∀ k (hk : k < l.length), l[k].ck.length = l[i].ck.length := fun k hk => by have := (hf k hk).1; have := (hf i h).1; omega
  constructor
  · intro hk
    refine ⟨fun t ht => ?_, fun k hkl hp => ?_⟩
    · obtain ⟨h1, h2⟩ := hk t ht
      have h1 := inR_iff.1 h1
      rw [inR_iff]
      refine ⟨h1.1, ?_⟩
      rcases Int.lt_or_le 0 (ckAt l[i].ck (t : Int)) with h3 | h3
      · obtain ⟨k, hkl, h4, _⟩ := h2 (ckAt l[i].ck (t : Int)).toNat (by omega) (by omega)
        obtain ⟨h5, h6⟩ := fnd_key hkl h4
        have := (key_le hs k hkl).2
        rw [h5] at this
        omega
      · omega
    · obtain ⟨p1, ⟨p2, p3⟩, p4⟩ := precE_iff.1 hp
      have hct := (key_le hs k hkl).1
      obtain ⟨h1, h2⟩ := hk l[k].tm.toNat (by omega)
      have e1 : ((l[k].tm.toNat : Nat) : Int) = l[k].tm := by omega
      have e2 : ((l[k].ct.toNat : Nat) : Int) = l[k].ct := by omega
      obtain ⟨k', hkl', h4, h5, h6⟩ := h2 l[k].ct.toNat (by omega) (by rw [e1, e2]; exact p4)
      rw [e1, e2] at h4 h5
      have := key_fnd hs hkl rfl rfl
      rw [h4] at this
      have : k' = k := by omega
      subst this
      refine ⟨?_, h6⟩
      rw [Bool.eq_false_iff]
      intro hq
      obtain ⟨q1, q2, q3⟩ := precE_iff.1 hq
      exact h5 ⟨by omega, q3⟩
  · rintro ⟨hc, hp⟩ t ht
    have h1 := inR_iff.1 (hc t ht)
    refine ⟨inR_iff.2 ⟨h1.1, by have := cntE_le l t; omega⟩, fun m m1 m2 => ?_⟩
    obtain ⟨k, hkl, _, k1, k2⟩ := key_ex hs (t : Int) l.length (Nat.le_refl _) m m1 (by rw [List.take_length]; omega)
    have hR := inR_iff.1 (hs i h).1
    have hL := (hf i h).1
    refine ⟨k, hkl, key_fnd hs hkl k1 k2, ?_, ?_⟩
    · rintro ⟨h2, h3⟩
      have hq : precE l[k] l[i] = true := precE_iff.2 ⟨by rw [k1, k2]; omega, by rw [k1]; omega, by rw [k1, k2]; exact m2⟩
      have := (hp k hkl hq).1
      have h4 : precE l[i] l[k] = true := precE_iff.2 ⟨by rw [k1, k2]; omega, by rw [hlen k hkl]; omega, h3⟩
      rw [h4] at this; cases this
    · by_cases he : l[k].tm = l[i].tm ∧ l[k].ct = l[i].ct
      · have := key_inj hs hkl h he.1 he.2
        subst this
        exact noGr_self _
      · exact (hp k hkl (precE_iff.2 ⟨he, by rw [k1]; omega, by rw [k1, k2]; exact m2⟩)).2
structure HistS (l : List Edt) (n : Int) : Prop where
  nn : inR 1 3 n = true
  len : l.length ≤ 24
  st : ∀ i (h : i < l.length), fldE l[i] n = true ∧ St2 l i h
  kn : ∀ i (h : i < l.length), Kn l l[i]
theorem fldE_iff {e : Edt} {n : Int} : fldE e n = true ↔ inR 0 (n - 1) e.tm = true ∧ Fl e n := by
  simp only [fldE, Fl, Bool.and_eq_true, decide_eq_true_eq]
  constructor
  · rintro ⟨⟨⟨⟨h1, h2⟩, h3⟩, h4⟩, h5⟩; exact ⟨h1, h2, h3, h4, h5⟩
  · rintro ⟨h1, h2, h3, h4, h5⟩; exact ⟨⟨⟨⟨h1, h2⟩, h3⟩, h4⟩, h5⟩
theorem hist_iff {l : List Edt} {n : Int} : Hist l n ↔ HistS l n := by
  constructor
  · intro h
    have hs := (st_all (l := l) (n := n) l.length (Nat.le_refl _)).1 (fun j hj _ => h.st j hj)
    exact ⟨h.nn, h.len, fun i hi => ⟨fldE_iff.2 ⟨(hs i hi hi).1, h.fl i hi⟩, (hs i hi hi).2⟩, fun i hi => (kn_iff h.st h.fl i hi).2 ⟨h.ck i hi, h.pr i hi⟩⟩
  · intro h
    have hs := (st_all (l := l) (n := n) l.length (Nat.le_refl _)).2 (fun j hj _ => ⟨(fldE_iff.1 (h.st j hj).1).1, (h.st j hj).2⟩)
    have hf : ∀ i (hi : i < l.length), Fl l[i] n := fun i hi => (fldE_iff.1 (h.st i hi).1).2
    have hk := fun i hi => (kn_iff (fun i hi => hs i hi hi) hf i hi).1 (h.kn i hi)
    exact ⟨h.nn, h.len, fun i hi => hs i hi hi, hf, fun i hi => (hk i hi).1, fun i hi => (hk i hi).2⟩
end Go.Proofs.Ytbofobjofngoeaa.EngS


set_option linter.unusedSimpArgs false
set_option linter.unusedVariables false
set_option maxHeartbeats 4000000
set_option maxRecDepth 100000
namespace Go.Proofs.Ytbofobjofngoeaa.EngS
open Go Go.Proofs Go.Eng Go.RowKit
attribute [local irreducible] Go.RowKit.wrap64
noncomputable def hist (l : List Edt) (n : Int) : Bool := @decide (Hist l n) (Classical.propDecidable _)
theorem hist_iff' {l n} : hist l n = true ↔ Hist l n := by unfold hist; exact @decide_eq_true_iff _ (Classical.propDecidable _)
theorem hist_no {l n} (h : ¬ Hist l n) : hist l n = false := by rw [Bool.eq_false_iff]; exact fun hb => h (hist_iff'.1 hb)
def Gd1Q (l : List Edt) (n : Int) (i : Nat) (h : i < l.length) (e : Exit) (st : St) : Prop :=
  (e = .ret ∧ ¬ (fldE l[i] n = true ∧ St2 l i h) ∧ FinP T Try.f74.results.toList [.v (.sl true 5 (edts true l)), int n] [.x, .x] [boo false] st) ∨
  (e = .normal ∧ (fldE l[i] n = true ∧ St2 l i h) ∧ LessL st [(0, .c (.sl true 5 (edts true l))), (1, .c (.sc (.int .i64 n))), (5, .c (.sc (.int .i64 ((i + 1 : Nat) : Int))))] [])
theorem w_gd1a (l : List Edt) (n : Int) (i : Nat) (h : i < l.length) (hl : l.length ≤ 24) (h1 : 1 ≤ n) (h3 : n ≤ 3) (hW : EdtW l[i]) (hf : fldE l[i] n = false) : AW Try.prog 90 (cAt Try.f74 [2, 2, 1, 2, 5, 7]) (mk [(0, .c (.sl true 5 (edts true l))), (1, .c (.sc (.int .i64 n))), (5, .c (.sc (.int .i64 (i : Int))))] []) (Gd1Q l n i h) := by
  have e1 : wrap64 ((i : Int) + 1) = ((i + 1 : Nat) : Int) := by rw [w64 (by omega) (by omega)]; omega
  have cf := c_spec_l22Fields l[i] n hW h1 h3
  have hb : Hd (¬ (fldE l[i] n = true ∧ St2 l i h)) := fun hh => by rw [hf] at hh; cases hh.1
  rw [hf] at cf
  clear hf
  repeat' (first | with_reducible refine OutOK.done ?_ | refine thenQ_n ?_ | refine thenQ_r ?_ | refine thenQ_e ?_ | refine AW.seq ?_ | refine AW.dreg tok mixed [10]  [(0, false), (1, false), (2, false), (3, false), (4, false), (5, false), (6, false), (7, false), (9, false), (8, false), (10, true), (11, false), (12, false), (13, false)] (by decide +kernel) rfl (by simp [*]; rfl) ?_ | refine AW.dreg tok mixed [17, 28]  [(0, false), (1, false), (2, false), (3, false), (4, false), (5, false), (6, false), (7, false), (8, false), (9, false), (10, false), (11, false), (12, false), (13, false), (14, false), (16, false), (15, false), (17, true), (18, false), (19, false), (20, false), (21, false), (22, false), (23, false), (24, false), (27, false), (25, false), (26, false), (28, true), (29, false), (30, false), (31, false), (32, false)] (by decide +kernel) rfl (by simp [*]; rfl) ?_ | refine AW.reg tok (by simp [*]; rfl) ?_ | refine AW.ifB (by simp [*]; rfl) ?_ | refine IfG.t ?_ | refine IfG.f ?_ | ((first | refine IfG.p (fun hg => ?_) (fun hg => ?_) | refine IfG.n (fun hg => ?_) (fun hg => ?_) | refine OutOK.gateP (fun hg => ?_) (fun hg => ?_) | refine OutOK.gateN (fun hg => ?_) (fun hg => ?_) | refine IfG.g (fun hg => ?_) (fun hg => ?_) | refine OutOK.gate (fun hg => ?_) (fun hg => ?_)) <;> (try (have hg' := hg; simp at hg'))) | (refine OutOK.callF [] (by simp [*]; rfl) (by simp [*]; rfl) (by simp [*]; rfl) hb117 (by apply cf <;> first | assumption | exact Hd.out (by assumption) | ((try clear e1); omega)) ⟨by simp [*], by simp [*], by simp [*], by simp [*], by simp [*]⟩ (by simp [*]) (by simp [*]; rfl) ?_) | refine OutOK.run (by simp [*]; rfl) ?_ | refine AW.ret ?_ | refine AW.skip ?_ | refine AW.exit ?_ | refine fin_r ?_ | refine fin_n ?_ | refine AW.block ?_ | refine blockQ_n ?_ | refine blockQ_r ?_ | refine blockQ_e ?_ | refine blockQ_o rfl ?_)
  exact .inl ⟨rfl, hb.out, by simp [Try.f74]⟩
theorem w_gd1b (l : List Edt) (n : Int) (i : Nat) (h : i < l.length) (hl : l.length ≤ 24) (h1 : 1 ≤ n) (h3 : n ≤ 3) (hW : EdtW l[i]) (h0 : i = 0) (hf : fldE l[i] n = true) (hc : l[i].ct = 1) : AW Try.prog 90 (cAt Try.f74 [2, 2, 1, 2, 5, 7]) (mk [(0, .c (.sl true 5 (edts true l))), (1, .c (.sc (.int .i64 n))), (5, .c (.sc (.int .i64 (i : Int))))] []) (Gd1Q l n i h) := by
  have e1 : wrap64 ((i : Int) + 1) = ((i + 1 : Nat) : Int) := by rw [w64 (by omega) (by omega)]; omega
  have cf := c_spec_l22Fields l[i] n hW h1 h3
  have hz : (i = 0) = True := by simp [h0]
  have hb : Hd (fldE l[i] n = true ∧ St2 l i h) := ⟨hf, fun _ => hc, fun j hj e => by omega⟩
  obtain ⟨tm, ct, ck, it, tx, he⟩ : ∃ tm ct ck it tx, l[i] = ⟨tm, ct, ck, it, tx⟩ := ⟨_, _, _, _, _, rfl⟩
  rw [he] at cf hf hc
  simp only at hc
  rw [hf] at cf
  clear hf
  clear h0 hW
  subst hc
  repeat' (first | with_reducible refine OutOK.done ?_ | refine thenQ_n ?_ | refine thenQ_r ?_ | refine thenQ_e ?_ | refine AW.seq ?_ | refine AW.dreg tok mixed [10]  [(0, false), (1, false), (2, false), (3, false), (4, false), (5, false), (6, false), (7, false), (9, false), (8, false), (10, true), (11, false), (12, false), (13, false)] (by decide +kernel) rfl (by simp [*]; rfl) ?_ | refine AW.dreg tok mixed [17, 28]  [(0, false), (1, false), (2, false), (3, false), (4, false), (5, false), (6, false), (7, false), (8, false), (9, false), (10, false), (11, false), (12, false), (13, false), (14, false), (16, false), (15, false), (17, true), (18, false), (19, false), (20, false), (21, false), (22, false), (23, false), (24, false), (27, false), (25, false), (26, false), (28, true), (29, false), (30, false), (31, false), (32, false)] (by decide +kernel) rfl (by simp [*]; rfl) ?_ | refine AW.reg tok (by simp [*]; rfl) ?_ | refine AW.ifB (by simp [*]; rfl) ?_ | refine IfG.t ?_ | refine IfG.f ?_ | ((first | refine IfG.p (fun hg => ?_) (fun hg => ?_) | refine IfG.n (fun hg => ?_) (fun hg => ?_) | refine OutOK.gateP (fun hg => ?_) (fun hg => ?_) | refine OutOK.gateN (fun hg => ?_) (fun hg => ?_) | refine IfG.g (fun hg => ?_) (fun hg => ?_) | refine OutOK.gate (fun hg => ?_) (fun hg => ?_)) <;> (try (have hg' := hg; simp at hg'))) | (refine OutOK.callF [] (by simp [*]; rfl) (by simp [*]; rfl) (by simp [*]; rfl) hb117 (by apply cf <;> first | assumption | exact Hd.out (by assumption) | ((try clear e1); omega)) ⟨by simp [*], by simp [*], by simp [*], by simp [*], by simp [*]⟩ (by simp [*]) (by simp [*]; rfl) ?_) | refine OutOK.run (by simp [*]; rfl) ?_ | refine AW.ret ?_ | refine AW.skip ?_ | refine AW.exit ?_ | refine fin_r ?_ | refine fin_n ?_ | refine AW.block ?_ | refine blockQ_n ?_ | refine blockQ_r ?_ | refine blockQ_e ?_ | refine blockQ_o rfl ?_)
  exact .inr ⟨rfl, hb.out, by simp, by simp, by simp⟩
theorem w_gd1c (l : List Edt) (n : Int) (i : Nat) (h : i < l.length) (hl : l.length ≤ 24) (h1 : 1 ≤ n) (h3 : n ≤ 3) (hW : EdtW l[i]) (h0 : i = 0) (hf : fldE l[i] n = true) (hc : ¬ l[i].ct = 1) : AW Try.prog 90 (cAt Try.f74 [2, 2, 1, 2, 5, 7]) (mk [(0, .c (.sl true 5 (edts true l))), (1, .c (.sc (.int .i64 n))), (5, .c (.sc (.int .i64 (i : Int))))] []) (Gd1Q l n i h) := by
  have e1 : wrap64 ((i : Int) + 1) = ((i + 1 : Nat) : Int) := by rw [w64 (by omega) (by omega)]; omega
  have cf := c_spec_l22Fields l[i] n hW h1 h3
  have hz : (i = 0) = True := by simp [h0]
  have hb : Hd (¬ (fldE l[i] n = true ∧ St2 l i h)) := fun hh => hc (hh.2.1 h0)
  obtain ⟨tm, ct, ck, it, tx, he⟩ : ∃ tm ct ck it tx, l[i] = ⟨tm, ct, ck, it, tx⟩ := ⟨_, _, _, _, _, rfl⟩
  rw [he] at cf hf hc
  simp only at hc
  rw [hf] at cf
  clear hf
  clear h0 hW
  repeat' (first | with_reducible refine OutOK.done ?_ | refine thenQ_n ?_ | refine thenQ_r ?_ | refine thenQ_e ?_ | refine AW.seq ?_ | refine AW.dreg tok mixed [10]  [(0, false), (1, false), (2, false), (3, false), (4, false), (5, false), (6, false), (7, false), (9, false), (8, false), (10, true), (11, false), (12, false), (13, false)] (by decide +kernel) rfl (by simp [*]; rfl) ?_ | refine AW.dreg tok mixed [17, 28]  [(0, false), (1, false), (2, false), (3, false), (4, false), (5, false), (6, false), (7, false), (8, false), (9, false), (10, false), (11, false), (12, false), (13, false), (14, false), (16, false), (15, false), (17, true), (18, false), (19, false), (20, false), (21, false), (22, false), (23, false), (24, false), (27, false), (25, false), (26, false), (28, true), (29, false), (30, false), (31, false), (32, false)] (by decide +kernel) rfl (by simp [*]; rfl) ?_ | refine AW.reg tok (by simp [*]; rfl) ?_ | refine AW.ifB (by simp [*]; rfl) ?_ | refine IfG.t ?_ | refine IfG.f ?_ | ((first | refine IfG.p (fun hg => ?_) (fun hg => ?_) | refine IfG.n (fun hg => ?_) (fun hg => ?_) | refine OutOK.gateP (fun hg => ?_) (fun hg => ?_) | refine OutOK.gateN (fun hg => ?_) (fun hg => ?_) | refine IfG.g (fun hg => ?_) (fun hg => ?_) | refine OutOK.gate (fun hg => ?_) (fun hg => ?_)) <;> (try (have hg' := hg; simp at hg'))) | (refine OutOK.callF [] (by simp [*]; rfl) (by simp [*]; rfl) (by simp [*]; rfl) hb117 (by apply cf <;> first | assumption | exact Hd.out (by assumption) | ((try clear e1); omega)) ⟨by simp [*], by simp [*], by simp [*], by simp [*], by simp [*]⟩ (by simp [*]) (by simp [*]; rfl) ?_) | refine OutOK.run (by simp [*]; rfl) ?_ | refine AW.ret ?_ | refine AW.skip ?_ | refine AW.exit ?_ | refine fin_r ?_ | refine fin_n ?_ | refine AW.block ?_ | refine blockQ_n ?_ | refine blockQ_r ?_ | refine blockQ_e ?_ | refine blockQ_o rfl ?_)
  exact .inl ⟨rfl, hb.out, by simp [Try.f74]⟩
theorem w_gd1d (l : List Edt) (n : Int) (i : Nat) (h : i < l.length) (hl : l.length ≤ 24) (h1 : 1 ≤ n) (h3 : n ≤ 3) (hW : EdtW l[i]) (j : Nat) (hj : j < l.length) (hI : i = j + 1) (hf : fldE l[i] n = true) (hct : -100 ≤ l[j].ct ∧ l[j].ct ≤ 100) (hc : l[j].tm < l[i].tm) (hc2 : l[i].ct = 1) : AW Try.prog 90 (cAt Try.f74 [2, 2, 1, 2, 5, 7]) (mk [(0, .c (.sl true 5 (edts true l))), (1, .c (.sc (.int .i64 n))), (5, .c (.sc (.int .i64 (i : Int))))] []) (Gd1Q l n i h) := by
  have e1 : wrap64 ((i : Int) + 1) = ((i + 1 : Nat) : Int) := by rw [w64 (by omega) (by omega)]; omega
  have e2 : wrap64 ((i : Int) - 1) = (j : Int) := by rw [w64 (by omega) (by omega)]; omega
  have cf := c_spec_l22Fields l[i] n hW h1 h3
  have hb : Hd (fldE l[i] n = true ∧ St2 l i h) := by
    refine ⟨hf, fun e => by omega, fun q hq e => ?_⟩
    have : q = j := by omega
    subst this
    exact .inl ⟨hc, hc2⟩
  obtain ⟨c1, hc1⟩ : ∃ c1, l[j].ct + 1 = c1 := ⟨_, rfl⟩
  have e3 : wrap64 (l[j].ct + 1) = c1 := by rw [w64 (by omega) (by omega)]; exact hc1
  have hIz : ¬ i = 0 := by omega
  obtain ⟨tm, ct, ck, it, tx, he⟩ : ∃ tm ct ck it tx, l[i] = ⟨tm, ct, ck, it, tx⟩ := ⟨_, _, _, _, _, rfl⟩
  rw [he] at cf hf hc hc2
  simp only at hc hc2
  rw [hf] at cf
  clear hf
  clear hW hc1 hct hI
  subst hc2
  repeat' (first | with_reducible refine OutOK.done ?_ | refine thenQ_n ?_ | refine thenQ_r ?_ | refine thenQ_e ?_ | refine AW.seq ?_ | refine AW.dreg tok mixed [10]  [(0, false), (1, false), (2, false), (3, false), (4, false), (5, false), (6, false), (7, false), (9, false), (8, false), (10, true), (11, false), (12, false), (13, false)] (by decide +kernel) rfl (by simp [*]; rfl) ?_ | refine AW.dreg tok mixed [17, 28]  [(0, false), (1, false), (2, false), (3, false), (4, false), (5, false), (6, false), (7, false), (8, false), (9, false), (10, false), (11, false), (12, false), (13, false), (14, false), (16, false), (15, false), (17, true), (18, false), (19, false), (20, false), (21, false), (22, false), (23, false), (24, false), (27, false), (25, false), (26, false), (28, true), (29, false), (30, false), (31, false), (32, false)] (by decide +kernel) rfl (by simp [*]; rfl) ?_ | refine AW.reg tok (by simp [*]; rfl) ?_ | refine AW.ifB (by simp [*]; rfl) ?_ | refine IfG.t ?_ | refine IfG.f ?_ | ((first | refine IfG.p (fun hg => ?_) (fun hg => ?_) | refine IfG.n (fun hg => ?_) (fun hg => ?_) | refine OutOK.gateP (fun hg => ?_) (fun hg => ?_) | refine OutOK.gateN (fun hg => ?_) (fun hg => ?_) | refine IfG.g (fun hg => ?_) (fun hg => ?_) | refine OutOK.gate (fun hg => ?_) (fun hg => ?_)) <;> (try (have hg' := hg; simp at hg'))) | (refine OutOK.callF [] (by simp [*]; rfl) (by simp [*]; rfl) (by simp [*]; rfl) hb117 (by apply cf <;> first | assumption | exact Hd.out (by assumption) | ((try clear e1); (try clear e2); (try clear e3); omega)) ⟨by simp [*], by simp [*], by simp [*], by simp [*], by simp [*]⟩ (by simp [*]) (by simp [*]; rfl) ?_) | refine OutOK.run (by simp [*]; rfl) ?_ | refine AW.ret ?_ | refine AW.skip ?_ | refine AW.exit ?_ | refine fin_r ?_ | refine fin_n ?_ | refine AW.block ?_ | refine blockQ_n ?_ | refine blockQ_r ?_ | refine blockQ_e ?_ | refine blockQ_o rfl ?_)
  exact .inr ⟨rfl, hb.out, by simp, by simp, by simp⟩
theorem w_gd1e (l : List Edt) (n : Int) (i : Nat) (h : i < l.length) (hl : l.length ≤ 24) (h1 : 1 ≤ n) (h3 : n ≤ 3) (hW : EdtW l[i]) (j : Nat) (hj : j < l.length) (hI : i = j + 1) (hf : fldE l[i] n = true) (hct : -100 ≤ l[j].ct ∧ l[j].ct ≤ 100) (hc : l[j].tm < l[i].tm) (hc2 : ¬ l[i].ct = 1) : AW Try.prog 90 (cAt Try.f74 [2, 2, 1, 2, 5, 7]) (mk [(0, .c (.sl true 5 (edts true l))), (1, .c (.sc (.int .i64 n))), (5, .c (.sc (.int .i64 (i : Int))))] []) (Gd1Q l n i h) := by
  have e1 : wrap64 ((i : Int) + 1) = ((i + 1 : Nat) : Int) := by rw [w64 (by omega) (by omega)]; omega
  have e2 : wrap64 ((i : Int) - 1) = (j : Int) := by rw [w64 (by omega) (by omega)]; omega
  have cf := c_spec_l22Fields l[i] n hW h1 h3
  have hb : Hd (¬ (fldE l[i] n = true ∧ St2 l i h)) := fun hh => by have := hh.2.2 j hj hI; omega
  obtain ⟨c1, hc1⟩ : ∃ c1, l[j].ct + 1 = c1 := ⟨_, rfl⟩
  have e3 : wrap64 (l[j].ct + 1) = c1 := by rw [w64 (by omega) (by omega)]; exact hc1
  have hIz : ¬ i = 0 := by omega
  obtain ⟨tm, ct, ck, it, tx, he⟩ : ∃ tm ct ck it tx, l[i] = ⟨tm, ct, ck, it, tx⟩ := ⟨_, _, _, _, _, rfl⟩
  rw [he] at cf hf hc hc2
  simp only at hc hc2
  rw [hf] at cf
  clear hf
  clear hW hc1 hct hI
  repeat' (first | with_reducible refine OutOK.done ?_ | refine thenQ_n ?_ | refine thenQ_r ?_ | refine thenQ_e ?_ | refine AW.seq ?_ | refine AW.dreg tok mixed [10]  [(0, false), (1, false), (2, false), (3, false), (4, false), (5, false), (6, false), (7, false), (9, false), (8, false), (10, true), (11, false), (12, false), (13, false)] (by decide +kernel) rfl (by simp [*]; rfl) ?_ | refine AW.dreg tok mixed [17, 28]  [(0, false), (1, false), (2, false), (3, false), (4, false), (5, false), (6, false), (7, false), (8, false), (9, false), (10, false), (11, false), (12, false), (13, false), (14, false), (16, false), (15, false), (17, true), (18, false), (19, false), (20, false), (21, false), (22, false), (23, false), (24, false), (27, false), (25, false), (26, false), (28, true), (29, false), (30, false), (31, false), (32, false)] (by decide +kernel) rfl (by simp [*]; rfl) ?_ | refine AW.reg tok (by simp [*]; rfl) ?_ | refine AW.ifB (by simp [*]; rfl) ?_ | refine IfG.t ?_ | refine IfG.f ?_ | ((first | refine IfG.p (fun hg => ?_) (fun hg => ?_) | refine IfG.n (fun hg => ?_) (fun hg => ?_) | refine OutOK.gateP (fun hg => ?_) (fun hg => ?_) | refine OutOK.gateN (fun hg => ?_) (fun hg => ?_) | refine IfG.g (fun hg => ?_) (fun hg => ?_) | refine OutOK.gate (fun hg => ?_) (fun hg => ?_)) <;> (try (have hg' := hg; simp at hg'))) | (refine OutOK.callF [] (by simp [*]; rfl) (by simp [*]; rfl) (by simp [*]; rfl) hb117 (by apply cf <;> first | assumption | exact Hd.out (by assumption) | ((try clear e1); (try clear e2); (try clear e3); omega)) ⟨by simp [*], by simp [*], by simp [*], by simp [*], by simp [*]⟩ (by simp [*]) (by simp [*]; rfl) ?_) | refine OutOK.run (by simp [*]; rfl) ?_ | refine AW.ret ?_ | refine AW.skip ?_ | refine AW.exit ?_ | refine fin_r ?_ | refine fin_n ?_ | refine AW.block ?_ | refine blockQ_n ?_ | refine blockQ_r ?_ | refine blockQ_e ?_ | refine blockQ_o rfl ?_)
  exact .inl ⟨rfl, hb.out, by simp [Try.f74]⟩
theorem w_gd1f (l : List Edt) (n : Int) (i : Nat) (h : i < l.length) (hl : l.length ≤ 24) (h1 : 1 ≤ n) (h3 : n ≤ 3) (hW : EdtW l[i]) (j : Nat) (hj : j < l.length) (hI : i = j + 1) (hf : fldE l[i] n = true) (hct : -100 ≤ l[j].ct ∧ l[j].ct ≤ 100) (hc : ¬ l[j].tm < l[i].tm) (hc2 : ¬ l[j].tm = l[i].tm) : AW Try.prog 90 (cAt Try.f74 [2, 2, 1, 2, 5, 7]) (mk [(0, .c (.sl true 5 (edts true l))), (1, .c (.sc (.int .i64 n))), (5, .c (.sc (.int .i64 (i : Int))))] []) (Gd1Q l n i h) := by
  have e1 : wrap64 ((i : Int) + 1) = ((i + 1 : Nat) : Int) := by rw [w64 (by omega) (by omega)]; omega
  have e2 : wrap64 ((i : Int) - 1) = (j : Int) := by rw [w64 (by omega) (by omega)]; omega
  have cf := c_spec_l22Fields l[i] n hW h1 h3
  have hb : Hd (¬ (fldE l[i] n = true ∧ St2 l i h)) := fun hh => by have := hh.2.2 j hj hI; omega
  obtain ⟨c1, hc1⟩ : ∃ c1, l[j].ct + 1 = c1 := ⟨_, rfl⟩
  have e3 : wrap64 (l[j].ct + 1) = c1 := by rw [w64 (by omega) (by omega)]; exact hc1
  have hIz : ¬ i = 0 := by omega
  obtain ⟨tm, ct, ck, it, tx, he⟩ : ∃ tm ct ck it tx, l[i] = ⟨tm, ct, ck, it, tx⟩ := ⟨_, _, _, _, _, rfl⟩
  rw [he] at cf hf hc hc2
  simp only at hc hc2
  rw [hf] at cf
  clear hf
  clear hW hc1 hct hI
  repeat' (first | with_reducible refine OutOK.done ?_ | refine thenQ_n ?_ | refine thenQ_r ?_ | refine thenQ_e ?_ | refine AW.seq ?_ | refine AW.dreg tok mixed [10]  [(0, false), (1, false), (2, false), (3, false), (4, false), (5, false), (6, false), (7, false), (9, false), (8, false), (10, true), (11, false), (12, false), (13, false)] (by decide +kernel) rfl (by simp [*]; rfl) ?_ | refine AW.dreg tok mixed [17, 28]  [(0, false), (1, false), (2, false), (3, false), (4, false), (5, false), (6, false), (7, false), (8, false), (9, false), (10, false), (11, false), (12, false), (13, false), (14, false), (16, false), (15, false), (17, true), (18, false), (19, false), (20, false), (21, false), (22, false), (23, false), (24, false), (27, false), (25, false), (26, false), (28, true), (29, false), (30, false), (31, false), (32, false)] (by decide +kernel) rfl (by simp [*]; rfl) ?_ | refine AW.reg tok (by simp [*]; rfl) ?_ | refine AW.ifB (by simp [*]; rfl) ?_ | refine IfG.t ?_ | refine IfG.f ?_ | ((first | refine IfG.p (fun hg => ?_) (fun hg => ?_) | refine IfG.n (fun hg => ?_) (fun hg => ?_) | refine OutOK.gateP (fun hg => ?_) (fun hg => ?_) | refine OutOK.gateN (fun hg => ?_) (fun hg => ?_) | refine IfG.g (fun hg => ?_) (fun hg => ?_) | refine OutOK.gate (fun hg => ?_) (fun hg => ?_)) <;> (try (have hg' := hg; simp at hg'))) | (refine OutOK.callF [] (by simp [*]; rfl) (by simp [*]; rfl) (by simp [*]; rfl) hb117 (by apply cf <;> first | assumption | exact Hd.out (by assumption) | ((try clear e1); (try clear e2); (try clear e3); omega)) ⟨by simp [*], by simp [*], by simp [*], by simp [*], by simp [*]⟩ (by simp [*]) (by simp [*]; rfl) ?_) | refine OutOK.run (by simp [*]; rfl) ?_ | refine AW.ret ?_ | refine AW.skip ?_ | refine AW.exit ?_ | refine fin_r ?_ | refine fin_n ?_ | refine AW.block ?_ | refine blockQ_n ?_ | refine blockQ_r ?_ | refine blockQ_e ?_ | refine blockQ_o rfl ?_)
  exact .inl ⟨rfl, hb.out, by simp [Try.f74]⟩
theorem w_gd1g (l : List Edt) (n : Int) (i : Nat) (h : i < l.length) (hl : l.length ≤ 24) (h1 : 1 ≤ n) (h3 : n ≤ 3) (hW : EdtW l[i]) (j : Nat) (hj : j < l.length) (hI : i = j + 1) (hf : fldE l[i] n = true) (hct : -100 ≤ l[j].ct ∧ l[j].ct ≤ 100) (hc : ¬ l[j].tm < l[i].tm) (hc2 : l[j].tm = l[i].tm) (hc3 : l[j].ct + 1 = l[i].ct) : AW Try.prog 90 (cAt Try.f74 [2, 2, 1, 2, 5, 7]) (mk [(0, .c (.sl true 5 (edts true l))), (1, .c (.sc (.int .i64 n))), (5, .c (.sc (.int .i64 (i : Int))))] []) (Gd1Q l n i h) := by
  have e1 : wrap64 ((i : Int) + 1) = ((i + 1 : Nat) : Int) := by rw [w64 (by omega) (by omega)]; omega
  have e2 : wrap64 ((i : Int) - 1) = (j : Int) := by rw [w64 (by omega) (by omega)]; omega
  have cf := c_spec_l22Fields l[i] n hW h1 h3
  have hb : Hd (fldE l[i] n = true ∧ St2 l i h) := by
    refine ⟨hf, fun e => by omega, fun q hq e => ?_⟩
    have : q = j := by omega
    subst this
    exact .inr ⟨hc2, hc3⟩
  obtain ⟨c1, hc1⟩ : ∃ c1, l[j].ct + 1 = c1 := ⟨_, rfl⟩
  have e3 : wrap64 (l[j].ct + 1) = c1 := by rw [w64 (by omega) (by omega)]; exact hc1
  have hIz : ¬ i = 0 := by omega
  rw [hc1] at hc3
  obtain ⟨tm, ct, ck, it, tx, he⟩ : ∃ tm ct ck it tx, l[i] = ⟨tm, ct, ck, it, tx⟩ := ⟨_, _, _, _, _, rfl⟩
  rw [he] at cf hf hc hc2 hc3
  simp only at hc hc2 hc3
  rw [hf] at cf
  clear hf
  clear hW hc1 hct hI
  subst hc3
  repeat' (first | with_reducible refine OutOK.done ?_ | refine thenQ_n ?_ | refine thenQ_r ?_ | refine thenQ_e ?_ | refine AW.seq ?_ | refine AW.dreg tok mixed [10]  [(0, false), (1, false), (2, false), (3, false), (4, false), (5, false), (6, false), (7, false), (9, false), (8, false), (10, true), (11, false), (12, false), (13, false)] (by decide +kernel) rfl (by simp [*]; rfl) ?_ | refine AW.dreg tok mixed [17, 28]  [(0, false), (1, false), (2, false), (3, false), (4, false), (5, false), (6, false), (7, false), (8, false), (9, false), (10, false), (11, false), (12, false), (13, false), (14, false), (16, false), (15, false), (17, true), (18, false), (19, false), (20, false), (21, false), (22, false), (23, false), (24, false), (27, false), (25, false), (26, false), (28, true), (29, false), (30, false), (31, false), (32, false)] (by decide +kernel) rfl (by simp [*]; rfl) ?_ | refine AW.reg tok (by simp [*]; rfl) ?_ | refine AW.ifB (by simp [*]; rfl) ?_ | refine IfG.t ?_ | refine IfG.f ?_ | ((first | refine IfG.p (fun hg => ?_) (fun hg => ?_) | refine IfG.n (fun hg => ?_) (fun hg => ?_) | refine OutOK.gateP (fun hg => ?_) (fun hg => ?_) | refine OutOK.gateN (fun hg => ?_) (fun hg => ?_) | refine IfG.g (fun hg => ?_) (fun hg => ?_) | refine OutOK.gate (fun hg => ?_) (fun hg => ?_)) <;> (try (have hg' := hg; simp at hg'))) | (refine OutOK.callF [] (by simp [*]; rfl) (by simp [*]; rfl) (by simp [*]; rfl) hb117 (by apply cf <;> first | assumption | exact Hd.out (by assumption) | ((try clear e1); (try clear e2); (try clear e3); omega)) ⟨by simp [*], by simp [*], by simp [*], by simp [*], by simp [*]⟩ (by simp [*]) (by simp [*]; rfl) ?_) | refine OutOK.run (by simp [*]; rfl) ?_ | refine AW.ret ?_ | refine AW.skip ?_ | refine AW.exit ?_ | refine fin_r ?_ | refine fin_n ?_ | refine AW.block ?_ | refine blockQ_n ?_ | refine blockQ_r ?_ | refine blockQ_e ?_ | refine blockQ_o rfl ?_)
  exact .inr ⟨rfl, hb.out, by simp, by simp, by simp⟩
theorem w_gd1h (l : List Edt) (n : Int) (i : Nat) (h : i < l.length) (hl : l.length ≤ 24) (h1 : 1 ≤ n) (h3 : n ≤ 3) (hW : EdtW l[i]) (j : Nat) (hj : j < l.length) (hI : i = j + 1) (hf : fldE l[i] n = true) (hct : -100 ≤ l[j].ct ∧ l[j].ct ≤ 100) (hc : ¬ l[j].tm < l[i].tm) (hc2 : l[j].tm = l[i].tm) (hc3 : ¬ l[j].ct + 1 = l[i].ct) : AW Try.prog 90 (cAt Try.f74 [2, 2, 1, 2, 5, 7]) (mk [(0, .c (.sl true 5 (edts true l))), (1, .c (.sc (.int .i64 n))), (5, .c (.sc (.int .i64 (i : Int))))] []) (Gd1Q l n i h) := by
  have e1 : wrap64 ((i : Int) + 1) = ((i + 1 : Nat) : Int) := by rw [w64 (by omega) (by omega)]; omega
  have e2 : wrap64 ((i : Int) - 1) = (j : Int) := by rw [w64 (by omega) (by omega)]; omega
  have cf := c_spec_l22Fields l[i] n hW h1 h3
  have hb : Hd (¬ (fldE l[i] n = true ∧ St2 l i h)) := fun hh => by have := hh.2.2 j hj hI; omega
  obtain ⟨c1, hc1⟩ : ∃ c1, l[j].ct + 1 = c1 := ⟨_, rfl⟩
  have e3 : wrap64 (l[j].ct + 1) = c1 := by rw [w64 (by omega) (by omega)]; exact hc1
  have hIz : ¬ i = 0 := by omega
  rw [hc1] at hc3
  obtain ⟨tm, ct, ck, it, tx, he⟩ : ∃ tm ct ck it tx, l[i] = ⟨tm, ct, ck, it, tx⟩ := ⟨_, _, _, _, _, rfl⟩
  rw [he] at cf hf hc hc2 hc3
  simp only at hc hc2 hc3
  rw [hf] at cf
  clear hf
  clear hW hc1 hct hI
  repeat' (first | with_reducible refine OutOK.done ?_ | refine thenQ_n ?_ | refine thenQ_r ?_ | refine thenQ_e ?_ | refine AW.seq ?_ | refine AW.dreg tok mixed [10]  [(0, false), (1, false), (2, false), (3, false), (4, false), (5, false), (6, false), (7, false), (9, false), (8, false), (10, true), (11, false), (12, false), (13, false)] (by decide +kernel) rfl (by simp [*]; rfl) ?_ | refine AW.dreg tok mixed [17, 28]  [(0, false), (1, false), (2, false), (3, false), (4, false), (5, false), (6, false), (7, false), (8, false), (9, false), (10, false), (11, false), (12, false), (13, false), (14, false), (16, false), (15, false), (17, true), (18, false), (19, false), (20, false), (21, false), (22, false), (23, false), (24, false), (27, false), (25, false), (26, false), (28, true), (29, false), (30, false), (31, false), (32, false)] (by decide +kernel) rfl (by simp [*]; rfl) ?_ | refine AW.reg tok (by simp [*]; rfl) ?_ | refine AW.ifB (by simp [*]; rfl) ?_ | refine IfG.t ?_ | refine IfG.f ?_ | ((first | refine IfG.p (fun hg => ?_) (fun hg => ?_) | refine IfG.n (fun hg => ?_) (fun hg => ?_) | refine OutOK.gateP (fun hg => ?_) (fun hg => ?_) | refine OutOK.gateN (fun hg => ?_) (fun hg => ?_) | refine IfG.g (fun hg => ?_) (fun hg => ?_) | refine OutOK.gate (fun hg => ?_) (fun hg => ?_)) <;> (try (have hg' := hg; simp at hg'))) | (refine OutOK.callF [] (by simp [*]; rfl) (by simp [*]; rfl) (by simp [*]; rfl) hb117 (by apply cf <;> first | assumption | exact Hd.out (by assumption) | ((try clear e1); (try clear e2); (try clear e3); omega)) ⟨by simp [*], by simp [*], by simp [*], by simp [*], by simp [*]⟩ (by simp [*]) (by simp [*]; rfl) ?_) | refine OutOK.run (by simp [*]; rfl) ?_ | refine AW.ret ?_ | refine AW.skip ?_ | refine AW.exit ?_ | refine fin_r ?_ | refine fin_n ?_ | refine AW.block ?_ | refine blockQ_n ?_ | refine blockQ_r ?_ | refine blockQ_e ?_ | refine blockQ_o rfl ?_)
  exact .inl ⟨rfl, hb.out, by simp [Try.f74]⟩
theorem w_gd1 (l : List Edt) (n : Int) (i : Nat) (h : i < l.length) (hl : l.length ≤ 24) (h1 : 1 ≤ n) (h3 : n ≤ 3) (hW : EdtW l[i]) (hct : ∀ j (hj : j < l.length), i = j + 1 → -100 ≤ l[j].ct ∧ l[j].ct ≤ 100) : AW Try.prog 90 (cAt Try.f74 [2, 2, 1, 2, 5, 7]) (mk [(0, .c (.sl true 5 (edts true l))), (1, .c (.sc (.int .i64 n))), (5, .c (.sc (.int .i64 (i : Int))))] []) (Gd1Q l n i h) := by
  cases hf : fldE l[i] n with
  | false => exact w_gd1a l n i h hl h1 h3 hW hf
  | true =>
    rcases i with _ | j
    · by_cases hc : l[0].ct = 1
      · exact w_gd1b l n 0 h hl h1 h3 hW rfl hf hc
      · exact w_gd1c l n 0 h hl h1 h3 hW rfl hf hc
    · have hj := hct j (by omega) rfl
      by_cases hc : l[j].tm < l[j + 1].tm
      · by_cases hc2 : l[j + 1].ct = 1
        · exact w_gd1d l n (j + 1) h hl h1 h3 hW j (by omega) rfl hf hj hc hc2
        · exact w_gd1e l n (j + 1) h hl h1 h3 hW j (by omega) rfl hf hj hc hc2
      · by_cases hc2 : l[j].tm = l[j + 1].tm
        · by_cases hc3 : l[j].ct + 1 = l[j + 1].ct
          · exact w_gd1g l n (j + 1) h hl h1 h3 hW j (by omega) rfl hf hj hc hc2 hc3
          · exact w_gd1h l n (j + 1) h hl h1 h3 hW j (by omega) rfl hf hj hc hc2 hc3
        · exact w_gd1f l n (j + 1) h hl h1 h3 hW j (by omega) rfl hf hj hc hc2
theorem st2_ct {l : List Edt} {n : Int} {i : Nat} (hi : i ≤ l.length) (hl : l.length ≤ 24) (hs : ∀ j (hj : j < l.length), j < i → fldE l[j] n = true ∧ St2 l j hj) (j : Nat) (hj : j < l.length) (hji : i = j + 1) : -100 ≤ l[j].ct ∧ l[j].ct ≤ 100 := by
  have h1 := (st_all (l := l) (n := n) i hi).2 (fun q hq hqi => ⟨(fldE_iff.1 (hs q hq hqi).1).1, (hs q hq hqi).2⟩)
  have h2 := (st1_inv (n := n) j hj (fun q hq hqi => h1 q hq (by omega))).2
  have h3 := cntE_all l l[j].tm (j + 1)
  have h4 := cntE_le l l[j].tm
  omega
theorem c_spec_l22Good (l : List Edt) (n : Int) (h : l.length ≤ 4611686018427387904) (hW : ∀ e ∈ l, EdtW e) : ACall Try.prog 74 [.v (.sl true 5 (edts true l)), int n] [.x, .x] [boo (hist l n)] := by
  have hW' : Hd _ := hW
  clear hW
  rcases Nat.lt_or_ge 24 l.length with h24 | h24
  · have hb : hist l n = false := hist_no (fun hh => by have := hh.len; omega)
    rw [hb]
    have h24' : (24 : Int) < l.length := by omega
    clear hb
    refine ACall.of (N := 90) tok Try.func74 rfl rfl rfl (by simp) ?_
    repeat' (first | with_reducible refine OutOK.done ?_ | refine thenQ_n ?_ | refine thenQ_r ?_ | refine thenQ_e ?_ | refine AW.seq ?_ | refine AW.dreg tok mixed [10]  [(0, false), (1, false), (2, false), (3, false), (4, false), (5, false), (6, false), (7, false), (9, false), (8, false), (10, true), (11, false), (12, false), (13, false)] (by decide +kernel) rfl (by simp [*]; rfl) ?_ | refine AW.dreg tok mixed [17, 28]  [(0, false), (1, false), (2, false), (3, false), (4, false), (5, false), (6, false), (7, false), (8, false), (9, false), (10, false), (11, false), (12, false), (13, false), (14, false), (16, false), (15, false), (17, true), (18, false), (19, false), (20, false), (21, false), (22, false), (23, false), (24, false), (27, false), (25, false), (26, false), (28, true), (29, false), (30, false), (31, false), (32, false)] (by decide +kernel) rfl (by simp [*]; rfl) ?_ | refine AW.reg tok (by simp [*]; rfl) ?_ | refine AW.ifB (by simp [*]; rfl) ?_ | refine IfG.t ?_ | refine IfG.f ?_ | ((first | refine IfG.p (fun hg => ?_) (fun hg => ?_) | refine IfG.n (fun hg => ?_) (fun hg => ?_) | refine OutOK.gateP (fun hg => ?_) (fun hg => ?_) | refine OutOK.gateN (fun hg => ?_) (fun hg => ?_) | refine IfG.g (fun hg => ?_) (fun hg => ?_) | refine OutOK.gate (fun hg => ?_) (fun hg => ?_)) <;> (try (have hg' := hg; simp at hg'))) | refine OutOK.run (by simp [*]; rfl) ?_ | refine AW.ret ?_ | refine AW.skip ?_ | refine AW.exit ?_ | refine fin_r ?_ | refine fin_n ?_ | refine AW.block ?_ | refine blockQ_n ?_ | refine blockQ_r ?_ | refine blockQ_e ?_ | refine blockQ_o rfl ?_)
    simp [Try.f74]
  have h24' : ¬ (24 : Int) < l.length := by omega
  cases hR : inR 1 3 n with
  | false =>
    have hb : hist l n = false := hist_no (fun hh => by have := hh.nn; rw [hR] at this; cases this)
    rw [hb]
    clear hb
    refine ACall.of (N := 90) tok Try.func74 rfl rfl rfl (by simp) ?_
    repeat' (first | with_reducible refine OutOK.done ?_ | refine thenQ_n ?_ | refine thenQ_r ?_ | refine thenQ_e ?_ | refine AW.seq ?_ | refine AW.dreg tok mixed [10]  [(0, false), (1, false), (2, false), (3, false), (4, false), (5, false), (6, false), (7, false), (9, false), (8, false), (10, true), (11, false), (12, false), (13, false)] (by decide +kernel) rfl (by simp [*]; rfl) ?_ | refine AW.dreg tok mixed [17, 28]  [(0, false), (1, false), (2, false), (3, false), (4, false), (5, false), (6, false), (7, false), (8, false), (9, false), (10, false), (11, false), (12, false), (13, false), (14, false), (16, false), (15, false), (17, true), (18, false), (19, false), (20, false), (21, false), (22, false), (23, false), (24, false), (27, false), (25, false), (26, false), (28, true), (29, false), (30, false), (31, false), (32, false)] (by decide +kernel) rfl (by simp [*]; rfl) ?_ | refine AW.reg tok (by simp [*]; rfl) ?_ | refine AW.ifB (by simp [*]; rfl) ?_ | refine IfG.t ?_ | refine IfG.f ?_ | ((first | refine IfG.p (fun hg => ?_) (fun hg => ?_) | refine IfG.n (fun hg => ?_) (fun hg => ?_) | refine OutOK.gateP (fun hg => ?_) (fun hg => ?_) | refine OutOK.gateN (fun hg => ?_) (fun hg => ?_) | refine IfG.g (fun hg => ?_) (fun hg => ?_) | refine OutOK.gate (fun hg => ?_) (fun hg => ?_)) <;> (try (have hg' := hg; simp at hg'))) | (refine OutOK.callF [] (by simp [*]; rfl) (by simp [*]; rfl) (by simp [*]; rfl) hb64 (by apply c_spec_l1In <;> first | assumption | exact Hd.out (by assumption) | ((try clear e1); omega)) ⟨by simp [*], by simp [*], by simp [*], by simp [*], by simp [*]⟩ (by simp [*]) (by simp [*]; rfl) ?_) | refine OutOK.run (by simp [*]; rfl) ?_ | refine AW.ret ?_ | refine AW.skip ?_ | refine AW.exit ?_ | refine fin_r ?_ | refine fin_n ?_ | refine AW.block ?_ | refine blockQ_n ?_ | refine blockQ_r ?_ | refine blockQ_e ?_ | refine blockQ_o rfl ?_)
    simp [Try.f74]
  | true =>
    obtain ⟨n1, n3⟩ := inR_iff.1 hR
    have no : Hd (¬ HistS l n → hist l n = false) := fun hh => hist_no (fun hx => hh (hist_iff.1 hx))
    have yes : Hd (HistS l n → hist l n = true) := fun hh => hist_iff'.2 (hist_iff.2 hh)
    generalize hist l n = B at *
    refine ACall.of (N := 90) tok Try.func74 rfl rfl rfl (by simp) ?_
    repeat' (first | with_reducible refine OutOK.done ?_ | refine thenQ_n ?_ | refine thenQ_r ?_ | refine thenQ_e ?_ | refine AW.seq ?_ | refine AW.dreg tok mixed [10]  [(0, false), (1, false), (2, false), (3, false), (4, false), (5, false), (6, false), (7, false), (9, false), (8, false), (10, true), (11, false), (12, false), (13, false)] (by decide +kernel) rfl (by simp [*]; rfl) ?_ | refine AW.dreg tok mixed [17, 28]  [(0, false), (1, false), (2, false), (3, false), (4, false), (5, false), (6, false), (7, false), (8, false), (9, false), (10, false), (11, false), (12, false), (13, false), (14, false), (16, false), (15, false), (17, true), (18, false), (19, false), (20, false), (21, false), (22, false), (23, false), (24, false), (27, false), (25, false), (26, false), (28, true), (29, false), (30, false), (31, false), (32, false)] (by decide +kernel) rfl (by simp [*]; rfl) ?_ | refine AW.reg tok (by simp [*]; rfl) ?_ | refine AW.ifB (by simp [*]; rfl) ?_ | refine IfG.t ?_ | refine IfG.f ?_ | ((first | refine IfG.p (fun hg => ?_) (fun hg => ?_) | refine IfG.n (fun hg => ?_) (fun hg => ?_) | refine OutOK.gateP (fun hg => ?_) (fun hg => ?_) | refine OutOK.gateN (fun hg => ?_) (fun hg => ?_) | refine IfG.g (fun hg => ?_) (fun hg => ?_) | refine OutOK.gate (fun hg => ?_) (fun hg => ?_)) <;> (try (have hg' := hg; simp at hg'))) | (refine OutOK.callF [] (by simp [*]; rfl) (by simp [*]; rfl) (by simp [*]; rfl) hb64 (by apply c_spec_l1In <;> first | assumption | exact Hd.out (by assumption) | ((try clear e1); omega)) ⟨by simp [*], by simp [*], by simp [*], by simp [*], by simp [*]⟩ (by simp [*]) (by simp [*]; rfl) ?_) | refine OutOK.run (by simp [*]; rfl) ?_ | refine AW.ret ?_ | refine AW.skip ?_ | refine AW.exit ?_ | refine fin_r ?_ | refine fin_n ?_ | refine AW.block ?_ | refine blockQ_n ?_ | refine blockQ_r ?_ | refine blockQ_e ?_ | refine blockQ_o rfl ?_)
    refine AW.loopL (α := Nat) (fun i => i ≤ l.length ∧ Hd (∀ j (hj : j < l.length), j < i → fldE l[j] n = true ∧ St2 l j hj)) (fun i => [(0, .c (.sl true 5 (edts true l))), (1, .c (.sc (.int .i64 n))), (5, .c (.sc (.int .i64 (i : Int))))]) (fun _ => []) (fun i => l.length - i) 0 ⟨Nat.zero_le _, fun j _ hj => by omega⟩ ⟨by simp, by simp, by simp⟩ ?_
    rintro i ⟨hi, hs⟩
    rcases Nat.lt_or_ge i l.length with hil | hil
    · refine (w_gd1 l n i hil h24 n1 n3 (hW'.out _ (List.getElem_mem hil)) (fun j hj e => st2_ct hi h24 hs.out j hj e)).mono fun e st hq => ?_
      rcases hq with ⟨rfl, hk, hq⟩ | ⟨rfl, hk, hq⟩
      · have hb := no.out (fun hh => hk (hh.st i hil))
        subst hb
        exact ⟨.inr rfl, hq⟩
      · refine ⟨i + 1, ⟨hil, fun j hj hji => ?_⟩, hq, by omega⟩
        rcases Nat.lt_succ_iff_lt_or_eq.1 hji with h2 | rfl
        · exact hs.out j hj h2
        · exact hk
    · have hin : ¬ i < l.length := by omega
      have hii : i = l.length := by omega
      subst hii
      repeat' (first | with_reducible refine OutOK.done ?_ | refine thenQ_n ?_ | refine thenQ_r ?_ | refine thenQ_e ?_ | refine AW.seq ?_ | refine AW.dreg tok mixed [10]  [(0, false), (1, false), (2, false), (3, false), (4, false), (5, false), (6, false), (7, false), (9, false), (8, false), (10, true), (11, false), (12, false), (13, false)] (by decide +kernel) rfl (by simp [*]; rfl) ?_ | refine AW.dreg tok mixed [17, 28]  [(0, false), (1, false), (2, false), (3, false), (4, false), (5, false), (6, false), (7, false), (8, false), (9, false), (10, false), (11, false), (12, false), (13, false), (14, false), (16, false), (15, false), (17, true), (18, false), (19, false), (20, false), (21, false), (22, false), (23, false), (24, false), (27, false), (25, false), (26, false), (28, true), (29, false), (30, false), (31, false), (32, false)] (by decide +kernel) rfl (by simp [*]; rfl) ?_ | refine AW.reg tok (by simp [*]; rfl) ?_ | refine AW.ifB (by simp [*]; rfl) ?_ | refine IfG.t ?_ | refine IfG.f ?_ | ((first | refine IfG.p (fun hg => ?_) (fun hg => ?_) | refine IfG.n (fun hg => ?_) (fun hg => ?_) | refine OutOK.gateP (fun hg => ?_) (fun hg => ?_) | refine OutOK.gateN (fun hg => ?_) (fun hg => ?_) | refine IfG.g (fun hg => ?_) (fun hg => ?_) | refine OutOK.gate (fun hg => ?_) (fun hg => ?_)) <;> (try (have hg' := hg; simp at hg'))) | refine OutOK.run (by simp [*]; rfl) ?_ | refine AW.ret ?_ | refine AW.skip ?_ | refine AW.exit ?_ | refine fin_r ?_ | refine fin_n ?_ | refine AW.block ?_ | refine blockQ_n ?_ | refine blockQ_r ?_ | refine blockQ_e ?_ | refine blockQ_o rfl ?_)
      have hlen : ∀ a (ha : a < l.length), (l[a].ck.length : Int) = n := fun a ha => (fldE_iff.1 (hs.out a ha ha).1).2.1
      refine AW.loopL (α := Nat) (fun i => i ≤ l.length ∧ Hd (∀ j (hj : j < l.length), j < i → Kn l l[j])) (fun i => [(0, .c (.sl true 5 (edts true l))), (1, .c (.sc (.int .i64 n))), (8, .c (.sc (.int .i64 (i : Int))))]) (fun _ => []) (fun i => l.length - i) 0 ⟨Nat.zero_le _, fun j _ hj => by omega⟩ ⟨by simp, by simp, by simp⟩ ?_
      rintro i ⟨hi, hk⟩
      rcases Nat.lt_or_ge i l.length with hil | hil
      · have e1 : wrap64 ((i : Int) + 1) = ((i + 1 : Nat) : Int) := by rw [w64 (by omega) (by omega)]; omega
        have hli := hlen i hil
        have hRi := inR_iff.1 (fldE_iff.1 (hs.out i hil hil).1).1
        by_cases hkn : Kn l l[i]
        · have ck := c_spec_l22Knows l l[i] l[i].tm.toNat true (by simp [hkn]) h24 (by omega) (by omega) (by omega) (fun x hx => by
            obtain ⟨a, ha, rfl⟩ := List.getElem_of_mem hx
            have := hlen a ha; omega)
          have hk2 : Hd (∀ j (hj : j < l.length), j < i + 1 → Kn l l[j]) := by
            intro j hj hji
            rcases Nat.lt_succ_iff_lt_or_eq.1 hji with h2 | rfl
            · exact hk.out j hj h2
            · exact hkn
          clear hlen hli hRi
          repeat' (first | with_reducible refine OutOK.done ?_ | refine thenQ_n ?_ | refine thenQ_r ?_ | refine thenQ_e ?_ | refine AW.seq ?_ | refine AW.dreg tok mixed [10]  [(0, false), (1, false), (2, false), (3, false), (4, false), (5, false), (6, false), (7, false), (9, false), (8, false), (10, true), (11, false), (12, false), (13, false)] (by decide +kernel) rfl (by simp [*]; rfl) ?_ | refine AW.dreg tok mixed [17, 28]  [(0, false), (1, false), (2, false), (3, false), (4, false), (5, false), (6, false), (7, false), (8, false), (9, false), (10, false), (11, false), (12, false), (13, false), (14, false), (16, false), (15, false), (17, true), (18, false), (19, false), (20, false), (21, false), (22, false), (23, false), (24, false), (27, false), (25, false), (26, false), (28, true), (29, false), (30, false), (31, false), (32, false)] (by decide +kernel) rfl (by simp [*]; rfl) ?_ | refine AW.reg tok (by simp [*]; rfl) ?_ | refine AW.ifB (by simp [*]; rfl) ?_ | refine IfG.t ?_ | refine IfG.f ?_ | ((first | refine IfG.p (fun hg => ?_) (fun hg => ?_) | refine IfG.n (fun hg => ?_) (fun hg => ?_) | refine OutOK.gateP (fun hg => ?_) (fun hg => ?_) | refine OutOK.gateN (fun hg => ?_) (fun hg => ?_) | refine IfG.g (fun hg => ?_) (fun hg => ?_) | refine OutOK.gate (fun hg => ?_) (fun hg => ?_)) <;> (try (have hg' := hg; simp at hg'))) | (refine OutOK.callF [] (by simp [*]; rfl) (by simp [*]; rfl) (by simp [*]; rfl) hb118 (by apply ck <;> first | assumption | exact Hd.out (by assumption) | ((try clear e1); omega)) ⟨by simp [*], by simp [*], by simp [*], by simp [*], by simp [*]⟩ (by simp [*]) (by simp [*]; rfl) ?_) | refine OutOK.run (by simp [*]; rfl) ?_ | refine AW.ret ?_ | refine AW.skip ?_ | refine AW.exit ?_ | refine fin_r ?_ | refine fin_n ?_ | refine AW.block ?_ | refine blockQ_n ?_ | refine blockQ_r ?_ | refine blockQ_e ?_ | refine blockQ_o rfl ?_)
          exact ⟨i + 1, ⟨hil, hk2⟩, ⟨by simp, by simp, by simp⟩, by ((try clear e1); omega)⟩
        · have ck := c_spec_l22Knows l l[i] l[i].tm.toNat false (by simp [hkn]) h24 (by omega) (by omega) (by omega) (fun x hx => by
            obtain ⟨a, ha, rfl⟩ := List.getElem_of_mem hx
            have := hlen a ha; omega)
          have hb := no.out (fun hh => hkn (hh.kn i hil))
          subst hb
          clear hlen hli hRi no yes
          repeat' (first | with_reducible refine OutOK.done ?_ | refine thenQ_n ?_ | refine thenQ_r ?_ | refine thenQ_e ?_ | refine AW.seq ?_ | refine AW.dreg tok mixed [10]  [(0, false), (1, false), (2, false), (3, false), (4, false), (5, false), (6, false), (7, false), (9, false), (8, false), (10, true), (11, false), (12, false), (13, false)] (by decide +kernel) rfl (by simp [*]; rfl) ?_ | refine AW.dreg tok mixed [17, 28]  [(0, false), (1, false), (2, false), (3, false), (4, false), (5, false), (6, false), (7, false), (8, false), (9, false), (10, false), (11, false), (12, false), (13, false), (14, false), (16, false), (15, false), (17, true), (18, false), (19, false), (20, false), (21, false), (22, false), (23, false), (24, false), (27, false), (25, false), (26, false), (28, true), (29, false), (30, false), (31, false), (32, false)] (by decide +kernel) rfl (by simp [*]; rfl) ?_ | refine AW.reg tok (by simp [*]; rfl) ?_ | refine AW.ifB (by simp [*]; rfl) ?_ | refine IfG.t ?_ | refine IfG.f ?_ | ((first | refine IfG.p (fun hg => ?_) (fun hg => ?_) | refine IfG.n (fun hg => ?_) (fun hg => ?_) | refine OutOK.gateP (fun hg => ?_) (fun hg => ?_) | refine OutOK.gateN (fun hg => ?_) (fun hg => ?_) | refine IfG.g (fun hg => ?_) (fun hg => ?_) | refine OutOK.gate (fun hg => ?_) (fun hg => ?_)) <;> (try (have hg' := hg; simp at hg'))) | (refine OutOK.callF [] (by simp [*]; rfl) (by simp [*]; rfl) (by simp [*]; rfl) hb118 (by apply ck <;> first | assumption | exact Hd.out (by assumption) | ((try clear e1); omega)) ⟨by simp [*], by simp [*], by simp [*], by simp [*], by simp [*]⟩ (by simp [*]) (by simp [*]; rfl) ?_) | refine OutOK.run (by simp [*]; rfl) ?_ | refine AW.ret ?_ | refine AW.skip ?_ | refine AW.exit ?_ | refine fin_r ?_ | refine fin_n ?_ | refine AW.block ?_ | refine blockQ_n ?_ | refine blockQ_r ?_ | refine blockQ_e ?_ | refine blockQ_o rfl ?_)
          simp [Try.f74]
      · have hin : ¬ i < l.length := by omega
        have hb : B = true := yes.out ⟨hR, h24, fun j hj => hs.out j hj hj, fun j hj => hk.out j hj (by omega)⟩
        subst hb
        clear hlen no yes
        repeat' (first | with_reducible refine OutOK.done ?_ | refine thenQ_n ?_ | refine thenQ_r ?_ | refine thenQ_e ?_ | refine AW.seq ?_ | refine AW.dreg tok mixed [10]  [(0, false), (1, false), (2, false), (3, false), (4, false), (5, false), (6, false), (7, false), (9, false), (8, false), (10, true), (11, false), (12, false), (13, false)] (by decide +kernel) rfl (by simp [*]; rfl) ?_ | refine AW.dreg tok mixed [17, 28]  [(0, false), (1, false), (2, false), (3, false), (4, false), (5, false), (6, false), (7, false), (8, false), (9, false), (10, false), (11, false), (12, false), (13, false), (14, false), (16, false), (15, false), (17, true), (18, false), (19, false), (20, false), (21, false), (22, false), (23, false), (24, false), (27, false), (25, false), (26, false), (28, true), (29, false), (30, false), (31, false), (32, false)] (by decide +kernel) rfl (by simp [*]; rfl) ?_ | refine AW.reg tok (by simp [*]; rfl) ?_ | refine AW.ifB (by simp [*]; rfl) ?_ | refine IfG.t ?_ | refine IfG.f ?_ | ((first | refine IfG.p (fun hg => ?_) (fun hg => ?_) | refine IfG.n (fun hg => ?_) (fun hg => ?_) | refine OutOK.gateP (fun hg => ?_) (fun hg => ?_) | refine OutOK.gateN (fun hg => ?_) (fun hg => ?_) | refine IfG.g (fun hg => ?_) (fun hg => ?_) | refine OutOK.gate (fun hg => ?_) (fun hg => ?_)) <;> (try (have hg' := hg; simp at hg'))) | refine OutOK.run (by simp [*]; rfl) ?_ | refine AW.ret ?_ | refine AW.skip ?_ | refine AW.exit ?_ | refine fin_r ?_ | refine fin_n ?_ | refine AW.block ?_ | refine blockQ_n ?_ | refine blockQ_r ?_ | refine blockQ_e ?_ | refine blockQ_o rfl ?_)
        simp [Try.f74]
end Go.Proofs.Ytbofobjofngoeaa.EngS


set_option linter.unusedSimpArgs false
set_option linter.unusedVariables false
namespace Go.Eng
open Go.RowKit
variable {P : Program} {T : Nat → Option TI} {N : Nat}
structure Hold (p : Prop) : Prop where
  out : p
theorem AW.stopR (id : Nat) {ops : Array Oper} {d : Bool} {rest : Code} {st : St} {Q : Exit → St → Prop} (h : Hold (AW P N (.seq (.region id ops d) rest) st Q)) : AW P N (.seq (.region id ops d) rest) st Q := h.out
theorem AW.stopB (id : Nat) {b : Code} {st : St} {Q : Exit → St → Prop} (h : Hold (AW P N (.block id b) st Q)) : AW P N (.block id b) st Q := h.out
theorem Hold.via {c : Code} {e r} {st : St} {Q' Q : Exit → St → Prop} (h : AW P N c (Go.Eng.mk e r) Q') (hl : LessL st e r) (hq : ∀ ex st', Q' ex st' → Q ex st') : Hold (AW P N c st Q) := ⟨AW.forget e r hl (h.mono hq)⟩
end Go.Eng

set_option linter.unusedSimpArgs false
set_option linter.unusedVariables false
set_option maxHeartbeats 4000000
set_option maxRecDepth 100000
namespace Go.Proofs.Ytbofobjofngoeaa.EngS
open Go Go.Proofs Go.Eng Go.RowKit
attribute [local irreducible] Go.RowKit.wrap64
def cts (l : List Edt) (n : Int) (i : Nat) : List Int := (List.range n.toNat).map fun t : Nat => ((cntE (l.take i) (t : Int) : Nat) : Int)
@[simp] theorem cts_len (l n i) : (cts l n i).length = n.toNat := by simp [cts]
@[simp] theorem cts_at (l : List Edt) (n : Int) (i t : Nat) (h : t < (cts l n i).length) : (cts l n i)[t] = ((cntE (l.take i) (t : Int) : Nat) : Int) := by simp [cts]
theorem cts_zero (l : List Edt) (n : Int) : cts l n 0 = List.replicate n.toNat 0 := by
  apply List.ext_getElem
  · simp
  · intro j h1 h2; simp [cntE]
theorem cts_step (l : List Edt) (n : Int) (i T : Nat) (h : i < l.length) (ht : l[i].tm = T) : (cts l n i).set T (((cntE (l.take i) (T : Int) : Nat) : Int) + 1) = cts l n (i + 1) := by
  apply List.ext_getElem
  · simp
  · intro j h1 h2
    rw [List.getElem_set]
    simp only [cts_at, cntE_take l i h, ht]
    split
    · rename_i e; subst e; simp
    · rename_i e; rw [if_neg (by omega)]; simp
def IhBQ (l : List Edt) (n : Int) (i : Nat) (cl : List Int) (e : Edt) (ex : Exit) (st : St) : Prop :=
  (ex = .ret ∧ ¬ Fl e n ∧ FinP T Try.f26.results.toList [.v (.sl true 5 (edts true l)), int n] [.x, .x] [boo false] st) ∨
  (ex = .normal ∧ Fl e n ∧ LessL st [(0, .c (.sl true 5 (edts true l))), (1, .c (.sc (.int .i64 n))), (5, .rf 25000 []), (26, .c (.sl true 5 (edts true l))), (27, .c (.sc (.int .i64 (l.length : Int)))), (28, .c (.sc (.int .i64 (i : Int))))] [(25000, .sv (.sl false 1 (ints (cl))))])
theorem w_ihBd (l : List Edt) (n : Int) (i : Nat) (cl : List Int) (T : Nat) (ct : Int) (ck : List Int) (it tx : ByteArray) (hW1 : it.size ≤ 9223372036854775807) (hW2 : tx.size ≤ 9223372036854775807) (hTn : (T : Int) ≤ n - 1) (hln : ¬ (ck.length : Int) = n) : AW Try.prog 152 (cAt Try.f26 [2, 2, 2, 1, 2, 5, 7, 2, 2, 1, 5, 2, 2, 2]) (mk [(0, .c (.sl true 5 (edts true l))), (1, .c (.sc (.int .i64 n))), (5, .rf 25000 []), (7, .pt 7000 []  0), (26, .c (.sl true 5 (edts true l))), (27, .c (.sc (.int .i64 (l.length : Int)))), (28, .c (.sc (.int .i64 (i : Int))))] [(25000, .sv (.sl false 1 (ints cl))), (7000, .bx (edtC true ⟨(T : Int), ct, ck, it, tx⟩))]) (IhBQ l n i cl ⟨(T : Int), ct, ck, it, tx⟩) := by
  have hb : Hd (¬ Fl ⟨(T : Int), ct, ck, it, tx⟩ n) := fun hh => by exact hln hh.1
  repeat' (first | with_reducible refine OutOK.done ?_ | refine thenQ_n ?_ | refine thenQ_r ?_ | refine thenQ_e ?_ | refine AW.seq ?_ | refine AW.dreg tok mixed [15, 25, 26, 27, 28]  [(0, false), (2, false), (3, false), (1, false), (4, false), (5, false), (6, false), (7, false), (8, false), (9, false), (10, false), (11, false), (12, false), (13, false), (14, false), (15, true), (16, false), (17, false), (18, false), (19, false), (20, false), (21, false), (23, false), (24, false), (22, false), (25, true), (26, true), (27, true), (28, true), (29, false), (30, false)] (by decide +kernel) rfl (by simp [*]; rfl) ?_ | refine AW.dreg tok mixed [9, 13]  [(0, false), (3, false), (1, false), (2, false), (4, false), (5, false), (6, false), (8, false), (12, false), (7, false), (9, true), (10, false), (11, false), (13, true), (14, false), (15, false), (16, false), (17, false), (18, false), (19, false), (20, false), (21, false), (22, false), (23, false), (24, false), (25, false), (26, false), (27, false)] (by decide +kernel) rfl (by simp [*]; rfl) ?_ | refine AW.reg tok (by simp [*]; rfl) ?_ | refine AW.ifB (by simp [*]; rfl) ?_ | refine IfG.t ?_ | refine IfG.f ?_ | ((first | refine IfG.p (fun hg => ?_) (fun hg => ?_) | refine IfG.n (fun hg => ?_) (fun hg => ?_) | refine OutOK.gateP (fun hg => ?_) (fun hg => ?_) | refine OutOK.gateN (fun hg => ?_) (fun hg => ?_) | refine IfG.g (fun hg => ?_) (fun hg => ?_) | refine OutOK.gate (fun hg => ?_) (fun hg => ?_)) <;> (try (have hg' := hg; simp at hg'))) | refine OutOK.run (by simp [*]; rfl) ?_ | refine AW.ret ?_ | refine AW.skip ?_ | refine AW.exit ?_ | refine fin_r ?_ | refine fin_n ?_ | refine AW.block ?_ | refine blockQ_n ?_ | refine blockQ_r ?_ | refine blockQ_e ?_ | refine blockQ_o rfl ?_)
  exact .inl ⟨rfl, hb.out, by simp [Try.f26]⟩
theorem w_ihBe (l : List Edt) (n : Int) (i : Nat) (cl : List Int) (T : Nat) (ct : Int) (ck : List Int) (it tx : ByteArray) (hW1 : it.size ≤ 9223372036854775807) (hW2 : tx.size ≤ 9223372036854775807) (hTn : (T : Int) ≤ n - 1) (hln : (ck.length : Int) = n) (hck : ¬ ckAt ck (T : Int) = ct) : AW Try.prog 152 (cAt Try.f26 [2, 2, 2, 1, 2, 5, 7, 2, 2, 1, 5, 2, 2, 2]) (mk [(0, .c (.sl true 5 (edts true l))), (1, .c (.sc (.int .i64 n))), (5, .rf 25000 []), (7, .pt 7000 []  0), (26, .c (.sl true 5 (edts true l))), (27, .c (.sc (.int .i64 (l.length : Int)))), (28, .c (.sc (.int .i64 (i : Int))))] [(25000, .sv (.sl false 1 (ints cl))), (7000, .bx (edtC true ⟨(T : Int), ct, ck, it, tx⟩))]) (IhBQ l n i cl ⟨(T : Int), ct, ck, it, tx⟩) := by
  have hb : Hd (¬ Fl ⟨(T : Int), ct, ck, it, tx⟩ n) := fun hh => by exact hck hh.2.1
  have hTk : T < ck.length := by omega
  have hck : ¬ ck[T] = ct := by simpa [ckAt, hTk] using hck
  subst hln
  repeat' (first | with_reducible refine OutOK.done ?_ | refine thenQ_n ?_ | refine thenQ_r ?_ | refine thenQ_e ?_ | refine AW.seq ?_ | refine AW.dreg tok mixed [15, 25, 26, 27, 28]  [(0, false), (2, false), (3, false), (1, false), (4, false), (5, false), (6, false), (7, false), (8, false), (9, false), (10, false), (11, false), (12, false), (13, false), (14, false), (15, true), (16, false), (17, false), (18, false), (19, false), (20, false), (21, false), (23, false), (24, false), (22, false), (25, true), (26, true), (27, true), (28, true), (29, false), (30, false)] (by decide +kernel) rfl (by simp [*]; rfl) ?_ | refine AW.dreg tok mixed [9, 13]  [(0, false), (3, false), (1, false), (2, false), (4, false), (5, false), (6, false), (8, false), (12, false), (7, false), (9, true), (10, false), (11, false), (13, true), (14, false), (15, false), (16, false), (17, false), (18, false), (19, false), (20, false), (21, false), (22, false), (23, false), (24, false), (25, false), (26, false), (27, false)] (by decide +kernel) rfl (by simp [*]; rfl) ?_ | refine AW.reg tok (by simp [*]; rfl) ?_ | refine AW.ifB (by simp [*]; rfl) ?_ | refine IfG.t ?_ | refine IfG.f ?_ | ((first | refine IfG.p (fun hg => ?_) (fun hg => ?_) | refine IfG.n (fun hg => ?_) (fun hg => ?_) | refine OutOK.gateP (fun hg => ?_) (fun hg => ?_) | refine OutOK.gateN (fun hg => ?_) (fun hg => ?_) | refine IfG.g (fun hg => ?_) (fun hg => ?_) | refine OutOK.gate (fun hg => ?_) (fun hg => ?_)) <;> (try (have hg' := hg; simp at hg'))) | refine OutOK.run (by simp [*]; rfl) ?_ | refine AW.ret ?_ | refine AW.skip ?_ | refine AW.exit ?_ | refine fin_r ?_ | refine fin_n ?_ | refine AW.block ?_ | refine blockQ_n ?_ | refine blockQ_r ?_ | refine blockQ_e ?_ | refine blockQ_o rfl ?_)
  exact .inl ⟨rfl, hb.out, by simp [Try.f26]⟩
theorem w_ihBf (l : List Edt) (n : Int) (i : Nat) (cl : List Int) (T : Nat) (ct : Int) (ck : List Int) (it tx : ByteArray) (hW1 : it.size ≤ 9223372036854775807) (hW2 : tx.size ≤ 9223372036854775807) (hTn : (T : Int) ≤ n - 1) (hln : (ck.length : Int) = n) (hck : ckAt ck (T : Int) = ct) (hN : nameOK it = false) : AW Try.prog 152 (cAt Try.f26 [2, 2, 2, 1, 2, 5, 7, 2, 2, 1, 5, 2, 2, 2]) (mk [(0, .c (.sl true 5 (edts true l))), (1, .c (.sc (.int .i64 n))), (5, .rf 25000 []), (7, .pt 7000 []  0), (26, .c (.sl true 5 (edts true l))), (27, .c (.sc (.int .i64 (l.length : Int)))), (28, .c (.sc (.int .i64 (i : Int))))] [(25000, .sv (.sl false 1 (ints cl))), (7000, .bx (edtC true ⟨(T : Int), ct, ck, it, tx⟩))]) (IhBQ l n i cl ⟨(T : Int), ct, ck, it, tx⟩) := by
  have hb : Hd (¬ Fl ⟨(T : Int), ct, ck, it, tx⟩ n) := fun hh => by have := hh.2.2.1; simp only [hN] at this; cases this
  have hTk : T < ck.length := by omega
  have hck : ck[T] = ct := by simpa [ckAt, hTk] using hck
  have cn := c_impl_isName it hW1
  rw [hN] at cn
  subst hln
  repeat' (first | with_reducible refine OutOK.done ?_ | refine thenQ_n ?_ | refine thenQ_r ?_ | refine thenQ_e ?_ | refine AW.seq ?_ | refine AW.dreg tok mixed [15, 25, 26, 27, 28]  [(0, false), (2, false), (3, false), (1, false), (4, false), (5, false), (6, false), (7, false), (8, false), (9, false), (10, false), (11, false), (12, false), (13, false), (14, false), (15, true), (16, false), (17, false), (18, false), (19, false), (20, false), (21, false), (23, false), (24, false), (22, false), (25, true), (26, true), (27, true), (28, true), (29, false), (30, false)] (by decide +kernel) rfl (by simp [*]; rfl) ?_ | refine AW.dreg tok mixed [9, 13]  [(0, false), (3, false), (1, false), (2, false), (4, false), (5, false), (6, false), (8, false), (12, false), (7, false), (9, true), (10, false), (11, false), (13, true), (14, false), (15, false), (16, false), (17, false), (18, false), (19, false), (20, false), (21, false), (22, false), (23, false), (24, false), (25, false), (26, false), (27, false)] (by decide +kernel) rfl (by simp [*]; rfl) ?_ | refine AW.reg tok (by simp [*]; rfl) ?_ | refine AW.ifB (by simp [*]; rfl) ?_ | refine IfG.t ?_ | refine IfG.f ?_ | ((first | refine IfG.p (fun hg => ?_) (fun hg => ?_) | refine IfG.n (fun hg => ?_) (fun hg => ?_) | refine OutOK.gateP (fun hg => ?_) (fun hg => ?_) | refine OutOK.gateN (fun hg => ?_) (fun hg => ?_) | refine IfG.g (fun hg => ?_) (fun hg => ?_) | refine OutOK.gate (fun hg => ?_) (fun hg => ?_)) <;> (try (have hg' := hg; simp at hg'))) | (refine OutOK.callF [] (by simp [*]; rfl) (by simp [*]; rfl) (by simp [*]; rfl) hb77 (by apply cn <;> first | assumption | exact Hd.out (by assumption) | omega) ⟨by simp [*], by simp [*], by simp [*], by simp [*], by simp [*]⟩ (by simp [*]) (by simp [*]; rfl) ?_) | refine OutOK.run (by simp [*]; rfl) ?_ | refine AW.ret ?_ | refine AW.skip ?_ | refine AW.exit ?_ | refine fin_r ?_ | refine fin_n ?_ | refine AW.block ?_ | refine blockQ_n ?_ | refine blockQ_r ?_ | refine blockQ_e ?_ | refine blockQ_o rfl ?_)
  exact .inl ⟨rfl, hb.out, by simp [Try.f26]⟩
theorem w_ihBg (l : List Edt) (n : Int) (i : Nat) (cl : List Int) (T : Nat) (ct : Int) (ck : List Int) (it tx : ByteArray) (hW1 : it.size ≤ 9223372036854775807) (hW2 : tx.size ≤ 9223372036854775807) (hTn : (T : Int) ≤ n - 1) (hln : (ck.length : Int) = n) (hck : ckAt ck (T : Int) = ct) (hN : nameOK it = true) (hX : textOK tx = false) : AW Try.prog 152 (cAt Try.f26 [2, 2, 2, 1, 2, 5, 7, 2, 2, 1, 5, 2, 2, 2]) (mk [(0, .c (.sl true 5 (edts true l))), (1, .c (.sc (.int .i64 n))), (5, .rf 25000 []), (7, .pt 7000 []  0), (26, .c (.sl true 5 (edts true l))), (27, .c (.sc (.int .i64 (l.length : Int)))), (28, .c (.sc (.int .i64 (i : Int))))] [(25000, .sv (.sl false 1 (ints cl))), (7000, .bx (edtC true ⟨(T : Int), ct, ck, it, tx⟩))]) (IhBQ l n i cl ⟨(T : Int), ct, ck, it, tx⟩) := by
  have hb : Hd (¬ Fl ⟨(T : Int), ct, ck, it, tx⟩ n) := fun hh => by have := hh.2.2.2; simp only [hX] at this; cases this
  have hTk : T < ck.length := by omega
  have hck : ck[T] = ct := by simpa [ckAt, hTk] using hck
  have cn := c_impl_isName it hW1
  rw [hN] at cn
  have cx := c_impl_isText tx hW2
  rw [hX] at cx
  subst hln
  repeat' (first | with_reducible refine OutOK.done ?_ | refine thenQ_n ?_ | refine thenQ_r ?_ | refine thenQ_e ?_ | refine AW.seq ?_ | refine AW.dreg tok mixed [15, 25, 26, 27, 28]  [(0, false), (2, false), (3, false), (1, false), (4, false), (5, false), (6, false), (7, false), (8, false), (9, false), (10, false), (11, false), (12, false), (13, false), (14, false), (15, true), (16, false), (17, false), (18, false), (19, false), (20, false), (21, false), (23, false), (24, false), (22, false), (25, true), (26, true), (27, true), (28, true), (29, false), (30, false)] (by decide +kernel) rfl (by simp [*]; rfl) ?_ | refine AW.dreg tok mixed [9, 13]  [(0, false), (3, false), (1, false), (2, false), (4, false), (5, false), (6, false), (8, false), (12, false), (7, false), (9, true), (10, false), (11, false), (13, true), (14, false), (15, false), (16, false), (17, false), (18, false), (19, false), (20, false), (21, false), (22, false), (23, false), (24, false), (25, false), (26, false), (27, false)] (by decide +kernel) rfl (by simp [*]; rfl) ?_ | refine AW.reg tok (by simp [*]; rfl) ?_ | refine AW.ifB (by simp [*]; rfl) ?_ | refine IfG.t ?_ | refine IfG.f ?_ | ((first | refine IfG.p (fun hg => ?_) (fun hg => ?_) | refine IfG.n (fun hg => ?_) (fun hg => ?_) | refine OutOK.gateP (fun hg => ?_) (fun hg => ?_) | refine OutOK.gateN (fun hg => ?_) (fun hg => ?_) | refine IfG.g (fun hg => ?_) (fun hg => ?_) | refine OutOK.gate (fun hg => ?_) (fun hg => ?_)) <;> (try (have hg' := hg; simp at hg'))) | (refine OutOK.callF [] (by simp [*]; rfl) (by simp [*]; rfl) (by simp [*]; rfl) hb77 (by apply cn <;> first | assumption | exact Hd.out (by assumption) | omega) ⟨by simp [*], by simp [*], by simp [*], by simp [*], by simp [*]⟩ (by simp [*]) (by simp [*]; rfl) ?_) | (refine OutOK.callF [] (by simp [*]; rfl) (by simp [*]; rfl) (by simp [*]; rfl) hb78 (by apply cx <;> first | assumption | exact Hd.out (by assumption) | omega) ⟨by simp [*], by simp [*], by simp [*], by simp [*], by simp [*]⟩ (by simp [*]) (by simp [*]; rfl) ?_) | refine OutOK.run (by simp [*]; rfl) ?_ | refine AW.ret ?_ | refine AW.skip ?_ | refine AW.exit ?_ | refine fin_r ?_ | refine fin_n ?_ | refine AW.block ?_ | refine blockQ_n ?_ | refine blockQ_r ?_ | refine blockQ_e ?_ | refine blockQ_o rfl ?_)
  exact .inl ⟨rfl, hb.out, by simp [Try.f26]⟩
theorem w_ihBh (l : List Edt) (n : Int) (i : Nat) (cl : List Int) (T : Nat) (ct : Int) (ck : List Int) (it tx : ByteArray) (hW1 : it.size ≤ 9223372036854775807) (hW2 : tx.size ≤ 9223372036854775807) (hTn : (T : Int) ≤ n - 1) (hln : (ck.length : Int) = n) (hck : ckAt ck (T : Int) = ct) (hN : nameOK it = true) (hX : textOK tx = true) : AW Try.prog 152 (cAt Try.f26 [2, 2, 2, 1, 2, 5, 7, 2, 2, 1, 5, 2, 2, 2]) (mk [(0, .c (.sl true 5 (edts true l))), (1, .c (.sc (.int .i64 n))), (5, .rf 25000 []), (7, .pt 7000 []  0), (26, .c (.sl true 5 (edts true l))), (27, .c (.sc (.int .i64 (l.length : Int)))), (28, .c (.sc (.int .i64 (i : Int))))] [(25000, .sv (.sl false 1 (ints cl))), (7000, .bx (edtC true ⟨(T : Int), ct, ck, it, tx⟩))]) (IhBQ l n i cl ⟨(T : Int), ct, ck, it, tx⟩) := by
  have hb : Hd (Fl ⟨(T : Int), ct, ck, it, tx⟩ n) := ⟨hln, hck, hN, hX⟩
  have hTk : T < ck.length := by omega
  have hck : ck[T] = ct := by simpa [ckAt, hTk] using hck
  have cn := c_impl_isName it hW1
  rw [hN] at cn
  have cx := c_impl_isText tx hW2
  rw [hX] at cx
  subst hln
  repeat' (first | with_reducible refine OutOK.done ?_ | refine thenQ_n ?_ | refine thenQ_r ?_ | refine thenQ_e ?_ | refine AW.seq ?_ | refine AW.dreg tok mixed [15, 25, 26, 27, 28]  [(0, false), (2, false), (3, false), (1, false), (4, false), (5, false), (6, false), (7, false), (8, false), (9, false), (10, false), (11, false), (12, false), (13, false), (14, false), (15, true), (16, false), (17, false), (18, false), (19, false), (20, false), (21, false), (23, false), (24, false), (22, false), (25, true), (26, true), (27, true), (28, true), (29, false), (30, false)] (by decide +kernel) rfl (by simp [*]; rfl) ?_ | refine AW.dreg tok mixed [9, 13]  [(0, false), (3, false), (1, false), (2, false), (4, false), (5, false), (6, false), (8, false), (12, false), (7, false), (9, true), (10, false), (11, false), (13, true), (14, false), (15, false), (16, false), (17, false), (18, false), (19, false), (20, false), (21, false), (22, false), (23, false), (24, false), (25, false), (26, false), (27, false)] (by decide +kernel) rfl (by simp [*]; rfl) ?_ | refine AW.reg tok (by simp [*]; rfl) ?_ | refine AW.ifB (by simp [*]; rfl) ?_ | refine IfG.t ?_ | refine IfG.f ?_ | ((first | refine IfG.p (fun hg => ?_) (fun hg => ?_) | refine IfG.n (fun hg => ?_) (fun hg => ?_) | refine OutOK.gateP (fun hg => ?_) (fun hg => ?_) | refine OutOK.gateN (fun hg => ?_) (fun hg => ?_) | refine IfG.g (fun hg => ?_) (fun hg => ?_) | refine OutOK.gate (fun hg => ?_) (fun hg => ?_)) <;> (try (have hg' := hg; simp at hg'))) | (refine OutOK.callF [] (by simp [*]; rfl) (by simp [*]; rfl) (by simp [*]; rfl) hb77 (by apply cn <;> first | assumption | exact Hd.out (by assumption) | omega) ⟨by simp [*], by simp [*], by simp [*], by simp [*], by simp [*]⟩ (by simp [*]) (by simp [*]; rfl) ?_) | (refine OutOK.callF [] (by simp [*]; rfl) (by simp [*]; rfl) (by simp [*]; rfl) hb78 (by apply cx <;> first | assumption | exact Hd.out (by assumption) | omega) ⟨by simp [*], by simp [*], by simp [*], by simp [*], by simp [*]⟩ (by simp [*]) (by simp [*]; rfl) ?_) | refine OutOK.run (by simp [*]; rfl) ?_ | refine AW.ret ?_ | refine AW.skip ?_ | refine AW.exit ?_ | refine fin_r ?_ | refine fin_n ?_ | refine AW.block ?_ | refine blockQ_n ?_ | refine blockQ_r ?_ | refine blockQ_e ?_ | refine blockQ_o rfl ?_)
  exact .inr ⟨rfl, hb.out, by simp, by simp, by simp⟩
theorem w_ihB (l : List Edt) (n : Int) (i : Nat) (cl : List Int) (T : Nat) (ct : Int) (ck : List Int) (it tx : ByteArray) (hW1 : it.size ≤ 9223372036854775807) (hW2 : tx.size ≤ 9223372036854775807) (hTn : (T : Int) ≤ n - 1) : AW Try.prog 152 (cAt Try.f26 [2, 2, 2, 1, 2, 5, 7, 2, 2, 1, 5, 2, 2, 2]) (mk [(0, .c (.sl true 5 (edts true l))), (1, .c (.sc (.int .i64 n))), (5, .rf 25000 []), (7, .pt 7000 []  0), (26, .c (.sl true 5 (edts true l))), (27, .c (.sc (.int .i64 (l.length : Int)))), (28, .c (.sc (.int .i64 (i : Int))))] [(25000, .sv (.sl false 1 (ints cl))), (7000, .bx (edtC true ⟨(T : Int), ct, ck, it, tx⟩))]) (IhBQ l n i cl ⟨(T : Int), ct, ck, it, tx⟩) := by
  by_cases hln : (ck.length : Int) = n
  · by_cases hck : ckAt ck (T : Int) = ct
    · cases hN : nameOK it with
      | false => exact w_ihBf l n i cl T ct ck it tx hW1 hW2 hTn hln hck hN
      | true =>
        cases hX : textOK tx with
        | false => exact w_ihBg l n i cl T ct ck it tx hW1 hW2 hTn hln hck hN hX
        | true => exact w_ihBh l n i cl T ct ck it tx hW1 hW2 hTn hln hck hN hX
    · exact w_ihBe l n i cl T ct ck it tx hW1 hW2 hTn hln hck
  · exact w_ihBd l n i cl T ct ck it tx hW1 hW2 hTn hln
def Ih1Q (l : List Edt) (n : Int) (i : Nat) (h : i < l.length) (e : Exit) (st : St) : Prop :=
  (e = .ret ∧ ¬ (St1 l n i h ∧ Fl l[i] n) ∧ FinP T Try.f26.results.toList [.v (.sl true 5 (edts true l)), int n] [.x, .x] [boo false] st) ∨
  (e = .normal ∧ (St1 l n i h ∧ Fl l[i] n) ∧ LessL st [(0, .c (.sl true 5 (edts true l))), (1, .c (.sc (.int .i64 n))), (5, .rf 25000 []), (26, .c (.sl true 5 (edts true l))), (27, .c (.sc (.int .i64 (l.length : Int)))), (28, .c (.sc (.int .i64 ((i + 1 : Nat) : Int))))] [(25000, .sv (.sl false 1 (ints (cts l n (i + 1)))))])
theorem w_ih1a (l : List Edt) (n : Int) (i : Nat) (h : i < l.length) (hl : l.length ≤ 24) (h1 : 1 ≤ n) (h3 : n ≤ 3) (hW : EdtW l[i]) (hR : inR 0 (n - 1) l[i].tm = false) : AW Try.prog 152 (cAt Try.f26 [2, 2, 2, 1, 2, 5, 7]) (mk [(0, .c (.sl true 5 (edts true l))), (1, .c (.sc (.int .i64 n))), (5, .rf 25000 []), (26, .c (.sl true 5 (edts true l))), (27, .c (.sc (.int .i64 (l.length : Int)))), (28, .c (.sc (.int .i64 (i : Int))))] [(25000, .sv (.sl false 1 (ints (cts l n i))))]) (Ih1Q l n i h) := by
  have e1 : wrap64 ((i : Int) + 1) = ((i + 1 : Nat) : Int) := by rw [w64 (by omega) (by omega)]; omega
  have e2 : wrap64 (n - 1) = n - 1 := w64 (by omega) (by omega)
  have hb : Hd (¬ (St1 l n i h ∧ Fl l[i] n)) := fun hh => by have := hh.1.1; rw [hR] at this; cases this
  generalize cts l n i = cl
  repeat' (first | with_reducible refine OutOK.done ?_ | refine thenQ_n ?_ | refine thenQ_r ?_ | refine thenQ_e ?_ | refine AW.seq ?_ | refine AW.dreg tok mixed [15, 25, 26, 27, 28]  [(0, false), (2, false), (3, false), (1, false), (4, false), (5, false), (6, false), (7, false), (8, false), (9, false), (10, false), (11, false), (12, false), (13, false), (14, false), (15, true), (16, false), (17, false), (18, false), (19, false), (20, false), (21, false), (23, false), (24, false), (22, false), (25, true), (26, true), (27, true), (28, true), (29, false), (30, false)] (by decide +kernel) rfl (by simp [*]; rfl) ?_ | refine AW.dreg tok mixed [9, 13]  [(0, false), (3, false), (1, false), (2, false), (4, false), (5, false), (6, false), (8, false), (12, false), (7, false), (9, true), (10, false), (11, false), (13, true), (14, false), (15, false), (16, false), (17, false), (18, false), (19, false), (20, false), (21, false), (22, false), (23, false), (24, false), (25, false), (26, false), (27, false)] (by decide +kernel) rfl (by simp [*]; rfl) ?_ | refine AW.reg tok (by simp [*]; rfl) ?_ | refine AW.ifB (by simp [*]; rfl) ?_ | refine IfG.t ?_ | refine IfG.f ?_ | ((first | refine IfG.p (fun hg => ?_) (fun hg => ?_) | refine IfG.n (fun hg => ?_) (fun hg => ?_) | refine OutOK.gateP (fun hg => ?_) (fun hg => ?_) | refine OutOK.gateN (fun hg => ?_) (fun hg => ?_) | refine IfG.g (fun hg => ?_) (fun hg => ?_) | refine OutOK.gate (fun hg => ?_) (fun hg => ?_)) <;> (try (have hg' := hg; simp at hg'))) | (refine OutOK.callF [] (by simp [*]; rfl) (by simp [*]; rfl) (by simp [*]; rfl) hb59 (by apply c_impl_within <;> first | assumption | exact Hd.out (by assumption) | ((try clear e1); (try clear e2); omega)) ⟨by simp [*], by simp [*], by simp [*], by simp [*], by simp [*]⟩ (by simp [*]) (by simp [*]; rfl) ?_) | refine OutOK.run (by simp [*]; rfl) ?_ | refine AW.ret ?_ | refine AW.skip ?_ | refine AW.exit ?_ | refine fin_r ?_ | refine fin_n ?_ | refine AW.block ?_ | refine blockQ_n ?_ | refine blockQ_r ?_ | refine blockQ_e ?_ | refine blockQ_o rfl ?_)
  exact .inl ⟨rfl, hb.out, by simp [Try.f26]⟩
theorem w_ih1b (l : List Edt) (n : Int) (i : Nat) (h : i < l.length) (hl : l.length ≤ 24) (h1 : 1 ≤ n) (h3 : n ≤ 3) (hW : EdtW l[i]) (j : Nat) (hj : j < l.length) (hI : i = j + 1) (hR : inR 0 (n - 1) l[i].tm = true) (hc : 0 ≤ cmpE l[j] l[i]) : AW Try.prog 152 (cAt Try.f26 [2, 2, 2, 1, 2, 5, 7]) (mk [(0, .c (.sl true 5 (edts true l))), (1, .c (.sc (.int .i64 n))), (5, .rf 25000 []), (26, .c (.sl true 5 (edts true l))), (27, .c (.sc (.int .i64 (l.length : Int)))), (28, .c (.sc (.int .i64 (i : Int))))] [(25000, .sv (.sl false 1 (ints (cts l n i))))]) (Ih1Q l n i h) := by
  have e1 : wrap64 ((i : Int) + 1) = ((i + 1 : Nat) : Int) := by rw [w64 (by omega) (by omega)]; omega
  have e2 : wrap64 (n - 1) = n - 1 := w64 (by omega) (by omega)
  have e3 : wrap64 ((i : Int) - 1) = (j : Int) := by rw [w64 (by omega) (by omega)]; omega
  have hb : Hd (¬ (St1 l n i h ∧ Fl l[i] n)) := fun hh => by have := hh.1.2.1 j hj hI; omega
  have cc := c_impl_compareEdits l[j] l[i]
  have hi0 : 0 < i := by omega
  generalize cts l n i = cl
  generalize cmpE l[j] l[i] = z at *
  clear hI
  repeat' (first | with_reducible refine OutOK.done ?_ | refine thenQ_n ?_ | refine thenQ_r ?_ | refine thenQ_e ?_ | refine AW.seq ?_ | refine AW.dreg tok mixed [15, 25, 26, 27, 28]  [(0, false), (2, false), (3, false), (1, false), (4, false), (5, false), (6, false), (7, false), (8, false), (9, false), (10, false), (11, false), (12, false), (13, false), (14, false), (15, true), (16, false), (17, false), (18, false), (19, false), (20, false), (21, false), (23, false), (24, false), (22, false), (25, true), (26, true), (27, true), (28, true), (29, false), (30, false)] (by decide +kernel) rfl (by simp [*]; rfl) ?_ | refine AW.dreg tok mixed [9, 13]  [(0, false), (3, false), (1, false), (2, false), (4, false), (5, false), (6, false), (8, false), (12, false), (7, false), (9, true), (10, false), (11, false), (13, true), (14, false), (15, false), (16, false), (17, false), (18, false), (19, false), (20, false), (21, false), (22, false), (23, false), (24, false), (25, false), (26, false), (27, false)] (by decide +kernel) rfl (by simp [*]; rfl) ?_ | refine AW.reg tok (by simp [*]; rfl) ?_ | refine AW.ifB (by simp [*]; rfl) ?_ | refine IfG.t ?_ | refine IfG.f ?_ | ((first | refine IfG.p (fun hg => ?_) (fun hg => ?_) | refine IfG.n (fun hg => ?_) (fun hg => ?_) | refine OutOK.gateP (fun hg => ?_) (fun hg => ?_) | refine OutOK.gateN (fun hg => ?_) (fun hg => ?_) | refine IfG.g (fun hg => ?_) (fun hg => ?_) | refine OutOK.gate (fun hg => ?_) (fun hg => ?_)) <;> (try (have hg' := hg; simp at hg'))) | (refine OutOK.callF [] (by simp [*]; rfl) (by simp [*]; rfl) (by simp [*]; rfl) hb59 (by apply c_impl_within <;> first | assumption | exact Hd.out (by assumption) | ((try clear e1); (try clear e2); (try clear e3); omega)) ⟨by simp [*], by simp [*], by simp [*], by simp [*], by simp [*]⟩ (by simp [*]) (by simp [*]; rfl) ?_) | (refine OutOK.callF [] (by simp [*]; rfl) (by simp [*]; rfl) (by simp [*]; rfl) hb76 (by apply cc <;> first | assumption | exact Hd.out (by assumption) | ((try clear e1); (try clear e2); (try clear e3); omega)) ⟨by simp [*], by simp [*], by simp [*], by simp [*], by simp [*]⟩ (by simp [*]) (by simp [*]; rfl) ?_) | refine OutOK.run (by simp [*]; rfl) ?_ | refine AW.ret ?_ | refine AW.skip ?_ | refine AW.exit ?_ | refine fin_r ?_ | refine fin_n ?_ | refine AW.block ?_ | refine blockQ_n ?_ | refine blockQ_r ?_ | refine blockQ_e ?_ | refine blockQ_o rfl ?_)
  exact .inl ⟨rfl, hb.out, by simp [Try.f26]⟩
theorem w_ih1c0 (l : List Edt) (n : Int) (i : Nat) (h : i < l.length) (hl : l.length ≤ 24) (h1 : 1 ≤ n) (h3 : n ≤ 3) (hW : EdtW l[i]) (T : Nat) (hT : l[i].tm = T) (hTn : (T : Int) ≤ n - 1) (h0 : i = 0) (hct : ¬ l[i].ct = (cntE (l.take i) (T : Int) : Int) + 1) : AW Try.prog 152 (cAt Try.f26 [2, 2, 2, 1, 2, 5, 7]) (mk [(0, .c (.sl true 5 (edts true l))), (1, .c (.sc (.int .i64 n))), (5, .rf 25000 []), (26, .c (.sl true 5 (edts true l))), (27, .c (.sc (.int .i64 (l.length : Int)))), (28, .c (.sc (.int .i64 (i : Int))))] [(25000, .sv (.sl false 1 (ints (cts l n i))))]) (Ih1Q l n i h) := by
  have e1 : wrap64 ((i : Int) + 1) = ((i + 1 : Nat) : Int) := by rw [w64 (by omega) (by omega)]; omega
  have e2 : wrap64 (n - 1) = n - 1 := w64 (by omega) (by omega)
  have hi0 : ¬ 0 < i := by omega
  have hR : inR 0 (n - 1) (T : Int) = true := inR_iff.2 ⟨by omega, hTn⟩
  have hb : Hd (¬ (St1 l n i h ∧ Fl l[i] n)) := fun hh => by have := hh.1.2.2; rw [hT] at this; exact hct this
  have hTl : T < (cts l n i).length := by simp; omega
  have hat : (cts l n i)[T] = ((cntE (l.take i) (T : Int) : Nat) : Int) := cts_at _ _ _ _ _
  have hcn24 : cntE (l.take i) (T : Int) ≤ 24 := by have := cntE_le (l.take i) T; have := List.length_take_le i l; omega
  generalize hcl : cts l n i = cl at *
  generalize cntE (l.take i) (T : Int) = c at *
  clear hcl
  obtain ⟨c1, hc1⟩ : ∃ c1, (c : Int) + 1 = c1 := ⟨_, rfl⟩
  have e4 : wrap64 ((c : Int) + 1) = c1 := by rw [w64 (by omega) (by omega)]; exact hc1
  obtain ⟨hW1, hW2, hW3⟩ := hW
  obtain ⟨tm, ct, ck, it, tx, he⟩ : ∃ tm ct ck it tx, l[i] = ⟨tm, ct, ck, it, tx⟩ := ⟨_, _, _, _, _, rfl⟩
  rw [he] at hT hW1 hW2 hct
  simp only at hT hW1 hW2 hct
  subst hT
  rw [hc1] at hct
  clear h0
  clear hc1
  repeat' (first | with_reducible refine OutOK.done ?_ | refine thenQ_n ?_ | refine thenQ_r ?_ | refine thenQ_e ?_ | refine AW.seq ?_ | refine AW.dreg tok mixed [15, 25, 26, 27, 28]  [(0, false), (2, false), (3, false), (1, false), (4, false), (5, false), (6, false), (7, false), (8, false), (9, false), (10, false), (11, false), (12, false), (13, false), (14, false), (15, true), (16, false), (17, false), (18, false), (19, false), (20, false), (21, false), (23, false), (24, false), (22, false), (25, true), (26, true), (27, true), (28, true), (29, false), (30, false)] (by decide +kernel) rfl (by simp [*]; rfl) ?_ | refine AW.dreg tok mixed [9, 13]  [(0, false), (3, false), (1, false), (2, false), (4, false), (5, false), (6, false), (8, false), (12, false), (7, false), (9, true), (10, false), (11, false), (13, true), (14, false), (15, false), (16, false), (17, false), (18, false), (19, false), (20, false), (21, false), (22, false), (23, false), (24, false), (25, false), (26, false), (27, false)] (by decide +kernel) rfl (by simp [*]; rfl) ?_ | refine AW.reg tok (by simp [*]; rfl) ?_ | refine AW.ifB (by simp [*]; rfl) ?_ | refine IfG.t ?_ | refine IfG.f ?_ | ((first | refine IfG.p (fun hg => ?_) (fun hg => ?_) | refine IfG.n (fun hg => ?_) (fun hg => ?_) | refine OutOK.gateP (fun hg => ?_) (fun hg => ?_) | refine OutOK.gateN (fun hg => ?_) (fun hg => ?_) | refine IfG.g (fun hg => ?_) (fun hg => ?_) | refine OutOK.gate (fun hg => ?_) (fun hg => ?_)) <;> (try (have hg' := hg; simp at hg'))) | (refine OutOK.callF [] (by simp [*]; rfl) (by simp [*]; rfl) (by simp [*]; rfl) hb59 (by apply c_impl_within <;> first | assumption | exact Hd.out (by assumption) | ((try clear e1); (try clear e2); (try clear e4); omega)) ⟨by simp [*], by simp [*], by simp [*], by simp [*], by simp [*]⟩ (by simp [*]) (by simp [*]; rfl) ?_) | refine OutOK.run (by simp [*]; rfl) ?_ | refine AW.ret ?_ | refine AW.skip ?_ | refine AW.exit ?_ | refine fin_r ?_ | refine fin_n ?_ | refine AW.block ?_ | refine blockQ_n ?_ | refine blockQ_r ?_ | refine blockQ_e ?_ | refine blockQ_o rfl ?_)
  exact .inl ⟨rfl, hb.out, by simp [Try.f26]⟩
theorem w_ih1k0 (l : List Edt) (n : Int) (i : Nat) (h : i < l.length) (hl : l.length ≤ 24) (h1 : 1 ≤ n) (h3 : n ≤ 3) (hW : EdtW l[i]) (T : Nat) (hT : l[i].tm = T) (hTn : (T : Int) ≤ n - 1) (h0 : i = 0) (hct : l[i].ct = (cntE (l.take i) (T : Int) : Int) + 1) : AW Try.prog 152 (cAt Try.f26 [2, 2, 2, 1, 2, 5, 7]) (mk [(0, .c (.sl true 5 (edts true l))), (1, .c (.sc (.int .i64 n))), (5, .rf 25000 []), (26, .c (.sl true 5 (edts true l))), (27, .c (.sc (.int .i64 (l.length : Int)))), (28, .c (.sc (.int .i64 (i : Int))))] [(25000, .sv (.sl false 1 (ints (cts l n i))))]) (Ih1Q l n i h) := by
  have e1 : wrap64 ((i : Int) + 1) = ((i + 1 : Nat) : Int) := by rw [w64 (by omega) (by omega)]; omega
  have e2 : wrap64 (n - 1) = n - 1 := w64 (by omega) (by omega)
  have hi0 : ¬ 0 < i := by omega
  have hR : inR 0 (n - 1) (T : Int) = true := inR_iff.2 ⟨by omega, hTn⟩
  have hb : Hd (St1 l n i h) := ⟨by rw [hT]; exact hR, fun q hq e => by omega, by rw [hT]; exact hct⟩
  have hset : Hd ((cts l n i).set T (((cntE (l.take i) (T : Int) : Nat) : Int) + 1) = cts l n (i + 1)) := cts_step l n i T h hT
  have hge : Hd (Fl l[i] n = Fl l[i] n) := rfl
  have hTl : T < (cts l n i).length := by simp; omega
  have hat : (cts l n i)[T] = ((cntE (l.take i) (T : Int) : Nat) : Int) := cts_at _ _ _ _ _
  have hcn24 : cntE (l.take i) (T : Int) ≤ 24 := by have := cntE_le (l.take i) T; have := List.length_take_le i l; omega
  generalize hcl : cts l n i = cl at *
  generalize cntE (l.take i) (T : Int) = c at *
  clear hcl
  obtain ⟨c1, hc1⟩ : ∃ c1, (c : Int) + 1 = c1 := ⟨_, rfl⟩
  have e4 : wrap64 ((c : Int) + 1) = c1 := by rw [w64 (by omega) (by omega)]; exact hc1
  rw [hc1] at hset
  obtain ⟨hW1, hW2, hW3⟩ := hW
  obtain ⟨tm, ct, ck, it, tx, he⟩ : ∃ tm ct ck it tx, l[i] = ⟨tm, ct, ck, it, tx⟩ := ⟨_, _, _, _, _, rfl⟩
  rw [he] at hT hW1 hW2 hct
  simp only at hT hW1 hW2 hct
  subst hT
  rw [hc1] at hct
  clear h0
  subst hct
  clear hc1
  have hB := w_ihB l n i (cl.set T ct) T ct ck it tx hW1 hW2 hTn
  have he' : Hd _ := he
  have hn' : Hd (Fl ⟨(T : Int), ct, ck, it, tx⟩ n = Fl l[i] n) := by rw [he]; rfl
  repeat' (first | with_reducible refine AW.stopR 10 ?_ | with_reducible refine OutOK.done ?_ | refine thenQ_n ?_ | refine thenQ_r ?_ | refine thenQ_e ?_ | refine AW.seq ?_ | refine AW.dreg tok mixed [15, 25, 26, 27, 28]  [(0, false), (2, false), (3, false), (1, false), (4, false), (5, false), (6, false), (7, false), (8, false), (9, false), (10, false), (11, false), (12, false), (13, false), (14, false), (15, true), (16, false), (17, false), (18, false), (19, false), (20, false), (21, false), (23, false), (24, false), (22, false), (25, true), (26, true), (27, true), (28, true), (29, false), (30, false)] (by decide +kernel) rfl (by simp [*]; rfl) ?_ | refine AW.dreg tok mixed [9, 13]  [(0, false), (3, false), (1, false), (2, false), (4, false), (5, false), (6, false), (8, false), (12, false), (7, false), (9, true), (10, false), (11, false), (13, true), (14, false), (15, false), (16, false), (17, false), (18, false), (19, false), (20, false), (21, false), (22, false), (23, false), (24, false), (25, false), (26, false), (27, false)] (by decide +kernel) rfl (by simp [*]; rfl) ?_ | refine AW.reg tok (by simp [*]; rfl) ?_ | refine AW.ifB (by simp [*]; rfl) ?_ | refine IfG.t ?_ | refine IfG.f ?_ | ((first | refine IfG.p (fun hg => ?_) (fun hg => ?_) | refine IfG.n (fun hg => ?_) (fun hg => ?_) | refine OutOK.gateP (fun hg => ?_) (fun hg => ?_) | refine OutOK.gateN (fun hg => ?_) (fun hg => ?_) | refine IfG.g (fun hg => ?_) (fun hg => ?_) | refine OutOK.gate (fun hg => ?_) (fun hg => ?_)) <;> (try (have hg' := hg; simp at hg'))) | (refine OutOK.callF [] (by simp [*]; rfl) (by simp [*]; rfl) (by simp [*]; rfl) hb59 (by apply c_impl_within <;> first | assumption | exact Hd.out (by assumption) | ((try clear e1); (try clear e2); (try clear e4); omega)) ⟨by simp [*], by simp [*], by simp [*], by simp [*], by simp [*]⟩ (by simp [*]) (by simp [*]; rfl) ?_) | refine OutOK.run (by simp [*]; rfl) ?_ | refine AW.ret ?_ | refine AW.skip ?_ | refine AW.exit ?_ | refine fin_r ?_ | refine fin_n ?_ | refine AW.block ?_ | refine blockQ_n ?_ | refine blockQ_r ?_ | refine blockQ_e ?_ | refine blockQ_o rfl ?_)
  refine Hold.via hB ⟨by simp, by simp, by simp⟩ (fun e st hq => ?_)
  rcases hq with ⟨rfl, hq1, hq⟩ | ⟨rfl, hq1, hq⟩
  · exact .inl ⟨rfl, fun hh => hq1 (by rw [hn'.out]; exact hh.2), hq⟩
  · refine AW.forget _ _ hq ?_
    rw [hn'.out] at hq1
    rw [hset.out]
    clear hq
    repeat' (first | with_reducible refine OutOK.done ?_ | refine thenQ_n ?_ | refine thenQ_r ?_ | refine thenQ_e ?_ | refine AW.seq ?_ | refine AW.dreg tok mixed [15, 25, 26, 27, 28]  [(0, false), (2, false), (3, false), (1, false), (4, false), (5, false), (6, false), (7, false), (8, false), (9, false), (10, false), (11, false), (12, false), (13, false), (14, false), (15, true), (16, false), (17, false), (18, false), (19, false), (20, false), (21, false), (23, false), (24, false), (22, false), (25, true), (26, true), (27, true), (28, true), (29, false), (30, false)] (by decide +kernel) rfl (by simp [*]; rfl) ?_ | refine AW.dreg tok mixed [9, 13]  [(0, false), (3, false), (1, false), (2, false), (4, false), (5, false), (6, false), (8, false), (12, false), (7, false), (9, true), (10, false), (11, false), (13, true), (14, false), (15, false), (16, false), (17, false), (18, false), (19, false), (20, false), (21, false), (22, false), (23, false), (24, false), (25, false), (26, false), (27, false)] (by decide +kernel) rfl (by simp [*]; rfl) ?_ | refine AW.reg tok (by simp [*]; rfl) ?_ | refine AW.ifB (by simp [*]; rfl) ?_ | refine IfG.t ?_ | refine IfG.f ?_ | ((first | refine IfG.p (fun hg => ?_) (fun hg => ?_) | refine IfG.n (fun hg => ?_) (fun hg => ?_) | refine OutOK.gateP (fun hg => ?_) (fun hg => ?_) | refine OutOK.gateN (fun hg => ?_) (fun hg => ?_) | refine IfG.g (fun hg => ?_) (fun hg => ?_) | refine OutOK.gate (fun hg => ?_) (fun hg => ?_)) <;> (try (have hg' := hg; simp at hg'))) | refine OutOK.run (by simp [*]; rfl) ?_ | refine AW.ret ?_ | refine AW.skip ?_ | refine AW.exit ?_ | refine fin_r ?_ | refine fin_n ?_ | refine AW.block ?_ | refine blockQ_n ?_ | refine blockQ_r ?_ | refine blockQ_e ?_ | refine blockQ_o rfl ?_)
    exact .inr ⟨rfl, ⟨hb.out, hq1⟩, by simp, by simp, by simp⟩
theorem w_ih1c1 (l : List Edt) (n : Int) (i : Nat) (h : i < l.length) (hl : l.length ≤ 24) (h1 : 1 ≤ n) (h3 : n ≤ 3) (hW : EdtW l[i]) (j : Nat) (hj : j < l.length) (hI : i = j + 1) (T : Nat) (hT : l[i].tm = T) (hTn : (T : Int) ≤ n - 1) (hc : cmpE l[j] l[i] < 0) (hct : ¬ l[i].ct = (cntE (l.take i) (T : Int) : Int) + 1) : AW Try.prog 152 (cAt Try.f26 [2, 2, 2, 1, 2, 5, 7]) (mk [(0, .c (.sl true 5 (edts true l))), (1, .c (.sc (.int .i64 n))), (5, .rf 25000 []), (26, .c (.sl true 5 (edts true l))), (27, .c (.sc (.int .i64 (l.length : Int)))), (28, .c (.sc (.int .i64 (i : Int))))] [(25000, .sv (.sl false 1 (ints (cts l n i))))]) (Ih1Q l n i h) := by
  have e1 : wrap64 ((i : Int) + 1) = ((i + 1 : Nat) : Int) := by rw [w64 (by omega) (by omega)]; omega
  have e2 : wrap64 (n - 1) = n - 1 := w64 (by omega) (by omega)
  have e3 : wrap64 ((i : Int) - 1) = (j : Int) := by rw [w64 (by omega) (by omega)]; omega
  have hi0 : 0 < i := by omega
  have hcn : ¬ 0 ≤ cmpE l[j] l[i] := by omega
  have hR : inR 0 (n - 1) (T : Int) = true := inR_iff.2 ⟨by omega, hTn⟩
  have hb : Hd (¬ (St1 l n i h ∧ Fl l[i] n)) := fun hh => by have := hh.1.2.2; rw [hT] at this; exact hct this
  have hTl : T < (cts l n i).length := by simp; omega
  have hat : (cts l n i)[T] = ((cntE (l.take i) (T : Int) : Nat) : Int) := cts_at _ _ _ _ _
  have hcn24 : cntE (l.take i) (T : Int) ≤ 24 := by have := cntE_le (l.take i) T; have := List.length_take_le i l; omega
  generalize hcl : cts l n i = cl at *
  generalize cntE (l.take i) (T : Int) = c at *
  clear hcl
  obtain ⟨c1, hc1⟩ : ∃ c1, (c : Int) + 1 = c1 := ⟨_, rfl⟩
  have e4 : wrap64 ((c : Int) + 1) = c1 := by rw [w64 (by omega) (by omega)]; exact hc1
  have cc := c_impl_compareEdits l[j] l[i]
  generalize cmpE l[j] l[i] = z at *
  obtain ⟨hW1, hW2, hW3⟩ := hW
  obtain ⟨tm, ct, ck, it, tx, he⟩ : ∃ tm ct ck it tx, l[i] = ⟨tm, ct, ck, it, tx⟩ := ⟨_, _, _, _, _, rfl⟩
  rw [he] at hT hW1 hW2 hct cc
  simp only at hT hW1 hW2 hct
  subst hT
  rw [hc1] at hct
  clear hc hI
  clear hc1
  repeat' (first | with_reducible refine OutOK.done ?_ | refine thenQ_n ?_ | refine thenQ_r ?_ | refine thenQ_e ?_ | refine AW.seq ?_ | refine AW.dreg tok mixed [15, 25, 26, 27, 28]  [(0, false), (2, false), (3, false), (1, false), (4, false), (5, false), (6, false), (7, false), (8, false), (9, false), (10, false), (11, false), (12, false), (13, false), (14, false), (15, true), (16, false), (17, false), (18, false), (19, false), (20, false), (21, false), (23, false), (24, false), (22, false), (25, true), (26, true), (27, true), (28, true), (29, false), (30, false)] (by decide +kernel) rfl (by simp [*]; rfl) ?_ | refine AW.dreg tok mixed [9, 13]  [(0, false), (3, false), (1, false), (2, false), (4, false), (5, false), (6, false), (8, false), (12, false), (7, false), (9, true), (10, false), (11, false), (13, true), (14, false), (15, false), (16, false), (17, false), (18, false), (19, false), (20, false), (21, false), (22, false), (23, false), (24, false), (25, false), (26, false), (27, false)] (by decide +kernel) rfl (by simp [*]; rfl) ?_ | refine AW.reg tok (by simp [*]; rfl) ?_ | refine AW.ifB (by simp [*]; rfl) ?_ | refine IfG.t ?_ | refine IfG.f ?_ | ((first | refine IfG.p (fun hg => ?_) (fun hg => ?_) | refine IfG.n (fun hg => ?_) (fun hg => ?_) | refine OutOK.gateP (fun hg => ?_) (fun hg => ?_) | refine OutOK.gateN (fun hg => ?_) (fun hg => ?_) | refine IfG.g (fun hg => ?_) (fun hg => ?_) | refine OutOK.gate (fun hg => ?_) (fun hg => ?_)) <;> (try (have hg' := hg; simp at hg'))) | (refine OutOK.callF [] (by simp [*]; rfl) (by simp [*]; rfl) (by simp [*]; rfl) hb59 (by apply c_impl_within <;> first | assumption | exact Hd.out (by assumption) | ((try clear e1); (try clear e2); (try clear e3); (try clear e4); omega)) ⟨by simp [*], by simp [*], by simp [*], by simp [*], by simp [*]⟩ (by simp [*]) (by simp [*]; rfl) ?_) | (refine OutOK.callF [] (by simp [*]; rfl) (by simp [*]; rfl) (by simp [*]; rfl) hb76 (by apply cc <;> first | assumption | exact Hd.out (by assumption) | ((try clear e1); (try clear e2); (try clear e3); (try clear e4); omega)) ⟨by simp [*], by simp [*], by simp [*], by simp [*], by simp [*]⟩ (by simp [*]) (by simp [*]; rfl) ?_) | refine OutOK.run (by simp [*]; rfl) ?_ | refine AW.ret ?_ | refine AW.skip ?_ | refine AW.exit ?_ | refine fin_r ?_ | refine fin_n ?_ | refine AW.block ?_ | refine blockQ_n ?_ | refine blockQ_r ?_ | refine blockQ_e ?_ | refine blockQ_o rfl ?_)
  exact .inl ⟨rfl, hb.out, by simp [Try.f26]⟩
theorem w_ih1k1 (l : List Edt) (n : Int) (i : Nat) (h : i < l.length) (hl : l.length ≤ 24) (h1 : 1 ≤ n) (h3 : n ≤ 3) (hW : EdtW l[i]) (j : Nat) (hj : j < l.length) (hI : i = j + 1) (T : Nat) (hT : l[i].tm = T) (hTn : (T : Int) ≤ n - 1) (hc : cmpE l[j] l[i] < 0) (hct : l[i].ct = (cntE (l.take i) (T : Int) : Int) + 1) : AW Try.prog 152 (cAt Try.f26 [2, 2, 2, 1, 2, 5, 7]) (mk [(0, .c (.sl true 5 (edts true l))), (1, .c (.sc (.int .i64 n))), (5, .rf 25000 []), (26, .c (.sl true 5 (edts true l))), (27, .c (.sc (.int .i64 (l.length : Int)))), (28, .c (.sc (.int .i64 (i : Int))))] [(25000, .sv (.sl false 1 (ints (cts l n i))))]) (Ih1Q l n i h) := by
  have e1 : wrap64 ((i : Int) + 1) = ((i + 1 : Nat) : Int) := by rw [w64 (by omega) (by omega)]; omega
  have e2 : wrap64 (n - 1) = n - 1 := w64 (by omega) (by omega)
  have e3 : wrap64 ((i : Int) - 1) = (j : Int) := by rw [w64 (by omega) (by omega)]; omega
  have hi0 : 0 < i := by omega
  have hcn : ¬ 0 ≤ cmpE l[j] l[i] := by omega
  have hR : inR 0 (n - 1) (T : Int) = true := inR_iff.2 ⟨by omega, hTn⟩
  have hb : Hd (St1 l n i h) := ⟨by rw [hT]; exact hR, fun q hq e => by
    have : q = j := by omega
    subst this; exact hc, by rw [hT]; exact hct⟩
  have hset : Hd ((cts l n i).set T (((cntE (l.take i) (T : Int) : Nat) : Int) + 1) = cts l n (i + 1)) := cts_step l n i T h hT
  have hge : Hd (Fl l[i] n = Fl l[i] n) := rfl
  have hTl : T < (cts l n i).length := by simp; omega
  have hat : (cts l n i)[T] = ((cntE (l.take i) (T : Int) : Nat) : Int) := cts_at _ _ _ _ _
  have hcn24 : cntE (l.take i) (T : Int) ≤ 24 := by have := cntE_le (l.take i) T; have := List.length_take_le i l; omega
  generalize hcl : cts l n i = cl at *
  generalize cntE (l.take i) (T : Int) = c at *
  clear hcl
  obtain ⟨c1, hc1⟩ : ∃ c1, (c : Int) + 1 = c1 := ⟨_, rfl⟩
  have e4 : wrap64 ((c : Int) + 1) = c1 := by rw [w64 (by omega) (by omega)]; exact hc1
  rw [hc1] at hset
  have cc := c_impl_compareEdits l[j] l[i]
  generalize cmpE l[j] l[i] = z at *
  obtain ⟨hW1, hW2, hW3⟩ := hW
  obtain ⟨tm, ct, ck, it, tx, he⟩ : ∃ tm ct ck it tx, l[i] = ⟨tm, ct, ck, it, tx⟩ := ⟨_, _, _, _, _, rfl⟩
  rw [he] at hT hW1 hW2 hct cc
  simp only at hT hW1 hW2 hct
  subst hT
  rw [hc1] at hct
  clear hc hI
  subst hct
  clear hc1
  have hB := w_ihB l n i (cl.set T ct) T ct ck it tx hW1 hW2 hTn
  have he' : Hd _ := he
  have hn' : Hd (Fl ⟨(T : Int), ct, ck, it, tx⟩ n = Fl l[i] n) := by rw [he]; rfl
  repeat' (first | with_reducible refine AW.stopR 10 ?_ | with_reducible refine OutOK.done ?_ | refine thenQ_n ?_ | refine thenQ_r ?_ | refine thenQ_e ?_ | refine AW.seq ?_ | refine AW.dreg tok mixed [15, 25, 26, 27, 28]  [(0, false), (2, false), (3, false), (1, false), (4, false), (5, false), (6, false), (7, false), (8, false), (9, false), (10, false), (11, false), (12, false), (13, false), (14, false), (15, true), (16, false), (17, false), (18, false), (19, false), (20, false), (21, false), (23, false), (24, false), (22, false), (25, true), (26, true), (27, true), (28, true), (29, false), (30, false)] (by decide +kernel) rfl (by simp [*]; rfl) ?_ | refine AW.dreg tok mixed [9, 13]  [(0, false), (3, false), (1, false), (2, false), (4, false), (5, false), (6, false), (8, false), (12, false), (7, false), (9, true), (10, false), (11, false), (13, true), (14, false), (15, false), (16, false), (17, false), (18, false), (19, false), (20, false), (21, false), (22, false), (23, false), (24, false), (25, false), (26, false), (27, false)] (by decide +kernel) rfl (by simp [*]; rfl) ?_ | refine AW.reg tok (by simp [*]; rfl) ?_ | refine AW.ifB (by simp [*]; rfl) ?_ | refine IfG.t ?_ | refine IfG.f ?_ | ((first | refine IfG.p (fun hg => ?_) (fun hg => ?_) | refine IfG.n (fun hg => ?_) (fun hg => ?_) | refine OutOK.gateP (fun hg => ?_) (fun hg => ?_) | refine OutOK.gateN (fun hg => ?_) (fun hg => ?_) | refine IfG.g (fun hg => ?_) (fun hg => ?_) | refine OutOK.gate (fun hg => ?_) (fun hg => ?_)) <;> (try (have hg' := hg; simp at hg'))) | (refine OutOK.callF [] (by simp [*]; rfl) (by simp [*]; rfl) (by simp [*]; rfl) hb59 (by apply c_impl_within <;> first | assumption | exact Hd.out (by assumption) | ((try clear e1); (try clear e2); (try clear e3); (try clear e4); omega)) ⟨by simp [*], by simp [*], by simp [*], by simp [*], by simp [*]⟩ (by simp [*]) (by simp [*]; rfl) ?_) | (refine OutOK.callF [] (by simp [*]; rfl) (by simp [*]; rfl) (by simp [*]; rfl) hb76 (by apply cc <;> first | assumption | exact Hd.out (by assumption) | ((try clear e1); (try clear e2); (try clear e3); (try clear e4); omega)) ⟨by simp [*], by simp [*], by simp [*], by simp [*], by simp [*]⟩ (by simp [*]) (by simp [*]; rfl) ?_) | refine OutOK.run (by simp [*]; rfl) ?_ | refine AW.ret ?_ | refine AW.skip ?_ | refine AW.exit ?_ | refine fin_r ?_ | refine fin_n ?_ | refine AW.block ?_ | refine blockQ_n ?_ | refine blockQ_r ?_ | refine blockQ_e ?_ | refine blockQ_o rfl ?_)
  refine Hold.via hB ⟨by simp, by simp, by simp⟩ (fun e st hq => ?_)
  rcases hq with ⟨rfl, hq1, hq⟩ | ⟨rfl, hq1, hq⟩
  · exact .inl ⟨rfl, fun hh => hq1 (by rw [hn'.out]; exact hh.2), hq⟩
  · refine AW.forget _ _ hq ?_
    rw [hn'.out] at hq1
    rw [hset.out]
    clear hq
    repeat' (first | with_reducible refine OutOK.done ?_ | refine thenQ_n ?_ | refine thenQ_r ?_ | refine thenQ_e ?_ | refine AW.seq ?_ | refine AW.dreg tok mixed [15, 25, 26, 27, 28]  [(0, false), (2, false), (3, false), (1, false), (4, false), (5, false), (6, false), (7, false), (8, false), (9, false), (10, false), (11, false), (12, false), (13, false), (14, false), (15, true), (16, false), (17, false), (18, false), (19, false), (20, false), (21, false), (23, false), (24, false), (22, false), (25, true), (26, true), (27, true), (28, true), (29, false), (30, false)] (by decide +kernel) rfl (by simp [*]; rfl) ?_ | refine AW.dreg tok mixed [9, 13]  [(0, false), (3, false), (1, false), (2, false), (4, false), (5, false), (6, false), (8, false), (12, false), (7, false), (9, true), (10, false), (11, false), (13, true), (14, false), (15, false), (16, false), (17, false), (18, false), (19, false), (20, false), (21, false), (22, false), (23, false), (24, false), (25, false), (26, false), (27, false)] (by decide +kernel) rfl (by simp [*]; rfl) ?_ | refine AW.reg tok (by simp [*]; rfl) ?_ | refine AW.ifB (by simp [*]; rfl) ?_ | refine IfG.t ?_ | refine IfG.f ?_ | ((first | refine IfG.p (fun hg => ?_) (fun hg => ?_) | refine IfG.n (fun hg => ?_) (fun hg => ?_) | refine OutOK.gateP (fun hg => ?_) (fun hg => ?_) | refine OutOK.gateN (fun hg => ?_) (fun hg => ?_) | refine IfG.g (fun hg => ?_) (fun hg => ?_) | refine OutOK.gate (fun hg => ?_) (fun hg => ?_)) <;> (try (have hg' := hg; simp at hg'))) | refine OutOK.run (by simp [*]; rfl) ?_ | refine AW.ret ?_ | refine AW.skip ?_ | refine AW.exit ?_ | refine fin_r ?_ | refine fin_n ?_ | refine AW.block ?_ | refine blockQ_n ?_ | refine blockQ_r ?_ | refine blockQ_e ?_ | refine blockQ_o rfl ?_)
    exact .inr ⟨rfl, ⟨hb.out, hq1⟩, by simp, by simp, by simp⟩
theorem w_ih1 (l : List Edt) (n : Int) (i : Nat) (h : i < l.length) (hl : l.length ≤ 24) (h1 : 1 ≤ n) (h3 : n ≤ 3) (hW : EdtW l[i]) : AW Try.prog 152 (cAt Try.f26 [2, 2, 2, 1, 2, 5, 7]) (mk [(0, .c (.sl true 5 (edts true l))), (1, .c (.sc (.int .i64 n))), (5, .rf 25000 []), (26, .c (.sl true 5 (edts true l))), (27, .c (.sc (.int .i64 (l.length : Int)))), (28, .c (.sc (.int .i64 (i : Int))))] [(25000, .sv (.sl false 1 (ints (cts l n i))))]) (Ih1Q l n i h) := by
  cases hR : inR 0 (n - 1) l[i].tm with
  | false => exact w_ih1a l n i h hl h1 h3 hW hR
  | true =>
    have hr := inR_iff.1 hR
    obtain ⟨T, hT⟩ : ∃ T : Nat, l[i].tm = (T : Int) := ⟨l[i].tm.toNat, by omega⟩
    have hTn : (T : Int) ≤ n - 1 := by omega
    have hor : i = 0 ∨ (∃ j, ∃ hj : j < l.length, i = j + 1 ∧ 0 ≤ cmpE l[j] l[i]) ∨ (∃ j, ∃ hj : j < l.length, i = j + 1 ∧ cmpE l[j] l[i] < 0) := by
      rcases i with _ | j
      · exact .inl rfl
      · rcases Int.lt_or_le (cmpE (l[j]'(by omega)) l[j + 1]) 0 with h2 | h2
        · exact .inr (.inr ⟨j, by omega, rfl, h2⟩)
        · exact .inr (.inl ⟨j, by omega, rfl, h2⟩)
    rcases hor with h0 | ⟨j, hj, hI, hc⟩ | ⟨j, hj, hI, hc⟩
    · by_cases hct : l[i].ct = (cntE (l.take i) (T : Int) : Int) + 1
      · exact w_ih1k0 l n i h hl h1 h3 hW T hT hTn h0 hct
      · exact w_ih1c0 l n i h hl h1 h3 hW T hT hTn h0 hct
    · exact w_ih1b l n i h hl h1 h3 hW j hj hI hR hc
    · by_cases hct : l[i].ct = (cntE (l.take i) (T : Int) : Int) + 1
      · exact w_ih1k1 l n i h hl h1 h3 hW j hj hI T hT hTn hc hct
      · exact w_ih1c1 l n i h hl h1 h3 hW j hj hI T hT hTn hc hct
end Go.Proofs.Ytbofobjofngoeaa.EngS


set_option linter.unusedSimpArgs false
set_option linter.unusedVariables false
set_option maxHeartbeats 4000000
set_option maxRecDepth 100000
namespace Go.Proofs.Ytbofobjofngoeaa.EngS
open Go Go.Proofs Go.Eng Go.RowKit
attribute [local irreducible] Go.RowKit.wrap64
def Ih2Q (l : List Edt) (n : Int) (i : Nat) (h : i < l.length) (e : Exit) (st : St) : Prop :=
  (e = .ret ∧ ¬ (∀ t < l[i].ck.length, inR 0 (cntE l (t : Int)) (ckAt l[i].ck (t : Int)) = true) ∧ FinP T Try.f26.results.toList [.v (.sl true 5 (edts true l)), int n] [.x, .x] [boo false] st) ∨
  (e = .normal ∧ (∀ t < l[i].ck.length, inR 0 (cntE l (t : Int)) (ckAt l[i].ck (t : Int)) = true) ∧ LessL st [(0, .c (.sl true 5 (edts true l))), (1, .c (.sc (.int .i64 n))), (5, .rf 25000 []), (100, .c (.sl true 5 (edts true l))), (101, .c (.sc (.int .i64 (l.length : Int)))), (102, .c (.sc (.int .i64 ((i + 1 : Nat) : Int))))] [(25000, .sv (.sl false 1 (ints (cts l n l.length))))])
theorem w_ih2 (l : List Edt) (n : Int) (i : Nat) (h : i < l.length) (hl : l.length ≤ 24) (h1 : 1 ≤ n) (h3 : n ≤ 3) (hln : (l[i].ck.length : Int) = n) : AW Try.prog 152 (cAt Try.f26 [2, 2, 2, 2, 1, 2, 5, 7]) (mk [(0, .c (.sl true 5 (edts true l))), (1, .c (.sc (.int .i64 n))), (5, .rf 25000 []), (100, .c (.sl true 5 (edts true l))), (101, .c (.sc (.int .i64 (l.length : Int)))), (102, .c (.sc (.int .i64 (i : Int))))] [(25000, .sv (.sl false 1 (ints (cts l n l.length))))]) (Ih2Q l n i h) := by
  have e1 : wrap64 ((i : Int) + 1) = ((i + 1 : Nat) : Int) := by rw [w64 (by omega) (by omega)]; omega
  have hat : Hd (∀ t (h : t < (cts l n l.length).length), (cts l n l.length)[t] = ((cntE l (t : Int) : Nat) : Int)) := fun t h => by rw [cts_at, List.take_length]
  have hcl : Hd ((cts l n l.length).length = n.toNat) := cts_len _ _ _
  have hck3 : l[i].ck.length ≤ 3 := by omega
  have hln' : Hd _ := hln
  clear hln
  generalize hcts : cts l n l.length = cl at *
  have hcts' : Hd _ := hcts
  clear hcts
  repeat' (first | with_reducible refine OutOK.done ?_ | refine thenQ_n ?_ | refine thenQ_r ?_ | refine thenQ_e ?_ | refine AW.seq ?_ | refine AW.dreg tok mixed [15, 25, 26, 27, 28]  [(0, false), (2, false), (3, false), (1, false), (4, false), (5, false), (6, false), (7, false), (8, false), (9, false), (10, false), (11, false), (12, false), (13, false), (14, false), (15, true), (16, false), (17, false), (18, false), (19, false), (20, false), (21, false), (23, false), (24, false), (22, false), (25, true), (26, true), (27, true), (28, true), (29, false), (30, false)] (by decide +kernel) rfl (by simp [*]; rfl) ?_ | refine AW.dreg tok mixed [9, 13]  [(0, false), (3, false), (1, false), (2, false), (4, false), (5, false), (6, false), (8, false), (12, false), (7, false), (9, true), (10, false), (11, false), (13, true), (14, false), (15, false), (16, false), (17, false), (18, false), (19, false), (20, false), (21, false), (22, false), (23, false), (24, false), (25, false), (26, false), (27, false)] (by decide +kernel) rfl (by simp [*]; rfl) ?_ | refine AW.reg tok (by simp [*]; rfl) ?_ | refine AW.ifB (by simp [*]; rfl) ?_ | refine IfG.t ?_ | refine IfG.f ?_ | ((first | refine IfG.p (fun hg => ?_) (fun hg => ?_) | refine IfG.n (fun hg => ?_) (fun hg => ?_) | refine OutOK.gateP (fun hg => ?_) (fun hg => ?_) | refine OutOK.gateN (fun hg => ?_) (fun hg => ?_) | refine IfG.g (fun hg => ?_) (fun hg => ?_) | refine OutOK.gate (fun hg => ?_) (fun hg => ?_)) <;> (try (have hg' := hg; simp at hg'))) | refine OutOK.run (by simp [*]; rfl) ?_ | refine AW.ret ?_ | refine AW.skip ?_ | refine AW.exit ?_ | refine fin_r ?_ | refine fin_n ?_ | refine AW.block ?_ | refine blockQ_n ?_ | refine blockQ_r ?_ | refine blockQ_e ?_ | refine blockQ_o rfl ?_)
  refine AW.loopL (α := Nat) (fun t => t ≤ l[i].ck.length ∧ Hd (∀ j < t, inR 0 (cntE l (j : Int)) (ckAt l[i].ck (j : Int)) = true)) (fun t => [(0, .c (.sl true 5 (edts true l))), (1, .c (.sc (.int .i64 n))), (5, .rf 25000 []), (100, .c (.sl true 5 (edts true l))), (101, .c (.sc (.int .i64 (l.length : Int)))), (102, .c (.sc (.int .i64 (i : Int)))), (107, .c (.sl true 1 (ints l[i].ck))), (108, .c (.sc (.int .i64 (l[i].ck.length : Int)))), (109, .c (.sc (.int .i64 (t : Int))))]) (fun _ => [(25000, .sv (.sl false 1 (ints cl)))]) (fun t => l[i].ck.length - t) 0 ⟨Nat.zero_le _, fun j hj => by omega⟩ ⟨by simp, by simp, by simp⟩ ?_
  rintro t ⟨ht, hs⟩
  rcases Nat.lt_or_ge t l[i].ck.length with htl | htl
  · have e2 : wrap64 ((t : Int) + 1) = ((t + 1 : Nat) : Int) := by rw [w64 (by omega) (by omega)]; omega
    have htc : t < cl.length := by have := hcl.out; have := hln'.out; omega
    have h2 := hat.out t htc
    have hca : Hd (ckAt l[i].ck (t : Int) = l[i].ck[t]) := by simp [Hd, ckAt, htl]
    have hR0 : Hd (inR 0 (cntE l (t : Int)) (ckAt l[i].ck (t : Int)) = inR 0 (cntE l (t : Int)) l[i].ck[t]) := by rw [Hd, hca.out]
    generalize hcn : cntE l (t : Int) = c at *
    cases hR : inR 0 (c : Int) l[i].ck[t] with
    | false =>
      have hb : Hd (¬ (∀ t < l[i].ck.length, inR 0 (cntE l (t : Int)) (ckAt l[i].ck (t : Int)) = true)) := fun hh => by have := hh t htl; rw [hcn, hR0.out, hR] at this; cases this
      clear hcn
      repeat' (first | with_reducible refine OutOK.done ?_ | refine thenQ_n ?_ | refine thenQ_r ?_ | refine thenQ_e ?_ | refine AW.seq ?_ | refine AW.dreg tok mixed [15, 25, 26, 27, 28]  [(0, false), (2, false), (3, false), (1, false), (4, false), (5, false), (6, false), (7, false), (8, false), (9, false), (10, false), (11, false), (12, false), (13, false), (14, false), (15, true), (16, false), (17, false), (18, false), (19, false), (20, false), (21, false), (23, false), (24, false), (22, false), (25, true), (26, true), (27, true), (28, true), (29, false), (30, false)] (by decide +kernel) rfl (by simp [*]; rfl) ?_ | refine AW.dreg tok mixed [9, 13]  [(0, false), (3, false), (1, false), (2, false), (4, false), (5, false), (6, false), (8, false), (12, false), (7, false), (9, true), (10, false), (11, false), (13, true), (14, false), (15, false), (16, false), (17, false), (18, false), (19, false), (20, false), (21, false), (22, false), (23, false), (24, false), (25, false), (26, false), (27, false)] (by decide +kernel) rfl (by simp [*]; rfl) ?_ | refine AW.reg tok (by simp [*]; rfl) ?_ | refine AW.ifB (by simp [*]; rfl) ?_ | refine IfG.t ?_ | refine IfG.f ?_ | ((first | refine IfG.p (fun hg => ?_) (fun hg => ?_) | refine IfG.n (fun hg => ?_) (fun hg => ?_) | refine OutOK.gateP (fun hg => ?_) (fun hg => ?_) | refine OutOK.gateN (fun hg => ?_) (fun hg => ?_) | refine IfG.g (fun hg => ?_) (fun hg => ?_) | refine OutOK.gate (fun hg => ?_) (fun hg => ?_)) <;> (try (have hg' := hg; simp at hg'))) | (refine OutOK.callF [] (by simp [*]; rfl) (by simp [*]; rfl) (by simp [*]; rfl) hb59 (by apply c_impl_within <;> first | assumption | exact Hd.out (by assumption) | ((try clear e1); (try clear e2); omega)) ⟨by simp [*], by simp [*], by simp [*], by simp [*], by simp [*]⟩ (by simp [*]) (by simp [*]; rfl) ?_) | refine OutOK.run (by simp [*]; rfl) ?_ | refine AW.ret ?_ | refine AW.skip ?_ | refine AW.exit ?_ | refine fin_r ?_ | refine fin_n ?_ | refine AW.block ?_ | refine blockQ_n ?_ | refine blockQ_r ?_ | refine blockQ_e ?_ | refine blockQ_o rfl ?_)
      exact .inl ⟨rfl, hb.out, by simp [Try.f26]⟩
    | true =>
      have hs2 : Hd (∀ j < t + 1, inR 0 (cntE l (j : Int)) (ckAt l[i].ck (j : Int)) = true) := by
        intro j hj
        rcases Nat.lt_succ_iff_lt_or_eq.1 hj with h2 | rfl
        · exact hs.out j h2
        · rw [hcn, hR0.out, hR]
      clear hcn
      repeat' (first | with_reducible refine OutOK.done ?_ | refine thenQ_n ?_ | refine thenQ_r ?_ | refine thenQ_e ?_ | refine AW.seq ?_ | refine AW.dreg tok mixed [15, 25, 26, 27, 28]  [(0, false), (2, false), (3, false), (1, false), (4, false), (5, false), (6, false), (7, false), (8, false), (9, false), (10, false), (11, false), (12, false), (13, false), (14, false), (15, true), (16, false), (17, false), (18, false), (19, false), (20, false), (21, false), (23, false), (24, false), (22, false), (25, true), (26, true), (27, true), (28, true), (29, false), (30, false)] (by decide +kernel) rfl (by simp [*]; rfl) ?_ | refine AW.dreg tok mixed [9, 13]  [(0, false), (3, false), (1, false), (2, false), (4, false), (5, false), (6, false), (8, false), (12, false), (7, false), (9, true), (10, false), (11, false), (13, true), (14, false), (15, false), (16, false), (17, false), (18, false), (19, false), (20, false), (21, false), (22, false), (23, false), (24, false), (25, false), (26, false), (27, false)] (by decide +kernel) rfl (by simp [*]; rfl) ?_ | refine AW.reg tok (by simp [*]; rfl) ?_ | refine AW.ifB (by simp [*]; rfl) ?_ | refine IfG.t ?_ | refine IfG.f ?_ | ((first | refine IfG.p (fun hg => ?_) (fun hg => ?_) | refine IfG.n (fun hg => ?_) (fun hg => ?_) | refine OutOK.gateP (fun hg => ?_) (fun hg => ?_) | refine OutOK.gateN (fun hg => ?_) (fun hg => ?_) | refine IfG.g (fun hg => ?_) (fun hg => ?_) | refine OutOK.gate (fun hg => ?_) (fun hg => ?_)) <;> (try (have hg' := hg; simp at hg'))) | (refine OutOK.callF [] (by simp [*]; rfl) (by simp [*]; rfl) (by simp [*]; rfl) hb59 (by apply c_impl_within <;> first | assumption | exact Hd.out (by assumption) | ((try clear e1); (try clear e2); omega)) ⟨by simp [*], by simp [*], by simp [*], by simp [*], by simp [*]⟩ (by simp [*]) (by simp [*]; rfl) ?_) | refine OutOK.run (by simp [*]; rfl) ?_ | refine AW.ret ?_ | refine AW.skip ?_ | refine AW.exit ?_ | refine fin_r ?_ | refine fin_n ?_ | refine AW.block ?_ | refine blockQ_n ?_ | refine blockQ_r ?_ | refine blockQ_e ?_ | refine blockQ_o rfl ?_)
      exact ⟨t + 1, ⟨htl, hs2⟩, ⟨by simp, by simp, by simp⟩, by ((try clear e1); (try clear e2); omega)⟩
  · have htn : ¬ t < l[i].ck.length := by omega
    have hs2 : Hd (∀ j < l[i].ck.length, inR 0 (cntE l (j : Int)) (ckAt l[i].ck (j : Int)) = true) := fun j hj => hs.out j (by omega)
    repeat' (first | with_reducible refine OutOK.done ?_ | refine thenQ_n ?_ | refine thenQ_r ?_ | refine thenQ_e ?_ | refine AW.seq ?_ | refine AW.dreg tok mixed [15, 25, 26, 27, 28]  [(0, false), (2, false), (3, false), (1, false), (4, false), (5, false), (6, false), (7, false), (8, false), (9, false), (10, false), (11, false), (12, false), (13, false), (14, false), (15, true), (16, false), (17, false), (18, false), (19, false), (20, false), (21, false), (23, false), (24, false), (22, false), (25, true), (26, true), (27, true), (28, true), (29, false), (30, false)] (by decide +kernel) rfl (by simp [*]; rfl) ?_ | refine AW.dreg tok mixed [9, 13]  [(0, false), (3, false), (1, false), (2, false), (4, false), (5, false), (6, false), (8, false), (12, false), (7, false), (9, true), (10, false), (11, false), (13, true), (14, false), (15, false), (16, false), (17, false), (18, false), (19, false), (20, false), (21, false), (22, false), (23, false), (24, false), (25, false), (26, false), (27, false)] (by decide +kernel) rfl (by simp [*]; rfl) ?_ | refine AW.reg tok (by simp [*]; rfl) ?_ | refine AW.ifB (by simp [*]; rfl) ?_ | refine IfG.t ?_ | refine IfG.f ?_ | ((first | refine IfG.p (fun hg => ?_) (fun hg => ?_) | refine IfG.n (fun hg => ?_) (fun hg => ?_) | refine OutOK.gateP (fun hg => ?_) (fun hg => ?_) | refine OutOK.gateN (fun hg => ?_) (fun hg => ?_) | refine IfG.g (fun hg => ?_) (fun hg => ?_) | refine OutOK.gate (fun hg => ?_) (fun hg => ?_)) <;> (try (have hg' := hg; simp at hg'))) | refine OutOK.run (by simp [*]; rfl) ?_ | refine AW.ret ?_ | refine AW.skip ?_ | refine AW.exit ?_ | refine fin_r ?_ | refine fin_n ?_ | refine AW.block ?_ | refine blockQ_n ?_ | refine blockQ_r ?_ | refine blockQ_e ?_ | refine blockQ_o rfl ?_)
    exact .inr ⟨rfl, hs2.out, by simp, by simp [hcts'.out], by simp⟩
def Ih3Q (l : List Edt) (n : Int) (i k : Nat) (h : i < l.length) (hk : k < l.length) (e : Exit) (st : St) : Prop :=
  (e = .ret ∧ ¬ (precE l[k] l[i] = true → precE l[i] l[k] = false ∧ noGr l[k].ck l[i].ck = true) ∧ FinP T Try.f26.results.toList [.v (.sl true 5 (edts true l)), int n] [.x, .x] [boo false] st) ∨
  (e = .normal ∧ (precE l[k] l[i] = true → precE l[i] l[k] = false ∧ noGr l[k].ck l[i].ck = true) ∧ LessL st [(0, .c (.sl true 5 (edts true l))), (1, .c (.sc (.int .i64 n))), (13, .pt 13000 []  0), (123, .c (.sl true 5 (edts true l))), (124, .c (.sc (.int .i64 (l.length : Int)))), (125, .c (.sc (.int .i64 (i : Int)))), (129, .c (.sl true 5 (edts true l))), (130, .c (.sc (.int .i64 (l.length : Int)))), (131, .c (.sc (.int .i64 ((k + 1 : Nat) : Int))))] [(13000, .bx (edtC true l[i]))])
theorem w_ih3a (l : List Edt) (n : Int) (i k : Nat) (h : i < l.length) (hk : k < l.length) (hl : l.length ≤ 24) (hli : l[i].ck.length ≤ 3) (hlk : l[k].ck.length = l[i].ck.length) (p1 : precE l[k] l[i] = false) : AW Try.prog 152 (cAt Try.f26 [2, 2, 2, 2, 2, 1, 2, 5, 7, 2, 2, 1, 5, 2, 2, 5, 7]) (mk [(0, .c (.sl true 5 (edts true l))), (1, .c (.sc (.int .i64 n))), (13, .pt 13000 []  0), (123, .c (.sl true 5 (edts true l))), (124, .c (.sc (.int .i64 (l.length : Int)))), (125, .c (.sc (.int .i64 (i : Int)))), (129, .c (.sl true 5 (edts true l))), (130, .c (.sc (.int .i64 (l.length : Int)))), (131, .c (.sc (.int .i64 (k : Int))))] [(13000, .bx (edtC true l[i]))]) (Ih3Q l n i k h hk) := by
  have e1 : wrap64 ((k : Int) + 1) = ((k + 1 : Nat) : Int) := by rw [w64 (by omega) (by omega)]; omega
  have c1 := c_impl_Precedes l[k] l[i] (by omega)
  rw [p1] at c1
  have hb : Hd ((precE l[k] l[i] = true → precE l[i] l[k] = false ∧ noGr l[k].ck l[i].ck = true)) := fun hh => by rw [p1] at hh; cases hh
  clear p1 hlk hli
  repeat' (first | with_reducible refine OutOK.done ?_ | refine thenQ_n ?_ | refine thenQ_r ?_ | refine thenQ_e ?_ | refine AW.seq ?_ | refine AW.dreg tok mixed [15, 25, 26, 27, 28]  [(0, false), (2, false), (3, false), (1, false), (4, false), (5, false), (6, false), (7, false), (8, false), (9, false), (10, false), (11, false), (12, false), (13, false), (14, false), (15, true), (16, false), (17, false), (18, false), (19, false), (20, false), (21, false), (23, false), (24, false), (22, false), (25, true), (26, true), (27, true), (28, true), (29, false), (30, false)] (by decide +kernel) rfl (by simp [*]; rfl) ?_ | refine AW.dreg tok mixed [9, 13]  [(0, false), (3, false), (1, false), (2, false), (4, false), (5, false), (6, false), (8, false), (12, false), (7, false), (9, true), (10, false), (11, false), (13, true), (14, false), (15, false), (16, false), (17, false), (18, false), (19, false), (20, false), (21, false), (22, false), (23, false), (24, false), (25, false), (26, false), (27, false)] (by decide +kernel) rfl (by simp [*]; rfl) ?_ | refine AW.reg tok (by simp [*]; rfl) ?_ | refine AW.ifB (by simp [*]; rfl) ?_ | refine IfG.t ?_ | refine IfG.f ?_ | ((first | refine IfG.p (fun hg => ?_) (fun hg => ?_) | refine IfG.n (fun hg => ?_) (fun hg => ?_) | refine OutOK.gateP (fun hg => ?_) (fun hg => ?_) | refine OutOK.gateN (fun hg => ?_) (fun hg => ?_) | refine IfG.g (fun hg => ?_) (fun hg => ?_) | refine OutOK.gate (fun hg => ?_) (fun hg => ?_)) <;> (try (have hg' := hg; simp at hg'))) | (refine OutOK.callF [] (by simp [*]; rfl) (by simp [*]; rfl) (by simp [*]; rfl) hb40 (by apply c1 <;> first | assumption | exact Hd.out (by assumption) | ((try clear e1); omega)) ⟨by simp [*], by simp [*], by simp [*], by simp [*], by simp [*]⟩ (by simp [*]) (by simp [*]; rfl) ?_) | refine OutOK.run (by simp [*]; rfl) ?_ | refine AW.ret ?_ | refine AW.skip ?_ | refine AW.exit ?_ | refine fin_r ?_ | refine fin_n ?_ | refine AW.block ?_ | refine blockQ_n ?_ | refine blockQ_r ?_ | refine blockQ_e ?_ | refine blockQ_o rfl ?_)
  exact .inr ⟨rfl, hb.out, by simp, by simp, by simp⟩
theorem w_ih3b (l : List Edt) (n : Int) (i k : Nat) (h : i < l.length) (hk : k < l.length) (hl : l.length ≤ 24) (hli : l[i].ck.length ≤ 3) (hlk : l[k].ck.length = l[i].ck.length) (p1 : precE l[k] l[i] = true) (p2 : precE l[i] l[k] = true) : AW Try.prog 152 (cAt Try.f26 [2, 2, 2, 2, 2, 1, 2, 5, 7, 2, 2, 1, 5, 2, 2, 5, 7]) (mk [(0, .c (.sl true 5 (edts true l))), (1, .c (.sc (.int .i64 n))), (13, .pt 13000 []  0), (123, .c (.sl true 5 (edts true l))), (124, .c (.sc (.int .i64 (l.length : Int)))), (125, .c (.sc (.int .i64 (i : Int)))), (129, .c (.sl true 5 (edts true l))), (130, .c (.sc (.int .i64 (l.length : Int)))), (131, .c (.sc (.int .i64 (k : Int))))] [(13000, .bx (edtC true l[i]))]) (Ih3Q l n i k h hk) := by
  have e1 : wrap64 ((k : Int) + 1) = ((k + 1 : Nat) : Int) := by rw [w64 (by omega) (by omega)]; omega
  have c1 := c_impl_Precedes l[k] l[i] (by omega)
  rw [p1] at c1
  have c2 := c_impl_Precedes l[i] l[k] (by omega)
  rw [p2] at c2
  have hb : Hd (¬ (precE l[k] l[i] = true → precE l[i] l[k] = false ∧ noGr l[k].ck l[i].ck = true)) := fun hh => by have := (hh p1).1; rw [p2] at this; cases this
  clear p1 p2 hlk hli
  repeat' (first | with_reducible refine OutOK.done ?_ | refine thenQ_n ?_ | refine thenQ_r ?_ | refine thenQ_e ?_ | refine AW.seq ?_ | refine AW.dreg tok mixed [15, 25, 26, 27, 28]  [(0, false), (2, false), (3, false), (1, false), (4, false), (5, false), (6, false), (7, false), (8, false), (9, false), (10, false), (11, false), (12, false), (13, false), (14, false), (15, true), (16, false), (17, false), (18, false), (19, false), (20, false), (21, false), (23, false), (24, false), (22, false), (25, true), (26, true), (27, true), (28, true), (29, false), (30, false)] (by decide +kernel) rfl (by simp [*]; rfl) ?_ | refine AW.dreg tok mixed [9, 13]  [(0, false), (3, false), (1, false), (2, false), (4, false), (5, false), (6, false), (8, false), (12, false), (7, false), (9, true), (10, false), (11, false), (13, true), (14, false), (15, false), (16, false), (17, false), (18, false), (19, false), (20, false), (21, false), (22, false), (23, false), (24, false), (25, false), (26, false), (27, false)] (by decide +kernel) rfl (by simp [*]; rfl) ?_ | refine AW.reg tok (by simp [*]; rfl) ?_ | refine AW.ifB (by simp [*]; rfl) ?_ | refine IfG.t ?_ | refine IfG.f ?_ | ((first | refine IfG.p (fun hg => ?_) (fun hg => ?_) | refine IfG.n (fun hg => ?_) (fun hg => ?_) | refine OutOK.gateP (fun hg => ?_) (fun hg => ?_) | refine OutOK.gateN (fun hg => ?_) (fun hg => ?_) | refine IfG.g (fun hg => ?_) (fun hg => ?_) | refine OutOK.gate (fun hg => ?_) (fun hg => ?_)) <;> (try (have hg' := hg; simp at hg'))) | (refine OutOK.callF [] (by simp [*]; rfl) (by simp [*]; rfl) (by simp [*]; rfl) hb40 (by apply c1 <;> first | assumption | exact Hd.out (by assumption) | ((try clear e1); omega)) ⟨by simp [*], by simp [*], by simp [*], by simp [*], by simp [*]⟩ (by simp [*]) (by simp [*]; rfl) ?_) | (refine OutOK.callF [] (by simp [*]; rfl) (by simp [*]; rfl) (by simp [*]; rfl) hb40 (by apply c2 <;> first | assumption | exact Hd.out (by assumption) | ((try clear e1); omega)) ⟨by simp [*], by simp [*], by simp [*], by simp [*], by simp [*]⟩ (by simp [*]) (by simp [*]; rfl) ?_) | refine OutOK.run (by simp [*]; rfl) ?_ | refine AW.ret ?_ | refine AW.skip ?_ | refine AW.exit ?_ | refine fin_r ?_ | refine fin_n ?_ | refine AW.block ?_ | refine blockQ_n ?_ | refine blockQ_r ?_ | refine blockQ_e ?_ | refine blockQ_o rfl ?_)
  exact .inl ⟨rfl, hb.out, by simp [Try.f26]⟩
theorem w_ih3c (l : List Edt) (n : Int) (i k : Nat) (h : i < l.length) (hk : k < l.length) (hl : l.length ≤ 24) (hli : l[i].ck.length ≤ 3) (hlk : l[k].ck.length = l[i].ck.length) (p1 : precE l[k] l[i] = true) (p2 : precE l[i] l[k] = false) (p3 : noGr l[k].ck l[i].ck = false) : AW Try.prog 152 (cAt Try.f26 [2, 2, 2, 2, 2, 1, 2, 5, 7, 2, 2, 1, 5, 2, 2, 5, 7]) (mk [(0, .c (.sl true 5 (edts true l))), (1, .c (.sc (.int .i64 n))), (13, .pt 13000 []  0), (123, .c (.sl true 5 (edts true l))), (124, .c (.sc (.int .i64 (l.length : Int)))), (125, .c (.sc (.int .i64 (i : Int)))), (129, .c (.sl true 5 (edts true l))), (130, .c (.sc (.int .i64 (l.length : Int)))), (131, .c (.sc (.int .i64 (k : Int))))] [(13000, .bx (edtC true l[i]))]) (Ih3Q l n i k h hk) := by
  have e1 : wrap64 ((k : Int) + 1) = ((k + 1 : Nat) : Int) := by rw [w64 (by omega) (by omega)]; omega
  have c1 := c_impl_Precedes l[k] l[i] (by omega)
  rw [p1] at c1
  have c2 := c_impl_Precedes l[i] l[k] (by omega)
  rw [p2] at c2
  have c3 := c_impl_noGreater l[k].ck l[i].ck (by omega) (by omega)
  rw [p3] at c3
  have hb : Hd (¬ (precE l[k] l[i] = true → precE l[i] l[k] = false ∧ noGr l[k].ck l[i].ck = true)) := fun hh => by have := (hh p1).2; rw [p3] at this; cases this
  clear p1 p2 p3 hlk hli
  repeat' (first | with_reducible refine OutOK.done ?_ | refine thenQ_n ?_ | refine thenQ_r ?_ | refine thenQ_e ?_ | refine AW.seq ?_ | refine AW.dreg tok mixed [15, 25, 26, 27, 28]  [(0, false), (2, false), (3, false), (1, false), (4, false), (5, false), (6, false), (7, false), (8, false), (9, false), (10, false), (11, false), (12, false), (13, false), (14, false), (15, true), (16, false), (17, false), (18, false), (19, false), (20, false), (21, false), (23, false), (24, false), (22, false), (25, true), (26, true), (27, true), (28, true), (29, false), (30, false)] (by decide +kernel) rfl (by simp [*]; rfl) ?_ | refine AW.dreg tok mixed [9, 13]  [(0, false), (3, false), (1, false), (2, false), (4, false), (5, false), (6, false), (8, false), (12, false), (7, false), (9, true), (10, false), (11, false), (13, true), (14, false), (15, false), (16, false), (17, false), (18, false), (19, false), (20, false), (21, false), (22, false), (23, false), (24, false), (25, false), (26, false), (27, false)] (by decide +kernel) rfl (by simp [*]; rfl) ?_ | refine AW.reg tok (by simp [*]; rfl) ?_ | refine AW.ifB (by simp [*]; rfl) ?_ | refine IfG.t ?_ | refine IfG.f ?_ | ((first | refine IfG.p (fun hg => ?_) (fun hg => ?_) | refine IfG.n (fun hg => ?_) (fun hg => ?_) | refine OutOK.gateP (fun hg => ?_) (fun hg => ?_) | refine OutOK.gateN (fun hg => ?_) (fun hg => ?_) | refine IfG.g (fun hg => ?_) (fun hg => ?_) | refine OutOK.gate (fun hg => ?_) (fun hg => ?_)) <;> (try (have hg' := hg; simp at hg'))) | (refine OutOK.callF [] (by simp [*]; rfl) (by simp [*]; rfl) (by simp [*]; rfl) hb40 (by apply c1 <;> first | assumption | exact Hd.out (by assumption) | ((try clear e1); omega)) ⟨by simp [*], by simp [*], by simp [*], by simp [*], by simp [*]⟩ (by simp [*]) (by simp [*]; rfl) ?_) | (refine OutOK.callF [] (by simp [*]; rfl) (by simp [*]; rfl) (by simp [*]; rfl) hb40 (by apply c2 <;> first | assumption | exact Hd.out (by assumption) | ((try clear e1); omega)) ⟨by simp [*], by simp [*], by simp [*], by simp [*], by simp [*]⟩ (by simp [*]) (by simp [*]; rfl) ?_) | (refine OutOK.callF [] (by simp [*]; rfl) (by simp [*]; rfl) (by simp [*]; rfl) hb79 (by apply c3 <;> first | assumption | exact Hd.out (by assumption) | ((try clear e1); omega)) ⟨by simp [*], by simp [*], by simp [*], by simp [*], by simp [*]⟩ (by simp [*]) (by simp [*]; rfl) ?_) | refine OutOK.run (by simp [*]; rfl) ?_ | refine AW.ret ?_ | refine AW.skip ?_ | refine AW.exit ?_ | refine fin_r ?_ | refine fin_n ?_ | refine AW.block ?_ | refine blockQ_n ?_ | refine blockQ_r ?_ | refine blockQ_e ?_ | refine blockQ_o rfl ?_)
  exact .inl ⟨rfl, hb.out, by simp [Try.f26]⟩
theorem w_ih3d (l : List Edt) (n : Int) (i k : Nat) (h : i < l.length) (hk : k < l.length) (hl : l.length ≤ 24) (hli : l[i].ck.length ≤ 3) (hlk : l[k].ck.length = l[i].ck.length) (p1 : precE l[k] l[i] = true) (p2 : precE l[i] l[k] = false) (p3 : noGr l[k].ck l[i].ck = true) : AW Try.prog 152 (cAt Try.f26 [2, 2, 2, 2, 2, 1, 2, 5, 7, 2, 2, 1, 5, 2, 2, 5, 7]) (mk [(0, .c (.sl true 5 (edts true l))), (1, .c (.sc (.int .i64 n))), (13, .pt 13000 []  0), (123, .c (.sl true 5 (edts true l))), (124, .c (.sc (.int .i64 (l.length : Int)))), (125, .c (.sc (.int .i64 (i : Int)))), (129, .c (.sl true 5 (edts true l))), (130, .c (.sc (.int .i64 (l.length : Int)))), (131, .c (.sc (.int .i64 (k : Int))))] [(13000, .bx (edtC true l[i]))]) (Ih3Q l n i k h hk) := by
  have e1 : wrap64 ((k : Int) + 1) = ((k + 1 : Nat) : Int) := by rw [w64 (by omega) (by omega)]; omega
  have c1 := c_impl_Precedes l[k] l[i] (by omega)
  rw [p1] at c1
  have c2 := c_impl_Precedes l[i] l[k] (by omega)
  rw [p2] at c2
  have c3 := c_impl_noGreater l[k].ck l[i].ck (by omega) (by omega)
  rw [p3] at c3
  have hb : Hd ((precE l[k] l[i] = true → precE l[i] l[k] = false ∧ noGr l[k].ck l[i].ck = true)) := fun _ => ⟨p2, p3⟩
  clear p1 p2 p3 hlk hli
  repeat' (first | with_reducible refine OutOK.done ?_ | refine thenQ_n ?_ | refine thenQ_r ?_ | refine thenQ_e ?_ | refine AW.seq ?_ | refine AW.dreg tok mixed [15, 25, 26, 27, 28]  [(0, false), (2, false), (3, false), (1, false), (4, false), (5, false), (6, false), (7, false), (8, false), (9, false), (10, false), (11, false), (12, false), (13, false), (14, false), (15, true), (16, false), (17, false), (18, false), (19, false), (20, false), (21, false), (23, false), (24, false), (22, false), (25, true), (26, true), (27, true), (28, true), (29, false), (30, false)] (by decide +kernel) rfl (by simp [*]; rfl) ?_ | refine AW.dreg tok mixed [9, 13]  [(0, false), (3, false), (1, false), (2, false), (4, false), (5, false), (6, false), (8, false), (12, false), (7, false), (9, true), (10, false), (11, false), (13, true), (14, false), (15, false), (16, false), (17, false), (18, false), (19, false), (20, false), (21, false), (22, false), (23, false), (24, false), (25, false), (26, false), (27, false)] (by decide +kernel) rfl (by simp [*]; rfl) ?_ | refine AW.reg tok (by simp [*]; rfl) ?_ | refine AW.ifB (by simp [*]; rfl) ?_ | refine IfG.t ?_ | refine IfG.f ?_ | ((first | refine IfG.p (fun hg => ?_) (fun hg => ?_) | refine IfG.n (fun hg => ?_) (fun hg => ?_) | refine OutOK.gateP (fun hg => ?_) (fun hg => ?_) | refine OutOK.gateN (fun hg => ?_) (fun hg => ?_) | refine IfG.g (fun hg => ?_) (fun hg => ?_) | refine OutOK.gate (fun hg => ?_) (fun hg => ?_)) <;> (try (have hg' := hg; simp at hg'))) | (refine OutOK.callF [] (by simp [*]; rfl) (by simp [*]; rfl) (by simp [*]; rfl) hb40 (by apply c1 <;> first | assumption | exact Hd.out (by assumption) | ((try clear e1); omega)) ⟨by simp [*], by simp [*], by simp [*], by simp [*], by simp [*]⟩ (by simp [*]) (by simp [*]; rfl) ?_) | (refine OutOK.callF [] (by simp [*]; rfl) (by simp [*]; rfl) (by simp [*]; rfl) hb40 (by apply c2 <;> first | assumption | exact Hd.out (by assumption) | ((try clear e1); omega)) ⟨by simp [*], by simp [*], by simp [*], by simp [*], by simp [*]⟩ (by simp [*]) (by simp [*]; rfl) ?_) | (refine OutOK.callF [] (by simp [*]; rfl) (by simp [*]; rfl) (by simp [*]; rfl) hb79 (by apply c3 <;> first | assumption | exact Hd.out (by assumption) | ((try clear e1); omega)) ⟨by simp [*], by simp [*], by simp [*], by simp [*], by simp [*]⟩ (by simp [*]) (by simp [*]; rfl) ?_) | refine OutOK.run (by simp [*]; rfl) ?_ | refine AW.ret ?_ | refine AW.skip ?_ | refine AW.exit ?_ | refine fin_r ?_ | refine fin_n ?_ | refine AW.block ?_ | refine blockQ_n ?_ | refine blockQ_r ?_ | refine blockQ_e ?_ | refine blockQ_o rfl ?_)
  exact .inr ⟨rfl, hb.out, by simp, by simp, by simp⟩
theorem w_ih3 (l : List Edt) (n : Int) (i k : Nat) (h : i < l.length) (hk : k < l.length) (hl : l.length ≤ 24) (hli : l[i].ck.length ≤ 3) (hlk : l[k].ck.length = l[i].ck.length) : AW Try.prog 152 (cAt Try.f26 [2, 2, 2, 2, 2, 1, 2, 5, 7, 2, 2, 1, 5, 2, 2, 5, 7]) (mk [(0, .c (.sl true 5 (edts true l))), (1, .c (.sc (.int .i64 n))), (13, .pt 13000 []  0), (123, .c (.sl true 5 (edts true l))), (124, .c (.sc (.int .i64 (l.length : Int)))), (125, .c (.sc (.int .i64 (i : Int)))), (129, .c (.sl true 5 (edts true l))), (130, .c (.sc (.int .i64 (l.length : Int)))), (131, .c (.sc (.int .i64 (k : Int))))] [(13000, .bx (edtC true l[i]))]) (Ih3Q l n i k h hk) := by
  cases p1 : precE l[k] l[i] with
  | false => exact w_ih3a l n i k h hk hl hli hlk p1
  | true =>
    cases p2 : precE l[i] l[k] with
    | true => exact w_ih3b l n i k h hk hl hli hlk p1 p2
    | false =>
      cases p3 : noGr l[k].ck l[i].ck with
      | false => exact w_ih3c l n i k h hk hl hli hlk p1 p2 p3
      | true => exact w_ih3d l n i k h hk hl hli hlk p1 p2 p3
theorem c_impl_IsValidHistory (l : List Edt) (n : Int) (h : l.length ≤ 4611686018427387904) (hW : ∀ e ∈ l, EdtW e) : ACall Try.prog 26 [.v (.sl true 5 (edts true l)), int n] [.x, .x] [boo (hist l n)] := by
  have hW' : Hd _ := hW
  clear hW
  cases hR : inR 1 3 n with
  | false =>
    have hb : hist l n = false := hist_no (fun hh => by have := hh.nn; rw [hR] at this; cases this)
    rw [hb]
    clear hb
    refine ACall.of (N := 152) tok Try.func26 rfl rfl rfl (by simp) ?_
    repeat' (first | with_reducible refine OutOK.done ?_ | refine thenQ_n ?_ | refine thenQ_r ?_ | refine thenQ_e ?_ | refine AW.seq ?_ | refine AW.dreg tok mixed [15, 25, 26, 27, 28]  [(0, false), (2, false), (3, false), (1, false), (4, false), (5, false), (6, false), (7, false), (8, false), (9, false), (10, false), (11, false), (12, false), (13, false), (14, false), (15, true), (16, false), (17, false), (18, false), (19, false), (20, false), (21, false), (23, false), (24, false), (22, false), (25, true), (26, true), (27, true), (28, true), (29, false), (30, false)] (by decide +kernel) rfl (by simp [*]; rfl) ?_ | refine AW.dreg tok mixed [9, 13]  [(0, false), (3, false), (1, false), (2, false), (4, false), (5, false), (6, false), (8, false), (12, false), (7, false), (9, true), (10, false), (11, false), (13, true), (14, false), (15, false), (16, false), (17, false), (18, false), (19, false), (20, false), (21, false), (22, false), (23, false), (24, false), (25, false), (26, false), (27, false)] (by decide +kernel) rfl (by simp [*]; rfl) ?_ | refine AW.reg tok (by simp [*]; rfl) ?_ | refine AW.ifB (by simp [*]; rfl) ?_ | refine IfG.t ?_ | refine IfG.f ?_ | ((first | refine IfG.p (fun hg => ?_) (fun hg => ?_) | refine IfG.n (fun hg => ?_) (fun hg => ?_) | refine OutOK.gateP (fun hg => ?_) (fun hg => ?_) | refine OutOK.gateN (fun hg => ?_) (fun hg => ?_) | refine IfG.g (fun hg => ?_) (fun hg => ?_) | refine OutOK.gate (fun hg => ?_) (fun hg => ?_)) <;> (try (have hg' := hg; simp at hg'))) | (refine OutOK.callF [] (by simp [*]; rfl) (by simp [*]; rfl) (by simp [*]; rfl) hb59 (by apply c_impl_within <;> first | assumption | exact Hd.out (by assumption) | ((try clear e1); omega)) ⟨by simp [*], by simp [*], by simp [*], by simp [*], by simp [*]⟩ (by simp [*]) (by simp [*]; rfl) ?_) | refine OutOK.run (by simp [*]; rfl) ?_ | refine AW.ret ?_ | refine AW.skip ?_ | refine AW.exit ?_ | refine fin_r ?_ | refine fin_n ?_ | refine AW.block ?_ | refine blockQ_n ?_ | refine blockQ_r ?_ | refine blockQ_e ?_ | refine blockQ_o rfl ?_)
    simp [Try.f26]
  | true =>
  rcases Nat.lt_or_ge 24 l.length with h24 | h24
  · have hb : hist l n = false := hist_no (fun hh => by have := hh.len; omega)
    rw [hb]
    have h24' : (24 : Int) < l.length := by omega
    clear hb
    refine ACall.of (N := 152) tok Try.func26 rfl rfl rfl (by simp) ?_
    repeat' (first | with_reducible refine OutOK.done ?_ | refine thenQ_n ?_ | refine thenQ_r ?_ | refine thenQ_e ?_ | refine AW.seq ?_ | refine AW.dreg tok mixed [15, 25, 26, 27, 28]  [(0, false), (2, false), (3, false), (1, false), (4, false), (5, false), (6, false), (7, false), (8, false), (9, false), (10, false), (11, false), (12, false), (13, false), (14, false), (15, true), (16, false), (17, false), (18, false), (19, false), (20, false), (21, false), (23, false), (24, false), (22, false), (25, true), (26, true), (27, true), (28, true), (29, false), (30, false)] (by decide +kernel) rfl (by simp [*]; rfl) ?_ | refine AW.dreg tok mixed [9, 13]  [(0, false), (3, false), (1, false), (2, false), (4, false), (5, false), (6, false), (8, false), (12, false), (7, false), (9, true), (10, false), (11, false), (13, true), (14, false), (15, false), (16, false), (17, false), (18, false), (19, false), (20, false), (21, false), (22, false), (23, false), (24, false), (25, false), (26, false), (27, false)] (by decide +kernel) rfl (by simp [*]; rfl) ?_ | refine AW.reg tok (by simp [*]; rfl) ?_ | refine AW.ifB (by simp [*]; rfl) ?_ | refine IfG.t ?_ | refine IfG.f ?_ | ((first | refine IfG.p (fun hg => ?_) (fun hg => ?_) | refine IfG.n (fun hg => ?_) (fun hg => ?_) | refine OutOK.gateP (fun hg => ?_) (fun hg => ?_) | refine OutOK.gateN (fun hg => ?_) (fun hg => ?_) | refine IfG.g (fun hg => ?_) (fun hg => ?_) | refine OutOK.gate (fun hg => ?_) (fun hg => ?_)) <;> (try (have hg' := hg; simp at hg'))) | (refine OutOK.callF [] (by simp [*]; rfl) (by simp [*]; rfl) (by simp [*]; rfl) hb59 (by apply c_impl_within <;> first | assumption | exact Hd.out (by assumption) | ((try clear e1); omega)) ⟨by simp [*], by simp [*], by simp [*], by simp [*], by simp [*]⟩ (by simp [*]) (by simp [*]; rfl) ?_) | refine OutOK.run (by simp [*]; rfl) ?_ | refine AW.ret ?_ | refine AW.skip ?_ | refine AW.exit ?_ | refine fin_r ?_ | refine fin_n ?_ | refine AW.block ?_ | refine blockQ_n ?_ | refine blockQ_r ?_ | refine blockQ_e ?_ | refine blockQ_o rfl ?_)
    simp [Try.f26]
  have h24' : ¬ (24 : Int) < l.length := by omega
  obtain ⟨n1, n3⟩ := inR_iff.1 hR
  have no : Hd (¬ Hist l n → hist l n = false) := fun hh => hist_no hh
  have yes : Hd (Hist l n → hist l n = true) := fun hh => hist_iff'.2 hh
  generalize hist l n = B at *
  have b1 : n * 8 ≤ 140737488355328 := by omega
  have b2 : n ≤ 4611686018427387904 := by omega
  have hn0 : 0 ≤ n := by omega
  have hz : Hd (cts l n 0 = List.replicate n.toNat 0) := cts_zero l n
  refine ACall.of (N := 152) tok Try.func26 rfl rfl rfl (by simp) ?_
  repeat' (first | with_reducible refine OutOK.done ?_ | refine thenQ_n ?_ | refine thenQ_r ?_ | refine thenQ_e ?_ | refine AW.seq ?_ | refine AW.dreg tok mixed [15, 25, 26, 27, 28]  [(0, false), (2, false), (3, false), (1, false), (4, false), (5, false), (6, false), (7, false), (8, false), (9, false), (10, false), (11, false), (12, false), (13, false), (14, false), (15, true), (16, false), (17, false), (18, false), (19, false), (20, false), (21, false), (23, false), (24, false), (22, false), (25, true), (26, true), (27, true), (28, true), (29, false), (30, false)] (by decide +kernel) rfl (by simp [*]; rfl) ?_ | refine AW.dreg tok mixed [9, 13]  [(0, false), (3, false), (1, false), (2, false), (4, false), (5, false), (6, false), (8, false), (12, false), (7, false), (9, true), (10, false), (11, false), (13, true), (14, false), (15, false), (16, false), (17, false), (18, false), (19, false), (20, false), (21, false), (22, false), (23, false), (24, false), (25, false), (26, false), (27, false)] (by decide +kernel) rfl (by simp [*]; rfl) ?_ | refine AW.reg tok (by simp [*]; rfl) ?_ | refine AW.ifB (by simp [*]; rfl) ?_ | refine IfG.t ?_ | refine IfG.f ?_ | ((first | refine IfG.p (fun hg => ?_) (fun hg => ?_) | refine IfG.n (fun hg => ?_) (fun hg => ?_) | refine OutOK.gateP (fun hg => ?_) (fun hg => ?_) | refine OutOK.gateN (fun hg => ?_) (fun hg => ?_) | refine IfG.g (fun hg => ?_) (fun hg => ?_) | refine OutOK.gate (fun hg => ?_) (fun hg => ?_)) <;> (try (have hg' := hg; simp at hg'))) | (refine OutOK.callF [] (by simp [*]; rfl) (by simp [*]; rfl) (by simp [*]; rfl) hb59 (by apply c_impl_within <;> first | assumption | exact Hd.out (by assumption) | ((try clear e1); omega)) ⟨by simp [*], by simp [*], by simp [*], by simp [*], by simp [*]⟩ (by simp [*]) (by simp [*]; rfl) ?_) | refine OutOK.run (by simp [*]; rfl) ?_ | refine AW.ret ?_ | refine AW.skip ?_ | refine AW.exit ?_ | refine fin_r ?_ | refine fin_n ?_ | refine AW.block ?_ | refine blockQ_n ?_ | refine blockQ_r ?_ | refine blockQ_e ?_ | refine blockQ_o rfl ?_)
  refine AW.loopL (α := Nat) (fun i => i ≤ l.length ∧ Hd (∀ j (hj : j < l.length), j < i → St1 l n j hj ∧ Fl l[j] n)) (fun i => [(0, .c (.sl true 5 (edts true l))), (1, .c (.sc (.int .i64 n))), (5, .rf 25000 []), (26, .c (.sl true 5 (edts true l))), (27, .c (.sc (.int .i64 (l.length : Int)))), (28, .c (.sc (.int .i64 (i : Int))))]) (fun i => [(25000, .sv (.sl false 1 (ints (cts l n i))))]) (fun i => l.length - i) 0 ⟨Nat.zero_le _, fun j _ hj => by omega⟩ ⟨by simp, by simp [hz.out], by simp⟩ ?_
  rintro i ⟨hi, hs⟩
  rcases Nat.lt_or_ge i l.length with hil | hil
  · refine (w_ih1 l n i hil h24 n1 n3 (hW'.out _ (List.getElem_mem hil))).mono fun e st hq => ?_
    rcases hq with ⟨rfl, hk, hq⟩ | ⟨rfl, hk, hq⟩
    · have hb := no.out (fun hh => hk ⟨hh.st i hil, hh.fl i hil⟩)
      subst hb
      exact ⟨.inr rfl, hq⟩
    · refine ⟨i + 1, ⟨hil, fun j hj hji => ?_⟩, hq, by omega⟩
      rcases Nat.lt_succ_iff_lt_or_eq.1 hji with h2 | rfl
      · exact hs.out j hj h2
      · exact hk
  have hii : i = l.length := by omega
  subst hii
  clear hz
  repeat' (first | with_reducible refine AW.stopB 2 ?_ | with_reducible refine OutOK.done ?_ | refine thenQ_n ?_ | refine thenQ_r ?_ | refine thenQ_e ?_ | refine AW.seq ?_ | refine AW.dreg tok mixed [15, 25, 26, 27, 28]  [(0, false), (2, false), (3, false), (1, false), (4, false), (5, false), (6, false), (7, false), (8, false), (9, false), (10, false), (11, false), (12, false), (13, false), (14, false), (15, true), (16, false), (17, false), (18, false), (19, false), (20, false), (21, false), (23, false), (24, false), (22, false), (25, true), (26, true), (27, true), (28, true), (29, false), (30, false)] (by decide +kernel) rfl (by simp [*]; rfl) ?_ | refine AW.dreg tok mixed [9, 13]  [(0, false), (3, false), (1, false), (2, false), (4, false), (5, false), (6, false), (8, false), (12, false), (7, false), (9, true), (10, false), (11, false), (13, true), (14, false), (15, false), (16, false), (17, false), (18, false), (19, false), (20, false), (21, false), (22, false), (23, false), (24, false), (25, false), (26, false), (27, false)] (by decide +kernel) rfl (by simp [*]; rfl) ?_ | refine AW.reg tok (by simp [*]; rfl) ?_ | refine AW.ifB (by simp [*]; rfl) ?_ | refine IfG.t ?_ | refine IfG.f ?_ | ((first | refine IfG.p (fun hg => ?_) (fun hg => ?_) | refine IfG.n (fun hg => ?_) (fun hg => ?_) | refine OutOK.gateP (fun hg => ?_) (fun hg => ?_) | refine OutOK.gateN (fun hg => ?_) (fun hg => ?_) | refine IfG.g (fun hg => ?_) (fun hg => ?_) | refine OutOK.gate (fun hg => ?_) (fun hg => ?_)) <;> (try (have hg' := hg; simp at hg'))) | refine OutOK.run (by simp [*]; rfl) ?_ | refine AW.ret ?_ | refine AW.skip ?_ | refine AW.exit ?_ | refine fin_r ?_ | refine fin_n ?_ | refine AW.block ?_ | refine blockQ_n ?_ | refine blockQ_r ?_ | refine blockQ_e ?_ | refine blockQ_o rfl ?_)
  refine ⟨AW.forget [(0, .c (.sl true 5 (edts true l))), (1, .c (.sc (.int .i64 n))), (5, .rf 25000 []), (100, .c (.sl true 5 (edts true l))), (101, .c (.sc (.int .i64 (l.length : Int)))), (102, .c (.sc (.int .i64 0)))] [(25000, .sv (.sl false 1 (ints (cts l n l.length))))] ⟨by simp, by simp, by simp⟩ ?_⟩
  have hlen : ∀ a (ha : a < l.length), (l[a].ck.length : Int) = n := fun a ha => (hs.out a ha ha).2.1
  repeat' (first | with_reducible refine OutOK.done ?_ | refine thenQ_n ?_ | refine thenQ_r ?_ | refine thenQ_e ?_ | refine AW.seq ?_ | refine AW.dreg tok mixed [15, 25, 26, 27, 28]  [(0, false), (2, false), (3, false), (1, false), (4, false), (5, false), (6, false), (7, false), (8, false), (9, false), (10, false), (11, false), (12, false), (13, false), (14, false), (15, true), (16, false), (17, false), (18, false), (19, false), (20, false), (21, false), (23, false), (24, false), (22, false), (25, true), (26, true), (27, true), (28, true), (29, false), (30, false)] (by decide +kernel) rfl (by simp [*]; rfl) ?_ | refine AW.dreg tok mixed [9, 13]  [(0, false), (3, false), (1, false), (2, false), (4, false), (5, false), (6, false), (8, false), (12, false), (7, false), (9, true), (10, false), (11, false), (13, true), (14, false), (15, false), (16, false), (17, false), (18, false), (19, false), (20, false), (21, false), (22, false), (23, false), (24, false), (25, false), (26, false), (27, false)] (by decide +kernel) rfl (by simp [*]; rfl) ?_ | refine AW.reg tok (by simp [*]; rfl) ?_ | refine AW.ifB (by simp [*]; rfl) ?_ | refine IfG.t ?_ | refine IfG.f ?_ | ((first | refine IfG.p (fun hg => ?_) (fun hg => ?_) | refine IfG.n (fun hg => ?_) (fun hg => ?_) | refine OutOK.gateP (fun hg => ?_) (fun hg => ?_) | refine OutOK.gateN (fun hg => ?_) (fun hg => ?_) | refine IfG.g (fun hg => ?_) (fun hg => ?_) | refine OutOK.gate (fun hg => ?_) (fun hg => ?_)) <;> (try (have hg' := hg; simp at hg'))) | refine OutOK.run (by simp [*]; rfl) ?_ | refine AW.ret ?_ | refine AW.skip ?_ | refine AW.exit ?_ | refine fin_r ?_ | refine fin_n ?_ | refine AW.block ?_ | refine blockQ_n ?_ | refine blockQ_r ?_ | refine blockQ_e ?_ | refine blockQ_o rfl ?_)
  refine AW.loopL (α := Nat) (fun i => i ≤ l.length ∧ Hd (∀ j (hj : j < l.length), j < i → ∀ t < l[j].ck.length, inR 0 (cntE l (t : Int)) (ckAt l[j].ck (t : Int)) = true)) (fun i => [(0, .c (.sl true 5 (edts true l))), (1, .c (.sc (.int .i64 n))), (5, .rf 25000 []), (100, .c (.sl true 5 (edts true l))), (101, .c (.sc (.int .i64 (l.length : Int)))), (102, .c (.sc (.int .i64 (i : Int))))]) (fun i => [(25000, .sv (.sl false 1 (ints (cts l n l.length))))]) (fun i => l.length - i) 0 ⟨Nat.zero_le _, fun j _ hj => by omega⟩ ⟨by simp, by simp, by simp⟩ ?_
  rintro i ⟨hi, hs2⟩
  rcases Nat.lt_or_ge i l.length with hil | hil
  · refine (w_ih2 l n i hil h24 n1 n3 (hlen i hil)).mono fun e st hq => ?_
    rcases hq with ⟨rfl, hk, hq⟩ | ⟨rfl, hk, hq⟩
    · have hb := no.out (fun hh => hk (hh.ck i hil))
      subst hb
      exact ⟨.inr rfl, hq⟩
    · refine ⟨i + 1, ⟨hil, fun j hj hji => ?_⟩, hq, by omega⟩
      rcases Nat.lt_succ_iff_lt_or_eq.1 hji with h2 | rfl
      · exact hs2.out j hj h2
      · exact hk
  have hii : i = l.length := by omega
  subst hii
  have hlen' : Hd _ := hlen
  clear hlen
  repeat' (first | with_reducible refine OutOK.done ?_ | refine thenQ_n ?_ | refine thenQ_r ?_ | refine thenQ_e ?_ | refine AW.seq ?_ | refine AW.dreg tok mixed [15, 25, 26, 27, 28]  [(0, false), (2, false), (3, false), (1, false), (4, false), (5, false), (6, false), (7, false), (8, false), (9, false), (10, false), (11, false), (12, false), (13, false), (14, false), (15, true), (16, false), (17, false), (18, false), (19, false), (20, false), (21, false), (23, false), (24, false), (22, false), (25, true), (26, true), (27, true), (28, true), (29, false), (30, false)] (by decide +kernel) rfl (by simp [*]; rfl) ?_ | refine AW.dreg tok mixed [9, 13]  [(0, false), (3, false), (1, false), (2, false), (4, false), (5, false), (6, false), (8, false), (12, false), (7, false), (9, true), (10, false), (11, false), (13, true), (14, false), (15, false), (16, false), (17, false), (18, false), (19, false), (20, false), (21, false), (22, false), (23, false), (24, false), (25, false), (26, false), (27, false)] (by decide +kernel) rfl (by simp [*]; rfl) ?_ | refine AW.reg tok (by simp [*]; rfl) ?_ | refine AW.ifB (by simp [*]; rfl) ?_ | refine IfG.t ?_ | refine IfG.f ?_ | ((first | refine IfG.p (fun hg => ?_) (fun hg => ?_) | refine IfG.n (fun hg => ?_) (fun hg => ?_) | refine OutOK.gateP (fun hg => ?_) (fun hg => ?_) | refine OutOK.gateN (fun hg => ?_) (fun hg => ?_) | refine IfG.g (fun hg => ?_) (fun hg => ?_) | refine OutOK.gate (fun hg => ?_) (fun hg => ?_)) <;> (try (have hg' := hg; simp at hg'))) | refine OutOK.run (by simp [*]; rfl) ?_ | refine AW.ret ?_ | refine AW.skip ?_ | refine AW.exit ?_ | refine fin_r ?_ | refine fin_n ?_ | refine AW.block ?_ | refine blockQ_n ?_ | refine blockQ_r ?_ | refine blockQ_e ?_ | refine blockQ_o rfl ?_)
  refine AW.loopL (α := Nat) (fun i => i ≤ l.length ∧ Hd (∀ j (hj : j < l.length), j < i → ∀ k (hk : k < l.length), precE l[k] l[j] = true → precE l[j] l[k] = false ∧ noGr l[k].ck l[j].ck = true)) (fun i => [(0, .c (.sl true 5 (edts true l))), (1, .c (.sc (.int .i64 n))), (123, .c (.sl true 5 (edts true l))), (124, .c (.sc (.int .i64 (l.length : Int)))), (125, .c (.sc (.int .i64 (i : Int))))]) (fun i => []) (fun i => l.length - i) 0 ⟨Nat.zero_le _, fun j _ hj => by omega⟩ ⟨by simp, by simp, by simp⟩ ?_
  rintro i ⟨hi, hs3⟩
  rcases Nat.lt_or_ge i l.length with hil | hil
  · have e1 : wrap64 ((i : Int) + 1) = ((i + 1 : Nat) : Int) := by rw [w64 (by omega) (by omega)]; omega
    have hli : l[i].ck.length ≤ 3 := by have := hlen'.out i hil; omega
    repeat' (first | with_reducible refine OutOK.done ?_ | refine thenQ_n ?_ | refine thenQ_r ?_ | refine thenQ_e ?_ | refine AW.seq ?_ | refine AW.dreg tok mixed [15, 25, 26, 27, 28]  [(0, false), (2, false), (3, false), (1, false), (4, false), (5, false), (6, false), (7, false), (8, false), (9, false), (10, false), (11, false), (12, false), (13, false), (14, false), (15, true), (16, false), (17, false), (18, false), (19, false), (20, false), (21, false), (23, false), (24, false), (22, false), (25, true), (26, true), (27, true), (28, true), (29, false), (30, false)] (by decide +kernel) rfl (by simp [*]; rfl) ?_ | refine AW.dreg tok mixed [9, 13]  [(0, false), (3, false), (1, false), (2, false), (4, false), (5, false), (6, false), (8, false), (12, false), (7, false), (9, true), (10, false), (11, false), (13, true), (14, false), (15, false), (16, false), (17, false), (18, false), (19, false), (20, false), (21, false), (22, false), (23, false), (24, false), (25, false), (26, false), (27, false)] (by decide +kernel) rfl (by simp [*]; rfl) ?_ | refine AW.reg tok (by simp [*]; rfl) ?_ | refine AW.ifB (by simp [*]; rfl) ?_ | refine IfG.t ?_ | refine IfG.f ?_ | ((first | refine IfG.p (fun hg => ?_) (fun hg => ?_) | refine IfG.n (fun hg => ?_) (fun hg => ?_) | refine OutOK.gateP (fun hg => ?_) (fun hg => ?_) | refine OutOK.gateN (fun hg => ?_) (fun hg => ?_) | refine IfG.g (fun hg => ?_) (fun hg => ?_) | refine OutOK.gate (fun hg => ?_) (fun hg => ?_)) <;> (try (have hg' := hg; simp at hg'))) | refine OutOK.run (by simp [*]; rfl) ?_ | refine AW.ret ?_ | refine AW.skip ?_ | refine AW.exit ?_ | refine fin_r ?_ | refine fin_n ?_ | refine AW.block ?_ | refine blockQ_n ?_ | refine blockQ_r ?_ | refine blockQ_e ?_ | refine blockQ_o rfl ?_)
    refine AW.loopL (α := Nat) (fun k => k ≤ l.length ∧ Hd (∀ j (hj : j < l.length), j < k → precE l[j] l[i] = true → precE l[i] l[j] = false ∧ noGr l[j].ck l[i].ck = true)) (fun k => [(0, .c (.sl true 5 (edts true l))), (1, .c (.sc (.int .i64 n))), (13, .pt 13000 []  0), (123, .c (.sl true 5 (edts true l))), (124, .c (.sc (.int .i64 (l.length : Int)))), (125, .c (.sc (.int .i64 (i : Int)))), (129, .c (.sl true 5 (edts true l))), (130, .c (.sc (.int .i64 (l.length : Int)))), (131, .c (.sc (.int .i64 (k : Int))))]) (fun _ => [(13000, .bx (edtC true l[i]))]) (fun k => l.length - k) 0 ⟨Nat.zero_le _, fun j _ hj => by omega⟩ ⟨by simp, by simp, by simp⟩ ?_
    rintro k ⟨hk, hsk⟩
    rcases Nat.lt_or_ge k l.length with hkl | hkl
    · refine (w_ih3 l n i k hil hkl h24 hli (by have := hlen'.out i hil; have := hlen'.out k hkl; omega)).mono fun e st hq => ?_
      rcases hq with ⟨rfl, hk2, hq⟩ | ⟨rfl, hk2, hq⟩
      · have hb := no.out (fun hh => hk2 (hh.pr i hil k hkl))
        subst hb
        exact ⟨.inr rfl, hq⟩
      · refine ⟨k + 1, ⟨hkl, fun j hj hji => ?_⟩, hq, by omega⟩
        rcases Nat.lt_succ_iff_lt_or_eq.1 hji with h2 | rfl
        · exact hsk.out j hj h2
        · exact hk2
    · have hkn : ¬ k < l.length := by omega
      have hs4 : Hd (∀ j (hj : j < l.length), j < i + 1 → ∀ k (hk : k < l.length), precE l[k] l[j] = true → precE l[j] l[k] = false ∧ noGr l[k].ck l[j].ck = true) := by
        intro j hj hji
        rcases Nat.lt_succ_iff_lt_or_eq.1 hji with h2 | rfl
        · exact hs3.out j hj h2
        · exact fun q hq => hsk.out q hq (by omega)
      clear no yes
      repeat' (first | with_reducible refine OutOK.done ?_ | refine thenQ_n ?_ | refine thenQ_r ?_ | refine thenQ_e ?_ | refine AW.seq ?_ | refine AW.dreg tok mixed [15, 25, 26, 27, 28]  [(0, false), (2, false), (3, false), (1, false), (4, false), (5, false), (6, false), (7, false), (8, false), (9, false), (10, false), (11, false), (12, false), (13, false), (14, false), (15, true), (16, false), (17, false), (18, false), (19, false), (20, false), (21, false), (23, false), (24, false), (22, false), (25, true), (26, true), (27, true), (28, true), (29, false), (30, false)] (by decide +kernel) rfl (by simp [*]; rfl) ?_ | refine AW.dreg tok mixed [9, 13]  [(0, false), (3, false), (1, false), (2, false), (4, false), (5, false), (6, false), (8, false), (12, false), (7, false), (9, true), (10, false), (11, false), (13, true), (14, false), (15, false), (16, false), (17, false), (18, false), (19, false), (20, false), (21, false), (22, false), (23, false), (24, false), (25, false), (26, false), (27, false)] (by decide +kernel) rfl (by simp [*]; rfl) ?_ | refine AW.reg tok (by simp [*]; rfl) ?_ | refine AW.ifB (by simp [*]; rfl) ?_ | refine IfG.t ?_ | refine IfG.f ?_ | ((first | refine IfG.p (fun hg => ?_) (fun hg => ?_) | refine IfG.n (fun hg => ?_) (fun hg => ?_) | refine OutOK.gateP (fun hg => ?_) (fun hg => ?_) | refine OutOK.gateN (fun hg => ?_) (fun hg => ?_) | refine IfG.g (fun hg => ?_) (fun hg => ?_) | refine OutOK.gate (fun hg => ?_) (fun hg => ?_)) <;> (try (have hg' := hg; simp at hg'))) | refine OutOK.run (by simp [*]; rfl) ?_ | refine AW.ret ?_ | refine AW.skip ?_ | refine AW.exit ?_ | refine fin_r ?_ | refine fin_n ?_ | refine AW.block ?_ | refine blockQ_n ?_ | refine blockQ_r ?_ | refine blockQ_e ?_ | refine blockQ_o rfl ?_)
      exact ⟨i + 1, ⟨hil, hs4⟩, ⟨by simp, by simp, by simp⟩, by ((try clear e1); omega)⟩
  · have hin : ¬ i < l.length := by omega
    have hb : B = true := yes.out ⟨hR, h24, fun j hj => (hs.out j hj hj).1, fun j hj => (hs.out j hj hj).2, fun j hj => hs2.out j hj hj, fun j hj => hs3.out j hj (by omega)⟩
    subst hb
    clear no yes
    repeat' (first | with_reducible refine OutOK.done ?_ | refine thenQ_n ?_ | refine thenQ_r ?_ | refine thenQ_e ?_ | refine AW.seq ?_ | refine AW.dreg tok mixed [15, 25, 26, 27, 28]  [(0, false), (2, false), (3, false), (1, false), (4, false), (5, false), (6, false), (7, false), (8, false), (9, false), (10, false), (11, false), (12, false), (13, false), (14, false), (15, true), (16, false), (17, false), (18, false), (19, false), (20, false), (21, false), (23, false), (24, false), (22, false), (25, true), (26, true), (27, true), (28, true), (29, false), (30, false)] (by decide +kernel) rfl (by simp [*]; rfl) ?_ | refine AW.dreg tok mixed [9, 13]  [(0, false), (3, false), (1, false), (2, false), (4, false), (5, false), (6, false), (8, false), (12, false), (7, false), (9, true), (10, false), (11, false), (13, true), (14, false), (15, false), (16, false), (17, false), (18, false), (19, false), (20, false), (21, false), (22, false), (23, false), (24, false), (25, false), (26, false), (27, false)] (by decide +kernel) rfl (by simp [*]; rfl) ?_ | refine AW.reg tok (by simp [*]; rfl) ?_ | refine AW.ifB (by simp [*]; rfl) ?_ | refine IfG.t ?_ | refine IfG.f ?_ | ((first | refine IfG.p (fun hg => ?_) (fun hg => ?_) | refine IfG.n (fun hg => ?_) (fun hg => ?_) | refine OutOK.gateP (fun hg => ?_) (fun hg => ?_) | refine OutOK.gateN (fun hg => ?_) (fun hg => ?_) | refine IfG.g (fun hg => ?_) (fun hg => ?_) | refine OutOK.gate (fun hg => ?_) (fun hg => ?_)) <;> (try (have hg' := hg; simp at hg'))) | refine OutOK.run (by simp [*]; rfl) ?_ | refine AW.ret ?_ | refine AW.skip ?_ | refine AW.exit ?_ | refine fin_r ?_ | refine fin_n ?_ | refine AW.block ?_ | refine blockQ_n ?_ | refine blockQ_r ?_ | refine blockQ_e ?_ | refine blockQ_o rfl ?_)
    simp [Try.f26]
end Go.Proofs.Ytbofobjofngoeaa.EngS


set_option linter.unusedSimpArgs false
set_option linter.unusedVariables false
set_option maxHeartbeats 4000000
set_option maxRecDepth 100000
namespace Go.Proofs.Ytbofobjofngoeaa.EngS
open Go Go.Proofs Go.Eng Go.RowKit
attribute [local irreducible] Go.RowKit.wrap64
abbrev EdtX := Int × Int × List Int × ByteArray × ByteArray
def edtX (x : EdtX) : Edt := ⟨x.1, x.2.1, x.2.2.1, x.2.2.2.1, x.2.2.2.2⟩
def WfX (x : List EdtX) : Prop := x.length ≤ maxLen ∧ ∀ y ∈ x, (Lit.int .i64 y.1).wf = true ∧ (Lit.int .i64 y.2.1).wf = true ∧ (y.2.2.1.length ≤ maxLen ∧ ∀ z ∈ y.2.2.1, (Lit.int .i64 z).wf = true) ∧ y.2.2.2.1.size ≤ maxLen ∧ y.2.2.2.2.size ≤ maxLen
theorem WfX.v {x : List EdtX} (h : WfX x) : (x.map edtX).length ≤ 9223372036854775807 ∧ ∀ e ∈ x.map edtX, EdtV e := by
  have hm : maxLen = 9223372036854775807 := rfl
  refine ⟨by rw [List.length_map, ← hm]; exact h.1, fun e he => ?_⟩
  obtain ⟨y, hy, rfl⟩ := List.mem_map.1 he
  obtain ⟨-, -, h3, h4, h5⟩ := h.2 y hy
  rw [hm] at h3 h4 h5
  exact ⟨h4, h5, h3.1⟩
theorem hist_len {l : List Edt} {n : Int} (h : hist l n = true) : l.length ≤ 24 := (hist_iff'.1 h).len
end Go.Proofs.Ytbofobjofngoeaa.EngS


set_option linter.unusedSimpArgs false
set_option linter.unusedVariables false
set_option maxHeartbeats 4000000
set_option maxRecDepth 100000
namespace Go.Proofs.Ytbofobjofngoeaa.EngS
open Go Go.Proofs Go.Eng Go.RowKit
attribute [local irreducible] Go.RowKit.wrap64
theorem c_IndexFunc_edt (l : List Edt) (f : Nat) (C1 C2 : List PV) (p : Edt → Bool) (h : l.length ≤ 9223372036854775806) (hbf : HasBody Try.prog f) (cf : ∀ x ∈ l, ACall Try.prog f [edtD x, .p C1, .p C2] [.x, .p C1, .p C2] [boo (p x)]) :
    ACall Try.prog 124 [.v (.sl true 5 (edts true l)), .f f [C1, C2]] [.x, .f f [C1, C2]] [int (idx p l)] := by
  replace cf : Hd _ := cf
  refine ACall.of (N := 19) tok Try.func124 rfl rfl rfl (by simp) ?_
  repeat' (first | with_reducible refine OutOK.done ?_ | refine thenQ_n ?_ | refine thenQ_r ?_ | refine thenQ_e ?_ | refine AW.seq ?_ | refine AW.reg tok (by simp [*]; rfl) ?_ | refine AW.ifB (by simp [*]; rfl) ?_ | refine IfG.t ?_ | refine IfG.f ?_ | ((first | refine IfG.p (fun hg => ?_) (fun hg => ?_) | refine IfG.n (fun hg => ?_) (fun hg => ?_) | refine OutOK.gateP (fun hg => ?_) (fun hg => ?_) | refine OutOK.gateN (fun hg => ?_) (fun hg => ?_) | refine IfG.g (fun hg => ?_) (fun hg => ?_) | refine OutOK.gate (fun hg => ?_) (fun hg => ?_)) <;> (try (have hg' := hg; simp at hg'))) | refine OutOK.run (by simp [*]; rfl) ?_ | refine AW.ret ?_ | refine AW.skip ?_ | refine AW.exit ?_ | refine fin_r ?_ | refine fin_n ?_ | refine AW.block ?_ | refine blockQ_n ?_ | refine blockQ_r ?_ | refine blockQ_e ?_ | refine blockQ_o rfl ?_)
  refine AW.loopL (fun i => i ≤ l.length ∧ Hd ((l.take i).any p = false)) (fun i => [(0, .c (.sl true 5 (edts true l))), (1, .fn f [.pt 100000051 [] 0, .pt 100000052 [] 0]), (7, .c (.sc (.int .i64 (l.length : Int)))), (8, .c (.sc (.int .i64 (i : Int))))]) (fun _ => [(100000051, .bx C1), (100000052, .bx C2)]) (fun i => l.length - i) 0 ⟨Nat.zero_le _, by simp [Hd]⟩ ⟨by simp, by simp, by simp⟩ ?_
  rintro i ⟨hi, hs⟩
  rcases Nat.lt_or_ge i l.length with hl | hl
  · have e1 : wrap64 ((i : Int) + 1) = ((i + 1 : Nat) : Int) := by rw [w64 (by omega) (by omega)]; omega
    have cs := cf.out l[i] (List.getElem_mem hl)
    cases hp : p l[i] with
    | true =>
      rw [hp] at cs
      have hf : idx p l = (i : Int) := idx_at hl hs.out hp
      clear cf
      repeat' (first | with_reducible refine OutOK.done ?_ | refine thenQ_n ?_ | refine thenQ_r ?_ | refine thenQ_e ?_ | refine AW.seq ?_ | refine AW.reg tok (by simp [*]; rfl) ?_ | refine AW.ifB (by simp [*]; rfl) ?_ | refine IfG.t ?_ | refine IfG.f ?_ | ((first | refine IfG.p (fun hg => ?_) (fun hg => ?_) | refine IfG.n (fun hg => ?_) (fun hg => ?_) | refine OutOK.gateP (fun hg => ?_) (fun hg => ?_) | refine OutOK.gateN (fun hg => ?_) (fun hg => ?_) | refine IfG.g (fun hg => ?_) (fun hg => ?_) | refine OutOK.gate (fun hg => ?_) (fun hg => ?_)) <;> (try (have hg' := hg; simp at hg'))) | (refine OutOK.callF [] (by simp [*]; rfl) (by simp [*]; rfl) (by simp [*]; rfl) hbf (by apply cs <;> first | assumption | exact Hd.out (by assumption) | ((try clear e1); omega)) ⟨by simp [*], by simp [*], by simp [*], by simp [*], by simp [*]⟩ (by simp [*]) (by simp [*]; rfl) ?_) | refine OutOK.run (by simp [*]; rfl) ?_ | refine AW.ret ?_ | refine AW.skip ?_ | refine AW.exit ?_ | refine fin_r ?_ | refine fin_n ?_ | refine AW.block ?_ | refine blockQ_n ?_ | refine blockQ_r ?_ | refine blockQ_e ?_ | refine blockQ_o rfl ?_)
      simp [Try.f124, hf]
    | false =>
      rw [hp] at cs
      have hs2 : Hd ((l.take (i + 1)).any p = false) := any_more hl hs.out hp
      clear cf
      repeat' (first | with_reducible refine OutOK.done ?_ | refine thenQ_n ?_ | refine thenQ_r ?_ | refine thenQ_e ?_ | refine AW.seq ?_ | refine AW.reg tok (by simp [*]; rfl) ?_ | refine AW.ifB (by simp [*]; rfl) ?_ | refine IfG.t ?_ | refine IfG.f ?_ | ((first | refine IfG.p (fun hg => ?_) (fun hg => ?_) | refine IfG.n (fun hg => ?_) (fun hg => ?_) | refine OutOK.gateP (fun hg => ?_) (fun hg => ?_) | refine OutOK.gateN (fun hg => ?_) (fun hg => ?_) | refine IfG.g (fun hg => ?_) (fun hg => ?_) | refine OutOK.gate (fun hg => ?_) (fun hg => ?_)) <;> (try (have hg' := hg; simp at hg'))) | (refine OutOK.callF [] (by simp [*]; rfl) (by simp [*]; rfl) (by simp [*]; rfl) hbf (by apply cs <;> first | assumption | exact Hd.out (by assumption) | ((try clear e1); omega)) ⟨by simp [*], by simp [*], by simp [*], by simp [*], by simp [*]⟩ (by simp [*]) (by simp [*]; rfl) ?_) | refine OutOK.run (by simp [*]; rfl) ?_ | refine AW.ret ?_ | refine AW.skip ?_ | refine AW.exit ?_ | refine fin_r ?_ | refine fin_n ?_ | refine AW.block ?_ | refine blockQ_n ?_ | refine blockQ_r ?_ | refine blockQ_e ?_ | refine blockQ_o rfl ?_)
      exact ⟨i + 1, ⟨hl, hs2⟩, ⟨by simp, by simp, by simp⟩, by ((try clear e1); omega)⟩
  · have hf : idx p l = -1 := idx_none (any_end hl hs.out)
    have hn : ¬ i < l.length := by omega
    clear cf
    repeat' (first | with_reducible refine OutOK.done ?_ | refine thenQ_n ?_ | refine thenQ_r ?_ | refine thenQ_e ?_ | refine AW.seq ?_ | refine AW.reg tok (by simp [*]; rfl) ?_ | refine AW.ifB (by simp [*]; rfl) ?_ | refine IfG.t ?_ | refine IfG.f ?_ | ((first | refine IfG.p (fun hg => ?_) (fun hg => ?_) | refine IfG.n (fun hg => ?_) (fun hg => ?_) | refine OutOK.gateP (fun hg => ?_) (fun hg => ?_) | refine OutOK.gateN (fun hg => ?_) (fun hg => ?_) | refine IfG.g (fun hg => ?_) (fun hg => ?_) | refine OutOK.gate (fun hg => ?_) (fun hg => ?_)) <;> (try (have hg' := hg; simp at hg'))) | refine OutOK.run (by simp [*]; rfl) ?_ | refine AW.ret ?_ | refine AW.skip ?_ | refine AW.exit ?_ | refine fin_r ?_ | refine fin_n ?_ | refine AW.block ?_ | refine blockQ_n ?_ | refine blockQ_r ?_ | refine blockQ_e ?_ | refine blockQ_o rfl ?_)
    simp [Try.f124, hf]
end Go.Proofs.Ytbofobjofngoeaa.EngS


set_option linter.unusedSimpArgs false
set_option linter.unusedVariables false
set_option maxHeartbeats 4000000
set_option maxRecDepth 100000
namespace Go.Proofs.Ytbofobjofngoeaa.EngS
open Go Go.Proofs Go.Eng Go.RowKit
attribute [local irreducible] Go.RowKit.wrap64
theorem hist_ck {l : List Edt} {n : Int} (h : hist l n = true) : ∀ e ∈ l, e.ck.length ≤ 3 := by
  have hh := hist_iff'.1 h
  intro e he
  obtain ⟨i, hi, rfl⟩ := List.getElem_of_mem he
  have := (hh.fl i hi).1
  have := (inR_iff.1 hh.nn).2
  omega
end Go.Proofs.Ytbofobjofngoeaa.EngS


set_option linter.unusedSimpArgs false
set_option linter.unusedVariables false
set_option maxHeartbeats 4000000
set_option maxRecDepth 100000
namespace Go.Proofs.Ytbofobjofngoeaa.EngS
open Go Go.Proofs Go.Eng Go.RowKit
attribute [local irreducible] Go.RowKit.wrap64
end Go.Proofs.Ytbofobjofngoeaa.EngS


set_option linter.unusedSimpArgs false
set_option linter.unusedVariables false
namespace Go.Eng
open Go.RowKit
variable {P : Program} {T : Nat → Option TI} {N : Nat}
def ownR (st : St) (t m : Nat) : Option St :=
  match st.env t with
  | .rn n [] (.sub 0 hi k) => match st.σ n with
    | some (.sv (.sl false k' es)) => if k' = k ∧ m < 100000000 ∧ st.σ m = none then some (((st.move [n]).new m (.sv (.sl false k (es.take hi)))).put (some t) (.rf m [])) else none
    | _ => none
  | _ => none
theorem Rel.ownR {fr a w} (hf : FrOK P N fr) {st st2 : St} {t m : Nat} (h2 : Go.Eng.ownR st t m = some st2) (h : Rel fr st a w) : Rel fr st2 a w := by
  obtain ⟨S, rv, hR⟩ := h
  unfold Go.Eng.ownR at h2
  split at h2
  · rename_i n hi k he
    split at h2
    · rename_i k' es hσ
      split at h2
      · rename_i hk
        cases h2
        obtain ⟨rfl, hn, hm0⟩ := hk
        have hv := hR.env t
        rw [he, VR_rn] at hv
        obtain ⟨u, hu, A, mm, cap, rfl, hmc, _, him, hv⟩ := hv
        rw [VR_rf] at hu
        obtain ⟨r, hr, hat, _⟩ := hu
        rw [hσ] at hr
        cases hr
        simp only [rAt, Option.some.injEq] at hat
        obtain ⟨_, hrv⟩ := hR.rr n _ hσ
        rw [hat, RV_ow] at hrv
        have hnew : RR w fr.X (.sv (.sl false k' (es.take hi))) (a.tmps.getD t undef) (S n) := by
          refine ⟨rfl, ?_⟩
          rw [RV_ow, hv]
          rcases hrv with ⟨h1, h2⟩ | ⟨b, cap', cur, ty, h1, h2, h3, h4, h5, h6⟩
          · cases h1
            left
            have : hi = 0 := by omega
            subst this
            simp
          · cases h1
            right
            have hl : (es.take hi).length = hi := by simp; omega
            refine ⟨b, cap, cur, ty, ?_, by omega, h3, h4, h5, RE_take hi es b 0 _ h6⟩
            rw [hl]
            by_cases hc : cap = 0
            · simp [hc]
            · simp [hc, Addr.add]
        obtain ⟨S', rv', hR', hrv'⟩ := Rel0.consume hf hR (w' := w) (d := m) (ms := [n]) rfl TD.refl rfl (Nat.le_refl _) (fun _ _ _ => rfl) (.inl hm0) (fun q hq => by simp at hq; subst hq; exact ⟨_, hσ⟩) hnew (fun b hb => .inr ⟨n, by simp, hb⟩)
          (by cases e : fr.rv0 m with
              | none => rfl
              | some v => have := hf.names m v e; omega)
        refine ⟨S', rv', { hR' with env := fun t' => ?_ }⟩
        simp only [St.put]
        by_cases ht : t' = t
        · subst ht
          rw [if_pos rfl, VR_rf]
          exact ⟨.sv (.sl false k' (es.take hi)), by simp [St.new], by simp [rAt, hrv'], false, k', es.take hi, rfl⟩
        · rw [if_neg ht]; exact hR'.env t'
      · cases h2
    · cases h2
  · cases h2
theorem AW.ownR {c : Code} {st st2 : St} {Q : Exit → St → Prop} (t m : Nat) (h : Go.Eng.ownR st t m = some st2) (hc : AW P N c st2 Q) : AW P N c st Q := fun fr a w hf hr => hc fr a w hf (Rel.ownR hf h hr)
attribute [simp] ownR
def clrL (T : Nat → Option TI) (e : List (Nat × V)) (r : List (Nat × Root)) (t : Nat) : V → Option St
  | .rn n [] (.sub lo hi k) => match lookR r n with
    | some (.sv (.sl false k' es)) => (T t).bind fun i => match i.kd with
      | .sl e' kk _ => (T e').bind fun ie => if k' = k ∧ kk = k ∧ hi = es.length ∧ lo ≤ hi ∧ (ie.agg = false → k = 1) ∧ 0 < k then
          some (mk (e.map fun q => (q.1, q.2.ren (killIn n) (killIn n))) (ins n (.sv (.sl false k (es.take lo ++ List.replicate (hi - lo) (xxEl ie.agg k)))) r)) else none
      | _ => none
    | _ => none
  | _ => none
theorem mk_clr (e : List (Nat × V)) (r : List (Nat × Root)) (n : Nat) (x : Root) : ({ env := fun t => ((mk e r).env t).ren (killIn n) (killIn n), σ := fun m => if m = n then some x else (mk e r).σ m } : St) = mk (e.map fun q => (q.1, q.2.ren (killIn n) (killIn n))) (ins n x r) := by
  simp only [mk]
  congr
  · funext t; rw [look_map _ rfl]
  · funext t; rw [lookR_ins]
@[simp] theorem clrSt_mk (T : Nat → Option TI) (e r t x) : clrSt T (mk e r) t x = clrL T e r t x := by
  cases x with
  | rn n p s =>
    cases p with
    | cons i p => rfl
    | nil =>
      cases s with
      | known v => rfl
      | sub lo hi k =>
        simp only [clrSt, clrL, mk_clr]
        rfl
  | _ => rfl
attribute [simp] clrL killIn
theorem AW.stopT {st : St} {Q : Exit → St → Prop} (h : Hold (AW P N .ret st Q)) : AW P N .ret st Q := h.out
theorem AW.knownG {c : Code} {st st2 : St} {Q : Exit → St → Prop} (k t j : Nat) {n : Nat} {p : List Nat} {u : Value} {xs : List V} (hk : st.env k = .rn n p (.known u)) (ht : st.env t = .g xs) (hj : xs[j]? = some (.c (.sc u))) (h2 : st.put (some t) (.g (xs.set j (.rf n p))) = st2) (hc : AW P N c st2 Q) : AW P N c st Q := by
  subst h2
  intro fr a w hf ⟨S, rv, hR⟩
  refine hc fr a w hf ⟨S, rv, { hR with env := fun s => ?_ }⟩
  simp only [St.put]
  by_cases hs : s = t
  · rw [if_pos hs, hs]
    have h1 := hR.env k
    rw [hk, VR_rn] at h1
    obtain ⟨u', h1, hu⟩ := h1
    have hu : u' = u := hu
    subst hu
    have h2 := hR.env t
    rw [ht, VR_g] at h2
    obtain ⟨arr, he, hv⟩ := h2
    rw [VR_g]
    refine ⟨arr, he, VRs_mk _ _ (by rw [List.length_set]; exact VRs_length _ _ hv) (fun i x v hi hvi => ?_)⟩
    by_cases hij : j = i
    · subst hij
      have hlt : j < xs.length := by rcases Nat.lt_or_ge j xs.length with h | h; exact h; simp [List.getElem?_eq_none h] at hj
      rw [List.getElem?_set_self hlt] at hi
      cases hi
      obtain ⟨v', hv', hx⟩ := VRs_get _ _ j _ hv hj
      rw [hvi] at hv'; cases hv'
      rw [VR_c, RV_sc] at hx
      rw [hx]; exact h1
    · rw [List.getElem?_set_ne hij] at hi
      obtain ⟨v', hv', hx⟩ := VRs_get _ _ i _ hv hi
      rw [hvi] at hv'; cases hv'
      exact hx
  · rw [if_neg hs]; exact hR.env s
end Go.Eng

set_option linter.unusedSimpArgs false
set_option linter.unusedVariables false
set_option maxHeartbeats 4000000
set_option maxRecDepth 100000
namespace Go.Proofs.Ytbofobjofngoeaa.EngS
open Go Go.Proofs Go.Eng Go.RowKit
attribute [local irreducible] Go.RowKit.wrap64
attribute [local simp] optO sliceV
theorem c_impl_editOf_1 (e : Edt) (t n : Int) : ACall Try.prog 125 [edtD e, .p [.sc (.int .i64 t)], .p [.sc (.int .i64 n)]] [.x, .p [.sc (.int .i64 t)], .p [.sc (.int .i64 n)]] [boo (keyE t n e)] := by
  by_cases h1 : e.tm = t
  · refine ACall.of (N := 15) tok Try.func125 rfl rfl rfl (by simp) ?_
    repeat' (first | with_reducible refine OutOK.done ?_ | refine thenQ_n ?_ | refine thenQ_r ?_ | refine thenQ_e ?_ | refine AW.seq ?_ | refine AW.reg tok (by simp [*]; rfl) ?_ | refine AW.ifB (by simp [*]; rfl) ?_ | refine IfG.t ?_ | refine IfG.f ?_ | ((first | refine IfG.p (fun hg => ?_) (fun hg => ?_) | refine IfG.n (fun hg => ?_) (fun hg => ?_) | refine OutOK.gateP (fun hg => ?_) (fun hg => ?_) | refine OutOK.gateN (fun hg => ?_) (fun hg => ?_) | refine IfG.g (fun hg => ?_) (fun hg => ?_) | refine OutOK.gate (fun hg => ?_) (fun hg => ?_)) <;> (try (have hg' := hg; simp at hg'))) | refine OutOK.run (by simp [*]; rfl) ?_ | refine AW.ret ?_ | refine AW.skip ?_ | refine AW.exit ?_ | refine fin_r ?_ | refine fin_n ?_ | refine AW.block ?_ | refine blockQ_n ?_ | refine blockQ_r ?_ | refine blockQ_e ?_ | refine blockQ_o rfl ?_)
    all_goals simp [Try.f125, keyE, *]
  · refine ACall.of (N := 15) tok Try.func125 rfl rfl rfl (by simp) ?_
    repeat' (first | with_reducible refine OutOK.done ?_ | refine thenQ_n ?_ | refine thenQ_r ?_ | refine thenQ_e ?_ | refine AW.seq ?_ | refine AW.reg tok (by simp [*]; rfl) ?_ | refine AW.ifB (by simp [*]; rfl) ?_ | refine IfG.t ?_ | refine IfG.f ?_ | ((first | refine IfG.p (fun hg => ?_) (fun hg => ?_) | refine IfG.n (fun hg => ?_) (fun hg => ?_) | refine OutOK.gateP (fun hg => ?_) (fun hg => ?_) | refine OutOK.gateN (fun hg => ?_) (fun hg => ?_) | refine IfG.g (fun hg => ?_) (fun hg => ?_) | refine OutOK.gate (fun hg => ?_) (fun hg => ?_)) <;> (try (have hg' := hg; simp at hg'))) | refine OutOK.run (by simp [*]; rfl) ?_ | refine AW.ret ?_ | refine AW.skip ?_ | refine AW.exit ?_ | refine fin_r ?_ | refine fin_n ?_ | refine AW.block ?_ | refine blockQ_n ?_ | refine blockQ_r ?_ | refine blockQ_e ?_ | refine blockQ_o rfl ?_)
    all_goals simp [Try.f125, keyE, *]
theorem c_impl_editOf (l : List Edt) (t n : Int) (h : l.length ≤ 9223372036854775806) : ACall Try.prog 92 [.v (.sl true 5 (edts true l)), int t, int n] [.x, .x, .x] [int (fndE l t n)] := by
  have ci := c_IndexFunc_edt l 125 [.sc (.int .i64 t)] [.sc (.int .i64 n)] (keyE t n) h (by simp) (fun x _ => c_impl_editOf_1 x t n)
  rw [show idx (keyE t n) l = fndE l t n from rfl] at ci
  generalize fndE l t n = F at *
  refine ACall.of (N := 10) tok Try.func92 rfl rfl rfl (by simp) ?_
  repeat' (first | with_reducible refine OutOK.done ?_ | refine thenQ_n ?_ | refine thenQ_r ?_ | refine thenQ_e ?_ | refine AW.seq ?_ | refine AW.reg tok (by simp [*]; rfl) ?_ | refine AW.ifB (by simp [*]; rfl) ?_ | refine IfG.t ?_ | refine IfG.f ?_ | ((first | refine IfG.p (fun hg => ?_) (fun hg => ?_) | refine IfG.n (fun hg => ?_) (fun hg => ?_) | refine OutOK.gateP (fun hg => ?_) (fun hg => ?_) | refine OutOK.gateN (fun hg => ?_) (fun hg => ?_) | refine IfG.g (fun hg => ?_) (fun hg => ?_) | refine OutOK.gate (fun hg => ?_) (fun hg => ?_)) <;> (try (have hg' := hg; simp at hg'))) | (refine OutOK.callF [] (by simp [*]; rfl) (by simp [*]; rfl) (by simp [*]; rfl) hb124 (by apply ci <;> first | assumption | exact Hd.out (by assumption) | omega) ⟨by simp [*], by simp [*], by simp [*], by simp [*], by simp [*]⟩ (by simp [*]) (by simp [*]; rfl) ?_) | refine OutOK.run (by simp [*]; rfl) ?_ | refine AW.ret ?_ | refine AW.skip ?_ | refine AW.exit ?_ | refine fin_r ?_ | refine fin_n ?_ | refine AW.block ?_ | refine blockQ_n ?_ | refine blockQ_r ?_ | refine blockQ_e ?_ | refine blockQ_o rfl ?_)
  simp [Try.f92]
theorem c_impl_editCounts (l : List Edt) (n : Int) (h : l.length ≤ 24) (h1 : 1 ≤ n) (h3 : n ≤ 3) (ht : ∀ e ∈ l, inR 0 (n - 1) e.tm = true) : ACall Try.prog 93 [.v (.sl true 5 (edts true l)), int n] [.x, .x] [.v (.sl false 1 (ints (cts l n l.length)))] := by
  have b1 : n * 8 ≤ 140737488355328 := by omega
  have b2 : n ≤ 4611686018427387904 := by omega
  have hn0 : 0 ≤ n := by omega
  have hz : Hd (cts l n 0 = List.replicate n.toNat 0) := cts_zero l n
  have ht' : Hd _ := ht
  clear ht
  refine ACall.of (N := 25) tok Try.func93 rfl rfl rfl (by simp) ?_
  repeat' (first | with_reducible refine OutOK.done ?_ | refine thenQ_n ?_ | refine thenQ_r ?_ | refine thenQ_e ?_ | refine AW.seq ?_ | refine AW.reg tok (by simp [*]; rfl) ?_ | refine AW.ifB (by simp [*]; rfl) ?_ | refine IfG.t ?_ | refine IfG.f ?_ | ((first | refine IfG.p (fun hg => ?_) (fun hg => ?_) | refine IfG.n (fun hg => ?_) (fun hg => ?_) | refine OutOK.gateP (fun hg => ?_) (fun hg => ?_) | refine OutOK.gateN (fun hg => ?_) (fun hg => ?_) | refine IfG.g (fun hg => ?_) (fun hg => ?_) | refine OutOK.gate (fun hg => ?_) (fun hg => ?_)) <;> (try (have hg' := hg; simp at hg'))) | refine OutOK.run (by simp [*]; rfl) ?_ | refine AW.ret ?_ | refine AW.skip ?_ | refine AW.exit ?_ | refine fin_r ?_ | refine fin_n ?_ | refine AW.block ?_ | refine blockQ_n ?_ | refine blockQ_r ?_ | refine blockQ_e ?_ | refine blockQ_o rfl ?_)
  refine AW.loopL (α := Nat) (fun i => i ≤ l.length) (fun i => [(5, .rf 9000 []), (10, .c (.sl true 5 (edts true l))), (11, .c (.sc (.int .i64 (l.length : Int)))), (12, .c (.sc (.int .i64 (i : Int))))]) (fun i => [(9000, .sv (.sl false 1 (ints (cts l n i))))]) (fun i => l.length - i) 0 (Nat.zero_le _) ⟨by simp, by simp [hz.out], by simp⟩ ?_
  intro i hi
  rcases Nat.lt_or_ge i l.length with hl | hl
  · have e1 : wrap64 ((i : Int) + 1) = ((i + 1 : Nat) : Int) := by rw [w64 (by omega) (by omega)]; omega
    have hr := inR_iff.1 (ht'.out _ (List.getElem_mem hl))
    obtain ⟨T, hT⟩ : ∃ T : Nat, l[i].tm = (T : Int) := ⟨l[i].tm.toNat, by omega⟩
    have hst : Hd ((cts l n i).set T (((cntE (l.take i) (T : Int) : Nat) : Int) + 1) = cts l n (i + 1)) := cts_step l n i T hl hT
    have hc24 : cntE (l.take i) (T : Int) ≤ 24 := by have := cntE_le (l.take i) T; have := List.length_take_le i l; omega
    have hTl : T < (cts l n i).length := by simp; omega
    have hat : (cts l n i)[T] = ((cntE (l.take i) (T : Int) : Nat) : Int) := cts_at _ _ _ _ _
    generalize cts l n i = cl at *
    generalize cntE (l.take i) (T : Int) = c at *
    obtain ⟨c1, hc1⟩ : ∃ c1, (c : Int) + 1 = c1 := ⟨_, rfl⟩
    have e4 : wrap64 ((c : Int) + 1) = c1 := by rw [w64 (by omega) (by omega)]; exact hc1
    rw [hc1] at hst
    clear hc1 hr
    repeat' (first | with_reducible refine OutOK.done ?_ | refine thenQ_n ?_ | refine thenQ_r ?_ | refine thenQ_e ?_ | refine AW.seq ?_ | refine AW.reg tok (by simp [*]; rfl) ?_ | refine AW.ifB (by simp [*]; rfl) ?_ | refine IfG.t ?_ | refine IfG.f ?_ | ((first | refine IfG.p (fun hg => ?_) (fun hg => ?_) | refine IfG.n (fun hg => ?_) (fun hg => ?_) | refine OutOK.gateP (fun hg => ?_) (fun hg => ?_) | refine OutOK.gateN (fun hg => ?_) (fun hg => ?_) | refine IfG.g (fun hg => ?_) (fun hg => ?_) | refine OutOK.gate (fun hg => ?_) (fun hg => ?_)) <;> (try (have hg' := hg; simp at hg'))) | refine OutOK.run (by simp [*]; rfl) ?_ | refine AW.ret ?_ | refine AW.skip ?_ | refine AW.exit ?_ | refine fin_r ?_ | refine fin_n ?_ | refine AW.block ?_ | refine blockQ_n ?_ | refine blockQ_r ?_ | refine blockQ_e ?_ | refine blockQ_o rfl ?_)
    exact ⟨i + 1, hl, ⟨by simp, by simp [hst.out], by simp⟩, by ((try clear e1); (try clear e4); omega)⟩
  · have hii : i = l.length := by omega
    subst hii
    repeat' (first | with_reducible refine OutOK.done ?_ | refine thenQ_n ?_ | refine thenQ_r ?_ | refine thenQ_e ?_ | refine AW.seq ?_ | refine AW.reg tok (by simp [*]; rfl) ?_ | refine AW.ifB (by simp [*]; rfl) ?_ | refine IfG.t ?_ | refine IfG.f ?_ | ((first | refine IfG.p (fun hg => ?_) (fun hg => ?_) | refine IfG.n (fun hg => ?_) (fun hg => ?_) | refine OutOK.gateP (fun hg => ?_) (fun hg => ?_) | refine OutOK.gateN (fun hg => ?_) (fun hg => ?_) | refine IfG.g (fun hg => ?_) (fun hg => ?_) | refine OutOK.gate (fun hg => ?_) (fun hg => ?_)) <;> (try (have hg' := hg; simp at hg'))) | refine OutOK.run (by simp [*]; rfl) ?_ | refine AW.ret ?_ | refine AW.skip ?_ | refine AW.exit ?_ | refine fin_r ?_ | refine fin_n ?_ | refine AW.block ?_ | refine blockQ_n ?_ | refine blockQ_r ?_ | refine blockQ_e ?_ | refine blockQ_o rfl ?_)
    simp [Try.f93]
theorem c_slices_Clone_edt (l : List Edt) (h : l.length ≤ 1000) : ACall Try.prog 126 [.v (.sl true 5 (edts true l))] [.x] [.v (.sl false 5 (edts true l))] := by
  have h1 : (l.length : Int) * 72 ≤ 140737488355328 := by omega
  have h2 : (l.length : Int) ≤ 4611686018427387904 := by omega
  have h3 : l.length * 72 ≤ 140737488355328 := by omega
  have h4 : l.length ≤ 4611686018427387904 := by omega
  refine ACall.of (N := 8) tok Try.func126 rfl rfl rfl (by simp) ?_
  repeat' (first | with_reducible refine OutOK.done ?_ | refine thenQ_n ?_ | refine thenQ_r ?_ | refine thenQ_e ?_ | refine AW.seq ?_ | (refine AW.isNil tok rfl rfl rfl (by simp [*]; rfl) (by simp [*]; done) (by decide) ?_; intro hb hc; cases hb <;> simp at hc) | refine AW.reg tok (by simp [*]; rfl) ?_ | refine AW.ifB (by simp [*]; rfl) ?_ | refine IfG.t ?_ | refine IfG.f ?_ | ((first | refine IfG.p (fun hg => ?_) (fun hg => ?_) | refine IfG.n (fun hg => ?_) (fun hg => ?_) | refine OutOK.gateP (fun hg => ?_) (fun hg => ?_) | refine OutOK.gateN (fun hg => ?_) (fun hg => ?_) | refine IfG.g (fun hg => ?_) (fun hg => ?_) | refine OutOK.gate (fun hg => ?_) (fun hg => ?_)) <;> (try (have hg' := hg; simp at hg'))) | refine OutOK.run (by simp [*]; rfl) ?_ | refine AW.ret ?_ | refine AW.skip ?_ | refine AW.exit ?_ | refine fin_r ?_ | refine fin_n ?_ | refine AW.block ?_ | refine blockQ_n ?_ | refine blockQ_r ?_ | refine blockQ_e ?_ | refine blockQ_o rfl ?_)
  all_goals (try simp [*, Try.f126])
def mixE (l : List Edt) (i : Nat) : List PV := edts false (l.take i) ++ edts true (l.drop i)
theorem mixE_len (l : List Edt) (i : Nat) (h : i ≤ l.length) : (mixE l i).length = l.length := by simp [mixE]; omega
theorem mixE_at (l : List Edt) (i : Nat) (h : i < l.length) : (mixE l i)[i]? = some (.ag (edtC true l[i])) := by
  rw [mixE, List.getElem?_append_right (by simp; omega)]
  simp
  rw [show i - min i l.length = 0 by omega]
  simp [h]
theorem mixE_set (l : List Edt) (i : Nat) (h : i < l.length) : (mixE l i).set i (.ag (edtC false l[i])) = mixE l (i + 1) := by
  have hl : (edts false (l.take i)).length = i := by simp; omega
  have e1 : edts true (l.drop i) = .ag (edtC true l[i]) :: edts true (l.drop (i + 1)) := by
    have := List.drop_eq_getElem_cons h
    rw [this]; rfl
  have e2 : edts false (l.take (i + 1)) = edts false (l.take i) ++ [.ag (edtC false l[i])] := by
    have := List.take_succ_eq_append_getElem h
    rw [this, edts, els, List.map_append]; rfl
  rw [mixE, List.set_append_right _ _ (by omega), hl, Nat.sub_self, e1, List.set_cons_zero, mixE, e2, List.append_assoc]
  rfl
theorem c_impl_copyEdits (l : List Edt) (h : l.length ≤ 1000) (hck : ∀ e ∈ l, e.ck.length ≤ 1048576) : ACall Try.prog 95 [.v (.sl true 5 (edts true l))] [.x] [.v (.sl false 5 (edts false l))] := by
  have cc := c_slices_Clone_edt l h
  have hck' : Hd _ := hck
  have hm0 : Hd (mixE l 0 = edts true l) := by simp [Hd, mixE]
  have hml : Hd (mixE l l.length = edts false l) := by simp [Hd, mixE]
  clear hck
  refine ACall.of (N := 24) tok Try.func95 rfl rfl rfl (by simp) ?_
  repeat' (first | with_reducible refine OutOK.done ?_ | refine thenQ_n ?_ | refine thenQ_r ?_ | refine thenQ_e ?_ | refine AW.seq ?_ | refine AW.reg tok (by simp [*]; rfl) ?_ | refine AW.ifB (by simp [*]; rfl) ?_ | refine IfG.t ?_ | refine IfG.f ?_ | ((first | refine IfG.p (fun hg => ?_) (fun hg => ?_) | refine IfG.n (fun hg => ?_) (fun hg => ?_) | refine OutOK.gateP (fun hg => ?_) (fun hg => ?_) | refine OutOK.gateN (fun hg => ?_) (fun hg => ?_) | refine IfG.g (fun hg => ?_) (fun hg => ?_) | refine OutOK.gate (fun hg => ?_) (fun hg => ?_)) <;> (try (have hg' := hg; simp at hg'))) | (refine OutOK.callF [] (by simp [*]; rfl) (by simp [*]; rfl) (by simp [*]; rfl) hb126 (by apply cc <;> first | assumption | exact Hd.out (by assumption) | ((try clear e1); omega)) ⟨by simp [*], by simp [*], by simp [*], by simp [*], by simp [*]⟩ (by simp [*]) (by simp [*]; rfl) ?_) | refine OutOK.run (by simp [*]; rfl) ?_ | refine AW.ret ?_ | refine AW.skip ?_ | refine AW.exit ?_ | refine fin_r ?_ | refine fin_n ?_ | refine AW.block ?_ | refine blockQ_n ?_ | refine blockQ_r ?_ | refine blockQ_e ?_ | refine blockQ_o rfl ?_)
  refine AW.loopL (α := Nat) (fun i => i ≤ l.length) (fun i => [(3, .rf 6000 []), (8, .c (.sc (.int .i64 (l.length : Int)))), (9, .c (.sc (.int .i64 (i : Int))))]) (fun i => [(6000, .sv (.sl false 5 (mixE l i)))]) (fun i => l.length - i) 0 (Nat.zero_le _) ⟨by simp, by simp [hm0.out], by simp⟩ ?_
  intro i hi
  rcases Nat.lt_or_ge i l.length with hl | hl
  · have e1 : wrap64 ((i : Int) + 1) = ((i + 1 : Nat) : Int) := by rw [w64 (by omega) (by omega)]; omega
    have ci := c_slices_Clone_int_int l[i].ck (hck'.out _ (List.getElem_mem hl))
    have hM := mixE_len l i hi
    have hat := mixE_at l i hl
    have hst : Hd ((mixE l i).set i (.ag (edtC false l[i])) = mixE l (i + 1)) := mixE_set l i hl
    generalize mixE l i = M at *
    have hiM : i < M.length := by omega
    simp only [edtC_eq] at hat
    have hat2 : M[i] = .ag [.sc (.int .i64 l[i].tm), .sc (.int .i64 l[i].ct), .sl true 1 (ints l[i].ck), .sc (.string l[i].it), .sc (.string l[i].tx)] := by rw [List.getElem?_eq_getElem hiM] at hat; simpa using hat
    repeat' (first | with_reducible refine OutOK.done ?_ | refine thenQ_n ?_ | refine thenQ_r ?_ | refine thenQ_e ?_ | refine AW.seq ?_ | refine AW.reg tok (by simp [*]; rfl) ?_ | refine AW.ifB (by simp [*]; rfl) ?_ | refine IfG.t ?_ | refine IfG.f ?_ | ((first | refine IfG.p (fun hg => ?_) (fun hg => ?_) | refine IfG.n (fun hg => ?_) (fun hg => ?_) | refine OutOK.gateP (fun hg => ?_) (fun hg => ?_) | refine OutOK.gateN (fun hg => ?_) (fun hg => ?_) | refine IfG.g (fun hg => ?_) (fun hg => ?_) | refine OutOK.gate (fun hg => ?_) (fun hg => ?_)) <;> (try (have hg' := hg; simp at hg'))) | (refine OutOK.callF [] (by simp [*]; rfl) (by simp [*]; rfl) (by simp [*]; rfl) hb127 (by apply ci <;> first | assumption | exact Hd.out (by assumption) | ((try clear e1); omega)) ⟨by simp [*], by simp [*], by simp [*], by simp [*], by simp [*]⟩ (by simp [*]) (by simp [*]; rfl) ?_) | refine OutOK.run (by simp [*]; rfl) ?_ | refine AW.ret ?_ | refine AW.skip ?_ | refine AW.exit ?_ | refine fin_r ?_ | refine fin_n ?_ | refine AW.block ?_ | refine blockQ_n ?_ | refine blockQ_r ?_ | refine blockQ_e ?_ | refine blockQ_o rfl ?_)
    exact ⟨i + 1, hl, ⟨by simp, by simp [← hst.out], by simp⟩, by ((try clear e1); omega)⟩
  · have hii : i = l.length := by omega
    subst hii
    rw [hml.out]
    repeat' (first | with_reducible refine OutOK.done ?_ | refine thenQ_n ?_ | refine thenQ_r ?_ | refine thenQ_e ?_ | refine AW.seq ?_ | refine AW.reg tok (by simp [*]; rfl) ?_ | refine AW.ifB (by simp [*]; rfl) ?_ | refine IfG.t ?_ | refine IfG.f ?_ | ((first | refine IfG.p (fun hg => ?_) (fun hg => ?_) | refine IfG.n (fun hg => ?_) (fun hg => ?_) | refine OutOK.gateP (fun hg => ?_) (fun hg => ?_) | refine OutOK.gateN (fun hg => ?_) (fun hg => ?_) | refine IfG.g (fun hg => ?_) (fun hg => ?_) | refine OutOK.gate (fun hg => ?_) (fun hg => ?_)) <;> (try (have hg' := hg; simp at hg'))) | refine OutOK.run (by simp [*]; rfl) ?_ | refine AW.ret ?_ | refine AW.skip ?_ | refine AW.exit ?_ | refine fin_r ?_ | refine fin_n ?_ | refine AW.block ?_ | refine blockQ_n ?_ | refine blockQ_r ?_ | refine blockQ_e ?_ | refine blockQ_o rfl ?_)
    simp [Try.f95]
end Go.Proofs.Ytbofobjofngoeaa.EngS


set_option linter.unusedSimpArgs false
set_option linter.unusedVariables false
set_option maxHeartbeats 4000000
set_option maxRecDepth 100000
namespace Go.Proofs.Ytbofobjofngoeaa.EngS
open Go Go.Proofs Go.Eng Go.RowKit
attribute [local irreducible] Go.RowKit.wrap64
attribute [local simp] optO sliceV
abbrev edtU (e : Edt) (u : Value) : D := .g [.sc (.int .i64 e.tm), .sc (.int .i64 e.ct), .sc u, .sc (.string e.it), .sc (.string e.tx)]
theorem c_impl_compareEdits_u (a : Edt) (u : Value) (hu : u.oneCell' = true) (b : Edt) : ACall Try.prog 76 [edtU a u, edtD b] [.x, .x] [int (cmpE a b)] := by
  refine ACall.of (N := 17) tok Try.func76 rfl rfl rfl (by simp) ?_
  repeat' (first | with_reducible refine OutOK.done ?_ | refine thenQ_n ?_ | refine thenQ_r ?_ | refine thenQ_e ?_ | refine AW.seq ?_ | refine AW.dreg tok mixed [3, 4, 6, 8]  [(0, false), (2, false), (5, false), (7, false), (1, false), (3, true), (6, true), (8, true), (4, true), (9, false), (10, false), (11, false), (12, false)] (by decide +kernel) rfl (by simp [*]; rfl) ?_ | refine AW.reg tok (by simp [*]; rfl) ?_ | refine AW.ifB (by simp [*]; rfl) ?_ | refine IfG.t ?_ | refine IfG.f ?_ | ((first | refine IfG.p (fun hg => ?_) (fun hg => ?_) | refine IfG.n (fun hg => ?_) (fun hg => ?_) | refine OutOK.gateP (fun hg => ?_) (fun hg => ?_) | refine OutOK.gateN (fun hg => ?_) (fun hg => ?_) | refine IfG.g (fun hg => ?_) (fun hg => ?_) | refine OutOK.gate (fun hg => ?_) (fun hg => ?_)) <;> (try (have hg' := hg; simp at hg'))) | (refine OutOK.callF [] (by simp [*]; rfl) (by simp [*]; rfl) (by simp [*]; rfl) hb119 (by apply c_cmp_Or_int <;> first | assumption | exact Hd.out (by assumption) | omega) ⟨by simp [*], by simp [*], by simp [*], by simp [*], by simp [*]⟩ (by simp [*]) (by simp [*]; rfl) ?_) | (refine OutOK.callF [] (by simp [*]; rfl) (by simp [*]; rfl) (by simp [*]; rfl) hb120 (by apply c_cmp_Compare_int <;> first | assumption | exact Hd.out (by assumption) | omega) ⟨by simp [*], by simp [*], by simp [*], by simp [*], by simp [*]⟩ (by simp [*]) (by simp [*]; rfl) ?_) | refine OutOK.run (by simp [*]; rfl) ?_ | refine AW.ret ?_ | refine AW.skip ?_ | refine AW.exit ?_ | refine fin_r ?_ | refine fin_n ?_ | refine AW.block ?_ | refine blockQ_n ?_ | refine blockQ_r ?_ | refine blockQ_e ?_ | refine blockQ_o rfl ?_)
  simp [Try.f76, cmpE]
theorem c_impl_Precedes_u (a : Edt) (u : Value) (hu : u.oneCell' = true) (b : Edt) (h : b.ck.length ≤ 4611686018427387904) : ACall Try.prog 40 [edtU a u, edtD b] [.x, .x] [boo (precE a b)] := by
  have e1 : wrap64 ((b.ck.length : Int) - 1) = (b.ck.length : Int) - 1 := w64 (by omega) (by omega)
  have cc := c_impl_compareEdits_u a u hu b
  by_cases hz : a.tm = b.tm ∧ a.ct = b.ct
  · rw [cmpE_zero.2 hz] at cc
    have hp : precE a b = false := by simp [precE, hz]
    clear hz
    refine ACall.of (N := 29) tok Try.func40 rfl rfl rfl (by simp) ?_
    repeat' (first | with_reducible refine OutOK.done ?_ | refine thenQ_n ?_ | refine thenQ_r ?_ | refine thenQ_e ?_ | refine AW.seq ?_ | refine AW.dreg tok mixed [1, 8, 9, 10, 17, 21]  [(0, false), (1, true), (2, false), (3, false), (4, false), (5, false), (7, false), (6, false), (8, true), (9, true), (10, true), (11, false), (12, false), (13, false), (14, false), (16, false), (20, false), (15, false), (17, true), (18, false), (19, false), (21, true), (22, false), (23, false), (24, false)] (by decide +kernel) rfl (by simp [*]; rfl) ?_ | refine AW.reg tok (by simp [*]; rfl) ?_ | refine AW.ifB (by simp [*]; rfl) ?_ | refine IfG.t ?_ | refine IfG.f ?_ | ((first | refine IfG.p (fun hg => ?_) (fun hg => ?_) | refine IfG.n (fun hg => ?_) (fun hg => ?_) | refine OutOK.gateP (fun hg => ?_) (fun hg => ?_) | refine OutOK.gateN (fun hg => ?_) (fun hg => ?_) | refine IfG.g (fun hg => ?_) (fun hg => ?_) | refine OutOK.gate (fun hg => ?_) (fun hg => ?_)) <;> (try (have hg' := hg; simp at hg'))) | (refine OutOK.callF [] (by simp [*]; rfl) (by simp [*]; rfl) (by simp [*]; rfl) hb76 (by apply cc <;> first | assumption | exact Hd.out (by assumption) | ((try clear e1); omega)) ⟨by simp [*], by simp [*], by simp [*], by simp [*], by simp [*]⟩ (by simp [*]) (by simp [*]; rfl) ?_) | (refine OutOK.callF [] (by simp [*]; rfl) (by simp [*]; rfl) (by simp [*]; rfl) hb59 (by apply c_impl_within <;> first | assumption | exact Hd.out (by assumption) | ((try clear e1); omega)) ⟨by simp [*], by simp [*], by simp [*], by simp [*], by simp [*]⟩ (by simp [*]) (by simp [*]; rfl) ?_) | refine OutOK.run (by simp [*]; rfl) ?_ | refine AW.ret ?_ | refine AW.skip ?_ | refine AW.exit ?_ | refine fin_r ?_ | refine fin_n ?_ | refine AW.block ?_ | refine blockQ_n ?_ | refine blockQ_r ?_ | refine blockQ_e ?_ | refine blockQ_o rfl ?_)
    simp [Try.f40, hp]
  have hcz : ¬ cmpE a b = 0 := fun e => hz (cmpE_zero.1 e)
  generalize cmpE a b = z at *
  have hk : Hd ((!(decide (a.tm = b.tm) && decide (a.ct = b.ct))) = true) := by simp only [Hd, Bool.not_eq_true', Bool.and_eq_false_iff, decide_eq_false_iff_not]; omega
  clear hz
  cases hR : inR 0 ((b.ck.length : Int) - 1) a.tm with
  | false =>
    have hp : precE a b = false := by simp [precE, hR]
    refine ACall.of (N := 29) tok Try.func40 rfl rfl rfl (by simp) ?_
    repeat' (first | with_reducible refine OutOK.done ?_ | refine thenQ_n ?_ | refine thenQ_r ?_ | refine thenQ_e ?_ | refine AW.seq ?_ | refine AW.dreg tok mixed [1, 8, 9, 10, 17, 21]  [(0, false), (1, true), (2, false), (3, false), (4, false), (5, false), (7, false), (6, false), (8, true), (9, true), (10, true), (11, false), (12, false), (13, false), (14, false), (16, false), (20, false), (15, false), (17, true), (18, false), (19, false), (21, true), (22, false), (23, false), (24, false)] (by decide +kernel) rfl (by simp [*]; rfl) ?_ | refine AW.reg tok (by simp [*]; rfl) ?_ | refine AW.ifB (by simp [*]; rfl) ?_ | refine IfG.t ?_ | refine IfG.f ?_ | ((first | refine IfG.p (fun hg => ?_) (fun hg => ?_) | refine IfG.n (fun hg => ?_) (fun hg => ?_) | refine OutOK.gateP (fun hg => ?_) (fun hg => ?_) | refine OutOK.gateN (fun hg => ?_) (fun hg => ?_) | refine IfG.g (fun hg => ?_) (fun hg => ?_) | refine OutOK.gate (fun hg => ?_) (fun hg => ?_)) <;> (try (have hg' := hg; simp at hg'))) | (refine OutOK.callF [] (by simp [*]; rfl) (by simp [*]; rfl) (by simp [*]; rfl) hb76 (by apply cc <;> first | assumption | exact Hd.out (by assumption) | ((try clear e1); omega)) ⟨by simp [*], by simp [*], by simp [*], by simp [*], by simp [*]⟩ (by simp [*]) (by simp [*]; rfl) ?_) | (refine OutOK.callF [] (by simp [*]; rfl) (by simp [*]; rfl) (by simp [*]; rfl) hb59 (by apply c_impl_within <;> first | assumption | exact Hd.out (by assumption) | ((try clear e1); omega)) ⟨by simp [*], by simp [*], by simp [*], by simp [*], by simp [*]⟩ (by simp [*]) (by simp [*]; rfl) ?_) | refine OutOK.run (by simp [*]; rfl) ?_ | refine AW.ret ?_ | refine AW.skip ?_ | refine AW.exit ?_ | refine fin_r ?_ | refine fin_n ?_ | refine AW.block ?_ | refine blockQ_n ?_ | refine blockQ_r ?_ | refine blockQ_e ?_ | refine blockQ_o rfl ?_)
    all_goals simp [Try.f40, hp]
  | true =>
    obtain ⟨r1, r2⟩ := inR_iff.1 hR
    obtain ⟨n, hn⟩ : ∃ n : Nat, a.tm = (n : Int) := ⟨a.tm.toNat, by omega⟩
    have hnl : n < b.ck.length := by omega
    rw [hn] at hR
    have hp : Hd (precE a b = decide (a.ct ≤ b.ck[n])) := by rw [Hd, precE, hk.out, hn, hR]; simp [ckAt, hnl]
    clear r1 r2
    obtain ⟨tm, ct, ck, it, tx⟩ := a
    simp only at hn cc hp hR
    subst hn
    refine ACall.of (N := 29) tok Try.func40 rfl rfl rfl (by simp) ?_
    repeat' (first | with_reducible refine OutOK.done ?_ | refine thenQ_n ?_ | refine thenQ_r ?_ | refine thenQ_e ?_ | refine AW.seq ?_ | refine AW.dreg tok mixed [1, 8, 9, 10, 17, 21]  [(0, false), (1, true), (2, false), (3, false), (4, false), (5, false), (7, false), (6, false), (8, true), (9, true), (10, true), (11, false), (12, false), (13, false), (14, false), (16, false), (20, false), (15, false), (17, true), (18, false), (19, false), (21, true), (22, false), (23, false), (24, false)] (by decide +kernel) rfl (by simp [*]; rfl) ?_ | refine AW.reg tok (by simp [*]; rfl) ?_ | refine AW.ifB (by simp [*]; rfl) ?_ | refine IfG.t ?_ | refine IfG.f ?_ | ((first | refine IfG.p (fun hg => ?_) (fun hg => ?_) | refine IfG.n (fun hg => ?_) (fun hg => ?_) | refine OutOK.gateP (fun hg => ?_) (fun hg => ?_) | refine OutOK.gateN (fun hg => ?_) (fun hg => ?_) | refine IfG.g (fun hg => ?_) (fun hg => ?_) | refine OutOK.gate (fun hg => ?_) (fun hg => ?_)) <;> (try (have hg' := hg; simp at hg'))) | (refine OutOK.callF [] (by simp [*]; rfl) (by simp [*]; rfl) (by simp [*]; rfl) hb76 (by apply cc <;> first | assumption | exact Hd.out (by assumption) | ((try clear e1); omega)) ⟨by simp [*], by simp [*], by simp [*], by simp [*], by simp [*]⟩ (by simp [*]) (by simp [*]; rfl) ?_) | (refine OutOK.callF [] (by simp [*]; rfl) (by simp [*]; rfl) (by simp [*]; rfl) hb59 (by apply c_impl_within <;> first | assumption | exact Hd.out (by assumption) | ((try clear e1); omega)) ⟨by simp [*], by simp [*], by simp [*], by simp [*], by simp [*]⟩ (by simp [*]) (by simp [*]; rfl) ?_) | refine OutOK.run (by simp [*]; rfl) ?_ | refine AW.ret ?_ | refine AW.skip ?_ | refine AW.exit ?_ | refine fin_r ?_ | refine fin_n ?_ | refine AW.block ?_ | refine blockQ_n ?_ | refine blockQ_r ?_ | refine blockQ_e ?_ | refine blockQ_o rfl ?_)
    all_goals simp [Try.f40, hp.out]
def knP (z x : Edt) : Bool := !(precE x z) && !(decide (cmpE x z = 0))
theorem c_impl_KnownBy_1 (l : List Edt) (L : Nat) (hL : L < l.length) (x : Edt) (hck : l[L].ck.length ≤ 3) : ACall Try.prog 96 [edtO x, .p [.sl true 5 (edts true l)], .p [.sc (.int .i64 (L : Int))]] [edtO x, .p [.sl true 5 (edts true l)], .p [.sc (.int .i64 (L : Int))]] [boo (knP l[L] x)] := by
  have hkn : Hd (knP l[L] x = (!(precE x l[L]) && !(decide (cmpE x l[L] = 0)))) := rfl
  have cpu := fun u hu => c_impl_Precedes_u x u hu l[L] (by omega)
  have ccu := fun u hu => c_impl_compareEdits_u x u hu l[L]
  generalize knP l[L] x = K at *
  generalize precE x l[L] = pe at *
  generalize cmpE x l[L] = z at *
  have cpu' : Hd _ := cpu
  have ccu' : Hd _ := ccu
  clear cpu ccu
  cases pe with
  | true =>
    have hk2 : K = false := by rw [hkn.out]; rfl
    subst hk2
    clear hkn
    refine ACall.of (N := 21) tok Try.func96 rfl rfl rfl (by simp) ?_
    refine AW.name 0 9999 100000003 (kk := 1) (es := ints x.ck) (by simp) (by simp; rfl) (fun u hu => ?_)
    have cp := cpu'.out u hu
    have cc := ccu'.out u hu
    repeat' (first | with_reducible refine AW.stopT ?_ | with_reducible refine OutOK.done ?_ | refine thenQ_n ?_ | refine thenQ_r ?_ | refine thenQ_e ?_ | refine AW.seq ?_ | refine AW.dreg tok mixed [1, 2, 3, 4, 9, 10, 11, 12]  [(0, false), (1, true), (2, true), (3, true), (4, true), (5, false), (6, false), (7, false), (8, false), (9, true), (10, true), (11, true), (12, true), (13, false), (14, false), (15, false), (16, false)] (by decide +kernel) rfl (by simp [*]; rfl) ?_ | refine AW.reg tok (by simp [*]; rfl) ?_ | refine AW.ifB (by simp [*]; rfl) ?_ | refine IfG.t ?_ | refine IfG.f ?_ | ((first | refine IfG.p (fun hg => ?_) (fun hg => ?_) | refine IfG.n (fun hg => ?_) (fun hg => ?_) | refine OutOK.gateP (fun hg => ?_) (fun hg => ?_) | refine OutOK.gateN (fun hg => ?_) (fun hg => ?_) | refine IfG.g (fun hg => ?_) (fun hg => ?_) | refine OutOK.gate (fun hg => ?_) (fun hg => ?_)) <;> (try (have hg' := hg; simp at hg'))) | (refine OutOK.callF [] (by simp [*]; rfl) (by simp [*]; rfl) (by simp [*]; rfl) hb40 (by apply cp <;> first | assumption | exact Hd.out (by assumption) | omega) ⟨by simp [*], by simp [*], by simp [*], by simp [*], by simp [*]⟩ (by simp [*]) (by simp [*]; rfl) ?_) | (refine OutOK.callF [] (by simp [*]; rfl) (by simp [*]; rfl) (by simp [*]; rfl) hb76 (by apply cc <;> first | assumption | exact Hd.out (by assumption) | omega) ⟨by simp [*], by simp [*], by simp [*], by simp [*], by simp [*]⟩ (by simp [*]) (by simp [*]; rfl) ?_) | refine OutOK.run (by simp [*]; rfl) ?_ | refine AW.ret ?_ | refine AW.skip ?_ | refine AW.exit ?_ | refine fin_r ?_ | refine fin_n ?_ | refine AW.block ?_ | refine blockQ_n ?_ | refine blockQ_r ?_ | refine blockQ_e ?_ | refine blockQ_o rfl ?_)
    refine ⟨AW.knownG 9999 0 2 (n := 100000003) (p := []) (u := u) (by simp) (by simp; rfl) (by simp) (by simp; rfl) ?_⟩
    repeat' (first | with_reducible refine OutOK.done ?_ | refine thenQ_n ?_ | refine thenQ_r ?_ | refine thenQ_e ?_ | refine AW.seq ?_ | refine AW.dreg tok mixed [1, 2, 3, 4, 9, 10, 11, 12]  [(0, false), (1, true), (2, true), (3, true), (4, true), (5, false), (6, false), (7, false), (8, false), (9, true), (10, true), (11, true), (12, true), (13, false), (14, false), (15, false), (16, false)] (by decide +kernel) rfl (by simp [*]; rfl) ?_ | refine AW.reg tok (by simp [*]; rfl) ?_ | refine AW.ifB (by simp [*]; rfl) ?_ | refine IfG.t ?_ | refine IfG.f ?_ | ((first | refine IfG.p (fun hg => ?_) (fun hg => ?_) | refine IfG.n (fun hg => ?_) (fun hg => ?_) | refine OutOK.gateP (fun hg => ?_) (fun hg => ?_) | refine OutOK.gateN (fun hg => ?_) (fun hg => ?_) | refine IfG.g (fun hg => ?_) (fun hg => ?_) | refine OutOK.gate (fun hg => ?_) (fun hg => ?_)) <;> (try (have hg' := hg; simp at hg'))) | refine OutOK.run (by simp [*]; rfl) ?_ | refine AW.ret ?_ | refine AW.skip ?_ | refine AW.exit ?_ | refine fin_r ?_ | refine fin_n ?_ | refine AW.block ?_ | refine blockQ_n ?_ | refine blockQ_r ?_ | refine blockQ_e ?_ | refine blockQ_o rfl ?_)
    simp [Try.f96]
  | false =>
    by_cases hz : z = 0
    · have hk2 : K = false := by rw [hkn.out, hz]; rfl
      subst hk2
      subst hz
      clear hkn
      refine ACall.of (N := 21) tok Try.func96 rfl rfl rfl (by simp) ?_
      refine AW.name 0 9999 100000003 (kk := 1) (es := ints x.ck) (by simp) (by simp; rfl) (fun u hu => ?_)
      have cp := cpu'.out u hu
      have cc := ccu'.out u hu
      repeat' (first | with_reducible refine AW.stopT ?_ | with_reducible refine OutOK.done ?_ | refine thenQ_n ?_ | refine thenQ_r ?_ | refine thenQ_e ?_ | refine AW.seq ?_ | refine AW.dreg tok mixed [1, 2, 3, 4, 9, 10, 11, 12]  [(0, false), (1, true), (2, true), (3, true), (4, true), (5, false), (6, false), (7, false), (8, false), (9, true), (10, true), (11, true), (12, true), (13, false), (14, false), (15, false), (16, false)] (by decide +kernel) rfl (by simp [*]; rfl) ?_ | refine AW.reg tok (by simp [*]; rfl) ?_ | refine AW.ifB (by simp [*]; rfl) ?_ | refine IfG.t ?_ | refine IfG.f ?_ | ((first | refine IfG.p (fun hg => ?_) (fun hg => ?_) | refine IfG.n (fun hg => ?_) (fun hg => ?_) | refine OutOK.gateP (fun hg => ?_) (fun hg => ?_) | refine OutOK.gateN (fun hg => ?_) (fun hg => ?_) | refine IfG.g (fun hg => ?_) (fun hg => ?_) | refine OutOK.gate (fun hg => ?_) (fun hg => ?_)) <;> (try (have hg' := hg; simp at hg'))) | (refine OutOK.callF [] (by simp [*]; rfl) (by simp [*]; rfl) (by simp [*]; rfl) hb40 (by apply cp <;> first | assumption | exact Hd.out (by assumption) | omega) ⟨by simp [*], by simp [*], by simp [*], by simp [*], by simp [*]⟩ (by simp [*]) (by simp [*]; rfl) ?_) | (refine OutOK.callF [] (by simp [*]; rfl) (by simp [*]; rfl) (by simp [*]; rfl) hb76 (by apply cc <;> first | assumption | exact Hd.out (by assumption) | omega) ⟨by simp [*], by simp [*], by simp [*], by simp [*], by simp [*]⟩ (by simp [*]) (by simp [*]; rfl) ?_) | refine OutOK.run (by simp [*]; rfl) ?_ | refine AW.ret ?_ | refine AW.skip ?_ | refine AW.exit ?_ | refine fin_r ?_ | refine fin_n ?_ | refine AW.block ?_ | refine blockQ_n ?_ | refine blockQ_r ?_ | refine blockQ_e ?_ | refine blockQ_o rfl ?_)
      refine ⟨AW.knownG 9999 0 2 (n := 100000003) (p := []) (u := u) (by simp) (by simp; rfl) (by simp) (by simp; rfl) ?_⟩
      repeat' (first | with_reducible refine OutOK.done ?_ | refine thenQ_n ?_ | refine thenQ_r ?_ | refine thenQ_e ?_ | refine AW.seq ?_ | refine AW.dreg tok mixed [1, 2, 3, 4, 9, 10, 11, 12]  [(0, false), (1, true), (2, true), (3, true), (4, true), (5, false), (6, false), (7, false), (8, false), (9, true), (10, true), (11, true), (12, true), (13, false), (14, false), (15, false), (16, false)] (by decide +kernel) rfl (by simp [*]; rfl) ?_ | refine AW.reg tok (by simp [*]; rfl) ?_ | refine AW.ifB (by simp [*]; rfl) ?_ | refine IfG.t ?_ | refine IfG.f ?_ | ((first | refine IfG.p (fun hg => ?_) (fun hg => ?_) | refine IfG.n (fun hg => ?_) (fun hg => ?_) | refine OutOK.gateP (fun hg => ?_) (fun hg => ?_) | refine OutOK.gateN (fun hg => ?_) (fun hg => ?_) | refine IfG.g (fun hg => ?_) (fun hg => ?_) | refine OutOK.gate (fun hg => ?_) (fun hg => ?_)) <;> (try (have hg' := hg; simp at hg'))) | refine OutOK.run (by simp [*]; rfl) ?_ | refine AW.ret ?_ | refine AW.skip ?_ | refine AW.exit ?_ | refine fin_r ?_ | refine fin_n ?_ | refine AW.block ?_ | refine blockQ_n ?_ | refine blockQ_r ?_ | refine blockQ_e ?_ | refine blockQ_o rfl ?_)
      simp [Try.f96]
    · have hk2 : K = true := by rw [hkn.out]; simp [hz]
      subst hk2
      clear hkn
      refine ACall.of (N := 21) tok Try.func96 rfl rfl rfl (by simp) ?_
      refine AW.name 0 9999 100000003 (kk := 1) (es := ints x.ck) (by simp) (by simp; rfl) (fun u hu => ?_)
      have cp := cpu'.out u hu
      have cc := ccu'.out u hu
      repeat' (first | with_reducible refine AW.stopT ?_ | with_reducible refine OutOK.done ?_ | refine thenQ_n ?_ | refine thenQ_r ?_ | refine thenQ_e ?_ | refine AW.seq ?_ | refine AW.dreg tok mixed [1, 2, 3, 4, 9, 10, 11, 12]  [(0, false), (1, true), (2, true), (3, true), (4, true), (5, false), (6, false), (7, false), (8, false), (9, true), (10, true), (11, true), (12, true), (13, false), (14, false), (15, false), (16, false)] (by decide +kernel) rfl (by simp [*]; rfl) ?_ | refine AW.reg tok (by simp [*]; rfl) ?_ | refine AW.ifB (by simp [*]; rfl) ?_ | refine IfG.t ?_ | refine IfG.f ?_ | ((first | refine IfG.p (fun hg => ?_) (fun hg => ?_) | refine IfG.n (fun hg => ?_) (fun hg => ?_) | refine OutOK.gateP (fun hg => ?_) (fun hg => ?_) | refine OutOK.gateN (fun hg => ?_) (fun hg => ?_) | refine IfG.g (fun hg => ?_) (fun hg => ?_) | refine OutOK.gate (fun hg => ?_) (fun hg => ?_)) <;> (try (have hg' := hg; simp at hg'))) | (refine OutOK.callF [] (by simp [*]; rfl) (by simp [*]; rfl) (by simp [*]; rfl) hb40 (by apply cp <;> first | assumption | exact Hd.out (by assumption) | omega) ⟨by simp [*], by simp [*], by simp [*], by simp [*], by simp [*]⟩ (by simp [*]) (by simp [*]; rfl) ?_) | (refine OutOK.callF [] (by simp [*]; rfl) (by simp [*]; rfl) (by simp [*]; rfl) hb76 (by apply cc <;> first | assumption | exact Hd.out (by assumption) | omega) ⟨by simp [*], by simp [*], by simp [*], by simp [*], by simp [*]⟩ (by simp [*]) (by simp [*]; rfl) ?_) | refine OutOK.run (by simp [*]; rfl) ?_ | refine AW.ret ?_ | refine AW.skip ?_ | refine AW.exit ?_ | refine fin_r ?_ | refine fin_n ?_ | refine AW.block ?_ | refine blockQ_n ?_ | refine blockQ_r ?_ | refine blockQ_e ?_ | refine blockQ_o rfl ?_)
      refine ⟨AW.knownG 9999 0 2 (n := 100000003) (p := []) (u := u) (by simp) (by simp; rfl) (by simp) (by simp; rfl) ?_⟩
      repeat' (first | with_reducible refine OutOK.done ?_ | refine thenQ_n ?_ | refine thenQ_r ?_ | refine thenQ_e ?_ | refine AW.seq ?_ | refine AW.dreg tok mixed [1, 2, 3, 4, 9, 10, 11, 12]  [(0, false), (1, true), (2, true), (3, true), (4, true), (5, false), (6, false), (7, false), (8, false), (9, true), (10, true), (11, true), (12, true), (13, false), (14, false), (15, false), (16, false)] (by decide +kernel) rfl (by simp [*]; rfl) ?_ | refine AW.reg tok (by simp [*]; rfl) ?_ | refine AW.ifB (by simp [*]; rfl) ?_ | refine IfG.t ?_ | refine IfG.f ?_ | ((first | refine IfG.p (fun hg => ?_) (fun hg => ?_) | refine IfG.n (fun hg => ?_) (fun hg => ?_) | refine OutOK.gateP (fun hg => ?_) (fun hg => ?_) | refine OutOK.gateN (fun hg => ?_) (fun hg => ?_) | refine IfG.g (fun hg => ?_) (fun hg => ?_) | refine OutOK.gate (fun hg => ?_) (fun hg => ?_)) <;> (try (have hg' := hg; simp at hg'))) | refine OutOK.run (by simp [*]; rfl) ?_ | refine AW.ret ?_ | refine AW.skip ?_ | refine AW.exit ?_ | refine fin_r ?_ | refine fin_n ?_ | refine AW.block ?_ | refine blockQ_n ?_ | refine blockQ_r ?_ | refine blockQ_e ?_ | refine blockQ_o rfl ?_)
      simp [Try.f96]
theorem c_IndexFunc_own (l : List Edt) (f : Nat) (C1 C2 : List PV) (p : Edt → Bool) (h : l.length ≤ 9223372036854775806) (hbf : HasBody Try.prog f) (cf : ∀ x ∈ l, ACall Try.prog f [edtO x, .p C1, .p C2] [edtO x, .p C1, .p C2] [boo (p x)]) :
    ACall Try.prog 124 [.v (.sl false 5 (edts false l)), .f f [C1, C2]] [.v (.sl false 5 (edts false l)), .f f [C1, C2]] [int (idx p l)] := by
  replace cf : Hd _ := cf
  refine ACall.of (N := 19) tok Try.func124 rfl rfl rfl (by simp) ?_
  repeat' (first | with_reducible refine OutOK.done ?_ | refine thenQ_n ?_ | refine thenQ_r ?_ | refine thenQ_e ?_ | refine AW.seq ?_ | refine AW.reg tok (by simp [*]; rfl) ?_ | refine AW.ifB (by simp [*]; rfl) ?_ | refine IfG.t ?_ | refine IfG.f ?_ | ((first | refine IfG.p (fun hg => ?_) (fun hg => ?_) | refine IfG.n (fun hg => ?_) (fun hg => ?_) | refine OutOK.gateP (fun hg => ?_) (fun hg => ?_) | refine OutOK.gateN (fun hg => ?_) (fun hg => ?_) | refine IfG.g (fun hg => ?_) (fun hg => ?_) | refine OutOK.gate (fun hg => ?_) (fun hg => ?_)) <;> (try (have hg' := hg; simp at hg'))) | refine OutOK.run (by simp [*]; rfl) ?_ | refine AW.ret ?_ | refine AW.skip ?_ | refine AW.exit ?_ | refine fin_r ?_ | refine fin_n ?_ | refine AW.block ?_ | refine blockQ_n ?_ | refine blockQ_r ?_ | refine blockQ_e ?_ | refine blockQ_o rfl ?_)
  refine AW.loopL (fun i => i ≤ l.length ∧ Hd ((l.take i).any p = false)) (fun i => [(0, .rf 100000000 []), (1, .fn f [.pt 100000051 [] 0, .pt 100000052 [] 0]), (7, .c (.sc (.int .i64 (l.length : Int)))), (8, .c (.sc (.int .i64 (i : Int))))]) (fun _ => [(100000000, .sv (.sl false 5 (edts false l))), (100000051, .bx C1), (100000052, .bx C2)]) (fun i => l.length - i) 0 ⟨Nat.zero_le _, by simp [Hd]⟩ ⟨by simp, by simp, by simp⟩ ?_
  rintro i ⟨hi, hs⟩
  rcases Nat.lt_or_ge i l.length with hl | hl
  · have e1 : wrap64 ((i : Int) + 1) = ((i + 1 : Nat) : Int) := by rw [w64 (by omega) (by omega)]; omega
    have cs := cf.out l[i] (List.getElem_mem hl)
    have hself : l.set i ⟨l[i].tm, l[i].ct, l[i].ck, l[i].it, l[i].tx⟩ = l := List.set_getElem_self hl
    cases hp : p l[i] with
    | true =>
      rw [hp] at cs
      have hf : idx p l = (i : Int) := idx_at hl hs.out hp
      clear cf
      repeat' (first | with_reducible refine OutOK.done ?_ | refine thenQ_n ?_ | refine thenQ_r ?_ | refine thenQ_e ?_ | refine AW.seq ?_ | refine AW.reg tok (by simp [*]; rfl) ?_ | refine AW.ifB (by simp [*]; rfl) ?_ | refine IfG.t ?_ | refine IfG.f ?_ | ((first | refine IfG.p (fun hg => ?_) (fun hg => ?_) | refine IfG.n (fun hg => ?_) (fun hg => ?_) | refine OutOK.gateP (fun hg => ?_) (fun hg => ?_) | refine OutOK.gateN (fun hg => ?_) (fun hg => ?_) | refine IfG.g (fun hg => ?_) (fun hg => ?_) | refine OutOK.gate (fun hg => ?_) (fun hg => ?_)) <;> (try (have hg' := hg; simp at hg'))) | (refine OutOK.callF [true] (by simp [*]; rfl) (by simp [*]; rfl) (by simp [*]; rfl) hbf (by apply cs <;> first | assumption | exact Hd.out (by assumption) | ((try clear e1); omega)) ⟨by simp [*], by simp [*], by simp [*], by simp [*], by simp [*]⟩ (by simp [*]) (by simp [*]; rfl) ?_) | refine OutOK.run (by simp [*]; rfl) ?_ | refine AW.ret ?_ | refine AW.skip ?_ | refine AW.exit ?_ | refine fin_r ?_ | refine fin_n ?_ | refine AW.block ?_ | refine blockQ_n ?_ | refine blockQ_r ?_ | refine blockQ_e ?_ | refine blockQ_o rfl ?_)
      simp [Try.f124, hf, hself]
    | false =>
      rw [hp] at cs
      have hs2 : Hd ((l.take (i + 1)).any p = false) := any_more hl hs.out hp
      clear cf
      repeat' (first | with_reducible refine OutOK.done ?_ | refine thenQ_n ?_ | refine thenQ_r ?_ | refine thenQ_e ?_ | refine AW.seq ?_ | refine AW.reg tok (by simp [*]; rfl) ?_ | refine AW.ifB (by simp [*]; rfl) ?_ | refine IfG.t ?_ | refine IfG.f ?_ | ((first | refine IfG.p (fun hg => ?_) (fun hg => ?_) | refine IfG.n (fun hg => ?_) (fun hg => ?_) | refine OutOK.gateP (fun hg => ?_) (fun hg => ?_) | refine OutOK.gateN (fun hg => ?_) (fun hg => ?_) | refine IfG.g (fun hg => ?_) (fun hg => ?_) | refine OutOK.gate (fun hg => ?_) (fun hg => ?_)) <;> (try (have hg' := hg; simp at hg'))) | (refine OutOK.callF [true] (by simp [*]; rfl) (by simp [*]; rfl) (by simp [*]; rfl) hbf (by apply cs <;> first | assumption | exact Hd.out (by assumption) | ((try clear e1); omega)) ⟨by simp [*], by simp [*], by simp [*], by simp [*], by simp [*]⟩ (by simp [*]) (by simp [*]; rfl) ?_) | refine OutOK.run (by simp [*]; rfl) ?_ | refine AW.ret ?_ | refine AW.skip ?_ | refine AW.exit ?_ | refine fin_r ?_ | refine fin_n ?_ | refine AW.block ?_ | refine blockQ_n ?_ | refine blockQ_r ?_ | refine blockQ_e ?_ | refine blockQ_o rfl ?_)
      exact ⟨i + 1, ⟨hl, hs2⟩, ⟨by simp, by simp [hself], by simp⟩, by ((try clear e1); omega)⟩
  · have hf : idx p l = -1 := idx_none (any_end hl hs.out)
    have hn : ¬ i < l.length := by omega
    clear cf
    repeat' (first | with_reducible refine OutOK.done ?_ | refine thenQ_n ?_ | refine thenQ_r ?_ | refine thenQ_e ?_ | refine AW.seq ?_ | refine AW.reg tok (by simp [*]; rfl) ?_ | refine AW.ifB (by simp [*]; rfl) ?_ | refine IfG.t ?_ | refine IfG.f ?_ | ((first | refine IfG.p (fun hg => ?_) (fun hg => ?_) | refine IfG.n (fun hg => ?_) (fun hg => ?_) | refine OutOK.gateP (fun hg => ?_) (fun hg => ?_) | refine OutOK.gateN (fun hg => ?_) (fun hg => ?_) | refine IfG.g (fun hg => ?_) (fun hg => ?_) | refine OutOK.gate (fun hg => ?_) (fun hg => ?_)) <;> (try (have hg' := hg; simp at hg'))) | refine OutOK.run (by simp [*]; rfl) ?_ | refine AW.ret ?_ | refine AW.skip ?_ | refine AW.exit ?_ | refine fin_r ?_ | refine fin_n ?_ | refine AW.block ?_ | refine blockQ_n ?_ | refine blockQ_r ?_ | refine blockQ_e ?_ | refine blockQ_o rfl ?_)
    simp [Try.f124, hf]
end Go.Proofs.Ytbofobjofngoeaa.EngS


set_option linter.unusedSimpArgs false
set_option linter.unusedVariables false
set_option maxHeartbeats 4000000
set_option maxRecDepth 10000
namespace Go.Proofs.Ytbofobjofngoeaa.EngS
open Go Go.Proofs Go.Eng Go.RowKit
end Go.Proofs.Ytbofobjofngoeaa.EngS


set_option linter.unusedSimpArgs false
set_option linter.unusedVariables false
set_option maxHeartbeats 4000000
set_option maxRecDepth 10000
namespace Go.Proofs.Ytbofobjofngoeaa.EngS
open Go Go.Proofs Go.Eng Go.RowKit
def gvn (l : List Smp) (i : Nat) : List Int := (List.range (l.length + 1)).map fun (p : Nat) => givI l p i
@[simp] theorem gvn_len (l i) : (gvn l i).length = l.length + 1 := by simp [gvn]
theorem gvn_zero (l) : gvn l 0 = List.replicate (l.length + 1) 0 := by
  apply List.ext_getElem
  · simp
  · intro j h1 h2; simp only [gvn, List.getElem_map, List.getElem_range, givI_zero, List.getElem_replicate]
end Go.Proofs.Ytbofobjofngoeaa.EngS


set_option linter.unusedSimpArgs false
set_option linter.unusedVariables false
set_option maxHeartbeats 4000000
set_option maxRecDepth 100000
namespace Go.Proofs.Ytbofobjofngoeaa.EngS
open Go Go.Proofs Go.Eng Go.RowKit
attribute [local irreducible] Go.RowKit.wrap64
end Go.Proofs.Ytbofobjofngoeaa.EngS


set_option linter.unusedSimpArgs false
set_option linter.unusedVariables false
set_option maxHeartbeats 4000000
set_option maxRecDepth 100000
namespace Go.Proofs.Ytbofobjofngoeaa.EngS
open Go Go.Proofs Go.Eng Go.RowKit
attribute [local irreducible] Go.RowKit.wrap64
def hasI (o : List Int) (i : Nat) : Bool := o.any fun x => decide (x = (i : Int))
def frB (l : List Edt) (o : List Int) (i k : Nat) : Bool := !(hasI o i) && (List.range k).all fun j => hasI o j || !(precE (l[j]?.getD default) (l[i]?.getD default))
def fre (l : List Edt) (o : List Int) (i : Nat) : Bool := frB l o i l.length
def nxtI (l : List Edt) (o : List Int) : Nat := (List.range l.length).findIdx (fre l o)
def ordL (l : List Edt) : Nat → List Int
  | 0 => []
  | q + 1 => ordL l q ++ [(nxtI l (ordL l q) : Int)]
@[simp] theorem ordL_len (l q) : (ordL l q).length = q := by
  induction q with
  | zero => rfl
  | succ q ih => simp [ordL, ih]
def bls (xs : List Bool) : List PV := xs.map fun x => .sc (.bool x)
@[simp] theorem bls_len (xs) : (bls xs).length = xs.length := by simp [bls]
@[simp] theorem bls_get (xs : List Bool) (i : Nat) : (bls xs)[i]? = (xs[i]?).map fun x => .sc (.bool x) := by simp [bls]
@[simp] theorem bls_at (xs : List Bool) (i : Nat) (h : i < (bls xs).length) : (bls xs)[i] = .sc (.bool (xs[i]'(by simpa using h))) := by simp [bls]
@[simp] theorem bls_frz (xs) : PV.frzs (bls xs) = bls xs := by simp [bls]
@[simp] theorem rep_bls (n : Nat) (x : Bool) : List.replicate n (PV.sc (.bool x)) = bls (List.replicate n x) := by simp [bls]
@[simp] theorem bls_set (xs : List Bool) (i : Nat) (x : Bool) : (bls xs).set i (.sc (.bool x)) = bls (xs.set i x) := by simp [bls, List.map_set]
@[simp] theorem bls_nofz (xs : List Bool) : PV.nofzs (bls xs) = true := by
  induction xs with
  | nil => rfl
  | cons x xs ih => simpa [bls] using ih
@[simp] theorem bls_coks (xs : List Bool) : PV.coks (bls xs) = true := by
  induction xs with
  | nil => rfl
  | cons x xs ih => simpa [bls] using ih
def dnL (l : List Edt) (o : List Int) : List Bool := (List.range l.length).map (hasI o)
@[simp] theorem dnL_len (l o) : (dnL l o).length = l.length := by simp [dnL]
@[simp] theorem dnL_at (l : List Edt) (o : List Int) (i : Nat) (h : i < (dnL l o).length) : (dnL l o)[i] = hasI o i := by simp [dnL]
theorem dnL_nil (l : List Edt) : dnL l [] = List.replicate l.length false := by
  apply List.ext_getElem
  · simp
  · intro j h1 h2; simp [hasI]
end Go.Proofs.Ytbofobjofngoeaa.EngS


set_option linter.unusedSimpArgs false
set_option linter.unusedVariables false
set_option maxHeartbeats 4000000
set_option maxRecDepth 100000
namespace Go.Proofs.Ytbofobjofngoeaa.EngS
open Go Go.Proofs Go.Eng Go.RowKit
attribute [local irreducible] Go.RowKit.wrap64
end Go.Proofs.Ytbofobjofngoeaa.EngS


set_option linter.unusedSimpArgs false
set_option linter.unusedVariables false
set_option maxHeartbeats 4000000
set_option maxRecDepth 100000
namespace Go.Proofs.Ytbofobjofngoeaa.EngS
open Go Go.Proofs Go.Eng Go.RowKit
attribute [local irreducible] Go.RowKit.wrap64
end Go.Proofs.Ytbofobjofngoeaa.EngS


set_option linter.unusedSimpArgs false
set_option linter.unusedVariables false
set_option maxHeartbeats 4000000
set_option maxRecDepth 100000
namespace Go.Proofs.Ytbofobjofngoeaa.EngS
open Go Go.Proofs Go.Eng Go.RowKit
attribute [local irreducible] Go.RowKit.wrap64
attribute [local simp] optO sliceV
def JkE (t : PV) : Prop := ∃ a b c d e, c.isAg = false ∧ t = .ag [.sc (.int .i64 a), .sc (.int .i64 b), c, .sc (.string d), .sc (.string e)]
structure DInv (l : List Edt) (p : Edt → Bool) (j : Nat) (M : List PV) : Prop where
  jl : j ≤ l.length
  len : M.length = l.length
  lt : ((l.take j).filter fun x => !p x).length < j
  kept : ∀ m (h : m < ((l.take j).filter fun x => !p x).length), M[m]? = some (.ag (edtC false ((l.take j).filter fun x => !p x)[m]))
  jk : ∀ m, ((l.take j).filter fun x => !p x).length ≤ m → m < j → ∃ t, M[m]? = some t ∧ JkE t
  rest : ∀ m (h : m < l.length), j ≤ m → M[m]? = some (.ag (edtC false l[m]))
theorem filt_yes {l : List Edt} {p : Edt → Bool} {j : Nat} (h : j < l.length) (hp : p l[j] = true) : (l.take (j + 1)).filter (fun x => !p x) = (l.take j).filter (fun x => !p x) := by
  rw [List.take_succ_eq_append_getElem h, List.filter_append]; simp [hp]
theorem filt_no {l : List Edt} {p : Edt → Bool} {j : Nat} (h : j < l.length) (hp : p l[j] = false) : (l.take (j + 1)).filter (fun x => !p x) = (l.take j).filter (fun x => !p x) ++ [l[j]] := by
  rw [List.take_succ_eq_append_getElem h, List.filter_append]; simp [hp]
abbrev jkX (x : Edt) : PV := .ag [.sc (.int .i64 x.tm), .sc (.int .i64 x.ct), .xx, .sc (.string x.it), .sc (.string x.tx)]
theorem jkX_ok (x : Edt) : JkE (jkX x) := ⟨x.tm, x.ct, .xx, x.it, x.tx, rfl, rfl⟩
theorem DInv.skip {l : List Edt} {p : Edt → Bool} {j : Nat} {M : List PV} (h : DInv l p j M) (hj : j < l.length) (hp : p l[j] = true) : DInv l p (j + 1) (M.set j (jkX l[j])) := by
  have hf := filt_yes hj hp
  refine ⟨hj, by rw [List.length_set]; exact h.len, by rw [hf]; have := h.lt; omega, ?_, ?_, ?_⟩
  · intro m hm
    rw [hf] at hm
    have := h.lt
    rw [List.getElem?_set_ne (by omega)]
    simp only [hf]
    exact h.kept m hm
  · intro m h1 h2
    rw [hf] at h1
    rcases Nat.lt_succ_iff_lt_or_eq.1 h2 with h3 | rfl
    · rw [List.getElem?_set_ne (by omega)]; exact h.jk m h1 h3
    · exact ⟨_, List.getElem?_set_self (by rw [h.len]; exact hj), jkX_ok _⟩
  · intro m hm h1
    rw [List.getElem?_set_ne (by omega)]; exact h.rest m hm (by omega)
theorem DInv.keep {l : List Edt} {p : Edt → Bool} {j q : Nat} {M : List PV} (h : DInv l p j M) (hj : j < l.length) (hp : p l[j] = false) (hq : ((l.take j).filter fun x => !p x).length = q) : DInv l p (j + 1) ((M.set j (jkX l[j])).set q (.ag (edtC false l[j]))) := by
  have hf := filt_no hj hp
  have hlt := h.lt
  rw [hq] at hlt
  refine ⟨hj, by rw [List.length_set, List.length_set]; exact h.len, by rw [hf, List.length_append]; simp only [List.length_cons, List.length_nil]; omega, ?_, ?_, ?_⟩
  · intro m hm
    rw [hf, List.length_append, List.length_cons, List.length_nil, hq] at hm
    simp only [hf]
    rcases Nat.lt_succ_iff_lt_or_eq.1 (show m < q + 1 by omega) with h3 | rfl
    · rw [List.getElem?_set_ne (by omega), List.getElem?_set_ne (by omega), List.getElem_append_left (by omega)]
      exact h.kept m (by omega)
    · rw [List.getElem?_set_self (by rw [List.length_set, h.len]; omega), List.getElem_append_right (by omega)]
      simp [hq]
  · intro m h1 h2
    rw [hf, List.length_append, List.length_cons, List.length_nil, hq] at h1
    rw [List.getElem?_set_ne (by omega)]
    rcases Nat.lt_succ_iff_lt_or_eq.1 h2 with h3 | rfl
    · rw [List.getElem?_set_ne (by omega)]; exact h.jk m (by omega) h3
    · exact ⟨_, List.getElem?_set_self (by rw [h.len]; exact hj), jkX_ok _⟩
  · intro m hm h1
    rw [List.getElem?_set_ne (by omega), List.getElem?_set_ne (by omega)]; exact h.rest m hm (by omega)
theorem DInv.start {l : List Edt} {p : Edt → Bool} {i : Nat} (hi : i < l.length) (hp : p l[i] = true) (hs : (l.take i).any p = false) : DInv l p (i + 1) (edts false l) := by
  have hall : (l.take i).filter (fun x => !p x) = l.take i := by
    rw [List.filter_eq_self]
    intro x hx
    have := List.any_eq_false.1 hs x hx
    simpa using this
  have hf : (l.take (i + 1)).filter (fun x => !p x) = l.take i := by rw [filt_yes hi hp, hall]
  have hl : (l.take i).length = i := by simp; omega
  refine ⟨hi, by simp, by rw [hf, hl]; omega, ?_, ?_, ?_⟩
  · intro m hm
    rw [hf, hl] at hm
    simp only [hf, els_get]
    rw [List.getElem?_eq_getElem (by omega)]
    simp
  · intro m h1 h2
    rw [hf, hl] at h1
    have : m = i := by omega
    subst this
    exact ⟨_, by rw [els_get, List.getElem?_eq_getElem hi]; rfl, ⟨_, _, .sl false 1 (ints l[m].ck), _, _, rfl, rfl⟩⟩
  · intro m hm h1
    rw [els_get, List.getElem?_eq_getElem hm]; rfl
theorem DInv.fin {l : List Edt} {p : Edt → Bool} {M : List PV} (h : DInv l p l.length M) (R : List PV) : (M.take ((l.filter fun x => !p x).length) ++ R).take ((l.filter fun x => !p x).length) = edts false (l.filter fun x => !p x) := by
  have hk := h.kept
  have hlt := h.lt
  simp only [List.take_length] at hk hlt
  apply List.ext_getElem?
  intro m
  rw [List.getElem?_take]
  split
  · rename_i hm
    rw [List.getElem?_append_left (by simp [h.len]; omega), List.getElem?_take, if_pos hm, hk m hm, els_get, List.getElem?_eq_getElem hm]; rfl
  · rename_i hm
    rw [List.getElem?_eq_none (by simp; omega)]
theorem idx_one {α : Type} (p : α → Bool) (xs : List α) : (idx p xs = -1 ∧ xs.any p = false) ∨ ∃ i, ∃ h : i < xs.length, idx p xs = (i : Int) ∧ p xs[i] = true ∧ (xs.take i).any p = false := by
  cases h : xs.findIdx? p with
  | none =>
    left
    have h2 : xs.any p = false := by rw [List.any_eq_false]; intro x hx; rw [List.findIdx?_eq_none_iff] at h; simpa using h x hx
    exact ⟨idx_none h2, h2⟩
  | some i =>
    right
    rw [List.findIdx?_eq_some_iff_getElem] at h
    obtain ⟨hi, h1, h2⟩ := h
    have h3 : (xs.take i).any p = false := by
      rw [List.any_eq_false]
      intro x hx
      obtain ⟨m, hm, rfl⟩ := List.getElem_of_mem hx
      rw [List.length_take] at hm
      rw [List.getElem_take]
      have := h2 m (by omega)
      simpa using this
    exact ⟨i, hi, idx_at hi h3 h1, h1, h3⟩
theorem c_DeleteFunc_edt (l : List Edt) (f : Nat) (C1 C2 : List PV) (p : Edt → Bool) (h : l.length ≤ 1048576) (hbf : HasBody Try.prog f) (cf : ∀ x ∈ l, ACall Try.prog f [edtO x, .p C1, .p C2] [edtO x, .p C1, .p C2] [boo (p x)]) :
    ACall Try.prog 94 [.v (.sl false 5 (edts false l)), .f f [C1, C2]] [.x, .f f [C1, C2]] [.v (.sl false 5 (edts false (l.filter fun x => !p x)))] := by
  have ci := c_IndexFunc_own l f C1 C2 p (by omega) hbf cf
  replace cf : Hd _ := cf
  rcases idx_one p l with ⟨hi, ha⟩ | ⟨i, hil, hi, hp, hs⟩
  · rw [hi] at ci
    have hall : l.filter (fun x => !p x) = l := by
      rw [List.filter_eq_self]
      intro x hx
      have := List.any_eq_false.1 ha x hx
      simpa using this
    rw [hall]
    clear ha hall hi
    refine ACall.of (N := 42) tok Try.func94 rfl rfl rfl (by simp) ?_
    repeat' (first | with_reducible refine OutOK.done ?_ | refine thenQ_n ?_ | refine thenQ_r ?_ | refine thenQ_e ?_ | refine AW.seq ?_ | refine AW.reg tok (by simp [*]; rfl) ?_ | refine AW.ifB (by simp [*]; rfl) ?_ | refine IfG.t ?_ | refine IfG.f ?_ | ((first | refine IfG.p (fun hg => ?_) (fun hg => ?_) | refine IfG.n (fun hg => ?_) (fun hg => ?_) | refine OutOK.gateP (fun hg => ?_) (fun hg => ?_) | refine OutOK.gateN (fun hg => ?_) (fun hg => ?_) | refine IfG.g (fun hg => ?_) (fun hg => ?_) | refine OutOK.gate (fun hg => ?_) (fun hg => ?_)) <;> (try (have hg' := hg; simp at hg'))) | (refine OutOK.callF [true, true] (by simp [*]; rfl) (by simp [*]; rfl) (by simp [*]; rfl) hb124 (by apply ci <;> first | assumption | exact Hd.out (by assumption) | ((try clear e0); (try clear e1); (try clear e2); omega)) ⟨by simp [*], by simp [*], by simp [*], by simp [*], by simp [*]⟩ (by simp [*]) (by simp [*]; rfl) ?_) | refine OutOK.run (by simp [*]; rfl) ?_ | refine AW.ret ?_ | refine AW.skip ?_ | refine AW.exit ?_ | refine fin_r ?_ | refine fin_n ?_ | refine AW.block ?_ | refine blockQ_n ?_ | refine blockQ_r ?_ | refine blockQ_e ?_ | refine blockQ_o rfl ?_)
    simp [Try.f94]
  rw [hi] at ci
  have e0 : wrap64 ((i : Int) + 1) = ((i + 1 : Nat) : Int) := by rw [w64 (by omega) (by omega)]; omega
  have hin : ¬ (i : Int) = -1 := by omega
  have hst : Hd (DInv l p (i + 1) (edts false l)) := DInv.start hil hp hs
  have hq0 : Hd (((l.take (i + 1)).filter fun x => !p x).length = i) := by
    have hall : (l.take i).filter (fun x => !p x) = l.take i := by
      rw [List.filter_eq_self]
      intro x hx
      have := List.any_eq_false.1 hs x hx
      simpa using this
    rw [Hd, filt_yes hil hp, hall, List.length_take]; omega
  clear hi hp hs
  refine ACall.of (N := 42) tok Try.func94 rfl rfl rfl (by simp) ?_
  repeat' (first | with_reducible refine OutOK.done ?_ | refine thenQ_n ?_ | refine thenQ_r ?_ | refine thenQ_e ?_ | refine AW.seq ?_ | refine AW.reg tok (by simp [*]; rfl) ?_ | refine AW.ifB (by simp [*]; rfl) ?_ | refine IfG.t ?_ | refine IfG.f ?_ | ((first | refine IfG.p (fun hg => ?_) (fun hg => ?_) | refine IfG.n (fun hg => ?_) (fun hg => ?_) | refine OutOK.gateP (fun hg => ?_) (fun hg => ?_) | refine OutOK.gateN (fun hg => ?_) (fun hg => ?_) | refine IfG.g (fun hg => ?_) (fun hg => ?_) | refine OutOK.gate (fun hg => ?_) (fun hg => ?_)) <;> (try (have hg' := hg; simp at hg'))) | (refine OutOK.callF [true, true] (by simp [*]; rfl) (by simp [*]; rfl) (by simp [*]; rfl) hb124 (by apply ci <;> first | assumption | exact Hd.out (by assumption) | ((try clear e0); (try clear e1); (try clear e2); omega)) ⟨by simp [*], by simp [*], by simp [*], by simp [*], by simp [*]⟩ (by simp [*]) (by simp [*]; rfl) ?_) | refine OutOK.run (by simp [*]; rfl) ?_ | refine AW.ret ?_ | refine AW.skip ?_ | refine AW.exit ?_ | refine fin_r ?_ | refine fin_n ?_ | refine AW.block ?_ | refine blockQ_n ?_ | refine blockQ_r ?_ | refine blockQ_e ?_ | refine blockQ_o rfl ?_)
  refine AW.loopL (α := Nat × Nat × List PV) (fun z => Hd (DInv l p z.1 z.2.2) ∧ Hd (((l.take z.1).filter fun x => !p x).length = z.2.1)) (fun z => [(0, .rf 100000000 []), (1, .fn f [.pt 100000051 [] 0, .pt 100000052 [] 0]), (5, .c (.sc (.int .i64 (z.2.1 : Int)))), (6, .c (.sc (.int .i64 (z.1 : Int))))]) (fun z => [(100000000, .sv (.sl false 5 z.2.2)), (100000051, .bx C1), (100000052, .bx C2)]) (fun z => l.length - z.1) (i + 1, i, edts false l) ⟨hst, hq0⟩ ⟨by simp, by simp, by simp⟩ ?_
  rintro ⟨j, q, M⟩ ⟨hinv, hq⟩
  simp only at hinv hq
  have hM := hinv.out.len
  have hjl := hinv.out.jl
  have hqj := hinv.out.lt
  rw [hq.out] at hqj
  clear hst hq0 ci e0 hin
  rcases Nat.lt_or_ge j l.length with hl | hl
  · have e1 : wrap64 ((j : Int) + 1) = ((j + 1 : Nat) : Int) := by rw [w64 (by omega) (by omega)]; omega
    have e2 : wrap64 ((q : Int) + 1) = ((q + 1 : Nat) : Int) := by rw [w64 (by omega) (by omega)]; omega
    have hjM : j < M.length := by omega
    have hqM : q < M.length := by omega
    have hjq : ¬ j = q := by omega
    have hqll : q < l.length := by omega
    have hqj2 : ¬ q = j := by omega
    have hat := hinv.out.rest j hl (Nat.le_refl _)
    have hat2 : M[j] = .ag [.sc (.int .i64 l[j].tm), .sc (.int .i64 l[j].ct), .sl false 1 (ints l[j].ck), .sc (.string l[j].it), .sc (.string l[j].tx)] := by rw [List.getElem?_eq_getElem hjM] at hat; simpa using hat
    obtain ⟨t, ht, a, b, c, d, e, hc, rfl⟩ := hinv.out.jk q (by rw [hq.out]; exact Nat.le_refl _) hqj
    have ht2 : M[q] = .ag [.sc (.int .i64 a), .sc (.int .i64 b), c, .sc (.string d), .sc (.string e)] := by rw [List.getElem?_eq_getElem hqM] at ht; simpa using ht
    simp only [edtC_eq] at hat
    have cs := cf.out l[j] (List.getElem_mem hl)
    cases hp : p l[j] with
    | true =>
      rw [hp] at cs
      have hn : Hd (DInv l p (j + 1) (M.set j (jkX l[j]))) := hinv.out.skip hl hp
      have hn2 : Hd (((l.take (j + 1)).filter fun x => !p x).length = q) := by rw [Hd, filt_yes hl hp]; exact hq.out
      clear hp cf
      repeat' (first | with_reducible refine OutOK.done ?_ | refine thenQ_n ?_ | refine thenQ_r ?_ | refine thenQ_e ?_ | refine AW.seq ?_ | refine AW.reg tok (by simp [*]; rfl) ?_ | refine AW.ifB (by simp [*]; rfl) ?_ | refine IfG.t ?_ | refine IfG.f ?_ | ((first | refine IfG.p (fun hg => ?_) (fun hg => ?_) | refine IfG.n (fun hg => ?_) (fun hg => ?_) | refine OutOK.gateP (fun hg => ?_) (fun hg => ?_) | refine OutOK.gateN (fun hg => ?_) (fun hg => ?_) | refine IfG.g (fun hg => ?_) (fun hg => ?_) | refine OutOK.gate (fun hg => ?_) (fun hg => ?_)) <;> (try (have hg' := hg; simp at hg'))) | (refine OutOK.callF [true] (by simp [*]; rfl) (by simp [*]; rfl) (by simp [*]; rfl) hbf (by apply cs <;> first | assumption | exact Hd.out (by assumption) | ((try clear e0); (try clear e1); (try clear e2); omega)) ⟨by simp [*], by simp [*], by simp [*], by simp [*], by simp [*]⟩ (by simp [*]) (by simp [*]; rfl) ?_) | refine OutOK.run (by simp [*]; rfl) ?_ | refine AW.ret ?_ | refine AW.skip ?_ | refine AW.exit ?_ | refine fin_r ?_ | refine fin_n ?_ | refine AW.block ?_ | refine blockQ_n ?_ | refine blockQ_r ?_ | refine blockQ_e ?_ | refine blockQ_o rfl ?_)
      exact ⟨(j + 1, q, M.set j (jkX l[j])), ⟨hn, hn2⟩, ⟨by simp, by simp, by simp⟩, by simp only; ((try clear e0); (try clear e1); (try clear e2); omega)⟩
    | false =>
      rw [hp] at cs
      have hn : Hd (DInv l p (j + 1) ((M.set j (jkX l[j])).set q (.ag (edtC false l[j])))) := hinv.out.keep hl hp hq.out
      have hn2 : Hd (((l.take (j + 1)).filter fun x => !p x).length = q + 1) := by rw [Hd, filt_no hl hp, List.length_append, hq.out]; rfl
      clear hp cf
      repeat' (first | with_reducible refine OutOK.done ?_ | refine thenQ_n ?_ | refine thenQ_r ?_ | refine thenQ_e ?_ | refine AW.seq ?_ | refine AW.reg tok (by simp [*]; rfl) ?_ | refine AW.ifB (by simp [*]; rfl) ?_ | refine IfG.t ?_ | refine IfG.f ?_ | ((first | refine IfG.p (fun hg => ?_) (fun hg => ?_) | refine IfG.n (fun hg => ?_) (fun hg => ?_) | refine OutOK.gateP (fun hg => ?_) (fun hg => ?_) | refine OutOK.gateN (fun hg => ?_) (fun hg => ?_) | refine IfG.g (fun hg => ?_) (fun hg => ?_) | refine OutOK.gate (fun hg => ?_) (fun hg => ?_)) <;> (try (have hg' := hg; simp at hg'))) | (refine OutOK.callF [true] (by simp [*]; rfl) (by simp [*]; rfl) (by simp [*]; rfl) hbf (by apply cs <;> first | assumption | exact Hd.out (by assumption) | ((try clear e0); (try clear e1); (try clear e2); omega)) ⟨by simp [*], by simp [*], by simp [*], by simp [*], by simp [*]⟩ (by simp [*]) (by simp [*]; rfl) ?_) | refine OutOK.run (by simp [*]; rfl) ?_ | refine AW.ret ?_ | refine AW.skip ?_ | refine AW.exit ?_ | refine fin_r ?_ | refine fin_n ?_ | refine AW.block ?_ | refine blockQ_n ?_ | refine blockQ_r ?_ | refine blockQ_e ?_ | refine blockQ_o rfl ?_)
      exact ⟨(j + 1, q + 1, (M.set j (jkX l[j])).set q (.ag (edtC false l[j]))), ⟨hn, hn2⟩, ⟨by simp, by simp, by simp⟩, by simp only; ((try clear e0); (try clear e1); (try clear e2); omega)⟩
  · have hjj : j = l.length := by omega
    have hjn : ¬ j < l.length := by omega
    have hinv2 : Hd (DInv l p l.length M) := by rw [← hjj]; exact hinv
    have hq2 : Hd ((l.filter fun x => !p x).length = q) := by have := hq.out; rw [hjj, List.take_length] at this; exact this
    have hfin : Hd (∀ R : List PV, (M.take q ++ R).take q = edts false (l.filter fun x => !p x)) := by rw [Hd, ← hq2.out]; exact fun R => hinv2.out.fin R
    have hql : q ≤ l.length := by omega
    have hmin : min q l.length = q := by omega
    have hsum : q + (l.length - q) = l.length := by omega
    have hqlI : (q : Int) ≤ (l.length : Int) := by omega
    clear cf
    repeat' (first | with_reducible refine AW.stopT ?_ | with_reducible refine OutOK.done ?_ | refine thenQ_n ?_ | refine thenQ_r ?_ | refine thenQ_e ?_ | refine AW.seq ?_ | refine AW.reg tok (by simp [*]; rfl) ?_ | refine AW.ifB (by simp [*]; rfl) ?_ | refine IfG.t ?_ | refine IfG.f ?_ | ((first | refine IfG.p (fun hg => ?_) (fun hg => ?_) | refine IfG.n (fun hg => ?_) (fun hg => ?_) | refine OutOK.gateP (fun hg => ?_) (fun hg => ?_) | refine OutOK.gateN (fun hg => ?_) (fun hg => ?_) | refine IfG.g (fun hg => ?_) (fun hg => ?_) | refine OutOK.gate (fun hg => ?_) (fun hg => ?_)) <;> (try (have hg' := hg; simp at hg'))) | refine OutOK.run (by simp [*]; rfl) ?_ | refine AW.ret ?_ | refine AW.skip ?_ | refine AW.exit ?_ | refine fin_r ?_ | refine fin_n ?_ | refine AW.block ?_ | refine blockQ_n ?_ | refine blockQ_r ?_ | refine blockQ_e ?_ | refine blockQ_o rfl ?_)
    refine ⟨AW.ownR 4 95000000 (by simp; rfl) ?_⟩
    repeat' (first | with_reducible refine OutOK.done ?_ | refine thenQ_n ?_ | refine thenQ_r ?_ | refine thenQ_e ?_ | refine AW.seq ?_ | refine AW.reg tok (by simp [*]; rfl) ?_ | refine AW.ifB (by simp [*]; rfl) ?_ | refine IfG.t ?_ | refine IfG.f ?_ | ((first | refine IfG.p (fun hg => ?_) (fun hg => ?_) | refine IfG.n (fun hg => ?_) (fun hg => ?_) | refine OutOK.gateP (fun hg => ?_) (fun hg => ?_) | refine OutOK.gateN (fun hg => ?_) (fun hg => ?_) | refine IfG.g (fun hg => ?_) (fun hg => ?_) | refine OutOK.gate (fun hg => ?_) (fun hg => ?_)) <;> (try (have hg' := hg; simp at hg'))) | refine OutOK.run (by simp [*]; rfl) ?_ | refine AW.ret ?_ | refine AW.skip ?_ | refine AW.exit ?_ | refine fin_r ?_ | refine fin_n ?_ | refine AW.block ?_ | refine blockQ_n ?_ | refine blockQ_r ?_ | refine blockQ_e ?_ | refine blockQ_o rfl ?_)
    simp [Try.f94, hfin.out]
end Go.Proofs.Ytbofobjofngoeaa.EngS

