-- Written by this session's texts and program for this claim. Lean checks it.
import Derived.OrdersHeld
import Derived.ChangeSlices
import Derived.ChangeArms
import Derived.WideShapes
import Derived.Below
import Derived.Lib.SliceRun
import Derived.Test.YtbofobjofngoeaaProg
import Derived.KernelRfl
import Derived.Test.YtbofobjofngoeaaVFnHistories2
set_option autoImplicit true
set_option relaxedAutoImplicit true
set_option linter.unusedSimpArgs false
set_option linter.unusedVariables false
namespace Go.Eng
open Go.RowKit
variable {P : Program} {T : Nat → Option TI} {N : Nat}

mutual
def exactV : V → Bool
  | .c (.sc _) => true
  | .nl => true
  | .rf _ _ => true
  | .pt _ _ _ => true
  | .g cs => exactVs cs
  | _ => false
def exactVs : List V → Bool
  | [] => true
  | x :: xs => exactV x && exactVs xs
end
mutual
theorem exactV_ok {w Z σ rv} : ∀ (x : V) (v v' : Value), exactV x = true → VR w Z σ rv x v → VR w Z σ rv x v' → v = v'
  | .c (.sc y), v, v', _, h, h' => by rw [VR_c, RV_sc] at *; rw [h, h']
  | .nl, v, v', _, h, h' => by rw [VR_nl] at *; rw [h, h']
  | .rf n p, v, v', _, h, h' => by
    rw [VR_rf] at *
    obtain ⟨r, h1, h2, _⟩ := h
    obtain ⟨r', h1', h2', _⟩ := h'
    rw [h1] at h1'; cases h1'
    rw [h2] at h2'; cases h2'; rfl
  | .pt n p o, v, v', _, h, h' => by
    rw [VR_pt] at *
    obtain ⟨r, b, o', h1, h2, rfl⟩ := h
    obtain ⟨r', b', o'', h1', h2', rfl⟩ := h'
    rw [h1] at h1'; cases h1'
    rw [h2] at h2'; cases h2'; rfl
  | .g cs, v, v', he, h, h' => by
    rw [VR_g] at *
    obtain ⟨a, rfl, h⟩ := h
    obtain ⟨a', rfl, h'⟩ := h'
    have := exactVs_ok cs _ _ (by simpa [exactV] using he) h h'
    cases a; cases a'; simp at this; rw [this]
  | .c (.sl _ _ _), _, _, he, _, _ => by simp [exactV] at he
  | .c (.ag _), _, _, he, _, _ => by simp [exactV] at he
  | .c .xx, _, _, he, _, _ => by simp [exactV] at he
  | .fp _ _, _, _, he, _, _ => by simp [exactV] at he
  | .fn _ _, _, _, he, _, _ => by simp [exactV] at he
  | .tu _, _, _, he, _, _ => by simp [exactV] at he
  | .rn _ _ _, _, _, he, _, _ => by simp [exactV] at he
  | .dead, _, _, he, _, _ => by simp [exactV] at he
theorem exactVs_ok {w Z σ rv} : ∀ (xs : List V) (vs vs' : List Value), exactVs xs = true → VRs w Z σ rv xs vs → VRs w Z σ rv xs vs' → vs = vs'
  | [], vs, vs', _, h, h' => by rw [VRs_nil] at *; rw [h, h']
  | x :: xs, vs, vs', he, h, h' => by
    rw [VRs_cons] at *
    obtain ⟨v, us, rfl, h1, h2⟩ := h
    obtain ⟨v', us', rfl, h1', h2'⟩ := h'
    simp only [exactVs, Bool.and_eq_true] at he
    rw [exactV_ok x v v' he.1 h1 h1', exactVs_ok xs us us' he.2 h2 h2']
end
def watchB (T : Nat → Option TI) (N : Nat) (ops : Array Oper) (st : St) (i : Nat) : Prop :=
  match ops[i]? with
  | some ⟨some d, .load t (.tmp p), _, _, _, none⟩ => p ≠ d ∧ d < N ∧ match T t with
    | some ti => loadV ti.agg ti.size st (st.env p) = some (st.env d) ∧ exactV (st.env d) = true
    | none => False
  | _ => False
def WatchAll (T : Nat → Option TI) (N : Nat) (ops : Array Oper) (st : St) : List Nat → Prop
  | [] => True
  | i :: is => watchB T N ops st i ∧ WatchAll T N ops st is
def watchS (ops : Array Oper) (i : Nat) : Bool :=
  match ops[i]? with
  | some ⟨some d, .load _ (.tmp p), _, _, _, none⟩ => p != d
  | _ => false
def Kept (P : Program) (ops : Array Oper) (i : Nat) (a : Act) (w : World) : Prop :=
  ∀ oi d, ops[i]? = some oi → oi.dst = some d → ∃ u, a.tmps[d]? = some u ∧ ∀ w', ExtW w w' → (execOp a.eval oi).run P w' = .ok (.value u) w'
theorem watchB_ok (hT : TOK P T) {ops : Array Oper} {st : St} {i : Nat} (h : watchB T N ops st i) {fr a w} (hf : FrOK P N fr) (hr : Rel fr st a w) : Kept P ops i a w := by
  obtain ⟨S, rv, hR⟩ := hr
  unfold watchB at h
  split at h
  · rename_i d t p ty pos af hi
    obtain ⟨hpd, hdN, h⟩ := h
    split at h
    · rename_i ti ht
      obtain ⟨hl, he⟩ := h
      intro oi d' hoi hd'
      rw [hi] at hoi
      cases hoi
      simp only [Option.some.injEq] at hd'
      subst hd'
      have hsz : d < a.tmps.size := by rw [hR.n, hf.n]; exact hdN
      obtain ⟨u, hu, hv⟩ := load_ok (P := P) hR (hT t ti ht) (hR.env p) hl
      have hd := hR.env d
      have e : a.tmps.getD d undef = a.tmps[d] := by simp [Array.getD, hsz]
      rw [e] at hd
      have := exactV_ok _ _ _ he hv hd
      subst this
      exact ⟨_, Array.getElem?_eq_getElem hsz, fun w' hw' => by simp only [execOp, Act.eval, Sem.run_bind, hu w' hw', Result.andThen_ok, Sem.run_pure]⟩
    · exact h.elim
  · exact h.elim
theorem WatchAll.kept (hT : TOK P T) {ops : Array Oper} {st : St} {fr a w} (hf : FrOK P N fr) (hr : Rel fr st a w) : ∀ {is : List Nat}, WatchAll T N ops st is → ∀ i ∈ is, Kept P ops i a w
  | [], _, i, hi => by cases hi
  | k :: is, h, i, hi => by
    rcases List.mem_cons.1 hi with rfl | hi
    · exact watchB_ok hT h.1 hf hr
    · exact WatchAll.kept hT hf hr h.2 i hi
theorem Kept.yields {ops : Array Oper} {i : Nat} {oi : Oper} {v : Value} {a : Act} {w : World} {S : World → Prop} {mem : Bool} (hs : watchS ops i = true) (hi : ops[i]? = some oi) (hy : YieldsIf P ops S oi v a) (hk : Kept P ops i (a.put oi.dst v) w) (hm : mem = true) :
    YieldsIf P ops (fun w' => mem = true → ExtW w w') oi v a := by
  unfold watchS at hs
  split at hs
  · rename_i d t p ty pos af hi'
    rw [hi'] at hi
    cases hi
    obtain ⟨u, hu, hrun⟩ := hk _ d hi' rfl
    have hpd : p ≠ d := by simpa using hs
    have huv : u = v := by
      simp only [Act.put] at hu
      rw [Array.getElem?_setIfInBounds] at hu
      simp only [if_true] at hu
      split at hu
      · simpa using hu.symm
      · cases hu
    subst huv
    have he : ∀ b : Act, execOp b.eval ⟨some d, .load t (.tmp p), ty, pos, af, none⟩ = execOp b.eval ⟨some d, .load t (.tmp p), ty, pos, af, none⟩ := fun _ => rfl
    rcases hy with ⟨hw, _⟩ | ⟨hw, _⟩
    · refine .inl ⟨hw, fun w' hw' => ?_⟩
      have := hrun w' (hw' hm)
      simp only [execOp, Act.eval, Act.put] at this ⊢
      rwa [show (a.tmps.setIfInBounds d u).getD p undef = a.tmps.getD p undef by simp [Array.getD_eq_getD_getElem?, Array.getElem?_setIfInBounds_ne (Ne.symm hpd)]] at this
    · simp [Region.wanted] at hw
  · cases hs
def sepW (ops : Array Oper) (i k : Nat) : Bool :=
  match ops[i]?, ops[k]? with
  | some oi, some ⟨some d, .load _ (.tmp p), _, _, _, none⟩ => oi.dst != some d && oi.dst != some p
  | _, _ => false
theorem Kept.unput {ops : Array Oper} {i k : Nat} {oi : Oper} {v : Value} {a : Act} {w : World} (hs : sepW ops i k = true) (hi : ops[i]? = some oi) (h : Kept P ops k (a.put oi.dst v) w) : Kept P ops k a w := by
  unfold sepW at hs
  split at hs
  · rename_i oi' d t p ty pos af hi' hk
    rw [hi] at hi'
    cases hi'
    simp only [Bool.and_eq_true, bne_iff_ne, ne_eq] at hs
    intro ok d' hok hd'
    rw [hk] at hok
    cases hok
    simp only [Option.some.injEq] at hd'
    subst hd'
    obtain ⟨u, hu, hrun⟩ := h _ d hk rfl
    cases hdst : oi.dst with
    | none => rw [hdst] at hu hrun; exact ⟨u, hu, hrun⟩
    | some di =>
      rw [hdst] at hu hrun hs
      have h1 : di ≠ d := fun e => hs.1 (by rw [e])
      have h2 : di ≠ p := fun e => hs.2 (by rw [e])
      refine ⟨u, by simpa [Act.put, Array.getElem?_setIfInBounds_ne h1] using hu, fun w' hw' => ?_⟩
      have := hrun w' hw'
      simp only [execOp, Act.eval, Act.put] at this ⊢
      rwa [show (a.tmps.setIfInBounds di v).getD p undef = a.tmps.getD p undef by simp [Array.getD_eq_getD_getElem?, Array.getElem?_setIfInBounds_ne h2]] at this
  · cases hs
def wpAnyE (P : Program) (ops : Array Oper) (ex : Nat → Bool) (wt : Nat → List Nat) (Q : Exit → Act → World → Prop) : Nat → Array Bool → Act → World → Prop
  | 0, listed, a, w => Region.ready .any ops listed = [] ∧ Q .normal a w
  | fuel + 1, listed, a, w => (Region.ready .any ops listed = [] → Q .normal a w) ∧
    ∀ i ∈ Region.ready .any ops listed, wpOp P ops Q i (fun a' w' => (ex i = true → ExtW w w') ∧ (∀ k ∈ wt i, listed.getD k false = true → Kept P ops k a' w') ∧ wpAnyE P ops ex wt Q fuel (listed.setIfInBounds i true) a' w') a w
theorem wpAny_of_E {ops : Array Oper} {ex : Nat → Bool} {wt : Nat → List Nat} {Q : Exit → Act → World → Prop} : ∀ (fuel : Nat) (listed : Array Bool) (a : Act) (w : World), wpAnyE P ops ex wt Q fuel listed a w → wpAny P .any ops Q fuel listed a w
  | 0, _, _, _, h => h
  | fuel + 1, _, _, _, h => ⟨h.1, fun i hi => wpOp_mono (fun a' w' h' => wpAny_of_E fuel _ a' w' h'.2.2) (h.2 i hi)⟩
theorem yieldsIf_later {ops : Array Oper} {S S' : World → Prop} {o : Oper} {v : Value} {a : Act} (h : YieldsIf P ops S o v a) (hs : ∀ w, S' w → S w) : YieldsIf P ops S' o v a :=
  h.imp (fun h => ⟨h.1, fun w hw => h.2 w (hs w hw)⟩) id

def DepOK (ops : Array Oper) (i : Nat) (D : List Nat) : Prop := ∀ d ∈ D, ∃ od, ops[d]? = some od ∧ ∃ e ∈ od.after, Region.binds .any e = true ∧ (e.on = i ∨ e.on ∈ D)
def deps (ops : Array Oper) (i : Nat) : List Nat → List Nat → List Nat
  | [], acc => acc
  | k :: ks, acc => deps ops i ks (if (match ops[k]? with
    | some o => o.after.any fun e => Region.binds .any e && (e.on == i || acc.contains e.on)
    | none => false) = true then k :: acc else acc)
theorem deps_ok {ops : Array Oper} {i : Nat} : ∀ (ks acc : List Nat), DepOK ops i acc → DepOK ops i (deps ops i ks acc)
  | [], acc, h => h
  | k :: ks, acc, h => by
    unfold deps
    refine deps_ok ks _ ?_
    split
    · rename_i o ho
      split
      · rename_i hk
        obtain ⟨e, he, hb⟩ := Array.any_eq_true'.1 hk
        simp only [Bool.and_eq_true, Bool.or_eq_true, beq_iff_eq, List.contains_iff_mem] at hb
        intro d hd
        rcases List.mem_cons.1 hd with rfl | hd
        · exact ⟨o, ho, e, he, hb.1, hb.2.imp id (List.mem_cons_of_mem _)⟩
        · obtain ⟨od, h1, e', h2, h3, h4⟩ := h d hd
          exact ⟨od, h1, e', h2, h3, h4.imp id (List.mem_cons_of_mem _)⟩
      · exact h
    · simpa using h
theorem wpAnyE_first {ops : Array Oper} {ex : Nat → Bool} {wt : Nat → List Nat} {Q : Exit → Act → World → Prop} {i : Nat} {oi : Oper} {v : Value} {mem : Bool} {D : List Nat} (hi : ops[i]? = some oi) (hsel : ∀ (j : Nat) (o : Oper) cs b, ops[j]? = some o → o.op ≠ .select cs b)
    (hQ : ∀ c a w, ¬ Q (.panic c) a w) (hD : DepOK ops i D) (hwi : wt i = []) (hsep : ∀ j oj, ops[j]? = some oj → ∀ k ∈ wt j, k = i ∨ k ∈ D ∨ sepW ops i k = true) : ∀ (fuel : Nat) (listed : Array Bool) (a : Act) (w : World),
      (∀ j oj, ops[j]? = some oj → j ≠ i → listed.getD j true = false → (∀ e ∈ oj.after, Region.binds .any e = true → e.on ≠ i) → oi.apart ops oj = true ∧ (mem = true → j ∉ D → ex j = true ∨ (i ∈ wt j ∧ watchS ops i = true))) →
      (∀ d ∈ D, listed.getD d true = false) →
      i ∈ Region.ready .any ops listed → YieldsIf P ops (fun w' => mem = true → ExtW w w') oi v a → wpAnyE P ops ex wt Q fuel (listed.setIfInBounds i true) (a.put oi.dst v) w → wpAnyE P ops ex wt Q (fuel + 1) listed a w
  | 0, listed, a, w, _, _, hr, hy, H => by
    refine ⟨fun h => (by rw [h] at hr; cases hr), fun j hj => ?_⟩
    rcases Nat.decEq j i with hji | hji
    · have := ready_mono hj hji
      rw [H.1] at this
      cases this
    · subst hji; exact hy.wpOp hi (fun _ => .refl w) ⟨fun _ => .refl w, fun k hk => (by rw [hwi] at hk; cases hk), H⟩
  | fuel + 1, listed, a, w, hfree, hun0, hr, hy, H => by
    refine ⟨fun h => (by rw [h] at hr; cases hr), fun j hj => ?_⟩
    rcases Nat.decEq j i with hji | hji
    · obtain ⟨hjun, oj, hoj, hall⟩ := mem_ready.1 hj
      have un : ∀ k, listed.getD k true = false → listed.getD k false = true → False := by
        intro k h1 h2
        rcases Nat.lt_or_ge k listed.size with h | h
        · simp [h] at h1 h2; rw [h1] at h2; cases h2
        · simp [Array.getElem?_eq_none h] at h2
      have hiun := (mem_ready.1 hr).1
      have hnot : ∀ e ∈ oj.after, Region.binds .any e = true → e.on ≠ i := fun e he hb heq => by
        have h1 := hall e he hb
        rw [heq] at h1
        exact un i hiun h1
      have hjD : j ∉ D := fun hd => by
        obtain ⟨od, h1, e, h2, h3, h4⟩ := hD j hd
        rw [hoj] at h1
        cases h1
        have h5 := hall e h2 h3
        rcases h4 with h4 | h4
        · exact hnot e h2 h3 h4
        · exact un _ (hun0 _ h4) h5
      have hf := hfree j oj hoj hji hjun hnot
      have h2 := wpOp_putIf hoj hf.1 (fun cs b => hsel i oi cs b hi) (fun cs b => hsel j oj cs b hoj) (fun c a w h => absurd h (hQ c _ w)) hy (H.2 j (ready_mono hj hji))
      refine wpOp_mono (fun a' w' h3 => ⟨h3.2.1, fun k hk hkl => ?_, ?_⟩) h2
      · have hki : k ≠ i := fun e => un i hiun (e ▸ hkl)
        have hkD : k ∉ D := fun e => un k (hun0 k e) hkl
        have hs := ((hsep j oj hoj k hk).resolve_left hki).resolve_left hkD
        refine Kept.unput hs hi (h3.2.2.1 k hk ?_)
        rw [getD_set_ne false (Ne.symm hki)]; exact hkl
      refine wpAnyE_first (v := v) hi hsel hQ hD hwi hsep fuel (listed.setIfInBounds j true) a' w' (fun k ok hk hki hun hno => hfree k ok hk hki ?_ hno) (fun d hd => ?_) (ready_mono hr (Ne.symm hji)) ?_ ?_
      · rcases Nat.decEq j k with hjk | hjk
        · rw [getD_set_ne true hjk] at hun; exact hun
        · subst hjk; exact hjun
      · rw [getD_set_ne true (by rintro rfl; exact hjD hd)]; exact hun0 d hd
      · cases hmm : mem with
        | false => exact yieldsIf_later h3.1 fun w'' hw hm => (by rw [hmm] at hm; cases hm)
        | true =>
          rcases hf.2 hmm hjD with he | ⟨hwt, hws⟩
          · exact yieldsIf_later h3.1 fun w'' hw hm => (h3.2.1 he).trans (hw rfl)
          · refine Kept.yields hws hi h3.1 (h3.2.2.1 i hwt ?_) rfl
            have hlt : i < listed.size := by
              rcases Nat.lt_or_ge i listed.size with h | h
              · exact h
              · simp [Array.getElem?_eq_none h] at hiun
            simp [Array.getElem?_setIfInBounds, hlt]
      · rw [Array.setIfInBounds_comm _ _ hji]
        exact h3.2.2.2
    · subst hji; exact hy.wpOp hi (fun _ => .refl w) ⟨fun _ => .refl w, fun k hk => (by rw [hwi] at hk; cases hk), H⟩

def isLook (o : Oper) : Bool :=
  match o.op with
  | .assign _ | .box .. | .alloc .. | .buildSlice .. | .makeSlice .. | .store .. => false
  | .call c => match c.callee with
      | .builtin .append => false
      | .builtin .clear => false
      | .builtin _ => true
      | _ => false
  | _ => true
def OpQ (P : Program) (N : Nat) (o : Oper) (st : St) (K : St → Prop) : Prop :=
  ∀ fr a w, FrOK P N fr → Rel fr st a w → o.wp P a w (fun a' w' => ∃ st', K st' ∧ Rel fr st' a' w') (fun _ _ _ => False)
def OpQE (P : Program) (N : Nat) (o : Oper) (st : St) (K : St → Prop) : Prop :=
  ∀ fr a w, FrOK P N fr → Rel fr st a w → o.wp P a w (fun a' w' => (∃ st', K st' ∧ Rel fr st' a' w') ∧ ExtW w w') (fun _ _ _ => False)
theorem OpOK.q {o : Oper} {st st' : St} (h : OpOK P N o st st') : OpQ P N o st (· = st') :=
  fun fr a w hf hr => OpR.wpOp.wp_weak (Q := fun _ _ _ => False) (h fr a w hf hr) (fun a w h => ⟨st', rfl, h⟩)
theorem OpOKE.q {o : Oper} {st st' : St} (h : OpOKE P N o st st') : OpQE P N o st (· = st') :=
  fun fr a w hf hr => OpR.wpOp.wp_weak (Q := fun _ _ _ => False) (h fr a w hf hr) (fun a w h => ⟨⟨st', rfl, h.1⟩, h.2⟩)
inductive RunsP (P : Program) (T : Nat → Option TI) (N : Nat) (ops : Array Oper) (Q : St → Prop) : List (Nat × Bool) → St → Prop
  | nil {st : St} (h : Q st) : RunsP P T N ops Q [] st
  | look {i : Nat} {e : Bool} {l : List (Nat × Bool)} {o : Oper} {st st1 : St} (hi : ops[i]? = some o) (hg : guardV ops st o = some true) (h : valSt T N st o = some st1) (hl : RunsP P T N ops Q l st1) : RunsP P T N ops Q ((i, e) :: l) st
  | skip {i : Nat} {e : Bool} {l : List (Nat × Bool)} {o : Oper} {st : St} (hi : ops[i]? = some o) (hg : guardV ops st o = some false) (hd : dIn N o.dst = true) (hl : RunsP P T N ops Q l (st.put o.dst (.tu []))) : RunsP P T N ops Q ((i, e) :: l) st
  | eff {i : Nat} {e : Bool} {l : List (Nat × Bool)} {o : Oper} {st : St} {K : St → Prop} (hi : ops[i]? = some o) (hg : guardV ops st o = some true) (hnl : isLook o = false) (h : OpQ P N o st K) (he : e = true → OpQE P N o st K) (hl : ∀ st1, K st1 → RunsP P T N ops Q l st1) : RunsP P T N ops Q ((i, e) :: l) st

theorem wpOp_of_q {ops : Array Oper} {i : Nat} {o : Oper} {st : St} {K0 : St → Prop} (hi : ops[i]? = some o) (hg : guardV ops st o = some true) (h : OpQ P N o st K0) {fr a w} (hf : FrOK P N fr) (hr : Rel fr st a w) {Q : Exit → Act → World → Prop} {K : Act → World → Prop} (hK : ∀ st1 a w, K0 st1 → Rel fr st1 a w → K a w) : wpOp P ops Q i K a w := by
  obtain ⟨S, rv, hR⟩ := id hr
  have hw := guardV_ok hR hg
  unfold Go.wpOp
  simp only [hi, hw, if_true]
  exact .inl (OpR.wpOp.wp_weak (h fr a w hf hr) (fun a w ⟨st1, h1, h2⟩ => hK st1 a w h1 h2))
theorem wpOp_of_ok {ops : Array Oper} {i : Nat} {o : Oper} {st st1 : St} (hi : ops[i]? = some o) (hg : guardV ops st o = some true) (h : OpOK P N o st st1) {fr a w} (hf : FrOK P N fr) (hr : Rel fr st a w) {Q : Exit → Act → World → Prop} {K : Act → World → Prop} (hK : ∀ a w, Rel fr st1 a w → K a w) : wpOp P ops Q i K a w :=
  wpOp_of_q hi hg h.q hf hr (fun _ a w e hr => hK a w (e ▸ hr))
theorem RunsP.wpOps {ops : Array Oper} (hT : TOK P T) {fr : Fr} (hf : FrOK P N fr) {Q : St → Prop} {Q' : Exit → Act → World → Prop} (hQ : ∀ st a w, Q st → Rel fr st a w → Q' .normal a w) : ∀ {l st}, RunsP P T N ops Q l st → ∀ a w, Rel fr st a w → Go.wpOps P ops Q' (l.map (·.1)) a w := by
  intro l st h
  induction h with
  | nil h => intro a w hr; exact hQ _ a w h hr
  | look hi hg h hl ih =>
    intro a w hr
    rw [List.map_cons, wpOps_cons]
    exact wpOp_of_ok hi hg (valSt_ok hT h) hf hr (fun a w hr' => ih a w hr')
  | skip hi hg hd hl ih =>
    intro a w hr
    rw [List.map_cons, wpOps_cons]
    exact OpR.wpOp hT (.no hg hd rfl) hf hr hi (fun a w hr' => ih a w hr')
  | eff hi hg hnl h he hl ih =>
    intro a w hr
    rw [List.map_cons, wpOps_cons]
    exact wpOp_of_q hi hg h hf hr (fun st1 a w hk hr' => ih st1 hk a w hr')

def goFree (ops : Array Oper) (ex : Nat → Bool) (wt : Nat → List Nat) (listed : Array Bool) (i : Nat) (mem : Bool) : Bool :=
  ((deps ops i (List.range ops.size) []).all fun d => !(listed.getD d true)) && (wt i).isEmpty &&
    ((List.range ops.size).all fun j => (wt j).all fun k => k == i || (deps ops i (List.range ops.size) []).contains k || sepW ops i k) &&
    (!mem || (List.range ops.size).all fun j => j == i || listed.getD j true || ex j || (deps ops i (List.range ops.size) []).contains j || ((wt j).contains i && watchS ops i))
theorem goFree_ok {ops : Array Oper} {ex : Nat → Bool} {wt : Nat → List Nat} {listed : Array Bool} {i : Nat} {mem : Bool} (h : goFree ops ex wt listed i mem = true) :
    (∀ d ∈ deps ops i (List.range ops.size) [], listed.getD d true = false) ∧ wt i = [] ∧ (∀ j oj, ops[j]? = some oj → ∀ k ∈ wt j, k = i ∨ k ∈ deps ops i (List.range ops.size) [] ∨ sepW ops i k = true) ∧
      ∀ j oj, ops[j]? = some oj → j ≠ i → listed.getD j true = false → mem = true → j ∉ deps ops i (List.range ops.size) [] → ex j = true ∨ (i ∈ wt j ∧ watchS ops i = true) := by
  simp only [goFree, Bool.and_eq_true] at h
  obtain ⟨⟨⟨h1, h2⟩, h3⟩, h4⟩ := h
  refine ⟨fun d hd => by simpa using List.all_eq_true.1 h1 d hd, by simpa using h2, fun j oj hj k hk => ?_, fun j oj hj hji hun hm hno => ?_⟩
  · have := List.all_eq_true.1 (List.all_eq_true.1 h3 j (List.mem_range.2 (Array.getElem?_eq_some_iff.1 hj).1)) k hk
    simpa only [Bool.or_eq_true, beq_iff_eq, List.contains_iff_mem, or_assoc] using this
  · rw [hm] at h4
    simp only [Bool.not_true, Bool.false_or] at h4
    have := List.all_eq_true.1 h4 j (List.mem_range.2 (Array.getElem?_eq_some_iff.1 hj).1)
    simp only [hun, Bool.or_eq_true, Bool.and_eq_true, beq_iff_eq, hji, false_or, Bool.false_eq_true, List.contains_iff_mem, hno, or_false] at this
    exact this
def stepOK (ops : Array Oper) (ex : Nat → Bool) (wt : Nat → List Nat) (listed : Array Bool) (i : Nat) : Bool :=
  (Region.ready .any ops listed).contains i && match ops[i]? with
    | some o => (isLook o && Region.free .any ops listed i && goFree ops ex wt listed i (isMem o)) || Region.ready .any ops listed == [i]
    | none => false
inductive PT (α : Type)
  | leaf (l : List (α × Bool))
  | fork (l : List (α × Bool)) (p q : PT α)
  | chk (l : List (α × Bool)) (is : List Nat) (p : PT α)
def PT.heads {α : Type} : PT α → List α
  | .leaf [] => []
  | .leaf (x :: _) => [x.1]
  | .fork [] p q => p.heads ++ q.heads
  | .fork (x :: _) _ _ => [x.1]
  | .chk [] _ _ => []
  | .chk (x :: _) _ _ => [x.1]
def noW (wt : Nat → List Nat) : Option Nat → Bool
  | some j => (wt j).isEmpty
  | none => true
def segOK (ops : Array Oper) (ex : Nat → Bool) (wt : Nat → List Nat) (k : Option Nat → Array Bool → Bool) : Bool → Option Nat → List (Nat × Bool) → Array Bool → Bool
  | _, prev, [], listed => k prev listed
  | first, prev, (i, e) :: l, listed => noW wt prev && (first || stepOK ops ex wt listed i) && (!ex i || e) && segOK ops ex wt k false (some i) l (listed.setIfInBounds i true)
def ptOK (ops : Array Oper) (ex : Nat → Bool) (wt : Nat → List Nat) : Bool → PT Nat → Array Bool → Bool
  | first, .leaf l, listed => segOK ops ex wt (fun prev listed => noW wt prev && (Region.ready .any ops listed).isEmpty) first none l listed
  | first, .chk l is p, listed => segOK ops ex wt (fun prev listed => (match prev with
      | some j => wt j == is
      | none => false) && ptOK ops ex wt false p listed) first none l listed
  | true, .fork [] p q, listed => ptOK ops ex wt true p listed && ptOK ops ex wt true q listed
  | first, .fork l p q, listed => segOK ops ex wt (fun prev listed => noW wt prev && Region.ready .any ops listed == p.heads ++ q.heads && !(p.heads ++ q.heads).isEmpty && ptOK ops ex wt true p listed && ptOK ops ex wt true q listed) first none l listed
def PTRun (P : Program) (T : Nat → Option TI) (N : Nat) (ops : Array Oper) (Q : St → Prop) : PT Nat → St → Prop
  | .leaf l => RunsP P T N ops Q l
  | .fork l p q => RunsP P T N ops (fun st => PTRun P T N ops Q p st ∧ PTRun P T N ops Q q st) l
  | .chk l is p => RunsP P T N ops (fun st => WatchAll T N ops st is ∧ PTRun P T N ops Q p st) l
def PT.len {α : Type} : PT α → Nat
  | .leaf l => l.length
  | .fork l p q => l.length + max p.len q.len
  | .chk l _ p => l.length + p.len
theorem wpAnyE_more {ops : Array Oper} {ex : Nat → Bool} {wt : Nat → List Nat} {Q : Exit → Act → World → Prop} : ∀ (fuel : Nat) (listed : Array Bool) (a : Act) (w : World), wpAnyE P ops ex wt Q fuel listed a w → wpAnyE P ops ex wt Q (fuel + 1) listed a w
  | 0, listed, a, w, h => ⟨fun _ => h.2, by rw [h.1]; simp⟩
  | fuel + 1, listed, a, w, h => ⟨h.1, fun i hi => wpOp_mono (fun a' w' h' => ⟨h'.1, h'.2.1, wpAnyE_more fuel _ a' w' h'.2.2⟩) (h.2 i hi)⟩
theorem wpAnyE_le {ops : Array Oper} {ex : Nat → Bool} {wt : Nat → List Nat} {Q : Exit → Act → World → Prop} {n m : Nat} (hnm : n ≤ m) {listed a w} (h : wpAnyE P ops ex wt Q n listed a w) : wpAnyE P ops ex wt Q m listed a w := by
  obtain ⟨k, rfl⟩ := Nat.exists_eq_add_of_le hnm
  induction k with
  | zero => exact h
  | succ k ih => exact wpAnyE_more _ _ _ _ (ih (by omega))
abbrev HeadP (P : Program) (ops : Array Oper) (ex : Nat → Bool) (wt : Nat → List Nat) (Q : Exit → Act → World → Prop) (fuel : Nat) (listed : Array Bool) (i : Nat) (a : Act) (w : World) : Prop :=
  wpOp P ops Q i (fun a' w' => (ex i = true → ExtW w w') ∧ (∀ k ∈ wt i, listed.getD k false = true → Kept P ops k a' w') ∧ Go.Eng.wpAnyE P ops ex wt Q fuel (listed.setIfInBounds i true) a' w') a w
theorem RunsP.seg {ops : Array Oper} (hT : TOK P T) {fr : Fr} (hf : FrOK P N fr) {Q : St → Prop} {Q0 : Exit → Act → World → Prop} {ex : Nat → Bool} {wt : Nat → List Nat} (hsel : ∀ (j : Nat) (o : Oper) cs b, ops[j]? = some o → o.op ≠ .select cs b) (hQ0 : ∀ c a w, ¬ Q0 (.panic c) a w) {k : Option Nat → Array Bool → Bool} {F : Nat}
    (hK : ∀ st' a w prev listed, k prev listed = true → Q st' → Rel fr st' a w → (∀ j, prev = some j → ∀ i ∈ wt j, Kept P ops i a w) ∧ Go.Eng.wpAnyE P ops ex wt Q0 F listed a w) :
    ∀ {l st}, RunsP P T N ops Q l st → ∀ listed first prev, segOK ops ex wt k first prev l listed = true → ∀ a w, Rel fr st a w →
      (first = false → (∀ j, prev = some j → ∀ i ∈ wt j, Kept P ops i a w) ∧ Go.Eng.wpAnyE P ops ex wt Q0 (F + l.length) listed a w) ∧ (∀ i, (l.head?).map (·.1) = some i → HeadP P ops ex wt Q0 (F + l.length - 1) listed i a w) := by
  intro l st h
  have noK : ∀ {prev a w}, noW wt prev = true → ∀ j, prev = some j → ∀ i ∈ wt j, Kept P ops i a w := by
    intro prev a w h j hj i hi
    subst hj
    simp only [noW, List.isEmpty_iff] at h
    rw [h] at hi; cases hi
  -- alone, or ahead of the others
  have fin : ∀ {i : Nat} {listed : Array Bool} {fuel : Nat} {a w}, Region.ready .any ops listed = [i] → HeadP P ops ex wt Q0 fuel listed i a w → Go.Eng.wpAnyE P ops ex wt Q0 (fuel + 1) listed a w := by
    intro i listed fuel a w hr h
    refine ⟨fun e => (by rw [hr] at e; cases e), fun j hj => ?_⟩
    rw [hr] at hj
    cases List.mem_singleton.1 hj
    exact h
  have look : ∀ {i : Nat} {o : Oper} {u : Value} {listed : Array Bool} {fuel : Nat} {a w}, ops[i]? = some o → YieldsIf P ops (fun w' => isMem o = true → ExtW w w') o u a → stepOK ops ex wt listed i = true →
      (∀ k ∈ wt i, Kept P ops k (a.put o.dst u) w) → Go.Eng.wpAnyE P ops ex wt Q0 fuel (listed.setIfInBounds i true) (a.put o.dst u) w → Go.Eng.wpAnyE P ops ex wt Q0 (fuel + 1) listed a w := by
    intro i o u listed fuel a w hi hy hp hki h
    simp only [stepOK, hi, Bool.and_eq_true, Bool.or_eq_true, beq_iff_eq] at hp
    obtain ⟨h1, h2⟩ := hp
    rcases h2 with ⟨⟨_, h2⟩, h3⟩ | h2
    · obtain ⟨g1, g2, g3, g4⟩ := goFree_ok h3
      exact wpAnyE_first hi hsel hQ0 (deps_ok (List.range ops.size) [] (fun d hd => by cases hd)) g2 g3 fuel listed a w (fun j oj hj hji hun hno => ⟨Region.free_spec hi h2 j oj hj hji hun hno, g4 j oj hj hji hun⟩) g1 (by simpa using h1) hy h
    · exact fin h2 (hy.wpOp hi (fun _ => .refl w) ⟨fun _ => .refl w, fun k hk _ => hki k hk, h⟩)
  induction h with
  | nil h =>
    intro listed first prev hp a w hr
    have := hK _ a w prev listed (by simpa [segOK] using hp) h hr
    exact ⟨fun _ => ⟨this.1, by simpa using this.2⟩, fun i hi => by simp at hi⟩
  | @look i e l o st st1 hi hg h hl ih =>
    intro listed first prev hp a w ⟨S, rv, hR⟩
    simp only [segOK, Bool.and_eq_true, Bool.or_eq_true, Bool.not_eq_true'] at hp
    obtain ⟨⟨⟨hp0, hp1⟩, hp2⟩, hp3⟩ := hp
    simp only [valSt, Option.bind_eq_some_iff] at h
    obtain ⟨y, hy, h⟩ := h
    split at h
    · rename_i hd
      cases h
      obtain ⟨u, hrun, hr⟩ := valV_ok' hT hR hy
      have hyi : YieldsIf P ops (fun w' => isMem o = true → ExtW w w') o u a := .inl ⟨guardV_ok hR hg, hrun⟩
      obtain ⟨hkept, hnext⟩ := (ih _ _ _ hp3 (a.put o.dst u) w ⟨S, rv, hR.put (hf.n ▸ dOK_of hd) hr⟩).1 rfl
      refine ⟨fun hf0 => ⟨noK hp0, ?_⟩, fun j hj => ?_⟩
      · exact look hi hyi (hp1.resolve_left (by simp [hf0])) (hkept i rfl) hnext
      · simp at hj; subst hj
        exact hyi.wpOp hi (fun _ => .refl w) ⟨fun _ => .refl w, fun k hk _ => hkept _ rfl k hk, hnext⟩
    · cases h
  | @skip i e l o st hi hg hd hl ih =>
    intro listed first prev hp a w ⟨S, rv, hR⟩
    simp only [segOK, Bool.and_eq_true, Bool.or_eq_true, Bool.not_eq_true'] at hp
    obtain ⟨⟨⟨hp0, hp1⟩, hp2⟩, hp3⟩ := hp
    have hyi : YieldsIf P ops (fun w' => isMem o = true → ExtW w w') o undef a := .inr ⟨guardV_ok hR hg, rfl⟩
    obtain ⟨hkept, hnext⟩ := (ih _ _ _ hp3 (a.put o.dst undef) w ⟨S, rv, hR.put (hf.n ▸ dOK_of hd) (by rw [VR_tu]; exact ⟨#[], rfl, by rw [VRs_nil]⟩)⟩).1 rfl
    refine ⟨fun hf0 => ⟨noK hp0, ?_⟩, fun j hj => ?_⟩
    · exact look hi hyi (hp1.resolve_left (by simp [hf0])) (hkept i rfl) hnext
    · simp at hj; subst hj
      exact hyi.wpOp hi (fun _ => .refl w) ⟨fun _ => .refl w, fun k hk _ => hkept _ rfl k hk, hnext⟩
  | @eff i e l o st K hi hg hnl h he hl ih =>
    intro listed first prev hp a w hr
    obtain ⟨S, rv, hR⟩ := id hr
    simp only [segOK, Bool.and_eq_true, Bool.or_eq_true, Bool.not_eq_true'] at hp
    obtain ⟨⟨⟨hp0, hp1⟩, hp2⟩, hp3⟩ := hp
    have hw := guardV_ok hR hg
    have hop : HeadP P ops ex wt Q0 (F + l.length) listed i a w := by
      unfold HeadP Go.wpOp
      simp only [hi, hw, if_true]
      refine .inl ?_
      have nx : ∀ st1 a w, K st1 → Rel fr st1 a w → (∀ k ∈ wt i, listed.getD k false = true → Kept P ops k a w) ∧ Go.Eng.wpAnyE P ops ex wt Q0 (F + l.length) (listed.setIfInBounds i true) a w := fun st1 a w h1 h2 => by
        obtain ⟨h3, h4⟩ := (ih st1 h1 _ _ _ hp3 a w h2).1 rfl
        exact ⟨fun k hk _ => h3 i rfl k hk, h4⟩
      rcases hp2 with h3 | h3
      · exact OpR.wpOp.wp_weak (h fr a w hf hr) (fun a w ⟨st1, h1, h2⟩ => ⟨fun hh => (by rw [h3] at hh; cases hh), nx st1 a w h1 h2⟩)
      · exact OpR.wpOp.wp_weak (he h3 fr a w hf hr) (fun a w ⟨⟨st1, h1, h2⟩, h4⟩ => ⟨fun _ => h4, nx st1 a w h1 h2⟩)
    refine ⟨fun hf0 => ⟨noK hp0, ?_⟩, fun j hj => ?_⟩
    · have hs := hp1.resolve_left (by simp [hf0])
      simp only [stepOK, hi, hnl, Bool.false_and, Bool.false_or, Bool.and_eq_true, beq_iff_eq] at hs
      exact fin hs.2 hop
    · simp at hj; subst hj
      exact hop
theorem PT.len_heads {α : Type} : ∀ (t : PT α), ∀ i ∈ t.heads, t.len ≠ 0
  | .leaf [], i, hi => by simp [PT.heads] at hi
  | .leaf (x :: l), i, hi => by simp [PT.len]
  | .chk [] _ _, i, hi => by simp [PT.heads] at hi
  | .chk (x :: l) _ _, i, hi => by simp [PT.len]
  | .fork [] p q, i, hi => by
    simp only [PT.heads, List.mem_append] at hi
    rcases hi with hi | hi
    · have := PT.len_heads p i hi; simp [PT.len]; omega
    · have := PT.len_heads q i hi; simp [PT.len]; omega
  | .fork (x :: l) p q, i, hi => by simp [PT.len]
theorem HeadP.le {ops : Array Oper} {ex : Nat → Bool} {wt : Nat → List Nat} {Q : Exit → Act → World → Prop} {n m : Nat} (hnm : n ≤ m) {listed i a w} (h : HeadP P ops ex wt Q n listed i a w) : HeadP P ops ex wt Q m listed i a w :=
  wpOp_mono (fun a' w' h' => ⟨h'.1, h'.2.1, wpAnyE_le hnm h'.2.2⟩) h
theorem PTRun.wpAnyE {ops : Array Oper} (hT : TOK P T) {fr : Fr} (hf : FrOK P N fr) {Q : St → Prop} {ex : Nat → Bool} {wt : Nat → List Nat} (hsel : ∀ (j : Nat) (o : Oper) cs b, ops[j]? = some o → o.op ≠ .select cs b) :
    ∀ (t : PT Nat) (first : Bool) {st : St}, PTRun P T N ops Q t st → ∀ listed, ptOK ops ex wt first t listed = true → ∀ a w, Rel fr st a w →
      (first = false → Go.Eng.wpAnyE P ops ex wt (fun e a w => e = .normal ∧ ∃ st', Q st' ∧ Rel fr st' a w) t.len listed a w) ∧
      (∀ i ∈ t.heads, first = true → HeadP P ops ex wt (fun e a w => e = .normal ∧ ∃ st', Q st' ∧ Rel fr st' a w) (t.len - 1) listed i a w)
  | .leaf l, first, st, h, listed, hp, a, w, hr => by
    have := RunsP.seg (F := 0) hT hf hsel (Q0 := fun e a w => e = .normal ∧ ∃ st', Q st' ∧ Rel fr st' a w) (fun c a w h => by cases h.1) (ex := ex) (wt := wt) (k := fun prev listed => noW wt prev && (Region.ready .any ops listed).isEmpty)
      (fun st' a w prev listed hk hq hr => by
        simp only [Bool.and_eq_true, List.isEmpty_iff] at hk
        exact ⟨fun j hj i hi => (by subst hj; have := hk.1; simp only [noW, List.isEmpty_iff] at this; rw [this] at hi; cases hi), hk.2, rfl, st', hq, hr⟩) h listed first none (by simpa [ptOK] using hp) a w hr
    refine ⟨fun hf0 => by simpa [PT.len] using (this.1 hf0).2, fun i hi _ => ?_⟩
    have := this.2 i (by cases l with | nil => simp [PT.heads] at hi | cons x l => simp [PT.heads] at hi; simp [hi])
    simpa [PT.len] using this
  | .chk l is p, first, st, h, listed, hp, a, w, hr => by
    have := RunsP.seg (F := p.len) hT hf hsel (Q0 := fun e a w => e = .normal ∧ ∃ st', Q st' ∧ Rel fr st' a w) (fun c a w h => by cases h.1) (ex := ex) (wt := wt) (k := fun prev listed => (match prev with
      | some j => wt j == is
      | none => false) && ptOK ops ex wt false p listed)
      (fun st' a w prev listed hk hq hr => by
        simp only [Bool.and_eq_true] at hk
        refine ⟨fun j hj i hi => ?_, (PTRun.wpAnyE hT hf hsel p false hq.2 listed hk.2 a w hr).1 rfl⟩
        subst hj
        have := hk.1
        simp only [beq_iff_eq] at this
        rw [this] at hi
        exact WatchAll.kept hT hf hr hq.1 i hi) h listed first none (by simpa [ptOK] using hp) a w hr
    refine ⟨fun hf0 => by have := (this.1 hf0).2; rw [Nat.add_comm] at this; exact this, fun i hi hft => ?_⟩
    have := this.2 i (by cases l with | nil => simp [PT.heads] at hi | cons x l => simp [PT.heads] at hi; simp [hi])
    rw [Nat.add_comm] at this
    exact this
  | .fork l p q, first, st, h, listed, hp, a, w, hr => by
    by_cases hl : first = true ∧ l = []
    · obtain ⟨rfl, rfl⟩ := hl
      simp only [ptOK, Bool.and_eq_true] at hp
      simp only [PTRun] at h
      cases h with
      | nil h =>
        refine ⟨fun h => (by cases h), fun i hi _ => ?_⟩
        simp only [PT.heads, List.mem_append] at hi
        rcases hi with hi | hi
        · exact HeadP.le (by simp only [PT.len, List.length_nil]; omega) ((PTRun.wpAnyE hT hf hsel p true h.1 listed hp.1 a w hr).2 i hi rfl)
        · exact HeadP.le (by simp only [PT.len, List.length_nil]; omega) ((PTRun.wpAnyE hT hf hsel q true h.2 listed hp.2 a w hr).2 i hi rfl)
    have hp' : segOK ops ex wt (fun prev listed => noW wt prev && Region.ready .any ops listed == p.heads ++ q.heads && !(p.heads ++ q.heads).isEmpty && ptOK ops ex wt true p listed && ptOK ops ex wt true q listed) first none l listed = true := by
      cases l with
      | nil => cases first with
        | true => exact absurd ⟨rfl, rfl⟩ hl
        | false => simpa [ptOK] using hp
      | cons x l => cases first <;> simpa [ptOK] using hp
    have := RunsP.seg (F := max p.len q.len) hT hf hsel (Q0 := fun e a w => e = .normal ∧ ∃ st', Q st' ∧ Rel fr st' a w) (fun c a w h => by cases h.1) (ex := ex) (wt := wt)
      (k := fun prev listed => noW wt prev && Region.ready .any ops listed == p.heads ++ q.heads && !(p.heads ++ q.heads).isEmpty && ptOK ops ex wt true p listed && ptOK ops ex wt true q listed)
      (fun st' a w prev listed hk hq hr => by
        simp only [Bool.and_eq_true, beq_iff_eq, Bool.not_eq_true'] at hk
        obtain ⟨⟨⟨⟨hk0, hrd⟩, hne⟩, hk2⟩, hk3⟩ := hk
        refine ⟨fun j hj i hi => (by subst hj; simp only [noW, List.isEmpty_iff] at hk0; rw [hk0] at hi; cases hi), ?_⟩
        have h1 := (PTRun.wpAnyE hT hf hsel p true hq.1 listed hk2 a w hr).2
        have h2 := (PTRun.wpAnyE hT hf hsel q true hq.2 listed hk3 a w hr).2
        obtain ⟨i0, hi0⟩ : ∃ i, i ∈ p.heads ++ q.heads := by
          cases e : p.heads ++ q.heads with
          | nil => rw [e] at hne; cases hne
          | cons x l => exact ⟨x, by simp⟩
        have hpos : max p.len q.len ≠ 0 := by
          rcases List.mem_append.1 hi0 with h | h
          · have := PT.len_heads p i0 h; omega
          · have := PT.len_heads q i0 h; omega
        obtain ⟨m, hm⟩ : ∃ m, max p.len q.len = m + 1 := ⟨max p.len q.len - 1, by omega⟩
        rw [hm]
        refine ⟨fun e => ?_, fun k hk => ?_⟩
        · rw [hrd] at e; rw [e] at hne; cases hne
        rw [hrd] at hk
        rcases List.mem_append.1 hk with hk | hk
        · exact HeadP.le (by omega) (h1 k hk rfl)
        · exact HeadP.le (by omega) (h2 k hk rfl)) h listed first none hp' a w hr
    refine ⟨fun hf0 => by have := (this.1 hf0).2; rw [Nat.add_comm] at this; exact this, fun i hi hft => ?_⟩
    have := this.2 i (by cases l with | nil => exact absurd ⟨hft, rfl⟩ hl | cons x l => simp [PT.heads] at hi; simp [hi])
    rw [Nat.add_comm] at this
    exact this

theorem Rel.drew {fr st a w} (h : Rel fr st a w) : Rel fr st a { w with drawn := w.drawn + 1 } := by
  obtain ⟨S, rv, h⟩ := h
  have hA : ∀ X : Nat → Prop, Agr w { w with drawn := w.drawn + 1 } X := fun X b hb => rfl
  refine ⟨S, rv, h.os, ⟨h.tape.1, Nat.le_succ_of_le h.tape.2⟩, h.output, h.size, h.agr, h.xy, h.xlt, h.n, h.defers, fun n r hn => RR_congr (hA _) (fun _ h => h) (hA _) (fun _ h => h) (h.rr n r hn), h.sout, h.sdis, h.rv0, fun t => ?_⟩
  exact VR_keep (hA _) (fun _ h => h) (fun n p v hv => by
    rw [VR_rf] at *
    obtain ⟨r, h1, h2, f, k, es, h3⟩ := hv
    exact ⟨r, h1, (rAt_congr (hA _) (hA _) (h.rr n r h1) h3 rfl).trans h2, f, k, es, h3⟩) (fun n p o v hv => by
    rw [VR_pt] at *
    obtain ⟨r, b, o', h1, h2, h3⟩ := hv
    exact ⟨r, b, o', h1, (rLoc_congr (hA _) (hA _) (h.rr n r h1) p).trans h2, h3⟩) _ _ (h.env t)

theorem AW.textual (hT : TOK P T) {id : Nat} {ops : Array Oper} {st : St} {Q : Exit → St → Prop} (h : RunsP P T N ops (Q .normal) ((List.range ops.size).map fun i => (i, false)) st) : AW P N (.region id ops false) st Q :=
  fun fr a w hf hr => wp_region (by
    have := h.wpOps hT hf (Q' := fun e a' w' => ∃ st', Q e st' ∧ Rel fr st' a' w') (fun st a w hq hr => ⟨st, hq, hr⟩) a w hr
    simpa [List.map_map, Function.comp_def] using this)
def wtOf (l : List (Nat × List Nat)) (j : Nat) : List Nat :=
  match l with
  | [] => []
  | (n, is) :: l => if n = j then is else wtOf l j
def drawOK (ops : Array Oper) (ex : List Nat) (wt : List (Nat × List Nat)) (t : PT Nat) : Bool := Region.noSelect ops && ptOK ops (fun i => ex.contains i) (wtOf wt) false t (Array.replicate ops.size false) && decide (t.len ≤ ops.size)
theorem AW.drawn (hT : TOK P T) (hm : P.follows .mixedOrders = true) {id : Nat} {ops : Array Oper} {st : St} {Q : Exit → St → Prop} {ex : List Nat} {wt : List (Nat × List Nat)} {t : PT Nat} (hc : drawOK ops ex wt t = true)
    (h : PTRun P T N ops (Q .normal) t st) : AW P N (.region id ops true) st Q := by
  simp only [drawOK, Bool.and_eq_true, decide_eq_true_eq] at hc
  obtain ⟨⟨h1, h2⟩, h3⟩ := hc
  exact fun fr a w hf hr => wp_mono (wp_region_any hm (wpAny_of_E _ _ _ _ (wpAnyE_le h3 ((PTRun.wpAnyE hT hf (Region.noSelect_spec h1) t false h _ h2 a _ hr.drew).1 rfl)))) (fun e a w ⟨he, st', h1, h2⟩ => by subst he; exact ⟨st', h1, h2⟩)
end Go.Eng

set_option linter.unusedSimpArgs false
set_option linter.unusedVariables false
namespace Go.Eng
open Go.RowKit
variable {P : Program} {T : Nat → Option TI} {N : Nat}

inductive Outs
  | done (st : St)
  | call (e : Bool) (o : Oper) (l : List (Oper × Bool)) (st : St)
  | bad
def mkIte (b : Bool) (x y : Outs) : Outs := match b with | true => x | false => y
@[simp] theorem mkIte_true (x y) : mkIte true x y = x := rfl
@[simp] theorem mkIte_false (x y) : mkIte false x y = y := rfl

def isFn (o : Oper) : Bool :=
  match o.op with
  | .call c => match c.callee with
      | .value _ => true
      | _ => false
  | _ => false
def isExt (o : Oper) : Bool :=
  match o.op with
  | .store .. => false
  | .call c => match c.callee with
      | .builtin .append => false
      | .builtin .clear => false
      | _ => true
  | _ => true

def contO (e : Bool) (x : Option St) (K : St → Outs) : Outs :=
  match e, x with
  | true, some st => K st
  | _, _ => .bad
def runL (T : Nat → Option TI) (N : Nat) (ops : Array Oper) : List (Oper × Bool) → St → Outs
  | [], st => .done st
  | (o, e) :: l, st => match guardV ops st o with
    | none => .bad
    | some g => mkIte g (if isFn o = true then .call e { o with guard := none } l st else contO (!e || isExt o) (stepF T N st o) (runL T N ops l)) (contO (dIn N o.dst) (some (st.put o.dst (.tu []))) (runL T N ops l))

inductive OutOK (P : Program) (T : Nat → Option TI) (N : Nat) (ops : Array Oper) (Q : St → Prop) : Outs → Prop
  | done {st : St} (h : Q st) : OutOK P T N ops Q (.done st)
  | call {e : Bool} {o : Oper} {l : List (Oper × Bool)} {st : St} {K : St → Prop} (h : OpQ P N o st K) (he : e = true → OpQE P N o st K) (hl : ∀ st1, K st1 → OutOK P T N ops Q (runL T N ops l st1)) : OutOK P T N ops Q (.call e o l st)
theorem stepF_okE (hT : TOK P T) {o : Oper} {st st' : St} (hx : isExt o = true) (h : stepF T N st o = some st') : OpOKE P N o st st' := by
  have val : valSt T N st o = some st' → OpOKE P N o st st' := by
    intro h
    simp only [valSt, Option.bind_eq_some_iff] at h
    obtain ⟨y, hy, h⟩ := h
    split at h
    · rename_i hd
      cases h
      exact OpOKE.val fun fr S rv a w hf hR => by
        obtain ⟨u, hrun, hr⟩ := valV_ok hT hR hy
        exact ⟨u, w, hrun w (.refl w), .refl w, S, rv, hR.put (hf.n ▸ dOK_of hd) hr⟩
    · cases h
  unfold stepF at h
  split at h
  · rename_i t x ho
    split at h
    · rename_i d hd; obtain ⟨st1, hc, h⟩ := Option.bind_eq_some_iff.1 h; exact (box_opE hT ho hd h).cut (cutOs_one hc)
    · cases h
  · rename_i t ho
    split at h
    · rename_i d hd; exact alloc_opE hT ho hd h
    · cases h
  · rename_i t n ps ho
    split at h
    · rename_i d hd; obtain ⟨st1, hc, h⟩ := Option.bind_eq_some_iff.1 h; exact (buildSl_opE hT ho hd h).cut hc
    · cases h
  · rename_i t l c ho
    split at h
    · rename_i d hd; exact mkSl_opE hT ho hd h
    · cases h
  · rename_i t p x ho
    simp [isExt, ho] at hx
  · rename_i x ho
    split at h
    · rename_i d hd hx; exact nil_opE hT ho hd hx h
    · exact val h
  · rename_i c ho
    split at h
    · rename_i d s x t t2 hd hcal hargs hty
      simp [isExt, ho, hcal] at hx
    · rename_i x t hd hcal hargs hty
      simp [isExt, ho, hcal] at hx
    · exact val h
  · exact val h
theorem isLook_val {o : Oper} {st : St} (h : isLook o = true) : stepF T N st o = valSt T N st o := by
  unfold isLook at h
  unfold stepF
  split at h <;> rename_i ho <;> first | (cases h; done) | skip
  · rename_i c
    simp only [ho]
    split at h
    · cases h
    · cases h
    · rename_i b hb hb2 hc
      cases e : o.dst with
      | none =>
        simp only [hc]
        split
        · rename_i e1 e2 e3 e4; cases e1
        · rename_i e1 e2 e3 e4; cases e2; exact absurd rfl hb2
        · rfl
      | some d =>
        simp only [hc]
        split
        · rename_i e1 e2 e3 e4
          cases e2
          exact absurd rfl hb
        · rename_i e1 e2 e3 e4; cases e1
        · rfl
    · cases h
  · split <;> first | rfl | (exfalso; simp_all)
theorem isLook_fn {o : Oper} (h : isLook o = true) : isFn o = false := by
  unfold isLook at h
  unfold isFn
  split
  · rename_i c ho
    simp only [ho] at h
    split
    · rename_i hc; simp only [hc] at h; cases h
    · rfl
  · rfl

def pick (ops : Array Oper) : List (Nat × Bool) → Option (List (Oper × Bool))
  | [] => some []
  | (i, e) :: l => match ops[i]?, pick ops l with
    | some o, some l' => some ((o, e) :: l')
    | _, _ => none
theorem OpQ.of_none {o : Oper} {st : St} {K : St → Prop} (h : OpQ P N { o with guard := none } st K) : OpQ P N o st K := by cases o; exact h
theorem OpQE.of_none {o : Oper} {st : St} {K : St → Prop} (h : OpQE P N { o with guard := none } st K) : OpQE P N o st K := by cases o; exact h
theorem runL_ok (hT : TOK P T) {ops : Array Oper} {Q : St → Prop} : ∀ (l : List (Nat × Bool)) (ps : List (Oper × Bool)) (st : St), pick ops l = some ps → OutOK P T N ops Q (runL T N ops ps st) → RunsP P T N ops Q l st
  | [], ps, st, hp, h => by
    simp only [pick, Option.some.injEq] at hp; subst hp
    simp only [runL] at h
    cases h with
    | done h => exact .nil h
  | (i, e) :: l, ps, st, hp, h => by
    simp only [pick] at hp
    split at hp
    · rename_i o ps' hi hp'
      cases hp
      simp only [runL] at h
      split at h
      · cases h
      · rename_i g hg
        cases g with
        | false =>
          simp only [mkIte_false] at h
          cases hd : dIn N o.dst with
          | false => rw [hd] at h; cases h
          | true =>
            rw [hd] at h
            exact .skip hi hg hd (runL_ok hT l ps' _ hp' h)
        | true =>
          simp only [mkIte_true] at h
          split at h
          · rename_i hf
            cases h with
            | call h he hl =>
              refine .eff hi hg ?_ h.of_none (fun hh => (he hh).of_none) (fun st1 hk => runL_ok hT l ps' _ hp' (hl st1 hk))
              cases hk : isLook o with
              | false => rfl
              | true => rw [isLook_fn hk] at hf; cases hf
          · rename_i hf
            unfold contO at h
            split at h
            · rename_i st1 he hs
              cases hk : isLook o with
              | true => exact .look hi hg (by rw [← isLook_val hk]; exact hs) (runL_ok hT l ps' _ hp' h)
              | false =>
                refine .eff hi hg hk (stepF_ok hT hs).q (fun hh => ?_) (fun st1 hk => hk ▸ runL_ok hT l ps' _ hp' h)
                subst hh
                simp only [Bool.not_true, Bool.false_or] at he
                exact (stepF_okE hT he hs).q
            · cases h
    · cases hp
theorem pick_all (ops : Array Oper) : pick ops ((List.range ops.size).map fun i => (i, false)) = some (ops.toList.map fun o => (o, false)) := by
  have key : ∀ (n j : Nat), j + n = ops.size → pick ops ((List.range' j n).map fun i => (i, false)) = some ((ops.toList.drop j).map fun o => (o, false)) := by
    intro n
    induction n with
    | zero => intro j hj; simp [pick, show ops.toList.drop j = [] from List.drop_of_length_le (by simp; omega)]
    | succ n ih =>
      intro j hj
      have hlt : j < ops.size := by omega
      simp only [List.range'_succ, List.map_cons, pick, ih (j + 1) (by omega)]
      rw [show ops[j]? = some ops[j] by simp [hlt]]
      simp only
      rw [show ops.toList.drop j = ops[j] :: ops.toList.drop (j + 1) by rw [List.drop_eq_getElem_cons (by simpa using hlt)]; simp]
      simp
  have := key ops.size 0 (by omega)
  rw [List.range_eq_range']
  simpa using this

theorem AW.reg (hT : TOK P T) {id : Nat} {ops : Array Oper} {st : St} {Q : Exit → St → Prop} {tr : Outs} (hr : runL T N ops (ops.toList.map fun o => (o, false)) st = tr) (h : OutOK P T N ops (Q .normal) tr) : AW P N (.region id ops false) st Q :=
  AW.textual hT (runL_ok hT _ _ st (pick_all ops) (hr ▸ h))
def pickT (ops : Array Oper) : PT Nat → Option (PT Oper)
  | .leaf l => (pick ops l).map .leaf
  | .fork l p q => (pick ops l).bind fun l => (pickT ops p).bind fun p => (pickT ops q).map fun q => .fork l p q
  | .chk l is p => (pick ops l).bind fun l => (pickT ops p).map fun p => .chk l is p
def OutT (P : Program) (T : Nat → Option TI) (N : Nat) (ops : Array Oper) (Q : St → Prop) : PT Oper → St → Prop
  | .leaf l, st => OutOK P T N ops Q (runL T N ops l st)
  | .fork l p q, st => OutOK P T N ops (fun st => OutT P T N ops Q p st ∧ OutT P T N ops Q q st) (runL T N ops l st)
  | .chk l is p, st => OutOK P T N ops (fun st => WatchAll T N ops st is ∧ OutT P T N ops Q p st) (runL T N ops l st)
theorem OutT.leaf {ops : Array Oper} {Q : St → Prop} {l : List (Oper × Bool)} {st : St} {tr : Outs} (hr : runL T N ops l st = tr) (h : OutOK P T N ops Q tr) : OutT P T N ops Q (.leaf l) st := by subst hr; exact h
def ForkQ (P : Program) (T : Nat → Option TI) (N : Nat) (ops : Array Oper) (Q : St → Prop) (p q : PT Oper) (st : St) : Prop := OutT P T N ops Q p st ∧ OutT P T N ops Q q st
theorem ForkQ.mk {ops : Array Oper} {Q : St → Prop} {p q : PT Oper} {st : St} (h1 : OutT P T N ops Q p st) (h2 : OutT P T N ops Q q st) : ForkQ P T N ops Q p q st := ⟨h1, h2⟩
theorem OutT.fork {ops : Array Oper} {Q : St → Prop} {l : List (Oper × Bool)} {p q : PT Oper} {st : St} {tr : Outs} (hr : runL T N ops l st = tr) (h : OutOK P T N ops (ForkQ P T N ops Q p q) tr) : OutT P T N ops Q (.fork l p q) st := by subst hr; exact h
def ChkQ (P : Program) (T : Nat → Option TI) (N : Nat) (ops : Array Oper) (Q : St → Prop) (is : List Nat) (p : PT Oper) (st : St) : Prop := WatchAll T N ops st is ∧ OutT P T N ops Q p st
theorem ChkQ.mk {ops : Array Oper} {Q : St → Prop} {is : List Nat} {p : PT Oper} {st : St} (h1 : WatchAll T N ops st is) (h2 : OutT P T N ops Q p st) : ChkQ P T N ops Q is p st := ⟨h1, h2⟩
theorem OutT.chk {ops : Array Oper} {Q : St → Prop} {l : List (Oper × Bool)} {is : List Nat} {p : PT Oper} {st : St} {tr : Outs} (hr : runL T N ops l st = tr) (h : OutOK P T N ops (ChkQ P T N ops Q is p) tr) : OutT P T N ops Q (.chk l is p) st := by subst hr; exact h
theorem RunsP.mono {ops : Array Oper} {Q Q' : St → Prop} (hq : ∀ st, Q st → Q' st) : ∀ {l st}, RunsP P T N ops Q l st → RunsP P T N ops Q' l st := by
  intro l st h
  induction h with
  | nil h => exact .nil (hq _ h)
  | look hi hg h hl ih => exact .look hi hg h ih
  | skip hi hg hd hl ih => exact .skip hi hg hd ih
  | eff hi hg hnl h he hl ih => exact .eff hi hg hnl h he ih
theorem OutT.run (hT : TOK P T) {ops : Array Oper} {Q : St → Prop} : ∀ (t : PT Nat) (t' : PT Oper) (st : St), pickT ops t = some t' → OutT P T N ops Q t' st → PTRun P T N ops Q t st
  | .leaf l, t', st, hp, h => by
    simp only [pickT, Option.map_eq_some_iff] at hp
    obtain ⟨l', hl, rfl⟩ := hp
    exact runL_ok hT l l' st hl h
  | .fork l p q, t', st, hp, h => by
    simp only [pickT, Option.map_eq_some_iff, Option.bind_eq_some_iff] at hp
    obtain ⟨l', hl, p', hp', q', hq', rfl⟩ := hp
    exact (runL_ok hT l l' st hl h).mono fun st1 h1 => ⟨OutT.run hT p p' st1 hp' h1.1, OutT.run hT q q' st1 hq' h1.2⟩
  | .chk l is p, t', st, hp, h => by
    simp only [pickT, Option.map_eq_some_iff, Option.bind_eq_some_iff] at hp
    obtain ⟨l', hl, p', hp', rfl⟩ := hp
    exact (runL_ok hT l l' st hl h).mono fun st1 h1 => ⟨h1.1, OutT.run hT p p' st1 hp' h1.2⟩
theorem AW.dtree (hT : TOK P T) (hm : P.follows .mixedOrders = true) {id : Nat} {ops : Array Oper} {st : St} {Q : Exit → St → Prop} (ex : List Nat) (wt : List (Nat × List Nat)) (t : PT Nat) (hc : drawOK ops ex wt t = true) {t'} (hp : pickT ops t = some t') (h : OutT P T N ops (Q .normal) t' st) : AW P N (.region id ops true) st Q :=
  AW.drawn hT hm hc (OutT.run hT t t' st hp h)
theorem AW.dreg (hT : TOK P T) (hm : P.follows .mixedOrders = true) {id : Nat} {ops : Array Oper} {st : St} {Q : Exit → St → Prop} {tr : Outs} (ex : List Nat) (l : List (Nat × Bool)) (hc : drawOK ops ex [] (.leaf l) = true) {ps} (hp : pick ops l = some ps) (hr : runL T N ops ps st = tr) (h : OutOK P T N ops (Q .normal) tr) : AW P N (.region id ops true) st Q :=
  AW.dtree hT hm ex [] (.leaf l) hc (t' := .leaf ps) (by simp [pickT, hp]) (.leaf hr h)
def EqSt (st2 s : St) : Prop := s = st2
theorem eqSt (st : St) : EqSt st st := rfl
theorem OutOK.mono {ops : Array Oper} {Q Q' : St → Prop} (hq : ∀ st, Q st → Q' st) : ∀ {x : Outs}, OutOK P T N ops Q x → OutOK P T N ops Q' x := by
  intro x h
  induction h with
  | done h => exact .done (hq _ h)
  | call h he hl ih => exact .call h he ih
theorem OutT.mono {ops : Array Oper} {Q Q' : St → Prop} (hq : ∀ st, Q st → Q' st) : ∀ {t : PT Oper} {st : St}, OutT P T N ops Q t st → OutT P T N ops Q' t st
  | .leaf l, st, h => OutOK.mono hq h
  | .fork l p q, st, h => OutOK.mono (fun st h => ⟨OutT.mono hq h.1, OutT.mono hq h.2⟩) h
  | .chk l is p, st, h => OutOK.mono (fun st h => ⟨h.1, OutT.mono hq h.2⟩) h
theorem AW.dtreeJ (hT : TOK P T) (hm : P.follows .mixedOrders = true) {id : Nat} {ops : Array Oper} {st : St} {Q : Exit → St → Prop} (ex : List Nat) (wt : List (Nat × List Nat)) (t : PT Nat) (hc : drawOK ops ex wt t = true) {t'} (hp : pickT ops t = some t') {st2 : St} (h : OutT P T N ops (EqSt st2) t' st) (hq : Q .normal st2) : AW P N (.region id ops true) st Q :=
  AW.dtree hT hm ex wt t hc hp (OutT.mono (fun st h => by cases h; exact hq) h)
attribute [irreducible] OutT
end Go.Eng

set_option linter.unusedSimpArgs false
set_option linter.unusedVariables false
namespace Go.Eng
open Go.RowKit
variable {P : Program} {T : Nat → Option TI} {N : Nat}

def lookK (N : Nat) (st : St) (d : Option Nat) (y : Option V) (K : St → Outs) : Outs :=
  match y with
  | some y => if dIn N d = true then K (st.put d y) else .bad
  | none => .bad
@[simp] theorem lookK_some (st : St) (d y K) : lookK N st d (some y) K = if dIn N d = true then K (st.put d y) else .bad := rfl
theorem contO_val {e : Bool} (he : e = true) (st : St) (o : Oper) (K : St → Outs) : contO e (valSt T N st o) K = lookK N st o.dst (valV T st o) K := by
  subst he
  simp only [contO, valSt, lookK]
  cases valV T st o with
  | none => rfl
  | some y => simp only [Option.bind_some]; cases dIn N o.dst <;> rfl

@[simp] theorem runL_nil (ops st) : runL T N ops [] st = .done st := rfl
theorem runL_none (ops : Array Oper) (d op ty pos af e l st) : runL T N ops ((⟨d, op, ty, pos, af, none⟩, e) :: l) st =
    if isFn ⟨d, op, ty, pos, af, none⟩ = true then .call e ⟨d, op, ty, pos, af, none⟩ l st else contO (!e || isExt ⟨d, op, ty, pos, af, none⟩) (stepF T N st ⟨d, op, ty, pos, af, none⟩) (runL T N ops l) := by
  simp only [runL, guardV]
  rfl
def gateF (T : Nat → Option TI) (N : Nat) (ops : Array Oper) (g : Bool) (d : Option Nat) (op : Op) (ty : Nat) (pos : String) (af : Array Edge) (e : Bool) (l : List (Oper × Bool)) (st : St) : Outs :=
  match g with
  | true => runL T N ops ((⟨d, op, ty, pos, af, none⟩, e) :: l) st
  | false => if dIn N d = true then runL T N ops l (st.put d (.tu [])) else .bad
@[simp] theorem gateF_true (ops d op ty pos af e l st) : gateF T N ops true d op ty pos af e l st = runL T N ops ((⟨d, op, ty, pos, af, none⟩, e) :: l) st := rfl
@[simp] theorem gateF_false (ops d op ty pos af e l st) : gateF T N ops false d op ty pos af e l st = if dIn N d = true then runL T N ops l (st.put d (.tu [])) else .bad := rfl
def guardK (o : Option Oper) (want : Bool) (st : St) (G : Bool → Outs) : Outs :=
  match o with
  | some o => match o.dst with
      | some t => match wantV want (st.env t) with
          | some b => G b
          | none => .bad
      | none => .bad
  | none => .bad
@[simp] theorem guardK_some (t op ty pos af g want st G) : guardK (some ⟨some t, op, ty, pos, af, g⟩) want st G = match wantV want (st.env t) with
          | some b => G b
          | none => .bad := rfl
@[simp] theorem wantV_b (want b) : wantV want (.c (.sc (.bool b))) = some (b == want) := rfl
@[simp] theorem wantV_un (want) : wantV want (.tu []) = some false := rfl
theorem runL_guard (ops : Array Oper) (d op ty pos af j want e l st) : runL T N ops ((⟨d, op, ty, pos, af, some (j, want)⟩, e) :: l) st =
    guardK (ops[j]?) want st fun g => gateF T N ops g d op ty pos af e l st := by
  simp only [runL, guardV, guardK, gateF]
  cases ho : ops[j]? with
  | none => rfl
  | some o =>
    simp only [Option.bind_some]
    cases hd : o.dst with
    | none => rfl
    | some t =>
      simp only
      cases hb : wantV want (st.env t) with
      | none => rfl
      | some b =>
        simp only
        cases b
        · simp only [mkIte_false]
          cases dIn N d <;> rfl
        · rfl
theorem OutOK.gate {ops0 : Array Oper} {Q : St → Prop} {ops g d op ty pos af e l st} (hx : g = true → OutOK P T N ops0 Q (runL T N ops ((⟨d, op, ty, pos, af, none⟩, e) :: l) st)) (hy : g = false → OutOK P T N ops0 Q (if dIn N d = true then runL T N ops l (st.put d (.tu [])) else .bad)) : OutOK P T N ops0 Q (gateF T N ops g d op ty pos af e l st) := by
  cases g
  · exact hy rfl
  · exact hx rfl
theorem OutOK.gateP {p : Prop} [Decidable p] {ops0 : Array Oper} {Q : St → Prop} {ops d op ty pos af e l st} (hx : p → OutOK P T N ops0 Q (runL T N ops ((⟨d, op, ty, pos, af, none⟩, e) :: l) st)) (hy : ¬ p → OutOK P T N ops0 Q (if dIn N d = true then runL T N ops l (st.put d (.tu [])) else .bad)) : OutOK P T N ops0 Q (gateF T N ops (decide p) d op ty pos af e l st) :=
  OutOK.gate (fun h => hx (of_decide_eq_true h)) (fun h => hy (of_decide_eq_false h))
theorem OutOK.gateN {p : Prop} [Decidable p] {ops0 : Array Oper} {Q : St → Prop} {ops d op ty pos af e l st} (hx : ¬ p → OutOK P T N ops0 Q (runL T N ops ((⟨d, op, ty, pos, af, none⟩, e) :: l) st)) (hy : p → OutOK P T N ops0 Q (if dIn N d = true then runL T N ops l (st.put d (.tu [])) else .bad)) : OutOK P T N ops0 Q (gateF T N ops (!decide p) d op ty pos af e l st) :=
  OutOK.gate (fun h => hx (by simpa using h)) (fun h => hy (by simpa using h))
theorem OutOK.run {ops : Array Oper} {Q : St → Prop} {x tr : Outs} (h : x = tr) (hl : OutOK P T N ops Q tr) : OutOK P T N ops Q x := h ▸ hl

section
variable (ops : Array Oper) (d : Option Nat) (ty : Nat) (pos : String) (af : Array Edge) (l : List (Oper × Bool)) (st : St)
theorem runL_look {op : Op} {e : Bool} (h : isLook ⟨d, op, ty, pos, af, none⟩ = true) : runL T N ops ((⟨d, op, ty, pos, af, none⟩, e) :: l) st = lookK N st d (valV T st ⟨d, op, ty, pos, af, none⟩) (runL T N ops l) := by
  rw [runL_none, isLook_fn h]
  simp only [Bool.false_eq_true, if_false]
  rw [isLook_val h]
  refine contO_val ?_ st _ _
  unfold isExt
  unfold isLook at h
  split <;> first | (simp_all; done) | skip
  rename_i c hc
  simp only at hc; subst hc
  simp only at h
  split <;> simp_all
@[simp] theorem runL_move (x e) : runL T N ops ((⟨d, .move x, ty, pos, af, none⟩, e) :: l) st = lookK N st d (liveV (evalO st x)) (runL T N ops l) := runL_look ops d ty pos af l st rfl
@[simp] theorem runL_pick (c a b e) : runL T N ops ((⟨d, .pick c a b, ty, pos, af, none⟩, e) :: l) st = lookK N st d (valV T st ⟨d, .pick c a b, ty, pos, af, none⟩) (runL T N ops l) := runL_look ops d ty pos af l st rfl
@[simp] theorem runL_load (t x e) : runL T N ops ((⟨d, .load t x, ty, pos, af, none⟩, e) :: l) st = lookK N st d (valV T st ⟨d, .load t x, ty, pos, af, none⟩) (runL T N ops l) := runL_look ops d ty pos af l st rfl
@[simp] theorem runL_fieldAddr (t x f e) : runL T N ops ((⟨d, .fieldAddr t x f, ty, pos, af, none⟩, e) :: l) st = lookK N st d (valV T st ⟨d, .fieldAddr t x f, ty, pos, af, none⟩) (runL T N ops l) := runL_look ops d ty pos af l st rfl
@[simp] theorem runL_field (t x f e) : runL T N ops ((⟨d, .field t x f, ty, pos, af, none⟩, e) :: l) st = lookK N st d (valV T st ⟨d, .field t x f, ty, pos, af, none⟩) (runL T N ops l) := runL_look ops d ty pos af l st rfl
@[simp] theorem runL_indexAddr (t x j e) : runL T N ops ((⟨d, .indexAddr t x j, ty, pos, af, none⟩, e) :: l) st = lookK N st d (valV T st ⟨d, .indexAddr t x j, ty, pos, af, none⟩) (runL T N ops l) := runL_look ops d ty pos af l st rfl
@[simp] theorem runL_index (t x j e) : runL T N ops ((⟨d, .index t x j, ty, pos, af, none⟩, e) :: l) st = lookK N st d (valV T st ⟨d, .index t x j, ty, pos, af, none⟩) (runL T N ops l) := runL_look ops d ty pos af l st rfl
@[simp] theorem runL_binOp (op t x y yt e) : runL T N ops ((⟨d, .binOp op t x y yt, ty, pos, af, none⟩, e) :: l) st = lookK N st d (valV T st ⟨d, .binOp op t x y yt, ty, pos, af, none⟩) (runL T N ops l) := runL_look ops d ty pos af l st rfl
@[simp] theorem runL_unOp (op t x e) : runL T N ops ((⟨d, .unOp op t x, ty, pos, af, none⟩, e) :: l) st = lookK N st d (valV T st ⟨d, .unOp op t x, ty, pos, af, none⟩) (runL T N ops l) := runL_look ops d ty pos af l st rfl
@[simp] theorem runL_convert (s t x e) : runL T N ops ((⟨d, .convert s t x, ty, pos, af, none⟩, e) :: l) st = lookK N st d (valV T st ⟨d, .convert s t x, ty, pos, af, none⟩) (runL T N ops l) := runL_look ops d ty pos af l st rfl
@[simp] theorem runL_extract (x i e) : runL T N ops ((⟨d, .extract x i, ty, pos, af, none⟩, e) :: l) st = lookK N st d (valV T st ⟨d, .extract x i, ty, pos, af, none⟩) (runL T N ops l) := runL_look ops d ty pos af l st rfl
@[simp] theorem runL_makeFunc (f c1 c2 e) : runL T N ops ((⟨d, .makeFunc f c1 c2, ty, pos, af, none⟩, e) :: l) st = lookK N st d (valV T st ⟨d, .makeFunc f c1 c2, ty, pos, af, none⟩) (runL T N ops l) := runL_look ops d ty pos af l st rfl
@[simp] theorem runL_nilCheck (x e) : runL T N ops ((⟨d, .nilCheck x, ty, pos, af, none⟩, e) :: l) st = lookK N st d (valV T st ⟨d, .nilCheck x, ty, pos, af, none⟩) (runL T N ops l) := runL_look ops d ty pos af l st rfl
@[simp] theorem runL_slice (t x a b c e) : runL T N ops ((⟨d, .slice t x a b c, ty, pos, af, none⟩, e) :: l) st = lookK N st d (valV T st ⟨d, .slice t x a b c, ty, pos, af, none⟩) (runL T N ops l) := runL_look ops d ty pos af l st rfl
@[simp] theorem runL_build (t ps e) : runL T N ops ((⟨d, .build t ps, ty, pos, af, none⟩, e) :: l) st = lookK N st d (valV T st ⟨d, .build t ps, ty, pos, af, none⟩) (runL T N ops l) := runL_look ops d ty pos af l st rfl
@[simp] theorem runL_len (ars ats e) : runL T N ops ((⟨d, .call ⟨.builtin .len, ars, ats⟩, ty, pos, af, none⟩, e) :: l) st = lookK N st d (valV T st ⟨d, .call ⟨.builtin .len, ars, ats⟩, ty, pos, af, none⟩) (runL T N ops l) := runL_look ops d ty pos af l st rfl
@[simp] theorem runL_min (ars ats e) : runL T N ops ((⟨d, .call ⟨.builtin .min, ars, ats⟩, ty, pos, af, none⟩, e) :: l) st = lookK N st d (valV T st ⟨d, .call ⟨.builtin .min, ars, ats⟩, ty, pos, af, none⟩) (runL T N ops l) := runL_look ops d ty pos af l st rfl
@[simp] theorem runL_max (ars ats e) : runL T N ops ((⟨d, .call ⟨.builtin .max, ars, ats⟩, ty, pos, af, none⟩, e) :: l) st = lookK N st d (valV T st ⟨d, .call ⟨.builtin .max, ars, ats⟩, ty, pos, af, none⟩) (runL T N ops l) := runL_look ops d ty pos af l st rfl
@[simp] theorem runL_call (x ars ats e) : runL T N ops ((⟨d, .call ⟨.value x, ars, ats⟩, ty, pos, af, none⟩, e) :: l) st = .call e ⟨d, .call ⟨.value x, ars, ats⟩, ty, pos, af, none⟩ l st := by rw [runL_none]; rfl
def asgSt (T : Nat → Option TI) (N : Nat) (st : St) (d : Nat) (ty : Nat) (x : V) : Option St :=
  match x with
  | .nl => nilSt T N st ty d
  | .dead => none
  | x => if d < N then some (st.put (some d) x) else none
theorem stepF_assign (x) (d : Nat) : stepF T N st ⟨some d, .assign x, ty, pos, af, none⟩ = asgSt T N st d ty (evalO st x) := by
  simp only [stepF, asgSt]
  cases h : evalO st x <;> simp [valSt, valV, h, liveV, dIn]
def goO (x : Option St) (K : St → Outs) : Outs :=
  match x with
  | some st => K st
  | none => .bad
@[simp] theorem goO_some (st : St) (K) : goO (some st) K = K st := rfl
theorem contO_true (x : Option St) (K) : contO true x K = goO x K := by cases x <;> rfl
@[simp] theorem runL_assign (x e) (d : Nat) : runL T N ops ((⟨some d, .assign x, ty, pos, af, none⟩, e) :: l) st = goO (asgSt T N st d ty (evalO st x)) (runL T N ops l) := by
  rw [runL_none, stepF_assign, ← contO_true, show (!e || isExt ⟨some d, .assign x, ty, pos, af, none⟩) = true by simp [isExt]]
  rfl
@[simp] theorem runL_box (t x e) (d : Nat) : runL T N ops ((⟨some d, .box t x, ty, pos, af, none⟩, e) :: l) st = goO ((cutO st x).bind fun st => boxSt T N st t (evalO st x) d) (runL T N ops l) := by
  rw [runL_none, ← contO_true, show (!e || isExt ⟨some d, .box t x, ty, pos, af, none⟩) = true by simp [isExt]]
  rfl
@[simp] theorem runL_alloc (t e) (d : Nat) : runL T N ops ((⟨some d, .alloc t, ty, pos, af, none⟩, e) :: l) st = goO (allocSt T N st t d) (runL T N ops l) := by
  rw [runL_none, ← contO_true, show (!e || isExt ⟨some d, .alloc t, ty, pos, af, none⟩) = true by simp [isExt]]
  rfl
@[simp] theorem runL_buildSlice (t n ps e) (d : Nat) : runL T N ops ((⟨some d, .buildSlice t n ps, ty, pos, af, none⟩, e) :: l) st = goO ((cutOs st (ps.toList.map (·.2))).bind fun st => buildSlSt T N st t n (ps.toList.map fun q => (q.1, evalO st q.2)) d) (runL T N ops l) := by
  rw [runL_none, ← contO_true, show (!e || isExt ⟨some d, .buildSlice t n ps, ty, pos, af, none⟩) = true by simp [isExt]]
  rfl
@[simp] theorem runL_makeSlice (t x y e) (d : Nat) : runL T N ops ((⟨some d, .makeSlice t x y, ty, pos, af, none⟩, e) :: l) st = goO (mkSlSt T N st t (evalO st x) (evalO st y) d) (runL T N ops l) := by
  rw [runL_none, ← contO_true, show (!e || isExt ⟨some d, .makeSlice t x y, ty, pos, af, none⟩) = true by simp [isExt]]
  rfl
@[simp] theorem runL_store (t p x) : runL T N ops ((⟨none, .store t p x, ty, pos, af, none⟩, false) :: l) st = goO ((cutO st x).bind fun st => storeSt T st t (evalO st p) (evalO st x)) (runL T N ops l) := by
  rw [runL_none, ← contO_true]
  rfl
@[simp] theorem runL_append (s x t t2) (d : Nat) : runL T N ops ((⟨some d, .call ⟨.builtin .append, #[s, x], #[t, t2]⟩, ty, pos, af, none⟩, false) :: l) st = goO ((cutO st x).bind fun st => appSt T N st t t2 (evalO st s) (evalO st x) d) (runL T N ops l) := by
  rw [runL_none, ← contO_true]
  rfl
@[simp] theorem runL_clear (x t) : runL T N ops ((⟨none, .call ⟨.builtin .clear, #[x], #[t]⟩, ty, pos, af, none⟩, false) :: l) st = goO (clrSt T st t (evalO st x)) (runL T N ops l) := by
  rw [runL_none, ← contO_true]
  rfl
attribute [simp] runL_guard
end
@[simp] theorem dIn_none : dIn N none = true := rfl
@[simp] theorem dIn_some (d) : dIn N (some d) = decide (d < N) := rfl
@[simp] theorem evalO_tmp (st : St) (t) : evalO st (.tmp t) = st.env t := rfl
@[simp] theorem evalO_const (st : St) (v) : evalO st (.const v) = constV v := rfl
@[simp] theorem evalO_func (st : St) (f) : evalO st (.func f) = .fn f [] := rfl
@[simp] theorem constV_int (k n) : constV (.int k n) = .c (.sc (.int k n)) := rfl
@[simp] theorem constV_bool (b) : constV (.bool b) = .c (.sc (.bool b)) := rfl
@[simp] theorem constV_str (s) : constV (.string s) = .c (.sc (.string s)) := rfl
@[simp] theorem constV_nl : constV (.slice none 0 0) = .nl := rfl
@[simp] theorem constV_agg (a) : constV (.agg a) = .g (a.toList.map constC) := rfl
@[simp] theorem constC_int (k n) : constC (.int k n) = .c (.sc (.int k n)) := rfl
@[simp] theorem constC_bool (b) : constC (.bool b) = .c (.sc (.bool b)) := rfl
@[simp] theorem constC_str (s) : constC (.string s) = .c (.sc (.string s)) := rfl
@[simp] theorem constC_nl : constC (.slice none 0 0) = .nl := rfl
@[simp] theorem constC_np : constC (.pointer none) = .c (.sc (.pointer none)) := rfl
@[simp] theorem constV_np : constV (.pointer none) = .c (.sc (.pointer none)) := rfl
@[simp] theorem liveV_c (t) : liveV (.c t) = some (.c t) := rfl
@[simp] theorem liveV_nl : liveV .nl = some .nl := rfl
@[simp] theorem liveV_g (cs) : liveV (.g cs) = some (.g cs) := rfl
@[simp] theorem liveV_rf (n p) : liveV (.rf n p) = some (.rf n p) := rfl
@[simp] theorem liveV_pt (n p o) : liveV (.pt n p o) = some (.pt n p o) := rfl
@[simp] theorem liveV_fp (cs o) : liveV (.fp cs o) = some (.fp cs o) := rfl
@[simp] theorem liveV_fn (f cs) : liveV (.fn f cs) = some (.fn f cs) := rfl
@[simp] theorem liveV_rn (n p s) : liveV (.rn n p s) = some (.rn n p s) := rfl
@[simp] theorem liveV_tu (cs) : liveV (.tu cs) = some (.tu cs) := rfl
@[simp] theorem boolV_b (b) : boolV (.c (.sc (.bool b))) = some b := rfl
@[simp] theorem intV_i (k n) : intV (.c (.sc (.int k n))) = some (k, n) := rfl
@[simp] theorem scV_sc (v) : scV (.c (.sc v)) = some v := rfl
section
variable (st : St) (d : Option Nat) (ty : Nat) (pos : String) (af : Array Edge) (g : Option (Nat × Bool))
@[simp] theorem valV_pick (c a b) : valV T st ⟨d, .pick c a b, ty, pos, af, g⟩ = (boolV (evalO st c)).bind fun t => if t = true then liveV (evalO st a) else liveV (evalO st b) := rfl
@[simp] theorem valV_load (t x) : valV T st ⟨d, .load t x, ty, pos, af, g⟩ = (T t).bind fun i => loadV i.agg i.size st (evalO st x) := rfl
@[simp] theorem valV_fieldAddr (t x f) : valV T st ⟨d, .fieldAddr t x f, ty, pos, af, g⟩ = (T t).bind fun i => match i.kd with
      | .st fs => (fs[f]?).bind fun q => if q.2.1 = 0 then none else fieldV q.1 (evalO st x)
      | _ => none := rfl
@[simp] theorem valV_field (t x f) : valV T st ⟨d, .field t x f, ty, pos, af, g⟩ = (T t).bind fun i => match i.kd, evalO st x with
      | .st fs, .g cs => (fs[f]?).bind fun q => if q.2.2 then (if q.1 + q.2.1 ≤ cs.length then some (.g ((cs.drop q.1).take q.2.1)) else none) else (cs[q.1]?).bind liveV
      | _, _ => none := rfl
@[simp] theorem valV_indexAddr (t x j) : valV T st ⟨d, .indexAddr t x j, ty, pos, af, g⟩ = (T t).bind fun i => match i.kd with
      | .sl _ k _ => if kOf st (evalO st x) = some k then (intV (evalO st j)).bind fun q => idxV st q.2 (evalO st x) else none
      | _ => none := rfl
@[simp] theorem valV_index (t x j) : valV T st ⟨d, .index t x j, ty, pos, af, g⟩ = (T t).bind fun i => match i.kd, evalO st x with
      | .str, .c (.sc (.string s)) => (intV (evalO st j)).bind fun q => if 0 ≤ q.2 ∧ q.2 < s.size then some (.c (.sc (.int .u8 ((s[q.2.toNat]?.getD 0).toNat : Int)))) else none
      | _, _ => none := rfl
def binV (T : Nat → Option TI) (op : BinOp) (t : Nat) (a b : Value) : Option V :=
  match a, b with
  | .bool a, .bool b => (T t).bind fun i => match i.kd, op with
      | .bool, .eql => some (.c (.sc (.bool (a == b))))
      | .bool, .neq => some (.c (.sc (.bool (a != b))))
      | _, _ => none
  | a, b => (binS op a b).map fun v => .c (.sc v)
@[simp] theorem valV_binOp (op t x y yt) : valV T st ⟨d, .binOp op t x y yt, ty, pos, af, g⟩ = (structV T op t (evalO st x) (evalO st y)).or ((scV (evalO st x)).bind fun a => (scV (evalO st y)).bind fun b => binV T op t a b) := rfl
@[simp] theorem structV_c (op t x y) : structV T op t (.c x) y = none := rfl
@[simp] theorem structV_nl (op t y) : structV T op t .nl y = none := rfl
@[simp] theorem structV_g (op t cs ds) : structV T op t (.g cs) (.g ds) = (T t).bind fun i => if i.eq.isEmpty = true then none else match op with
      | .eql => (eqCs i.eq cs ds).map fun b => .c (.sc (.bool b))
      | .neq => (eqCs i.eq cs ds).map fun b => .c (.sc (.bool !b))
      | _ => none := rfl
@[simp] theorem none_or' {α : Type} (x : Option α) : (none : Option α).or x = x := by cases x <;> rfl
@[simp] theorem some_or' {α : Type} (y : α) (x : Option α) : (some y).or x = some y := rfl
@[simp] theorem binV_int (op t k a k' b) : binV T op t (.int k a) (.int k' b) = (binS op (.int k a) (.int k' b)).map fun v => .c (.sc v) := rfl
@[simp] theorem binV_str (op t a b) : binV T op t (.string a) (.string b) = (binS op (.string a) (.string b)).map fun v => .c (.sc v) := rfl
@[simp] theorem binV_beq (t a b) : binV T .eql t (.bool a) (.bool b) = (T t).bind fun i => match i.kd with | .bool => some (.c (.sc (.bool (a == b)))) | _ => none := by
  simp only [binV]; cases T t <;> simp; rename_i i; cases i.kd <;> rfl
@[simp] theorem binV_bne (t a b) : binV T .neq t (.bool a) (.bool b) = (T t).bind fun i => match i.kd with | .bool => some (.c (.sc (.bool (a != b)))) | _ => none := by
  simp only [binV]; cases T t <;> simp; rename_i i; cases i.kd <;> rfl
@[simp] theorem valV_unOp (op t x) : valV T st ⟨d, .unOp op t x, ty, pos, af, g⟩ = (scV (evalO st x)).bind fun a => (unS op a).map fun v => .c (.sc v) := rfl
@[simp] theorem unS_not (b) : unS .not (.bool b) = some (.bool !b) := rfl
@[simp] theorem unS_neg (k n) : unS .neg (.int k n) = some (.int k (wrapK k (0 - n))) := rfl
def cvV (T : Nat → Option TI) (st : St) (s t : Nat) : V → Option V
  | .c (.sc a) => (convS T s t a).map fun v => .c (.sc v)
  | y => convB T st s t y
@[simp] theorem cvV_sc (st : St) (s t a) : cvV T st s t (.c (.sc a)) = (convS T s t a).map fun v => .c (.sc v) := rfl
@[simp] theorem cvV_rf (st : St) (s t n p) : cvV T st s t (.rf n p) = convB T st s t (.rf n p) := rfl
@[simp] theorem cvV_sl (st : St) (s t f k es) : cvV T st s t (.c (.sl f k es)) = convB T st s t (.c (.sl f k es)) := rfl
@[simp] theorem valV_convert (s t x) : valV T st ⟨d, .convert s t x, ty, pos, af, g⟩ = cvV T st s t (evalO st x) := by
  show (match evalO st x with | V.c (PV.sc a) => (convS T s t a).map fun v => V.c (PV.sc v) | y => convB T st s t y) = _
  cases h : evalO st x <;> first | rfl | (rename_i c; cases c <;> rfl)
@[simp] theorem valV_extract (x i) : valV T st ⟨d, .extract x i, ty, pos, af, g⟩ = match evalO st x with
      | .tu cs => (cs[i]?).bind liveV
      | _ => none := rfl
@[simp] theorem valV_makeFunc (f first caps) : valV T st ⟨d, .makeFunc (.func f) first caps, ty, pos, af, g⟩ = if first.size = 0 then some (.fn f (caps.toList.map (evalO st))) else none := rfl
@[simp] theorem valV_nilCheck (x) : valV T st ⟨d, .nilCheck x, ty, pos, af, g⟩ = match evalO st x with
      | .pt n p o => some (.pt n p o)
      | .fp cs o => some (.fp cs o)
      | .fn f cs => some (.fn f cs)
      | _ => none := rfl
@[simp] theorem valV_slice (t x lo hi) : valV T st ⟨d, .slice t x lo hi none, ty, pos, af, g⟩ = (T t).bind fun i => (optO st lo).bind fun l => (optO st hi).bind fun h =>
      match i.kd, evalO st x with
      | .str, .c (.sc (.string s)) => sliceV (l.getD 0) h (.c (.sc (.string s)))
      | .sl _ k _, .c (.sl true k' es) => if k = k' then sliceV (l.getD 0) h (.c (.sl true k' es)) else none
      | .sl _ k _, .rf n p => sliceRf st k (l.getD 0) h n p
      | _, _ => none := rfl
@[simp] theorem valV_build (t ps) : valV T st ⟨d, .build t ps, ty, pos, af, g⟩ = (T t).bind fun i => match i.kd with
      | .st fs => (fillV fs (i.zero.map fun z => constC (zval z)) (ps.toList.map fun q => (q.1, evalO st q.2))).map .g
      | _ => none := rfl
def lenK (kd : TK) (st : St) (x : V) : Option V :=
  match kd with
  | .sl _ _ _ => match x with
      | .c (.sc _) => none
      | y => (lenV st y).map fun (n : Nat) => .c (.sc (.int .i64 (n : Int)))
  | .str => match x with
      | .c (.sc (.string s)) => some (.c (.sc (.int .i64 (s.size : Int))))
      | _ => none
  | _ => none
@[simp] theorem valV_len (x t) : valV T st ⟨d, .call ⟨.builtin .len, #[x], #[t]⟩, ty, pos, af, g⟩ = (T t).bind fun i => lenK i.kd st (evalO st x) := rfl
@[simp] theorem lenK_sl (e k b st cs f j) : lenK (.sl e k b) st (.c (.sl f j cs)) = some (.c (.sc (.int .i64 (cs.length : Int)))) := rfl
@[simp] theorem lenK_nl (e k b st) : lenK (.sl e k b) st .nl = some (.c (.sc (.int .i64 0))) := rfl
@[simp] theorem lenK_rf (e k b st n p) : lenK (.sl e k b) st (.rf n p) = ((st.σ n).bind fun r => match r.node.get p with
      | some (.sl _ _ es) => some es.length
      | _ => none).map fun (n : Nat) => .c (.sc (.int .i64 (n : Int))) := rfl
@[simp] theorem lenK_rn (e k b st n p lo hi k') : lenK (.sl e k b) st (.rn n p (.sub lo hi k')) = some (.c (.sc (.int .i64 ((hi - lo : Nat) : Int)))) := rfl
@[simp] theorem lenK_str (st s) : lenK .str st (.c (.sc (.string s))) = some (.c (.sc (.int .i64 (s.size : Int)))) := rfl
@[simp] theorem valV_min (x y : Operand) (ats) : valV T st ⟨d, .call ⟨.builtin .min, #[x, y], ats⟩, ty, pos, af, g⟩ = (scV (evalO st x)).bind fun a => (scV (evalO st y)).bind fun b => (minmaxS false a [b]).map fun v => .c (.sc v) := by
  show ((scV (evalO st x)).bind fun a => (([y] : List Operand).mapM fun y => scV (evalO st y)).bind fun bs => (minmaxS false a bs).map fun v => V.c (.sc v)) = _
  simp only [List.mapM_cons, List.mapM_nil]
  cases scV (evalO st x) <;> simp
  cases scV (evalO st y) <;> simp
@[simp] theorem valV_max (x y : Operand) (ats) : valV T st ⟨d, .call ⟨.builtin .max, #[x, y], ats⟩, ty, pos, af, g⟩ = (scV (evalO st x)).bind fun a => (scV (evalO st y)).bind fun b => (minmaxS true a [b]).map fun v => .c (.sc v) := by
  show ((scV (evalO st x)).bind fun a => (([y] : List Operand).mapM fun y => scV (evalO st y)).bind fun bs => (minmaxS true a bs).map fun v => V.c (.sc v)) = _
  simp only [List.mapM_cons, List.mapM_nil]
  cases scV (evalO st x) <;> simp
  cases scV (evalO st y) <;> simp
end
@[simp] theorem kOf_rf' (st : St) (n p) : kOf st (.rf n p) = (st.σ n).bind fun r => match r.node.get p with
      | some (.sl _ k _) => some k
      | _ => none := rfl
@[simp] theorem kOf_sl (st : St) (f k es) : kOf st (.c (.sl f k es)) = some k := rfl
@[simp] theorem idxV_rf (st : St) (i n p) : idxV st i (.rf n p) = (st.σ n).bind fun r => match r.node.get p with
      | some (.sl _ _ es) => if 0 ≤ i ∧ i < es.length then some (.pt n (p ++ [i.toNat]) 0) else none
      | _ => none := rfl
@[simp] theorem idxV_sl (st : St) (i f k es) : idxV st i (.c (.sl f k es)) = if 0 ≤ i ∧ i < (es.length : Int) then some (.fp (cellsL (es[i.toNat]?.getD .xx)) 0) else none := rfl
@[simp] theorem fieldV_pt (o n p q) : fieldV o (.pt n p q) = some (.pt n p (q + o)) := rfl
@[simp] theorem fieldV_fp (o cs q) : fieldV o (.fp cs q) = some (.fp cs (q + o)) := rfl
@[simp] theorem cellsL_ag (cs) : cellsL (.ag cs) = cs := rfl
@[simp] theorem cellsL_sc (v) : cellsL (.sc v) = [.sc v] := rfl
@[simp] theorem cellsL_sl (f k es) : cellsL (.sl f k es) = [.sl f k es] := rfl
@[simp] theorem node_bx (cs) : (Root.bx cs).node = .ag cs := rfl
@[simp] theorem node_sv (t) : (Root.sv t).node = t := rfl
@[simp] theorem get_nil (t : PV) : t.get [] = some t := by cases t <;> rfl
@[simp] theorem get_ag (cs i p) : (PV.ag cs).get (i :: p) = (cs[i]?).bind fun c => c.get p := rfl
@[simp] theorem get_sl (f k es i p) : (PV.sl f k es).get (i :: p) = (es[i]?).bind fun c => c.get p := rfl
@[simp] theorem loadV_fp (agg sz st cs o) : loadV agg sz st (.fp cs o) = if agg = true then (if o + sz ≤ cs.length then some (.g (((cs.drop o).take sz).map .c)) else none) else (cs[o]?).map .c := by
  unfold loadV; cases agg <;> simp
@[simp] theorem loadV_pt (agg sz st n p o) : loadV agg sz st (.pt n p o) = (st.σ n).bind fun r => (r.node.get p).bind fun node =>
      match node with
      | .ag cs => if agg = true then (if o + sz ≤ cs.length then some (.g (views n p o ((cs.drop o).take sz))) else none) else (cs[o]?).map (view n (p ++ [o]))
      | e => if agg = true then none else if o = 0 then some (view n p e) else none := by
  show ((st.σ n).bind fun r => (r.node.get p).bind fun node => _) = _
  congr
@[simp] theorem view_sc (n p v) : view n p (.sc v) = .c (.sc v) := rfl
@[simp] theorem view_fz (n p k es) : view n p (.sl true k es) = .c (.sl true k es) := rfl
@[simp] theorem view_ow (n p k es) : view n p (.sl false k es) = .rf n p := rfl
@[simp] theorem views_nil (n p j) : views n p j [] = [] := rfl
@[simp] theorem views_cons (n p j c cs) : views n p j (c :: cs) = view n (p ++ [j]) c :: views n p (j + 1) cs := rfl
end Go.Eng

set_option linter.unusedSimpArgs false
set_option linter.unusedVariables false
namespace Go.Eng
open Go.RowKit
variable {P : Program} {T : Nat → Option TI} {N : Nat}

/-! Lists of variables. -/
def envL : Nat → List V → List (Nat × V)
  | _, [] => []
  | j, x :: xs => (j, x) :: envL (j + 1) xs
@[simp] theorem envL_nil (j) : envL j [] = [] := rfl
@[simp] theorem envL_cons (j x xs) : envL j (x :: xs) = (j, x) :: envL (j + 1) xs := rfl
theorem look_envL : ∀ (xs : List V) (j t : Nat), look (envL j xs) (j + t) = (xs[t]?).getD .dead
  | [], j, t => rfl
  | x :: xs, j, 0 => by simp
  | x :: xs, j, t + 1 => by
    have := look_envL xs (j + 1) t
    simp only [envL_cons, look_cons]
    rw [if_neg (by omega), show j + (t + 1) = j + 1 + t by omega, this]
    simp
theorem news_lookR : ∀ (rs : List (Nat × Root)) (st : St), (rs.map (·.1)).Nodup → ∀ n, (st.news rs).σ n = match lookR rs n with | some r => some r | none => st.σ n
  | [], st, _, n => rfl
  | (m, r) :: rs, st, h, n => by
    simp only [List.map_cons, List.nodup_cons] at h
    simp only [St.news, news_lookR rs _ h.2 n, lookR_cons]
    by_cases e : m = n
    · subst e
      rw [if_pos rfl, lookR_none rs m h.1]
      simp [St.new]
    · rw [if_neg e]
      cases lookR rs n with
      | none => simp [St.new, Ne.symm e]
      | some x => rfl
theorem st0_eq (ins : List D) (h : ((intros 100000000 0 ins).2.map (·.1)).Nodup) : st0 ins = mk (envL 0 (intros 100000000 0 ins).1) (intros 100000000 0 ins).2 := by
  have h1 : (st0 ins).env = look (envL 0 (intros 100000000 0 ins).1) := by
    simp only [st0]
    rw [news_env]
    funext t
    have := look_envL (intros 100000000 0 ins).1 0 t
    rw [Nat.zero_add] at this
    exact this.symm
  have h2 : (st0 ins).σ = lookR (intros 100000000 0 ins).2 := by
    simp only [st0]
    funext n
    rw [news_lookR _ _ h]
    cases lookR (intros 100000000 0 ins).2 n <;> rfl
  have : ∀ st st' : St, st.env = st'.env → st.σ = st'.σ → st = st' := fun st st' a b => by cases st; cases st'; simp_all
  exact this _ _ h1 h2
@[simp] theorem introC_sc (n v) : introC n (.sc v) = (.c (.sc v), []) := rfl
@[simp] theorem introC_fz (n k es) : introC n (.sl true k es) = (.c (.sl true k es), []) := rfl
@[simp] theorem introC_ow (n k es) : introC n (.sl false k es) = (.rf n [], [(n, .sv (.sl false k es))]) := rfl
@[simp] theorem introCs_nil (b j) : introCs b j [] = ([], []) := rfl
@[simp] theorem introCs_cons (b j c cs) : introCs b j (c :: cs) = ((introC (b + j) c).1 :: (introCs b (j + 1) cs).1, (introC (b + j) c).2 ++ (introCs b (j + 1) cs).2) := rfl
@[simp] theorem introBs_nil (b j) : introBs b j [] = ([], []) := rfl
@[simp] theorem introBs_cons (b j cs css) : introBs b j (cs :: css) = (.pt (b + j) [] 0 :: (introBs b (j + 1) css).1, (b + j, .bx cs) :: (introBs b (j + 1) css).2) := rfl
@[simp] theorem intro1_v (b c) : intro1 b (.v c) = introC b c := rfl
@[simp] theorem intro1_g (b cs) : intro1 b (.g cs) = (.g (introCs b 1 cs).1, (introCs b 1 cs).2) := rfl
@[simp] theorem intro1_p (b cs) : intro1 b (.p cs) = (.pt b [] 0, [(b, .bx cs)]) := rfl
@[simp] theorem intro1_f (b f css) : intro1 b (.f f css) = (.fn f (introBs b 1 css).1, (introBs b 1 css).2) := rfl
@[simp] theorem intro1_x (b) : intro1 b .x = (.dead, []) := rfl
@[simp] theorem intros_nil (b i) : intros b i [] = ([], []) := rfl
@[simp] theorem intros_cons (b i d ds) : intros b i (d :: ds) = ((intro1 (b + 50 * i) d).1 :: (intros b (i + 1) ds).1, (intro1 (b + 50 * i) d).2 ++ (intros b (i + 1) ds).2) := rfl
@[simp] theorem resV_def (b res) : resV b res = match (intros b 0 res).1 with
  | [x] => x
  | xs => .tu xs := rfl
@[simp] theorem rootName_def (d) : rootName d = d * 1000 := rfl

/-! What is lent, reckoned. -/
def ltC : V → PV → Lt
  | .rf n p, .sl true _ _ => [(n, none)]
  | .rf n p, _ => [(n, some p)]
  | .rn n _ _, _ => [(n, none)]
  | _, _ => []
def ltCs : List V → List PV → Lt
  | x :: xs, c :: cs => ltC x c ++ ltCs xs cs
  | _, _ => []
def ltBs : List V → List (List PV) → Lt
  | .pt n _ _ :: xs, _ :: css => [(n, some [])] ++ ltBs xs css
  | _, _ => []
def lt1 : V → D → Lt
  | x, .v c => ltC x c
  | .g xs, .g cs => ltCs xs cs
  | x, .p cs => ltBs [x] [cs]
  | .fn _ xs, .f _ css => ltBs xs css
  | _, _ => []
def lts : List V → List D → Lt
  | x :: xs, d :: ds => lt1 x d ++ lts xs ds
  | _, _ => []
def nodeAt (st : St) (n : Nat) (p : List Nat) : Option PV := (st.σ n).bind fun r => r.node.get p
def ownAt (st : St) (n : Nat) (p : List Nat) : Bool := match st.σ n with | some r => r.node.own p | none => false
def subAt (st : St) (n : Nat) (p : List Nat) (lo hi : Nat) : Option PV := match (nodeAt st n p).map PV.frz with
  | some (.sl true k es) => some (.sl true k ((es.drop lo).take (hi - lo)))
  | _ => none
def okC (st : St) : V → PV → Prop
  | .c t, c => c = t
  | .nl, .sl _ _ es => es = []
  | .rf n p, .sl true k es => (nodeAt st n p).map PV.frz = some (.sl true k es)
  | .rf n p, .sl false k es => nodeAt st n p = some (.sl false k es) ∧ ownAt st n p = true
  | .rn n p (.sub lo hi k0), .sl true k es => k0 = k ∧ subAt st n p lo hi = some (.sl true k es)
  | _, _ => False
def okCs (st : St) : List V → List PV → Prop
  | [], [] => True
  | x :: xs, c :: cs => x.one = true ∧ okC st x c ∧ okCs st xs cs
  | _, _ => False
def okBs (st : St) : List V → List (List PV) → Prop
  | [], [] => True
  | .pt n p o :: xs, cs :: css => p = [] ∧ o = 0 ∧ st.σ n = some (.bx cs) ∧ okBs st xs css
  | _, _ => False
def ok1 (st : St) : V → D → Prop
  | x, .v c => okC st x c
  | .g xs, .g cs => okCs st xs cs
  | x, .p cs => okBs st [x] [cs]
  | .fn f xs, .f f' css => f' = f ∧ okBs st xs css
  | .dead, .x => True
  | _, _ => False
def oks (st : St) : List V → List D → Prop
  | [], [] => True
  | x :: xs, d :: ds => ok1 st x d ∧ oks st xs ds
  | _, _ => False
theorem okC_ok {st : St} {x c} (h : okC st x c) : LendC st x c (ltC x c) := by
  unfold okC at h
  split at h
  · exact ⟨h, rfl⟩
  · exact ⟨⟨_, _, by rw [h]⟩, rfl⟩
  · rename_i n p k es
    simp only [nodeAt, Option.map_eq_some_iff, Option.bind_eq_some_iff] at h
    obtain ⟨m, ⟨r, h1, h2⟩, h3⟩ := h
    exact ⟨r, m, h1, h2, .inl ⟨h3.symm, rfl⟩⟩
  · rename_i n p k es
    obtain ⟨h, ho⟩ := h
    simp only [nodeAt, Option.bind_eq_some_iff] at h
    obtain ⟨r, h1, h2⟩ := h
    refine ⟨r, _, h1, h2, .inr ⟨rfl, rfl, ?_, rfl⟩⟩
    simpa [ownAt, h1] using ho
  · rename_i n p lo hi k0 k es
    obtain ⟨rfl, h⟩ := h
    unfold subAt at h
    split at h
    · rename_i k' es' hm
      simp only [nodeAt, Option.map_eq_some_iff, Option.bind_eq_some_iff] at hm
      obtain ⟨m, ⟨r, h1, h2⟩, h3⟩ := hm
      cases h
      exact ⟨r, m, lo, hi, _, es', rfl, h1, h2, h3, rfl, rfl⟩
    · cases h
  · cases h
theorem okCs_ok {st : St} : ∀ {xs : List V} {cs : List PV}, okCs st xs cs → LendCs st xs cs (ltCs xs cs)
  | [], [], _ => rfl
  | x :: xs, c :: cs, h => ⟨_, _, rfl, h.1, okC_ok h.2.1, okCs_ok h.2.2⟩
  | [], _ :: _, h => h.elim
  | _ :: _, [], h => by unfold okCs at h; exact h.elim
theorem okBs_ok {st : St} : ∀ {xs : List V} {css : List (List PV)}, okBs st xs css → LendBs st xs css (ltBs xs css)
  | [], [], _ => rfl
  | .pt n p o :: xs, cs :: css, h => ⟨n, ltBs xs css, by rw [h.1, h.2.1], h.2.2.1, rfl, okBs_ok h.2.2.2⟩
  | [], _ :: _, h => by simp [okBs] at h
  | x :: _, [], h => by cases x <;> simp [okBs] at h
  | .c _ :: _, _ :: _, h | .nl :: _, _ :: _, h | .g _ :: _, _ :: _, h | .rf _ _ :: _, _ :: _, h | .fp _ _ :: _, _ :: _, h | .fn _ _ :: _, _ :: _, h | .tu _ :: _, _ :: _, h | .dead :: _, _ :: _, h => by simp [okBs] at h
theorem ok1_ok {st : St} {x d} (h : ok1 st x d) : Lend st x d (lt1 x d) := by
  cases d with
  | v c => cases x <;> exact okC_ok (by simpa [ok1] using h)
  | g cs => cases x <;> first | exact okCs_ok (by simpa [ok1] using h) | simp [ok1] at h
  | p cs => cases x <;> exact okBs_ok (by simpa [ok1] using h)
  | f f' css => cases x <;> first | exact ⟨h.1, okBs_ok h.2⟩ | simp [ok1] at h
  | x => cases x <;> first | rfl | simp [ok1] at h
theorem oks_ok {st : St} : ∀ {xs : List V} {ds : List D}, oks st xs ds → Lends st xs ds (lts xs ds)
  | [], [], _ => rfl
  | x :: xs, d :: ds, h => ⟨_, _, rfl, ok1_ok h.1, oks_ok h.2⟩
  | [], _ :: _, h => by simp [oks] at h
  | _ :: _, [], h => by simp [oks] at h

/-! The end of a function. -/
def finXs : List V → List D → List V
  | _ :: xs, .x :: ds => .dead :: finXs xs ds
  | x :: xs, _ :: ds => x :: finXs xs ds
  | _, _ => []
def FinP (T : Nat → Option TI) (results : List ResultVar) (ins outs res : List D) (st : St) : Prop :=
  match resVs T st results with
  | none => False
  | some rxs => oks st (finXs (intros 100000000 0 ins).1 outs ++ rxs) (outs ++ res) ∧ (lentOf (lts (finXs (intros 100000000 0 ins).1 outs ++ rxs) (outs ++ res))).Nodup ∧
      (lts (finXs (intros 100000000 0 ins).1 outs ++ rxs) (outs ++ res)).all (fun q => q.2.isSome) = true ∧ outs.length = ins.length
theorem intros_len {base} : ∀ (ds : List D) (i : Nat), (intros base i ds).1.length = ds.length
  | [], i => rfl
  | d :: ds, i => by simp [intros_len ds]
theorem finXs_len : ∀ (xs : List V) (ds : List D), xs.length = ds.length → (finXs xs ds).length = ds.length
  | [], [], _ => rfl
  | x :: xs, d :: ds, h => by cases d <;> simp [finXs, finXs_len xs ds (by simpa using h)]
  | [], _ :: _, h => by simp at h
  | _ :: _, [], h => by simp at h
theorem finXs_get : ∀ (xs : List V) (ds : List D) (i : Nat) (x : V), (finXs xs ds)[i]? = some x → x = .dead ∨ xs[i]? = some x
  | [], ds, i, x, h => by simp [finXs] at h
  | y :: xs, [], i, x, h => by simp [finXs] at h
  | y :: xs, d :: ds, 0, x, h => by cases d <;> simp [finXs] at h <;> simp [h]
  | y :: xs, d :: ds, i + 1, x, h => by
    have : (finXs xs ds)[i]? = some x := by cases d <;> simpa [finXs] using h
    simpa using finXs_get xs ds i x this
theorem FinP.fin {results : List ResultVar} {ins outs res : List D} {st : St} (h : FinP T results ins outs res st) : Finish T results ins outs res st := by
  unfold FinP at h
  split at h
  · exact h.elim
  · rename_i rxs hr
    obtain ⟨h1, h2, h3, h4⟩ := h
    have hl := finXs_len (intros 100000000 0 ins).1 outs (by rw [intros_len, h4])
    refine ⟨finXs (intros 100000000 0 ins).1 outs, rxs, _, by rw [hl, h4], finXs_get _ _, hr, oks_ok h1, h2, fun n hn => ?_, h4⟩
    have := List.all_eq_true.1 h3 _ hn
    cases this

theorem ACall.of (hT : TOK P T) {f : Nat} {fn : Func} {code : Code} {ins outs res : List D} (hfn : P.funcs[f]? = some fn) (hb : fn.body = some code) (hN : fn.ntmps = N) (hN1 : (decide (ins.length ≤ N) && decide (N ≤ 10000)) = true)
    (hnd : ((intros 100000000 0 ins).2.map (·.1)).Nodup)
    (h : AW P N code (mk (envL 0 (intros 100000000 0 ins).1) (intros 100000000 0 ins).2) (fun e st => (e = .normal ∨ e = .ret) ∧ FinP T fn.results.toList ins outs res st)) : ACall P f ins outs res := by
  simp only [Bool.and_eq_true, decide_eq_true_eq] at hN1
  refine ACall.of_body hT hfn hb hN hN1.1 hN1.2 hnd ?_
  rw [st0_eq _ hnd]
  exact h.mono fun e st h => ⟨h.1, h.2.fin⟩

theorem ACallX.of (hT : TOK P T) {f : Nat} {fn : Func} {code : Code} {ins : List D} {α : Type} {p : α → Prop} {outs res : α → List D} (hfn : P.funcs[f]? = some fn) (hb : fn.body = some code) (hN : fn.ntmps = N) (hN1 : (decide (ins.length ≤ N) && decide (N ≤ 10000)) = true)
    (hnd : ((intros 100000000 0 ins).2.map (·.1)).Nodup)
    (h : AW P N code (mk (envL 0 (intros 100000000 0 ins).1) (intros 100000000 0 ins).2) (fun e st => (e = .normal ∨ e = .ret) ∧ ∃ x, p x ∧ FinP T fn.results.toList ins (outs x) (res x) st)) : ACallX P f ins p outs res := by
  simp only [Bool.and_eq_true, decide_eq_true_eq] at hN1
  refine ACallX.of_body hT hfn hb hN hN1.1 hN1.2 hnd ?_
  rw [st0_eq _ hnd]
  exact h.mono fun e st ⟨h1, x, h2, h3⟩ => ⟨h1, x, h2, h3.fin⟩

/-! A call. -/
def backsCov (xs : List V) (ins outs : List D) : Bool := (backs xs ins outs).map (fun q => (q.1, some q.2.1)) == (lts xs ins).filter (fun s => s.2.isSome)
def upsOK (st : St) : Up → Prop
  | [] => True
  | q :: ups => UpOK st q ∧ upsOK st ups
theorem upsOK_all {st : St} : ∀ {ups : Up}, upsOK st ups → ∀ q ∈ ups, UpOK st q
  | [], _, q, hq => by cases hq
  | q' :: ups, h, q, hq => by
    rcases List.mem_cons.1 hq with rfl | hq
    · exact h.1
    · exact upsOK_all h.2 q hq
def inC (own : Bool) (st : St) : V → PV
  | .c t => t
  | .nl => .sl true 1 []
  | .rf n p => match nodeAt st n p with
    | some m => if own = true then m else m.frz
    | none => .xx
  | .rn n p (.sub lo hi _) => (subAt st n p lo hi).getD .xx
  | _ => .xx
def inD (own : Bool) (st : St) : V → D
  | .g xs => .g (xs.map (inC own st))
  | .pt n _ _ => match st.σ n with
    | some (.bx cs) => .p cs
    | _ => .x
  | .fn f xs => .f f (xs.map fun x => match x with
      | .pt n _ _ => (match st.σ n with
        | some (.bx cs) => cs
        | _ => [])
      | _ => [])
  | .dead => .x
  | x => .v (inC own st x)
def inDs (st : St) : List Bool → List V → List D
  | _, [] => []
  | [], x :: xs => inD false st x :: inDs st [] xs
  | b :: bs, x :: xs => inD b st x :: inDs st bs xs
structure CallP (N : Nat) (st : St) (d : Option Nat) (xs : List V) (ins outs res : List D) : Prop where
  ok : oks st xs ins
  lt : ((lts xs ins).all (fun q => q.2.isSome || !(lentOf (lts xs ins)).contains q.1) && backsCov xs ins outs && ((lts xs ins).all (fun q => q.2.isSome) || (outs.all D.nofz && res.all D.nofz)) && dIn N d) = true
  nd : (lentOf (lts xs ins)).Nodup
  ups : upsOK st (backs xs ins outs)
  names : ∀ x, d = some x → ((intros (x * 1000) 0 res).2.map (·.1)).Nodup ∧ ∀ n ∈ (intros (x * 1000) 0 res).2.map (·.1), (st.back (backs xs ins outs)).σ n = none ∧ n < 100000000
theorem CallP.ok' {st : St} {d xs ins outs res} (h : CallP N st d xs ins outs res) : CallOK N st d xs ins outs res (lts xs ins) := by
  have := h.lt
  simp only [Bool.and_eq_true, Bool.or_eq_true, backsCov, beq_iff_eq] at this
  obtain ⟨⟨⟨h1, h2⟩, h3⟩, h4⟩ := this
  refine ⟨oks_ok h.ok, h.nd, fun n hn hm => ?_, h2, upsOK_all h.ups, ?_, h4, h.names⟩
  · have := List.all_eq_true.1 h1 _ hn
    simp at this
    exact this hm
  · rcases h3 with h3 | h3
    · left
      intro n hn
      have := List.all_eq_true.1 h3 _ hn
      cases this
    · exact .inr h3
theorem OutOK.callF {ops : Array Oper} {Q : St → Prop} {e : Bool} {d : Option Nat} {cal : Operand} {ars ats : Array _} {ty pos af l} {st st1 : St} {f : Nat} {caps xs : List V} {ins outs res : List D}
    (md : List Bool) (hf : evalO st cal = .fn f caps) (hx : ars.toList.map (evalO st) ++ caps = xs) (hi : inDs st md xs = ins) (hb : HasBody P f) (hcall : ACall P f ins outs res) (hok : CallP N st d xs ins outs res) (he : e = true → lentOf (lts xs ins) = [])
    (hst : callSt st d (backs xs ins outs) res = st1) (hl : OutOK P T N ops Q (runL T N ops l st1)) : OutOK P T N ops Q (.call e ⟨d, .call ⟨.value cal, ars, ats⟩, ty, pos, af, none⟩ l st) := by
  subst hx; subst hst
  refine .call (call_op rfl rfl hf hb hcall hok.ok').q (fun h => (call_opE rfl rfl hf hb hcall hok.ok' (he h)).q) (fun st1 h => h ▸ hl)
structure CallQ (st : St) (xs : List V) (ins : List D) : Prop where
  ok : oks st xs ins
  lt : ((lts xs ins).all fun q => q.2.isSome || !(lentOf (lts xs ins)).contains q.1) = true
  nd : (lentOf (lts xs ins)).Nodup
theorem CallQ.in {st : St} {xs ins} (h : CallQ st xs ins) : CallIn st xs ins (lts xs ins) :=
  ⟨oks_ok h.ok, h.nd, fun n hn hc => by
    have := List.all_eq_true.1 h.lt _ hn
    simp at this
    exact this hc⟩
structure CallX (P : Program) (T : Nat → Option TI) (N : Nat) (ops : Array Oper) (Q : St → Prop) (st : St) (d : Option Nat) (xs : List V) (ins outs res : List D) (l : List (Oper × Bool)) : Prop where
  ex : ∃ st1, CallP N st d xs ins outs res ∧ callSt st d (backs xs ins outs) res = st1 ∧ OutOK P T N ops Q (runL T N ops l st1)
theorem CallX.mk' {ops : Array Oper} {Q : St → Prop} {st st1 : St} {d xs ins outs res l} (h : CallP N st d xs ins outs res) (hst : callSt st d (backs xs ins outs) res = st1) (hl : OutOK P T N ops Q (runL T N ops l st1)) : CallX P T N ops Q st d xs ins outs res l := ⟨_, h, hst, hl⟩
theorem OutOK.callX {ops : Array Oper} {Q : St → Prop} {e : Bool} {d : Option Nat} {cal : Operand} {ars ats : Array _} {ty pos af l} {st : St} {f : Nat} {caps xs : List V} {ins : List D} {α : Type} {p : α → Prop} {outs res : α → List D}
    (md : List Bool) (hf : evalO st cal = .fn f caps) (hx : ars.toList.map (evalO st) ++ caps = xs) (hi : inDs st md xs = ins) (hb : HasBody P f) (hcall : ACallX P f ins p outs res) (hq : CallQ st xs ins) (he : e = true → lentOf (lts xs ins) = [])
    (h : ∀ x, p x → CallX P T N ops Q st d xs ins (outs x) (res x) l) : OutOK P T N ops Q (.call e ⟨d, .call ⟨.value cal, ars, ats⟩, ty, pos, af, none⟩ l st) := by
  subst hx
  have hop := call_opX (N := N) (o := ⟨d, .call ⟨.value cal, ars, ats⟩, ty, pos, af, none⟩) rfl rfl hf hb hcall hq.in (fun x hp => by obtain ⟨_, h, _⟩ := (h x hp).ex; exact h.ok')
  refine .call (K := fun st1 => ∃ x, p x ∧ callSt st d (backs (ars.toList.map (evalO st) ++ caps) ins (outs x)) (res x) = st1) ?_ ?_ ?_
  · exact fun fr a w hf hr => OpR.wpOp.wp_weak (Q := fun _ _ _ => False) (hop fr a w hf hr) (fun a w h => h.1)
  · exact fun hh fr a w hf hr => OpR.wpOp.wp_weak (Q := fun _ _ _ => False) (hop fr a w hf hr) (fun a w h => ⟨h.1, h.2 (he hh)⟩)
  · rintro st1 ⟨x, hp, rfl⟩
    obtain ⟨st2, _, rfl, hl⟩ := (h x hp).ex
    exact hl
end Go.Eng

set_option linter.unusedSimpArgs false
set_option linter.unusedVariables false
namespace Go.Eng
open Go.RowKit
variable {P : Program} {T : Nat → Option TI} {N : Nat}
@[simp] theorem asgSt_c (st : St) (d ty t) : asgSt T N st d ty (.c t) = if d < N then some (st.put (some d) (.c t)) else none := rfl
@[simp] theorem asgSt_g (st : St) (d ty t) : asgSt T N st d ty (.g t) = if d < N then some (st.put (some d) (.g t)) else none := rfl
@[simp] theorem asgSt_rf (st : St) (d ty n p) : asgSt T N st d ty (.rf n p) = if d < N then some (st.put (some d) (.rf n p)) else none := rfl
@[simp] theorem asgSt_pt (st : St) (d ty n p o) : asgSt T N st d ty (.pt n p o) = if d < N then some (st.put (some d) (.pt n p o)) else none := rfl
@[simp] theorem asgSt_fp (st : St) (d ty n p) : asgSt T N st d ty (.fp n p) = if d < N then some (st.put (some d) (.fp n p)) else none := rfl
@[simp] theorem asgSt_fn (st : St) (d ty n p) : asgSt T N st d ty (.fn n p) = if d < N then some (st.put (some d) (.fn n p)) else none := rfl
@[simp] theorem asgSt_rn (st : St) (d ty n p s) : asgSt T N st d ty (.rn n p s) = if d < N then some (st.put (some d) (.rn n p s)) else none := rfl
@[simp] theorem asgSt_tu (st : St) (d ty n) : asgSt T N st d ty (.tu n) = if d < N then some (st.put (some d) (.tu n)) else none := rfl
@[simp] theorem asgSt_nl (st : St) (d ty) : asgSt T N st d ty .nl = nilSt T N st ty d := rfl
attribute [simp] eqCs scEqB exactV exactVs watchB WatchAll
attribute [simp] convB cellsOf numsU8 subAt sliceRf binS wrapK minmaxS convS resVs finXs FinP oks ok1 okC okCs okBs lts lt1 ltC ltCs ltBs lentOf backs back backC backCs backBs upsOK upOf callSt inC inD inDs nodeAt ownAt PV.frz backsCov D.nofz PV.nofz PV.nofzs UpOK nilSt mkSlSt boxSt allocSt buildSlSt storeSt appSt takeV takeCells take1 takeEls mkEl putCs Root.put PV.set PV.own PV.isSc xsV PV.coks PV.cok
theorem thenQ_n {K : St → Prop} {Q : Exit → St → Prop} {st} (h : K st) : thenQ K Q .normal st := h
theorem thenQ_r {K : St → Prop} {Q : Exit → St → Prop} {st} (h : Q .ret st) : thenQ K Q .ret st := h
theorem thenQ_e {K : St → Prop} {Q : Exit → St → Prop} {st i} (h : Q (.exit i) st) : thenQ K Q (.exit i) st := h
theorem blockQ_n {i} {Q : Exit → St → Prop} {st} (h : Q .normal st) : blockQ i Q .normal st := h
theorem blockQ_r {i} {Q : Exit → St → Prop} {st} (h : Q .ret st) : blockQ i Q .ret st := h
theorem blockQ_e {i} {Q : Exit → St → Prop} {st} (h : Q .normal st) : blockQ i Q (.exit i) st := by simp [blockQ, h]
theorem blockQ_o {i j} {Q : Exit → St → Prop} {st} (hj : (j == i) = false) (h : Q (.exit j) st) : blockQ i Q (.exit j) st := by
  have : ¬ j = i := by simpa using hj
  simp [blockQ, this, h]
theorem AW.if {t : Nat} {x y : Code} {b : Bool} {st : St} {Q : Exit → St → Prop} (hc : st.env t = .c (.sc (.bool b))) (hx : b = true → AW P N x st Q) (hy : b = false → AW P N y st Q) : AW P N (.cond (.tmp t) x y) st Q := by
  refine AW.cond hc ?_
  cases b
  · exact hy rfl
  · exact hx rfl
def IfG (x : V) (X Y : Prop) : Prop := ∃ b, x = .c (.sc (.bool b)) ∧ (b = true → X) ∧ (b = false → Y)
theorem AW.ifB {t : Nat} {x y : Code} {v : V} {st : St} {Q : Exit → St → Prop} (hc : st.env t = v) (h : IfG v (AW P N x st Q) (AW P N y st Q)) : AW P N (.cond (.tmp t) x y) st Q := by
  obtain ⟨b, hb, h1, h2⟩ := h
  exact AW.if (hc.trans hb) h1 h2
theorem IfG.t {X Y : Prop} (h : X) : IfG (.c (.sc (.bool true))) X Y := ⟨true, rfl, fun _ => h, fun h => (by cases h)⟩
theorem IfG.f {X Y : Prop} (h : Y) : IfG (.c (.sc (.bool false))) X Y := ⟨false, rfl, fun h => (by cases h), fun _ => h⟩
theorem IfG.p {p : Prop} [Decidable p] {X Y : Prop} (hx : p → X) (hy : ¬ p → Y) : IfG (.c (.sc (.bool (decide p)))) X Y := ⟨_, rfl, fun h => hx (by simpa using h), fun h => hy (by simpa using h)⟩
theorem IfG.n {p : Prop} [Decidable p] {X Y : Prop} (hx : ¬ p → X) (hy : p → Y) : IfG (.c (.sc (.bool (!decide p)))) X Y := ⟨_, rfl, fun h => hx (by simpa using h), fun h => hy (by simpa using h)⟩
theorem IfG.g {b : Bool} {X Y : Prop} (hx : b = true → X) (hy : b = false → Y) : IfG (.c (.sc (.bool b))) X Y := ⟨_, rfl, hx, hy⟩
theorem fin_n {R : Prop} (h : R) : ((Exit.normal = Exit.normal) ∨ (Exit.normal = Exit.ret)) ∧ R := ⟨.inl rfl, h⟩
theorem fin_r {R : Prop} (h : R) : ((Exit.ret = Exit.normal) ∨ (Exit.ret = Exit.ret)) ∧ R := ⟨.inr rfl, h⟩
end Go.Eng
namespace Go.Eng
@[simp] theorem one_int (k n) : (Value.int k n).oneCell' = true := rfl
@[simp] theorem one_bool (b) : (Value.bool b).oneCell' = true := rfl
@[simp] theorem one_str (b) : (Value.string b).oneCell' = true := rfl
@[simp] theorem one_np : (Value.pointer none).oneCell' = true := rfl
attribute [simp] V.ren V.rens kill killP killQ pre ext V.one PV.isXX backP backQ
end Go.Eng
namespace Go.Eng
@[simp] theorem del_nil' {α : Type} (ms : List Nat) : del (α := α) ms [] = [] := rfl
@[simp] theorem del_cons {α : Type} (ms : List Nat) (n : Nat) (x : α) (l) : del ms ((n, x) :: l) = if n ∈ ms then del ms l else (n, x) :: del ms l := by
  simp only [del, List.filter_cons, List.contains_eq_mem]
  by_cases h : n ∈ ms <;> simp [h]
end Go.Eng
namespace Go.Eng
@[simp] theorem cutO_tmp (st : St) (t) : cutO st (.tmp t) = cutT st t := rfl
@[simp] theorem cutO_const (st : St) (v) : cutO st (.const v) = some st := rfl
@[simp] theorem cutO_func (st : St) (v) : cutO st (.func v) = some st := rfl
@[simp] theorem cutOs_nil (st : St) : cutOs st [] = some st := rfl
@[simp] theorem cutOs_cons (st : St) (x xs) : cutOs st (x :: xs) = (cutO st x).bind fun st => cutOs st xs := rfl
attribute [simp] cutT V.needs V.deepR cutSt cutV cutL cut1 innerOK xxOf cutBase
end Go.Eng
namespace Go.Eng
attribute [simp] mk_back updR List.range_succ
end Go.Eng
namespace Go.Eng
@[simp] theorem isAg_ag (cs) : (PV.ag cs).isAg = true := rfl
end Go.Eng

set_option linter.unusedSimpArgs false
set_option linter.unusedVariables false
namespace Go.Eng
open Go.RowKit
variable {P : Program} {T : Nat → Option TI} {N : Nat}

def hasL (st : St) : List (Nat × V) → Prop
  | [] => True
  | (t, x) :: l => st.env t = x ∧ hasL st l
def rootsL (st : St) : List (Nat × Root) → Prop
  | [] => True
  | (n, x) :: l => st.σ n = some x ∧ rootsL st l
def refsOK (e : List (Nat × V)) (r : List (Nat × Root)) : Bool := e.all fun q => (V.refs q.2).all fun n => (r.map (·.1)).contains n
structure LessL (st : St) (e : List (Nat × V)) (r : List (Nat × Root)) : Prop where
  env : hasL st e
  σ : rootsL st r
  refs : refsOK e r = true
theorem hasL_look {st : St} : ∀ {e : List (Nat × V)}, hasL st e → ∀ t, look e t = st.env t ∨ look e t = .dead
  | [], _, t => .inr rfl
  | (u, x) :: l, h, t => by
    simp only [look_cons]
    split
    · rename_i e; subst e; exact .inl h.1.symm
    · exact hasL_look h.2 t
theorem look_mem : ∀ {e : List (Nat × V)} {t : Nat}, look e t = .dead ∨ (t, look e t) ∈ e
  | [], t => .inl rfl
  | (u, x) :: l, t => by
    simp only [look_cons]
    split
    · rename_i e; subst e; exact .inr (by simp)
    · exact look_mem.imp id (fun h => by simp [h])
theorem rootsL_look {st : St} : ∀ {r : List (Nat × Root)}, rootsL st r → ∀ n x, lookR r n = some x → st.σ n = some x
  | [], _, n, x, h => by simp at h
  | (u, y) :: l, h, n, x, hn => by
    simp only [lookR_cons] at hn
    split at hn
    · rename_i e; subst e; cases hn; exact h.1
    · exact rootsL_look h.2 n x hn
theorem lookR_mem : ∀ {r : List (Nat × Root)} {n : Nat}, n ∈ r.map (·.1) → ∃ x, lookR r n = some x
  | [], n, h => by simp at h
  | (u, y) :: l, n, h => by
    simp only [lookR_cons]
    split
    · exact ⟨_, rfl⟩
    · rename_i e
      simp only [List.map_cons, List.mem_cons] at h
      exact lookR_mem (h.resolve_left (fun h => e h.symm))
theorem LessL.less {st : St} {e : List (Nat × V)} {r : List (Nat × Root)} (h : LessL st e r) : Less st (Go.Eng.mk e r) := by
  refine ⟨fun t => hasL_look h.env t, fun n x hn => rootsL_look h.σ n x hn, fun t w Z rv v hv => ?_⟩
  simp only [mk_env, mk_σ] at hv ⊢
  have hr : ∀ n ∈ (look e t).refs, ∃ x, lookR r n = some x ∧ st.σ n = some x := by
    intro n hn
    rcases look_mem (e := e) (t := t) with hd | hm
    · rw [hd] at hn; simp [V.refs] at hn
    · have := List.all_eq_true.1 (List.all_eq_true.1 h.refs _ hm) n hn
      obtain ⟨x, hx⟩ := lookR_mem (by simpa using this)
      exact ⟨x, hx, rootsL_look h.σ n x hx⟩
  refine VR_later (fun _ _ => rfl) _ _ ?_ ?_ hv
  · intro n hn p u hu
    rw [VR_rf] at *
    obtain ⟨x, h1, h2⟩ := hr n hn
    obtain ⟨r0, k1, k2⟩ := hu
    rw [h2] at k1; cases k1
    exact ⟨x, h1, k2⟩
  · intro n hn p o u hu
    rw [VR_pt] at *
    obtain ⟨x, h1, h2⟩ := hr n hn
    obtain ⟨r0, b, o', k1, k2⟩ := hu
    rw [h2] at k1; cases k1
    exact ⟨x, b, o', h1, k2⟩
theorem AW.forget {c : Code} {st : St} {Q : Exit → St → Prop} (e : List (Nat × V)) (r : List (Nat × Root)) (h : LessL st e r) (hc : AW P N c (mk e r) Q) : AW P N c st Q := AW.less h.less hc
theorem AW.loopL {c : Code} {st : St} {Q : Exit → St → Prop} {α : Type} (p : α → Prop) (e : α → List (Nat × V)) (r : α → List (Nat × Root)) (μ : α → Nat) (x0 : α) (hp : p x0) (h0 : LessL st (e x0) (r x0))
    (round : ∀ x, p x → AW P N c (mk (e x) (r x)) (thenQ (fun st' => ∃ x', p x' ∧ LessL st' (e x') (r x') ∧ μ x' < μ x) Q)) : AW P N (.loop c) st Q :=
  AW.loop (fun x st => p x ∧ LessL st (e x) (r x)) μ x0 ⟨hp, h0⟩ fun x st h => AW.less h.2.less ((round x h.1).mono fun ex st' hq => by
    cases ex with
    | normal => obtain ⟨x', h1, h2, h3⟩ := hq; exact ⟨x', ⟨h1, h2⟩, h3⟩
    | _ => exact hq)
attribute [simp] hasL rootsL refsOK V.refs V.refss
@[simp] theorem frzs_nil : PV.frzs [] = [] := rfl
@[simp] theorem frzs_cons (c cs) : PV.frzs (c :: cs) = c.frz :: PV.frzs cs := rfl
@[simp] theorem frzs_sc {α : Type} (f : α → Value) : ∀ xs : List α, PV.frzs (xs.map fun x => .sc (f x)) = xs.map fun x => .sc (f x)
  | [] => rfl
  | x :: xs => by simp [frzs_sc f xs]
theorem w64 {x : Int} (h1 : -9223372036854775808 ≤ x) (h2 : x < 9223372036854775808) : wrap64 x = x := by
  unfold wrap64
  omega
end Go.Eng

set_option linter.unusedSimpArgs false
set_option linter.unusedVariables false
namespace Go.Eng
open Go.RowKit
variable {P : Program} {T : Nat → Option TI} {N : Nat}

def Zof (w : World) : Nat → Prop := fun b => b < w.heap.size
abbrev No : Nat → Prop := fun _ => False
theorem sepNo : Sep No No No := ⟨fun _ h => h, fun _ h => h, fun _ h _ => h⟩
structure EOpens (P : Program) (t : TypeId) {α : Type} (enc : α → List PV) (sz : Nat) (wf : α → Prop) : Prop where
  cells : P.cellsOf t = sz
  len : ∀ a, (enc a).length = sz
  noag : ∀ a, ∀ c ∈ enc a, c.isAg = false
  go : ∀ {H : Type} {ec : TypeId × Value → H} {w : World} {base : Nat} {spare : Nat → Bool} {held : Bool} {fuel : Nat} {cs : List Value} {x : DataW H × List MemPlace},
    DataW.trod ec P w base spare held fuel t cs = some x → ∃ a, wf a ∧ RVs w (Zof w) (enc a) cs No
theorem RVs_single {w Z c v} (ho : v.oneCell' = true) (h : RV w Z c v No) : RVs w Z [c] [v] No := ⟨v, [], No, No, rfl, sepNo, ho, h, rfl⟩
theorem eopens_int {t : TypeId} {k : IntKind} (ht : P.underlying t = some (.int k)) (hc : P.cellsOf t = 1) : EOpens P t (fun n => [.sc (.int k n)]) 1 (fun n => (Lit.int k n).wf = true) where
  cells := hc
  len _ := rfl
  noag _ c hc := by simp at hc; subst hc; rfl
  go h := by
    obtain ⟨n, rfl, _, hw⟩ := DataW.trod_int ht h
    exact ⟨n, hw, RVs_single rfl (by rw [RV_sc])⟩
theorem exists_list {α β : Type} {R : α → β → Prop} : ∀ (l : List α), (∀ x, x ∈ l → ∃ y, R x y) → ∃ ys : List β, ys.length = l.length ∧ ∀ (j : Nat) (x : α), l[j]? = some x → ∃ y, ys[j]? = some y ∧ R x y
  | [], _ => ⟨[], rfl, fun j x h => by simp at h⟩
  | a :: l, h => by
    obtain ⟨y, hy⟩ := h a (by simp)
    obtain ⟨ys, hl, hr⟩ := exists_list l (fun x hx => h x (by simp [hx]))
    refine ⟨y :: ys, by simp [hl], fun j x hx => ?_⟩
    cases j with
    | zero => simp at hx; subst hx; exact ⟨y, by simp, hy⟩
    | succ j => exact hr j x (by simpa using hx)
theorem RE_of_cells {α : Type} {w : World} {Z : Nat → Prop} {enc : α → List PV} {el : α → PV} {sz b : Nat} (hlen : ∀ a, (enc a).length = sz) (hel : (∀ a, el a = .ag (enc a)) ∨ (sz = 1 ∧ ∀ a, enc a = [el a] ∧ (el a).isAg = false)) : ∀ (l : List α) (o : Nat),
    (∀ (j : Nat) (a : α), l[j]? = some a → ∃ c, RVs w Z (enc a) c No ∧ ∀ (q : Nat) (u : Value), c[q]? = some u → w.cell? ⟨b, o + j * sz + q, none⟩ = some u) → RE w Z (l.map el) b o sz No
  | [], o, h => by rw [List.map_nil, RE_nil]; trivial
  | a :: l, o, h => by
    rw [List.map_cons, RE_cons]
    refine ⟨No, No, sepNo, ?_, RE_of_cells hlen hel l (o + sz) fun j a' hj => ?_⟩
    · obtain ⟨c, hc, hq⟩ := h 0 a rfl
      have hq' : ∀ (q : Nat) (u : Value), c[q]? = some u → w.cell? ⟨b, o + q, none⟩ = some u := fun q u hu => by simpa using hq q u hu
      rcases hel with hel | ⟨h1, hel⟩
      · rw [hel, RN_ag]
        exact ⟨hlen a, RC_of_RVs _ _ _ _ hc hq'⟩
      · obtain ⟨e1, e2⟩ := hel a
        rw [RN_cell e2]
        rw [e1] at hc
        obtain ⟨v, vs', S1, S2, rfl, hsep, ho, k1, k2⟩ := hc
        exact ⟨h1, v, by simpa using hq' 0 v rfl, RV_mono hsep.1 k1⟩
    · obtain ⟨c, hc, hq⟩ := h (j + 1) a' (by simpa using hj)
      refine ⟨c, hc, fun q u hu => ?_⟩
      have := hq q u hu
      rwa [show o + (j + 1) * sz + q = o + sz + j * sz + q by rw [Nat.add_mul]; omega] at this
theorem add_add (a : Addr) (m j : Nat) : (a.add m).add j = a.add (m + j) := by
  unfold Addr.add
  by_cases hm : m = 0 <;> by_cases hj : j = 0 <;> simp [hm, hj] <;> omega
theorem eopens_slice {t e : TypeId} {α : Type} {enc : α → List PV} {el : α → PV} {sz : Nat} {wf : α → Prop} (ht : P.underlying t = some (.slice e)) (hc : P.cellsOf t = 1) (he : EOpens P e enc sz wf) (hz : 0 < sz) (hel : (∀ a, el a = .ag (enc a)) ∨ (sz = 1 ∧ ∀ a, enc a = [el a] ∧ (el a).isAg = false)) :
    EOpens P t (fun l : List α => [.sl true sz (l.map el)]) 1 (fun l => l.length ≤ maxLen ∧ ∀ x ∈ l, wf x) where
  cells := hc
  len _ := rfl
  noag _ c hc := by simp at hc; subst hc; rfl
  go {H ec w base spare held fuel cs x} h := by
    rcases DataW.trod_slice ht h with ⟨rfl, _⟩ | ⟨a, len, cap, elems, rest, n, _, rfl, _, hb, hl, hm, hlen, hels, _, _⟩
    · exact ⟨[], by simp [maxLen], RVs_single rfl (by rw [RV_fz]; exact ⟨none, 0, rfl, Nat.le_refl _, .inl rfl⟩)⟩
    · have each : ∀ i, i ∈ List.range len → ∃ y : α, (fun i y => wf y ∧ ∃ c, RVs w (Zof w) (enc y) c No ∧ ∀ q u, c[q]? = some u → w.cell? (a.add (i * sz + q)) = some u) i y := by
        intro i hi
        have hi' : i < len := by simpa using hi
        have h1 := hels i hi'
        rw [List.getElem?_eq_getElem (by omega : i < elems.length), Option.bind_eq_some_iff] at h1
        obtain ⟨c, hcs, hy⟩ := h1
        obtain ⟨y, hw, hK⟩ := he.go hy
        obtain ⟨_, hcl, hcell⟩ := World.cells?_some hcs
        refine ⟨y, hw, c, hK, fun j u hu => ?_⟩
        have hj : j < P.cellsOf e := by rw [← hcl]; exact (List.getElem?_eq_some_iff.1 hu).1
        have := hcell j hj
        rw [hu, add_add, he.cells] at this
        exact this
      obtain ⟨ys, hyl, hys⟩ := exists_list _ each
      have hyl' : ys.length = len := by simpa using hyl
      have pick : ∀ j p, ys[j]? = some p → wf p ∧ ∃ c, RVs w (Zof w) (enc p) c No ∧ ∀ q u, c[q]? = some u → w.cell? (a.add (j * sz + q)) = some u := by
        intro j p hp
        have hj : j < ys.length := (List.getElem?_eq_some_iff.1 hp).1
        obtain ⟨y, hy, hr⟩ := hys j j (List.getElem?_range (by omega))
        rw [hp] at hy
        cases hy
        exact hr
      refine ⟨ys, ⟨by rw [hyl']; omega, fun x hx => ?_⟩, RVs_single rfl ?_⟩
      · obtain ⟨j, hj⟩ := List.getElem?_of_mem hx
        exact (pick j x hj).1
      · rw [RV_fz]
        refine ⟨some a, cap, by simp [hyl'], by simp; omega, ?_⟩
        by_cases h0 : len = 0
        · exact .inl (by simp; exact List.length_eq_zero_iff.1 (by omega))
        · right
          obtain ⟨p0, hp0⟩ : ∃ p, ys[0]? = some p := ⟨ys[0], by simp⟩
          obtain ⟨_, c0, hc0, hq0⟩ := pick 0 p0 hp0
          have hl0 : c0.length = sz := by rw [RVs_length _ _ _ hc0, he.len]
          have h00 := hq0 0 c0[0] (by simp)
          have hadd : a.add (0 * sz + 0) = a := by simp [Addr.add]
          rw [hadd] at h00
          have hspot := World.cell?_spot h00
          obtain ⟨b, o, spot⟩ := a
          simp only at hspot; subst hspot
          have hadd' : ∀ n, (⟨b, o, none⟩ : Addr).add n = ⟨b, o + n, none⟩ := fun n => add_none b o n
          refine ⟨b, o, rfl, cell_lt h00, RE_of_cells he.len hel ys o fun j p hp => ?_⟩
          obtain ⟨_, c, hc, hq⟩ := pick j p hp
          refine ⟨c, hc, fun q u hu => ?_⟩
          have := hq q u hu
          rwa [hadd', ← Nat.add_assoc] at this

structure EOpensL (P : Program) (fs : List Field) (off : Nat) {α : Type} (enc : α → List PV) (sz : Nat) (wf : α → Prop) : Prop where
  len : ∀ a, (enc a).length = sz
  noag : ∀ a, ∀ c ∈ enc a, c.isAg = false
  go : ∀ {H : Type} {ec : TypeId × Value → H} {w : World} {base : Nat} {spare : Nat → Bool} {held : Bool} {n : Nat} {cs : List Value}, cs.length = off + sz →
    (∀ (i : Nat) (f : Field), fs[i]? = some f → ∃ y, DataW.trod ec P w base spare held n f.type ((cs.drop f.offset).take (P.cellsOf f.type)) = some y) → ∃ a, wf a ∧ RVs w (Zof w) (enc a) (cs.drop off) No
/-! The row. -/
theorem DR_cell {w Z} {c : PV} {v : Value} (h : RVs w Z [c] [v] No) : DR w Z (.v c) v No := by
  obtain ⟨v', vs', S1, S2, e, hsep, ho, k1, k2⟩ := h
  simp only [List.cons.injEq] at e
  rw [e.1]
  exact RV_mono hsep.1 k1
theorem DRs_cons' {w Z d ds v vs} (h : DR w Z d v No) (hs : DRs w Z ds vs No) : DRs w Z (d :: ds) (v :: vs) No := ⟨v, vs, No, No, rfl, sepNo, h, hs⟩
theorem law_calls {f : Nat} {ins outs : List D} {W : World} {vals : List Value} (h : ACall P f ins outs [.v (.sc (.bool true))]) (hG : W.ShapedOpen P) (hd : DRs W (Zof W) ins vals No) : Calls P f vals.toArray W fun e W' => e = .returned (.bool true) ∧ Below W.heap.size W W' := by
  refine (h W (Zof W) No vals ⟨W, hG, fun b hb => ⟨hb, rfl⟩⟩ hd (fun b hb => hb.elim id (fun h => h.elim)) (fun b hb => hb.elim)).mono ?_
  rintro e w' ⟨rvs, S', Sr, rfl, hos, htape, hout, hsz, hfrm, _, _, _, hres⟩
  obtain ⟨v, vs', S1, S2, rfl, _, h1, h2⟩ := hres
  have h2 : vs' = [] := h2
  subst h2
  have h1 : RV w' (Zof W) (.sc (.bool true)) v S1 := h1
  rw [RV_sc] at h1
  subst h1
  exact ⟨rfl, hos, htape.1, hout, hsz, fun k hk => hfrm k hk (fun h => h)⟩
end Go.Eng

set_option linter.unusedSimpArgs false
set_option linter.unusedVariables false
namespace Go.Eng
open Go.RowKit
variable {P : Program} {T : Nat → Option TI} {N : Nat}
def nilTo (st : St) (x : V) (b : Bool) : Prop :=
  match x with
  | .nl => b = true
  | .c (.sl _ _ es) => b = true → es = []
  | .rf n p => b = true → ∃ r f k, st.σ n = some r ∧ r.node.get p = some (.sl f k [])
  | _ => False
def slV (x : V) : Bool := match x with | .nl | .c (.sl _ _ _) | .rf _ _ => true | _ => false
theorem slice_isNone {w Z a n c S f k es} (h : RV w Z (.sl f k es) (.slice a n c) S) : a.isNone = true → es = [] := by
  intro ha
  cases f with
  | true =>
    rw [RV_fz] at h
    obtain ⟨a', c', e, _, h⟩ := h
    simp only [Value.slice.injEq] at e
    rcases h with h | ⟨b, o, hb, _⟩
    · exact List.length_eq_zero_iff.1 h
    · rw [e.1, hb] at ha; cases ha
  | false =>
    rw [RV_ow] at h
    rcases h with ⟨_, h⟩ | ⟨b, cap, cur, ty, e, _⟩
    · exact List.length_eq_zero_iff.1 h
    · simp only [Value.slice.injEq] at e
      rw [e.1] at ha; cases ha
theorem RV_slice {w Z f k es v S} (h : RV w Z (.sl f k es) v S) : ∃ a n c, v = .slice a n c := by
  cases f with
  | true => rw [RV_fz] at h; obtain ⟨a', c', e, _⟩ := h; exact ⟨_, _, _, e⟩
  | false =>
    rw [RV_ow] at h
    rcases h with ⟨e, _⟩ | ⟨b, cap, cur, ty, e, _⟩ <;> exact ⟨_, _, _, e⟩
theorem nilTo_ok {fr S rv st a w} (h : Rel0 fr S rv st a w) {x : V} {v : Value} (hx : VR w fr.X st.σ rv x v) (hs : slV x = true) : ∃ ad n c, v = .slice ad n c ∧ nilTo st x ad.isNone := by
  unfold slV at hs
  split at hs
  · rw [VR_nl] at hx; exact ⟨none, 0, 0, hx, rfl⟩
  · rw [VR_c] at hx
    obtain ⟨ad, n, c, rfl⟩ := RV_slice hx
    exact ⟨ad, n, c, rfl, slice_isNone hx⟩
  · rename_i n p
    rw [VR_rf] at hx
    obtain ⟨r, h1, h2, f, k, es, h3⟩ := hx
    obtain ⟨S', h4, _⟩ := rAt_slice (h.rr n r h1) h3 h2
    obtain ⟨ad, n', c, rfl⟩ := RV_slice h4
    refine ⟨ad, n', c, rfl, fun hh => ⟨r, f, k, h1, ?_⟩⟩
    rw [h3, slice_isNone h4 hh]
  · cases hs
theorem AW.isNil (hT : TOK P T) {id : Nat} {o1 : Oper} {d1 d2 t ty yt : Nat} {pos : String} {af : Array Edge} {i : TI} {e k b : Nat} {st st1 : St} {Q : Exit → St → Prop} (hi : T t = some i) (hk : i.kd = .sl e k b)
    (hg1 : o1.guard = none) (h1 : valSt T N st o1 = some st1) (hs : slV (st1.env d1) = true) (hd : d2 < N) (hQ : ∀ c, nilTo st1 (st1.env d1) c → Q .normal (st1.put (some d2) (.c (.sc (.bool c))))) :
    AW P N (.region id #[o1, ⟨some d2, .binOp .eql t (.tmp d1) (.const (.slice none 0 0)) yt, ty, pos, af, none⟩] false) st Q := by
  intro fr a w hf hr
  refine wp_region ?_
  have hl : List.range (#[o1, (⟨some d2, .binOp .eql t (.tmp d1) (.const (.slice none 0 0)) yt, ty, pos, af, none⟩ : Oper)] : Array Oper).size = [0, 1] := rfl
  rw [hl, wpOps_cons]
  refine wpOp_of_ok (i := 0) (o := o1) rfl (by simp [guardV, hg1]) (valSt_ok hT h1) hf hr (fun a1 w1 hr1 => ?_)
  rw [wpOps_cons]
  obtain ⟨S, rv, hR⟩ := hr1
  obtain ⟨ad, n, c, hv, hn⟩ := nilTo_ok hR (hR.env d1) hs
  obtain ⟨dd, hdd, _, hkd⟩ := (hT t i hi).und
  rw [hk] at hkd
  obtain ⟨rfl, _⟩ := hkd
  have hrun : (execOp a1.eval (⟨some d2, .binOp .eql t (.tmp d1) (.const (.slice none 0 0)) yt, ty, pos, af, none⟩ : Oper)).run P w1 = .ok (.value (.bool ad.isNone)) w1 := by
    have hev : a1.eval (.tmp d1) = .slice ad n c := hv
    have hev2 : a1.eval (.const (.slice none 0 0)) = .slice none 0 0 := rfl
    simp only [execOp, hev, hev2, eqGuard, Sem.run_bind, Sem.run_pure, Result.andThen_ok]
    have he := Lib.run_eql_slice_nil (P := P) w1 t e ad n c 0 0 hdd
    simp [he]
  unfold Go.wpOp
  have hw : Region.wanted (⟨some d2, .binOp .eql t (.tmp d1) (.const (.slice none 0 0)) yt, ty, pos, af, none⟩ : Oper) (yielded #[o1, (⟨some d2, .binOp .eql t (.tmp d1) (.const (.slice none 0 0)) yt, ty, pos, af, none⟩ : Oper)] a1.tmps) = true := guardV_ok hR (by simp [guardV])
  have hi1 : (#[o1, (⟨some d2, .binOp .eql t (.tmp d1) (.const (.slice none 0 0)) yt, ty, pos, af, none⟩ : Oper)] : Array Oper)[1]? = some ⟨some d2, .binOp .eql t (.tmp d1) (.const (.slice none 0 0)) yt, ty, pos, af, none⟩ := rfl
  simp only [hi1, hw, if_true]
  refine .inl ?_
  simp only [Oper.wp, hrun, Oper.upon]
  exact ⟨_, hQ _ hn, S, rv, hR.put (hf.n ▸ dOK_of (by simp [dIn, hd])) (by rw [VR_c, RV_sc])⟩
attribute [simp] slV nilTo valSt
end Go.Eng

set_option linter.unusedSimpArgs false
set_option linter.unusedVariables false
namespace Go.Eng
open Go.RowKit
variable {P : Program} {T : Nat → Option TI} {N : Nat}
def sw (n m k : Nat) : Nat := if k = n then m else if k = m then n else k
theorem sw_sw (n m k : Nat) : sw n m (sw n m k) = k := by unfold sw; split <;> split <;> (try split) <;> omega
theorem sw_inj {n m k k' : Nat} (h : sw n m k = sw n m k') : k = k' := by rw [← sw_sw n m k, h, sw_sw]
def swF (n m : Nat) (k : Nat) (p : List Nat) : Option (Nat × List Nat) := some (sw n m k, p)
def St.swap (st : St) (n m : Nat) : St := { env := fun t => (st.env t).ren (swF n m) (swF n m), σ := fun k => st.σ (sw n m k) }
theorem Rel0.swap {fr S rv st a w} (h : Rel0 fr S rv st a w) {n m : Nat} (hn : fr.rv0 n = none) (hm : fr.rv0 m = none) : Rel0 fr (fun k => S (sw n m k)) (fun k => rv (sw n m k)) (st.swap n m) a w := by
  refine { h with
    rr := fun k r hk => h.rr (sw n m k) r hk
    sout := fun k r b hk => h.sout (sw n m k) r b hk
    sdis := fun k k' r r' b hk hk' hne => h.sdis (sw n m k) (sw n m k') r r' b hk hk' (fun e => hne (sw_inj e))
    rv0 := fun k r v hk hv => ?_
    env := fun t => ?_ }
  · have h1 : k ≠ n := fun e => by subst e; rw [hn] at hv; cases hv
    have h2 : k ≠ m := fun e => by subst e; rw [hm] at hv; cases hv
    have : sw n m k = k := by simp [sw, h1, h2]
    have hk' : st.σ (sw n m k) = some r := hk
    rw [this] at hk'
    show rv (sw n m k) = v
    rw [this]
    exact h.rv0 k r v hk' hv
  · refine VR_ren (fun _ _ => rfl) (fun _ h => h) (swF n m) (swF n m) ?_ ?_ _ _ (h.env t)
    · intro k p v hv
      simp only [swF]
      rw [VR_rf] at *
      obtain ⟨r, h1, h2⟩ := hv
      exact ⟨r, by simpa [St.swap, sw_sw] using h1, by simpa [sw_sw] using h2⟩
    · intro k p o v hv
      simp only [swF]
      rw [VR_pt] at *
      obtain ⟨r, b, o', h1, h2⟩ := hv
      exact ⟨r, b, o', by simpa [St.swap, sw_sw] using h1, by simpa [sw_sw] using h2⟩
def St.swaps (st : St) : List (Nat × Nat) → St
  | [] => st
  | (n, m) :: l => (st.swap n m).swaps l
def swOK (l : List (Nat × Nat)) : Bool := l.all fun q => decide (q.1 < 100000000) && decide (q.2 < 100000000)
theorem Rel.swaps {fr a w} (hf : FrOK P N fr) : ∀ {l : List (Nat × Nat)} {st : St}, swOK l = true → Rel fr st a w → Rel fr (st.swaps l) a w
  | [], st, _, h => h
  | (n, m) :: l, st, hl, ⟨S, rv, h⟩ => by
    simp only [swOK, List.all_cons, Bool.and_eq_true, decide_eq_true_eq] at hl
    have free : ∀ k, k < 100000000 → fr.rv0 k = none := fun k hk => by
      cases e : fr.rv0 k with
      | none => rfl
      | some v => exact absurd (hf.names k v e) (by omega)
    exact Rel.swaps hf (l := l) (by simpa [swOK] using hl.2) ⟨_, _, h.swap (free n hl.1.1) (free m hl.1.2)⟩
theorem AW.swaps {c : Code} {st : St} {Q : Exit → St → Prop} (l : List (Nat × Nat)) (hl : swOK l = true) (h : AW P N c (st.swaps l) Q) : AW P N c st Q :=
  fun fr a w hf hr => h fr a w hf (hr.swaps hf hl)
theorem AW.loopS {c : Code} {st : St} {Q : Exit → St → Prop} {α : Type} (p : α → Prop) (e : α → List (Nat × V)) (r : α → List (Nat × Root)) (μ : α → Nat) (x0 : α) (hp : p x0) (l0 : List (Nat × Nat)) (hl0 : swOK l0 = true) (h0 : LessL (st.swaps l0) (e x0) (r x0))
    (round : ∀ x, p x → AW P N c (mk (e x) (r x)) (thenQ (fun st' => ∃ x', p x' ∧ (∃ l, swOK l = true ∧ LessL (st'.swaps l) (e x') (r x')) ∧ μ x' < μ x) Q)) : AW P N (.loop c) st Q := by
  refine AW.swaps l0 hl0 ?_
  refine AW.less h0.less ?_
  intro fr a w hf hr
  have key : AW P N (.loop c) (mk (e x0) (r x0)) Q := by
    clear hr h0 hl0
    intro fr a w hf hr
    have key : ∀ n x a w, μ x = n → p x → Rel fr (mk (e x) (r x)) a w → ∀ b k cs,
        ∃ ex a' w', (∃ st', Q ex st' ∧ Rel fr st' a' w') ∧ Arrives P (lone (b.at a (.code c :: .inLoop c :: k)) cs w) b k cs ex a' w' := by
      intro n
      induction n using Nat.strongRecOn with
      | _ n ih =>
        intro x a w hn hI hR b k cs
        obtain ⟨ex, a₁, w₁, ⟨st₁, hq, hR₁⟩, harr⟩ := round x hI fr a w hf hR b (.inLoop c :: k) cs
        cases ex with
        | normal =>
          obtain ⟨x', hI', ⟨l, hl, hle⟩, hlt⟩ := hq
          obtain ⟨e₂, a₂, w₂, hq₂, harr₂⟩ := ih (μ x') (hn ▸ hlt) x' a₁ w₁ rfl hI' ((hR₁.swaps hf hl).less hle.less) b k cs
          exact ⟨e₂, a₂, w₂, hq₂, .of_steps (Steps.trans harr (.one step_inLoop)) harr₂⟩
        | exit id => exact ⟨_, a₁, w₁, ⟨st₁, hq, hR₁⟩, .pass (x := .inLoop c) rfl (fun _ _ => .inl (by simp)) harr⟩
        | goto l => exact ⟨_, a₁, w₁, ⟨st₁, hq, hR₁⟩, .pass (x := .inLoop c) rfl (fun _ _ => .inl (by simp)) harr⟩
        | ret => exact ⟨_, a₁, w₁, ⟨st₁, hq, hR₁⟩, .pass (x := .inLoop c) rfl (fun _ _ => .inl (by simp)) harr⟩
        | panic ch => exact ⟨_, a₁, w₁, ⟨st₁, hq, hR₁⟩, .pass (x := .inLoop c) rfl (fun _ _ => .inl (by simp)) harr⟩
        | outgrown => exact ⟨_, a₁, w₁, ⟨st₁, hq, hR₁⟩, .pass (x := .inLoop c) rfl (fun _ _ => .inl (by simp)) harr⟩
    intro b k cs
    obtain ⟨ex, a', w', hq, harr⟩ := key _ x0 a w rfl hp hr b k cs
    exact ⟨ex, a', w', hq, .of_steps (.one step_loop) harr⟩
  exact key fr a w hf hr
@[simp] theorem swaps_nil (st : St) : st.swaps [] = st := rfl
@[simp] theorem swaps_cons (st : St) (n m l) : st.swaps ((n, m) :: l) = (st.swap n m).swaps l := rfl
@[simp] theorem mk_swap (e r n m) : (mk e r).swap n m = mk (e.map fun q => (q.1, q.2.ren (swF n m) (swF n m))) (r.map fun q => (sw n m q.1, q.2)) := by
  simp only [St.swap, mk]
  congr
  · funext t; rw [look_map _ rfl]
  · funext t
    induction r with
    | nil => rfl
    | cons q r ih =>
      obtain ⟨k, x⟩ := q
      simp only [List.map_cons, lookR_cons, ih]
      by_cases h : k = sw n m t
      · subst h; simp [sw_sw]
      · rw [if_neg h, if_neg (fun e => h (by rw [← e, sw_sw]))]
attribute [simp] sw swF swOK
def Hd (p : Prop) : Prop := p
theorem Hd.mk {p : Prop} (h : p) : Hd p := h
theorem Hd.out {p : Prop} (h : Hd p) : p := h
end Go.Eng
namespace Go.Eng
@[simp] theorem isOwn_sl (f k es) : (PV.sl f k es).isOwn = !f := rfl
end Go.Eng
namespace Go.Eng
@[simp] theorem zval_sc (v) : zval (.sc v) = v := rfl
@[simp] theorem zval_sl (f k es) : zval (.sl f k es) = .slice none 0 0 := rfl
attribute [simp] fillV
@[simp] theorem flat1_sc (v) : (PV.sc v).flat1 = true := rfl
@[simp] theorem flat1_sl (f k es) : (PV.sl f k es).flat1 = f := rfl
def cell1 : PV → Bool
  | .sl f _ _ => f
  | .ag _ => false
  | _ => true
@[simp] theorem cell1_sc (v) : cell1 (.sc v) = true := rfl
@[simp] theorem cell1_sl (f k es) : cell1 (.sl f k es) = f := rfl
@[simp] theorem flat1_ag (cs) : (PV.ag cs).flat1 = cs.all cell1 := by
  simp only [PV.flat1]
  congr
end Go.Eng

set_option linter.unusedSimpArgs false
set_option linter.unusedVariables false
namespace Go.Eng
open Go.RowKit
variable {P : Program} {T : Nat → Option TI} {N : Nat}
def ownT (st : St) (t : Nat) : St :=
  match st.env t with
  | .rn n [] (.sub 0 hi k) => match st.σ n with
    | some (.sv (.sl false k' es)) => if k' = k ∧ n < 100000000 then ((st.move [n]).new n (.sv (.sl false k (es.take hi)))).put (some t) (.rf n []) else st
    | _ => st
  | _ => st
theorem Rel.ownT {fr a w} (hf : FrOK P N fr) {st : St} (t : Nat) (h : Rel fr st a w) : Rel fr (ownT st t) a w := by
  obtain ⟨S, rv, hR⟩ := h
  unfold Go.Eng.ownT
  split
  · rename_i n hi k he
    split
    · rename_i k' es hσ
      split
      · rename_i hk
        obtain ⟨rfl, hn⟩ := hk
        have hv := hR.env t
        rw [he, VR_rn] at hv
        obtain ⟨u, hu, A, m, cap, rfl, hmc, _, him, hv⟩ := hv
        rw [VR_rf] at hu
        obtain ⟨r, hr, hat, _⟩ := hu
        rw [hσ] at hr
        cases hr
        simp only [rAt, Option.some.injEq] at hat
        obtain ⟨_, hrv⟩ := hR.rr n _ hσ
        rw [hat, RV_ow] at hrv
        have hnew : RR w fr.X (.sv (.sl false k' (es.take hi))) (a.tmps.getD t undef) (S n) := by
          refine ⟨rfl, ?_⟩
          rw [RV_ow, hv]
          rcases hrv with ⟨h1, h2⟩ | ⟨b, cap', cur, ty, h1, h2, h3, h4, h5, h6⟩
          · cases h1
            left
            have : hi = 0 := by omega
            subst this
            simp
          · cases h1
            right
            have hl : (es.take hi).length = hi := by simp; omega
            refine ⟨b, cap, cur, ty, ?_, by omega, h3, h4, h5, RE_take hi es b 0 _ h6⟩
            rw [hl]
            by_cases hc : cap = 0
            · simp [hc]
            · simp [hc, Addr.add]
        obtain ⟨S', rv', hR', hrv'⟩ := Rel0.consume hf hR (w' := w) (d := n) (ms := [n]) rfl TD.refl rfl (Nat.le_refl _) (fun _ _ _ => rfl) (.inr (by simp)) (fun m hm => by simp at hm; subst hm; exact ⟨_, hσ⟩) hnew (fun b hb => .inr ⟨n, by simp, hb⟩)
          (by cases e : fr.rv0 n with
              | none => rfl
              | some v => have := hf.names n v e; omega)
        refine ⟨S', rv', { hR' with env := fun t' => ?_ }⟩
        simp only [St.put]
        by_cases ht : t' = t
        · subst ht
          rw [if_pos rfl, VR_rf]
          exact ⟨.sv (.sl false k' (es.take hi)), by simp [St.new], by simp [rAt, hrv'], false, k', es.take hi, rfl⟩
        · rw [if_neg ht]; exact hR'.env t'
      · exact ⟨S, rv, hR⟩
    · exact ⟨S, rv, hR⟩
  · exact ⟨S, rv, hR⟩
def ownL (st : St) : List Operand → St
  | [] => st
  | .tmp t :: xs => ownL (ownT st t) xs
  | _ :: xs => ownL st xs
theorem Rel.ownL {fr a w} (hf : FrOK P N fr) : ∀ (xs : List Operand) {st : St}, Rel fr st a w → Rel fr (ownL st xs) a w
  | [], st, h => h
  | .tmp t :: xs, st, h => Rel.ownL hf xs (Rel.ownT hf t h)
  | .const _ :: xs, st, h => Rel.ownL hf xs h
  | .func _ :: xs, st, h => Rel.ownL hf xs h
  | .global _ :: xs, st, h => Rel.ownL hf xs h
theorem OutOK.own {ops : Array Oper} {Q : St → Prop} {e : Bool} {d : Option Nat} {cal : Operand} {ars ats : Array _} {ty pos af l} {st st2 : St} (hc : ownL st ars.toList = st2)
    (h : OutOK P T N ops Q (.call e ⟨d, .call ⟨.value cal, ars, ats⟩, ty, pos, af, none⟩ l st2)) : OutOK P T N ops Q (.call e ⟨d, .call ⟨.value cal, ars, ats⟩, ty, pos, af, none⟩ l st) := by
  subst hc
  cases h with
  | call h he hl => exact .call (fun fr a w hf hr => h fr a w hf (Rel.ownL hf _ hr)) (fun hh fr a w hf hr => he hh fr a w hf (Rel.ownL hf _ hr)) hl
@[simp] theorem ownL_nil (st : St) : ownL st [] = st := rfl
@[simp] theorem ownL_tmp (st : St) (t xs) : ownL st (.tmp t :: xs) = ownL (ownT st t) xs := rfl
@[simp] theorem ownL_const (st : St) (v xs) : ownL st (.const v :: xs) = ownL st xs := rfl
@[simp] theorem ownL_func (st : St) (v xs) : ownL st (.func v :: xs) = ownL st xs := rfl
attribute [simp] ownT
end Go.Eng

set_option linter.unusedSimpArgs false
set_option linter.unusedVariables false
namespace Go.Eng
open Go.RowKit
variable {P : Program} {T : Nat → Option TI} {N : Nat}
mutual
def V.nm (n : Nat) (u : Value) : V → V
  | .rf m [] => if m = n then .c (.sc u) else .rf m []
  | .g cs => .g (V.nms n u cs)
  | x => x
def V.nms (n : Nat) (u : Value) : List V → List V
  | [] => []
  | x :: xs => x.nm n u :: V.nms n u xs
end
mutual
theorem VR_nm {w Z σ rv n u t} (hσ : σ n = some (.sv t)) (hu : rv n = u) : ∀ (x : V) (v : Value), VR w Z σ rv x v → VR w Z σ rv (x.nm n u) v
  | .rf m [], v, h => by
    unfold V.nm
    split
    · rename_i hm
      subst hm
      rw [VR_rf, hσ] at h
      obtain ⟨r, h1, h2, _⟩ := h
      cases h1
      simp only [rAt, Option.some.injEq] at h2
      rw [VR_c, RV_sc, ← h2, hu]
    · exact h
  | .g cs, v, h => by
    unfold V.nm
    rw [VR_g] at *
    obtain ⟨arr, e, h⟩ := h
    exact ⟨arr, e, VRs_nm hσ hu cs _ h⟩
  | .rf m (i :: p), v, h => by unfold V.nm; exact h
  | .c _, v, h => by unfold V.nm; exact h
  | .nl, v, h => by unfold V.nm; exact h
  | .pt _ _ _, v, h => by unfold V.nm; exact h
  | .fp _ _, v, h => by unfold V.nm; exact h
  | .fn _ _, v, h => by unfold V.nm; exact h
  | .tu _, v, h => by unfold V.nm; exact h
  | .rn _ _ _, v, h => by unfold V.nm; exact h
  | .dead, v, h => by unfold V.nm; exact h
theorem VRs_nm {w Z σ rv n u t} (hσ : σ n = some (.sv t)) (hu : rv n = u) : ∀ (xs : List V) (vs : List Value), VRs w Z σ rv xs vs → VRs w Z σ rv (V.nms n u xs) vs
  | [], vs, h => by unfold V.nms; exact h
  | x :: xs, vs, h => by
    unfold V.nms
    rw [VRs_cons] at *
    obtain ⟨v, vs', e, h1, h2⟩ := h
    exact ⟨v, vs', e, VR_nm hσ hu x v h1, VRs_nm hσ hu xs vs' h2⟩
end
theorem AW.name {c : Code} {st : St} {Q : Exit → St → Prop} (t k n : Nat) {kk : Nat} {es : List PV} {x : V} (hσ : st.σ n = some (.sv (.sl false kk es))) (hx : (st.env t) = x)
    (h : ∀ u : Value, u.oneCell' = true → AW P N c ((st.put (some t) (x.nm n u)).put (some k) (.rn n [] (.known u))) Q) : AW P N c st Q := by
  subst hx
  intro fr a w hf ⟨S, rv, hR⟩
  have hrr := hR.rr n _ hσ
  obtain ⟨_, hrv⟩ := hrr
  have ho : (rv n).oneCell' = true := (isOwn_one hrv rfl).1
  refine h (rv n) ho fr a w hf ⟨S, rv, { hR with env := fun s => ?_ }⟩
  simp only [St.put]
  by_cases hk : s = k
  · rw [if_pos hk, VR_rn]
    refine ⟨rv n, ?_, rfl⟩
    rw [VR_rf]
    exact ⟨_, hσ, rfl, false, kk, es, rfl⟩
  · rw [if_neg hk]
    by_cases ht : s = t
    · rw [if_pos ht, ht]; exact VR_nm hσ rfl _ _ (hR.env t)
    · rw [if_neg ht]; exact hR.env s
theorem OutOK.known {ops : Array Oper} {Q : St → Prop} {e : Bool} {d : Option Nat} {cal : Operand} {ars ats : Array _} {ty pos af l} {st st2 : St} (k t : Nat) {n : Nat} {p : List Nat} {u : Value} (hk : st.env k = .rn n p (.known u)) (ht : st.env t = .c (.sc u)) (h2 : st.put (some t) (.rf n p) = st2)
    (h : OutOK P T N ops Q (.call e ⟨d, .call ⟨.value cal, ars, ats⟩, ty, pos, af, none⟩ l st2)) : OutOK P T N ops Q (.call e ⟨d, .call ⟨.value cal, ars, ats⟩, ty, pos, af, none⟩ l st) := by
  subst h2
  have conv : ∀ {fr a w}, Rel fr st a w → Rel fr (st.put (some t) (.rf n p)) a w := by
    intro fr a w ⟨S, rv, hR⟩
    refine ⟨S, rv, { hR with env := fun s => ?_ }⟩
    simp only [St.put]
    by_cases hs : s = t
    · rw [if_pos hs, hs]
      have h1 := hR.env k
      rw [hk, VR_rn] at h1
      obtain ⟨u', h1, rfl⟩ := h1
      have h2 := hR.env t
      rw [ht, VR_c, RV_sc] at h2
      rw [h2]; exact h1
    · rw [if_neg hs]; exact hR.env s
  cases h with
  | call h he hl => exact .call (fun fr a w hf hr => h fr a w hf (conv hr)) (fun hh fr a w hf hr => he hh fr a w hf (conv hr)) hl
attribute [simp] V.nm V.nms
end Go.Eng

namespace Go.Proofs.Ytbofobjofngoeaa.EngS
open Go Go.Proofs Go.Eng
def T : Nat → Option TI
  | 2 => some ⟨.int .i64, 1, false, [.sc (.int .i64 0)], []⟩
  | 3 => some ⟨.int .i64, 1, false, [.sc (.int .i64 0)], []⟩
  | 4 => some ⟨.bool, 1, false, [.sc (.bool false)], []⟩
  | 5 => some ⟨.int .u8, 1, false, [.sc (.int .u8 0)], []⟩
  | 6 => some ⟨.int .u8, 1, false, [.sc (.int .u8 0)], []⟩
  | 8 => some ⟨.st [(0, 1, false), (1, 1, false), (2, 1, false), (3, 1, false)], 4, true, [.sc (.int .i64 0), .sc (.int .i64 0), .sc (.bool false), .sc (.int .u8 0)], []⟩
  | 9 => some ⟨.str, 1, false, [.sc (.string ⟨#[]⟩)], []⟩
  | 10 => some ⟨.str, 1, false, [.sc (.string ⟨#[]⟩)], []⟩
  | 11 => some ⟨.str, 1, false, [.sc (.string ⟨#[]⟩)], []⟩
  | 12 => some ⟨.int .u64, 1, false, [.sc (.int .u64 0)], []⟩
  | 14 => some ⟨.st [(0, 1, false), (1, 1, false)], 2, true, [.sc (.string ⟨#[]⟩), .sc (.int .u64 0)], []⟩
  | 15 => some ⟨.oth, 1, false, [.sc (.pointer none)], []⟩
  | 16 => some ⟨.oth, 1, false, [.sc (.pointer none)], []⟩
  | 17 => some ⟨.oth, 1, false, [.sc (.pointer none)], []⟩
  | 19 => some ⟨.st [(0, 1, false)], 1, true, [.sc (.pointer none)], []⟩
  | 22 => some ⟨.sl 5 1 1, 1, false, [.sl false 1 []], []⟩
  | 24 => some ⟨.sl 90 3 40, 1, false, [.sl false 3 []], []⟩
  | 27 => some ⟨.sl 9 1 16, 1, false, [.sl false 1 []], []⟩
  | 37 => some ⟨.sl 94 5 72, 1, false, [.sl false 5 []], []⟩
  | 40 => some ⟨.sl 58 5 72, 1, false, [.sl false 5 []], []⟩
  | 47 => some ⟨.sl 3 1 8, 1, false, [.sl false 1 []], []⟩
  | 58 => some ⟨.st [(0, 1, false), (1, 1, false), (2, 1, false), (3, 1, false), (4, 1, false)], 5, true, [.sc (.int .i64 0), .sc (.int .i64 0), .sl false 1 [], .sc (.string ⟨#[]⟩), .sc (.string ⟨#[]⟩)], []⟩
  | 73 => some ⟨.sl 79 3 40, 1, false, [.sl false 3 []], []⟩
  | 79 => some ⟨.st [(0, 1, false), (1, 1, false), (2, 1, false)], 3, true, [.sc (.string ⟨#[]⟩), .sc (.string ⟨#[]⟩), .sc (.bool false)], [.str, .str, .bool]⟩
  | 81 => some ⟨.oth, 1, false, [.sc .nilFunc], []⟩
  | 83 => some ⟨.sl 87 3 40, 1, false, [.sl false 3 []], []⟩
  | 87 => some ⟨.st [(0, 1, false), (1, 1, false), (2, 1, false)], 3, true, [.sc (.string ⟨#[]⟩), .sc (.string ⟨#[]⟩), .sc (.bool false)], [.str, .str, .bool]⟩
  | 90 => some ⟨.st [(0, 1, false), (1, 1, false), (2, 1, false)], 3, true, [.sc (.int .i64 0), .sc (.string ⟨#[]⟩), .sc (.string ⟨#[]⟩)], []⟩
  | 94 => some ⟨.st [(0, 1, false), (1, 1, false), (2, 1, false), (3, 1, false), (4, 1, false)], 5, true, [.sc (.int .i64 0), .sc (.int .i64 0), .sl false 1 [], .sc (.string ⟨#[]⟩), .sc (.string ⟨#[]⟩)], []⟩
  | 96 => some ⟨.oth, 1, false, [.sc .nilFunc], []⟩
  | 102 => some ⟨.sl 4 1 1, 1, false, [.sl false 1 []], []⟩
  | 108 => some ⟨.oth, 1, false, [.sc .nilFunc], []⟩
  | 114 => some ⟨.oth, 1, false, [.sc .nilFunc], []⟩
  | 115 => some ⟨.oth, 1, false, [.sc (.pointer none)], []⟩
  | 116 => some ⟨.int .u64, 1, false, [.sc (.int .u64 0)], []⟩
  | 118 => some ⟨.st [(0, 1, false), (1, 1, false), (2, 1, false)], 3, true, [.sl false 1 [], .sc (.int .i64 0), .sc (.int .u64 0)], []⟩
  | 135 => some ⟨.int .u64, 1, false, [.sc (.int .u64 0)], []⟩
  | 143 => some ⟨.int .i64, 1, false, [.sc (.int .i64 0)], []⟩
  | 150 => some ⟨.int .u32, 1, false, [.sc (.int .u32 0)], []⟩
  | 159 => some ⟨.int .u64, 1, false, [.sc (.int .u64 0)], []⟩
  | 163 => some ⟨.oth, 1, false, [.sc (.pointer none)], []⟩
  | 169 => some ⟨.oth, 1, false, [.sc (.pointer none)], []⟩
  | 180 => some ⟨.int .u8, 1, false, [.sc (.int .u8 0)], []⟩
  | _ => none
def tyTab : List (Nat × TI) := [(2, ⟨.int .i64, 1, false, [.sc (.int .i64 0)], []⟩), (3, ⟨.int .i64, 1, false, [.sc (.int .i64 0)], []⟩), (4, ⟨.bool, 1, false, [.sc (.bool false)], []⟩), (5, ⟨.int .u8, 1, false, [.sc (.int .u8 0)], []⟩), (6, ⟨.int .u8, 1, false, [.sc (.int .u8 0)], []⟩), (8, ⟨.st [(0, 1, false), (1, 1, false), (2, 1, false), (3, 1, false)], 4, true, [.sc (.int .i64 0), .sc (.int .i64 0), .sc (.bool false), .sc (.int .u8 0)], []⟩), (9, ⟨.str, 1, false, [.sc (.string ⟨#[]⟩)], []⟩), (10, ⟨.str, 1, false, [.sc (.string ⟨#[]⟩)], []⟩), (11, ⟨.str, 1, false, [.sc (.string ⟨#[]⟩)], []⟩), (12, ⟨.int .u64, 1, false, [.sc (.int .u64 0)], []⟩), (14, ⟨.st [(0, 1, false), (1, 1, false)], 2, true, [.sc (.string ⟨#[]⟩), .sc (.int .u64 0)], []⟩), (15, ⟨.oth, 1, false, [.sc (.pointer none)], []⟩), (16, ⟨.oth, 1, false, [.sc (.pointer none)], []⟩), (17, ⟨.oth, 1, false, [.sc (.pointer none)], []⟩), (19, ⟨.st [(0, 1, false)], 1, true, [.sc (.pointer none)], []⟩), (22, ⟨.sl 5 1 1, 1, false, [.sl false 1 []], []⟩), (24, ⟨.sl 90 3 40, 1, false, [.sl false 3 []], []⟩), (27, ⟨.sl 9 1 16, 1, false, [.sl false 1 []], []⟩), (37, ⟨.sl 94 5 72, 1, false, [.sl false 5 []], []⟩), (40, ⟨.sl 58 5 72, 1, false, [.sl false 5 []], []⟩), (47, ⟨.sl 3 1 8, 1, false, [.sl false 1 []], []⟩), (58, ⟨.st [(0, 1, false), (1, 1, false), (2, 1, false), (3, 1, false), (4, 1, false)], 5, true, [.sc (.int .i64 0), .sc (.int .i64 0), .sl false 1 [], .sc (.string ⟨#[]⟩), .sc (.string ⟨#[]⟩)], []⟩), (73, ⟨.sl 79 3 40, 1, false, [.sl false 3 []], []⟩), (79, ⟨.st [(0, 1, false), (1, 1, false), (2, 1, false)], 3, true, [.sc (.string ⟨#[]⟩), .sc (.string ⟨#[]⟩), .sc (.bool false)], [.str, .str, .bool]⟩), (81, ⟨.oth, 1, false, [.sc .nilFunc], []⟩), (83, ⟨.sl 87 3 40, 1, false, [.sl false 3 []], []⟩), (87, ⟨.st [(0, 1, false), (1, 1, false), (2, 1, false)], 3, true, [.sc (.string ⟨#[]⟩), .sc (.string ⟨#[]⟩), .sc (.bool false)], [.str, .str, .bool]⟩), (90, ⟨.st [(0, 1, false), (1, 1, false), (2, 1, false)], 3, true, [.sc (.int .i64 0), .sc (.string ⟨#[]⟩), .sc (.string ⟨#[]⟩)], []⟩), (94, ⟨.st [(0, 1, false), (1, 1, false), (2, 1, false), (3, 1, false), (4, 1, false)], 5, true, [.sc (.int .i64 0), .sc (.int .i64 0), .sl false 1 [], .sc (.string ⟨#[]⟩), .sc (.string ⟨#[]⟩)], []⟩), (96, ⟨.oth, 1, false, [.sc .nilFunc], []⟩), (102, ⟨.sl 4 1 1, 1, false, [.sl false 1 []], []⟩), (108, ⟨.oth, 1, false, [.sc .nilFunc], []⟩), (114, ⟨.oth, 1, false, [.sc .nilFunc], []⟩), (115, ⟨.oth, 1, false, [.sc (.pointer none)], []⟩), (116, ⟨.int .u64, 1, false, [.sc (.int .u64 0)], []⟩), (118, ⟨.st [(0, 1, false), (1, 1, false), (2, 1, false)], 3, true, [.sl false 1 [], .sc (.int .i64 0), .sc (.int .u64 0)], []⟩), (135, ⟨.int .u64, 1, false, [.sc (.int .u64 0)], []⟩), (143, ⟨.int .i64, 1, false, [.sc (.int .i64 0)], []⟩), (150, ⟨.int .u32, 1, false, [.sc (.int .u32 0)], []⟩), (159, ⟨.int .u64, 1, false, [.sc (.int .u64 0)], []⟩), (163, ⟨.oth, 1, false, [.sc (.pointer none)], []⟩), (169, ⟨.oth, 1, false, [.sc (.pointer none)], []⟩), (180, ⟨.int .u8, 1, false, [.sc (.int .u8 0)], []⟩)]
@[simp] theorem T2 : T 2 = some ⟨.int .i64, 1, false, [.sc (.int .i64 0)], []⟩ := rfl
@[simp] theorem T3 : T 3 = some ⟨.int .i64, 1, false, [.sc (.int .i64 0)], []⟩ := rfl
@[simp] theorem T4 : T 4 = some ⟨.bool, 1, false, [.sc (.bool false)], []⟩ := rfl
@[simp] theorem T5 : T 5 = some ⟨.int .u8, 1, false, [.sc (.int .u8 0)], []⟩ := rfl
@[simp] theorem T6 : T 6 = some ⟨.int .u8, 1, false, [.sc (.int .u8 0)], []⟩ := rfl
@[simp] theorem T8 : T 8 = some ⟨.st [(0, 1, false), (1, 1, false), (2, 1, false), (3, 1, false)], 4, true, [.sc (.int .i64 0), .sc (.int .i64 0), .sc (.bool false), .sc (.int .u8 0)], []⟩ := rfl
@[simp] theorem T9 : T 9 = some ⟨.str, 1, false, [.sc (.string ⟨#[]⟩)], []⟩ := rfl
@[simp] theorem T10 : T 10 = some ⟨.str, 1, false, [.sc (.string ⟨#[]⟩)], []⟩ := rfl
@[simp] theorem T11 : T 11 = some ⟨.str, 1, false, [.sc (.string ⟨#[]⟩)], []⟩ := rfl
@[simp] theorem T12 : T 12 = some ⟨.int .u64, 1, false, [.sc (.int .u64 0)], []⟩ := rfl
@[simp] theorem T14 : T 14 = some ⟨.st [(0, 1, false), (1, 1, false)], 2, true, [.sc (.string ⟨#[]⟩), .sc (.int .u64 0)], []⟩ := rfl
@[simp] theorem T15 : T 15 = some ⟨.oth, 1, false, [.sc (.pointer none)], []⟩ := rfl
@[simp] theorem T16 : T 16 = some ⟨.oth, 1, false, [.sc (.pointer none)], []⟩ := rfl
@[simp] theorem T17 : T 17 = some ⟨.oth, 1, false, [.sc (.pointer none)], []⟩ := rfl
@[simp] theorem T19 : T 19 = some ⟨.st [(0, 1, false)], 1, true, [.sc (.pointer none)], []⟩ := rfl
@[simp] theorem T22 : T 22 = some ⟨.sl 5 1 1, 1, false, [.sl false 1 []], []⟩ := rfl
@[simp] theorem T24 : T 24 = some ⟨.sl 90 3 40, 1, false, [.sl false 3 []], []⟩ := rfl
@[simp] theorem T27 : T 27 = some ⟨.sl 9 1 16, 1, false, [.sl false 1 []], []⟩ := rfl
@[simp] theorem T37 : T 37 = some ⟨.sl 94 5 72, 1, false, [.sl false 5 []], []⟩ := rfl
@[simp] theorem T40 : T 40 = some ⟨.sl 58 5 72, 1, false, [.sl false 5 []], []⟩ := rfl
@[simp] theorem T47 : T 47 = some ⟨.sl 3 1 8, 1, false, [.sl false 1 []], []⟩ := rfl
@[simp] theorem T58 : T 58 = some ⟨.st [(0, 1, false), (1, 1, false), (2, 1, false), (3, 1, false), (4, 1, false)], 5, true, [.sc (.int .i64 0), .sc (.int .i64 0), .sl false 1 [], .sc (.string ⟨#[]⟩), .sc (.string ⟨#[]⟩)], []⟩ := rfl
@[simp] theorem T73 : T 73 = some ⟨.sl 79 3 40, 1, false, [.sl false 3 []], []⟩ := rfl
@[simp] theorem T79 : T 79 = some ⟨.st [(0, 1, false), (1, 1, false), (2, 1, false)], 3, true, [.sc (.string ⟨#[]⟩), .sc (.string ⟨#[]⟩), .sc (.bool false)], [.str, .str, .bool]⟩ := rfl
@[simp] theorem T81 : T 81 = some ⟨.oth, 1, false, [.sc .nilFunc], []⟩ := rfl
@[simp] theorem T83 : T 83 = some ⟨.sl 87 3 40, 1, false, [.sl false 3 []], []⟩ := rfl
@[simp] theorem T87 : T 87 = some ⟨.st [(0, 1, false), (1, 1, false), (2, 1, false)], 3, true, [.sc (.string ⟨#[]⟩), .sc (.string ⟨#[]⟩), .sc (.bool false)], [.str, .str, .bool]⟩ := rfl
@[simp] theorem T90 : T 90 = some ⟨.st [(0, 1, false), (1, 1, false), (2, 1, false)], 3, true, [.sc (.int .i64 0), .sc (.string ⟨#[]⟩), .sc (.string ⟨#[]⟩)], []⟩ := rfl
@[simp] theorem T94 : T 94 = some ⟨.st [(0, 1, false), (1, 1, false), (2, 1, false), (3, 1, false), (4, 1, false)], 5, true, [.sc (.int .i64 0), .sc (.int .i64 0), .sl false 1 [], .sc (.string ⟨#[]⟩), .sc (.string ⟨#[]⟩)], []⟩ := rfl
@[simp] theorem T96 : T 96 = some ⟨.oth, 1, false, [.sc .nilFunc], []⟩ := rfl
@[simp] theorem T102 : T 102 = some ⟨.sl 4 1 1, 1, false, [.sl false 1 []], []⟩ := rfl
@[simp] theorem T108 : T 108 = some ⟨.oth, 1, false, [.sc .nilFunc], []⟩ := rfl
@[simp] theorem T114 : T 114 = some ⟨.oth, 1, false, [.sc .nilFunc], []⟩ := rfl
@[simp] theorem T115 : T 115 = some ⟨.oth, 1, false, [.sc (.pointer none)], []⟩ := rfl
@[simp] theorem T116 : T 116 = some ⟨.int .u64, 1, false, [.sc (.int .u64 0)], []⟩ := rfl
@[simp] theorem T118 : T 118 = some ⟨.st [(0, 1, false), (1, 1, false), (2, 1, false)], 3, true, [.sl false 1 [], .sc (.int .i64 0), .sc (.int .u64 0)], []⟩ := rfl
@[simp] theorem T135 : T 135 = some ⟨.int .u64, 1, false, [.sc (.int .u64 0)], []⟩ := rfl
@[simp] theorem T143 : T 143 = some ⟨.int .i64, 1, false, [.sc (.int .i64 0)], []⟩ := rfl
@[simp] theorem T150 : T 150 = some ⟨.int .u32, 1, false, [.sc (.int .u32 0)], []⟩ := rfl
@[simp] theorem T159 : T 159 = some ⟨.int .u64, 1, false, [.sc (.int .u64 0)], []⟩ := rfl
@[simp] theorem T163 : T 163 = some ⟨.oth, 1, false, [.sc (.pointer none)], []⟩ := rfl
@[simp] theorem T169 : T 169 = some ⟨.oth, 1, false, [.sc (.pointer none)], []⟩ := rfl
@[simp] theorem T180 : T 180 = some ⟨.int .u8, 1, false, [.sc (.int .u8 0)], []⟩ := rfl
theorem tok : TOK Try.prog T := by
  have h : tyTab.all (chkTI Try.prog) = true := by kernel_rfl
  intro t i hi
  refine chkTI_ok (List.all_eq_true.1 h (t, i) ?_)
  unfold T at hi
  split at hi <;> first | (cases hi; simp [tyTab]; done) | cases hi
theorem mixed : Try.prog.follows .mixedOrders = true := by kernel_rfl
@[simp] theorem hb3 : HasBody Try.prog 3 := ⟨Try.f3, Try.func3, by kernel_rfl, by kernel_rfl⟩
@[simp] theorem hb4 : HasBody Try.prog 4 := ⟨Try.f4, Try.func4, by kernel_rfl, by kernel_rfl⟩
@[simp] theorem hb5 : HasBody Try.prog 5 := ⟨Try.f5, Try.func5, by kernel_rfl, by kernel_rfl⟩
@[simp] theorem hb6 : HasBody Try.prog 6 := ⟨Try.f6, Try.func6, by kernel_rfl, by kernel_rfl⟩
@[simp] theorem hb7 : HasBody Try.prog 7 := ⟨Try.f7, Try.func7, by kernel_rfl, by kernel_rfl⟩
@[simp] theorem hb8 : HasBody Try.prog 8 := ⟨Try.f8, Try.func8, by kernel_rfl, by kernel_rfl⟩
@[simp] theorem hb9 : HasBody Try.prog 9 := ⟨Try.f9, Try.func9, by kernel_rfl, by kernel_rfl⟩
@[simp] theorem hb10 : HasBody Try.prog 10 := ⟨Try.f10, Try.func10, by kernel_rfl, by kernel_rfl⟩
@[simp] theorem hb11 : HasBody Try.prog 11 := ⟨Try.f11, Try.func11, by kernel_rfl, by kernel_rfl⟩
@[simp] theorem hb12 : HasBody Try.prog 12 := ⟨Try.f12, Try.func12, by kernel_rfl, by kernel_rfl⟩
@[simp] theorem hb13 : HasBody Try.prog 13 := ⟨Try.f13, Try.func13, by kernel_rfl, by kernel_rfl⟩
@[simp] theorem hb14 : HasBody Try.prog 14 := ⟨Try.f14, Try.func14, by kernel_rfl, by kernel_rfl⟩
@[simp] theorem hb15 : HasBody Try.prog 15 := ⟨Try.f15, Try.func15, by kernel_rfl, by kernel_rfl⟩
@[simp] theorem hb16 : HasBody Try.prog 16 := ⟨Try.f16, Try.func16, by kernel_rfl, by kernel_rfl⟩
@[simp] theorem hb17 : HasBody Try.prog 17 := ⟨Try.f17, Try.func17, by kernel_rfl, by kernel_rfl⟩
@[simp] theorem hb18 : HasBody Try.prog 18 := ⟨Try.f18, Try.func18, by kernel_rfl, by kernel_rfl⟩
@[simp] theorem hb19 : HasBody Try.prog 19 := ⟨Try.f19, Try.func19, by kernel_rfl, by kernel_rfl⟩
@[simp] theorem hb20 : HasBody Try.prog 20 := ⟨Try.f20, Try.func20, by kernel_rfl, by kernel_rfl⟩
@[simp] theorem hb21 : HasBody Try.prog 21 := ⟨Try.f21, Try.func21, by kernel_rfl, by kernel_rfl⟩
@[simp] theorem hb22 : HasBody Try.prog 22 := ⟨Try.f22, Try.func22, by kernel_rfl, by kernel_rfl⟩
@[simp] theorem hb23 : HasBody Try.prog 23 := ⟨Try.f23, Try.func23, by kernel_rfl, by kernel_rfl⟩
@[simp] theorem hb24 : HasBody Try.prog 24 := ⟨Try.f24, Try.func24, by kernel_rfl, by kernel_rfl⟩
@[simp] theorem hb25 : HasBody Try.prog 25 := ⟨Try.f25, Try.func25, by kernel_rfl, by kernel_rfl⟩
@[simp] theorem hb26 : HasBody Try.prog 26 := ⟨Try.f26, Try.func26, by kernel_rfl, by kernel_rfl⟩
@[simp] theorem hb27 : HasBody Try.prog 27 := ⟨Try.f27, Try.func27, by kernel_rfl, by kernel_rfl⟩
@[simp] theorem hb28 : HasBody Try.prog 28 := ⟨Try.f28, Try.func28, by kernel_rfl, by kernel_rfl⟩
@[simp] theorem hb29 : HasBody Try.prog 29 := ⟨Try.f29, Try.func29, by kernel_rfl, by kernel_rfl⟩
@[simp] theorem hb30 : HasBody Try.prog 30 := ⟨Try.f30, Try.func30, by kernel_rfl, by kernel_rfl⟩
@[simp] theorem hb31 : HasBody Try.prog 31 := ⟨Try.f31, Try.func31, by kernel_rfl, by kernel_rfl⟩
@[simp] theorem hb32 : HasBody Try.prog 32 := ⟨Try.f32, Try.func32, by kernel_rfl, by kernel_rfl⟩
@[simp] theorem hb33 : HasBody Try.prog 33 := ⟨Try.f33, Try.func33, by kernel_rfl, by kernel_rfl⟩
@[simp] theorem hb34 : HasBody Try.prog 34 := ⟨Try.f34, Try.func34, by kernel_rfl, by kernel_rfl⟩
@[simp] theorem hb35 : HasBody Try.prog 35 := ⟨Try.f35, Try.func35, by kernel_rfl, by kernel_rfl⟩
@[simp] theorem hb36 : HasBody Try.prog 36 := ⟨Try.f36, Try.func36, by kernel_rfl, by kernel_rfl⟩
@[simp] theorem hb37 : HasBody Try.prog 37 := ⟨Try.f37, Try.func37, by kernel_rfl, by kernel_rfl⟩
@[simp] theorem hb38 : HasBody Try.prog 38 := ⟨Try.f38, Try.func38, by kernel_rfl, by kernel_rfl⟩
@[simp] theorem hb39 : HasBody Try.prog 39 := ⟨Try.f39, Try.func39, by kernel_rfl, by kernel_rfl⟩
@[simp] theorem hb40 : HasBody Try.prog 40 := ⟨Try.f40, Try.func40, by kernel_rfl, by kernel_rfl⟩
@[simp] theorem hb41 : HasBody Try.prog 41 := ⟨Try.f41, Try.func41, by kernel_rfl, by kernel_rfl⟩
@[simp] theorem hb42 : HasBody Try.prog 42 := ⟨Try.f42, Try.func42, by kernel_rfl, by kernel_rfl⟩
@[simp] theorem hb43 : HasBody Try.prog 43 := ⟨Try.f43, Try.func43, by kernel_rfl, by kernel_rfl⟩
@[simp] theorem hb44 : HasBody Try.prog 44 := ⟨Try.f44, Try.func44, by kernel_rfl, by kernel_rfl⟩
@[simp] theorem hb45 : HasBody Try.prog 45 := ⟨Try.f45, Try.func45, by kernel_rfl, by kernel_rfl⟩
@[simp] theorem hb46 : HasBody Try.prog 46 := ⟨Try.f46, Try.func46, by kernel_rfl, by kernel_rfl⟩
@[simp] theorem hb47 : HasBody Try.prog 47 := ⟨Try.f47, Try.func47, by kernel_rfl, by kernel_rfl⟩
@[simp] theorem hb48 : HasBody Try.prog 48 := ⟨Try.f48, Try.func48, by kernel_rfl, by kernel_rfl⟩
@[simp] theorem hb49 : HasBody Try.prog 49 := ⟨Try.f49, Try.func49, by kernel_rfl, by kernel_rfl⟩
@[simp] theorem hb50 : HasBody Try.prog 50 := ⟨Try.f50, Try.func50, by kernel_rfl, by kernel_rfl⟩
@[simp] theorem hb51 : HasBody Try.prog 51 := ⟨Try.f51, Try.func51, by kernel_rfl, by kernel_rfl⟩
@[simp] theorem hb52 : HasBody Try.prog 52 := ⟨Try.f52, Try.func52, by kernel_rfl, by kernel_rfl⟩
@[simp] theorem hb53 : HasBody Try.prog 53 := ⟨Try.f53, Try.func53, by kernel_rfl, by kernel_rfl⟩
@[simp] theorem hb54 : HasBody Try.prog 54 := ⟨Try.f54, Try.func54, by kernel_rfl, by kernel_rfl⟩
@[simp] theorem hb55 : HasBody Try.prog 55 := ⟨Try.f55, Try.func55, by kernel_rfl, by kernel_rfl⟩
@[simp] theorem hb56 : HasBody Try.prog 56 := ⟨Try.f56, Try.func56, by kernel_rfl, by kernel_rfl⟩
@[simp] theorem hb57 : HasBody Try.prog 57 := ⟨Try.f57, Try.func57, by kernel_rfl, by kernel_rfl⟩
@[simp] theorem hb58 : HasBody Try.prog 58 := ⟨Try.f58, Try.func58, by kernel_rfl, by kernel_rfl⟩
@[simp] theorem hb59 : HasBody Try.prog 59 := ⟨Try.f59, Try.func59, by kernel_rfl, by kernel_rfl⟩
@[simp] theorem hb60 : HasBody Try.prog 60 := ⟨Try.f60, Try.func60, by kernel_rfl, by kernel_rfl⟩
@[simp] theorem hb61 : HasBody Try.prog 61 := ⟨Try.f61, Try.func61, by kernel_rfl, by kernel_rfl⟩
@[simp] theorem hb62 : HasBody Try.prog 62 := ⟨Try.f62, Try.func62, by kernel_rfl, by kernel_rfl⟩
@[simp] theorem hb63 : HasBody Try.prog 63 := ⟨Try.f63, Try.func63, by kernel_rfl, by kernel_rfl⟩
@[simp] theorem hb64 : HasBody Try.prog 64 := ⟨Try.f64, Try.func64, by kernel_rfl, by kernel_rfl⟩
@[simp] theorem hb65 : HasBody Try.prog 65 := ⟨Try.f65, Try.func65, by kernel_rfl, by kernel_rfl⟩
@[simp] theorem hb66 : HasBody Try.prog 66 := ⟨Try.f66, Try.func66, by kernel_rfl, by kernel_rfl⟩
@[simp] theorem hb67 : HasBody Try.prog 67 := ⟨Try.f67, Try.func67, by kernel_rfl, by kernel_rfl⟩
@[simp] theorem hb68 : HasBody Try.prog 68 := ⟨Try.f68, Try.func68, by kernel_rfl, by kernel_rfl⟩
@[simp] theorem hb69 : HasBody Try.prog 69 := ⟨Try.f69, Try.func69, by kernel_rfl, by kernel_rfl⟩
@[simp] theorem hb70 : HasBody Try.prog 70 := ⟨Try.f70, Try.func70, by kernel_rfl, by kernel_rfl⟩
@[simp] theorem hb71 : HasBody Try.prog 71 := ⟨Try.f71, Try.func71, by kernel_rfl, by kernel_rfl⟩
@[simp] theorem hb72 : HasBody Try.prog 72 := ⟨Try.f72, Try.func72, by kernel_rfl, by kernel_rfl⟩
@[simp] theorem hb73 : HasBody Try.prog 73 := ⟨Try.f73, Try.func73, by kernel_rfl, by kernel_rfl⟩
@[simp] theorem hb74 : HasBody Try.prog 74 := ⟨Try.f74, Try.func74, by kernel_rfl, by kernel_rfl⟩
@[simp] theorem hb75 : HasBody Try.prog 75 := ⟨Try.f75, Try.func75, by kernel_rfl, by kernel_rfl⟩
@[simp] theorem hb76 : HasBody Try.prog 76 := ⟨Try.f76, Try.func76, by kernel_rfl, by kernel_rfl⟩
@[simp] theorem hb77 : HasBody Try.prog 77 := ⟨Try.f77, Try.func77, by kernel_rfl, by kernel_rfl⟩
@[simp] theorem hb78 : HasBody Try.prog 78 := ⟨Try.f78, Try.func78, by kernel_rfl, by kernel_rfl⟩
@[simp] theorem hb79 : HasBody Try.prog 79 := ⟨Try.f79, Try.func79, by kernel_rfl, by kernel_rfl⟩
@[simp] theorem hb80 : HasBody Try.prog 80 := ⟨Try.f80, Try.func80, by kernel_rfl, by kernel_rfl⟩
@[simp] theorem hb81 : HasBody Try.prog 81 := ⟨Try.f81, Try.func81, by kernel_rfl, by kernel_rfl⟩
@[simp] theorem hb82 : HasBody Try.prog 82 := ⟨Try.f82, Try.func82, by kernel_rfl, by kernel_rfl⟩
@[simp] theorem hb83 : HasBody Try.prog 83 := ⟨Try.f83, Try.func83, by kernel_rfl, by kernel_rfl⟩
@[simp] theorem hb84 : HasBody Try.prog 84 := ⟨Try.f84, Try.func84, by kernel_rfl, by kernel_rfl⟩
@[simp] theorem hb85 : HasBody Try.prog 85 := ⟨Try.f85, Try.func85, by kernel_rfl, by kernel_rfl⟩
@[simp] theorem hb86 : HasBody Try.prog 86 := ⟨Try.f86, Try.func86, by kernel_rfl, by kernel_rfl⟩
@[simp] theorem hb87 : HasBody Try.prog 87 := ⟨Try.f87, Try.func87, by kernel_rfl, by kernel_rfl⟩
@[simp] theorem hb88 : HasBody Try.prog 88 := ⟨Try.f88, Try.func88, by kernel_rfl, by kernel_rfl⟩
@[simp] theorem hb89 : HasBody Try.prog 89 := ⟨Try.f89, Try.func89, by kernel_rfl, by kernel_rfl⟩
@[simp] theorem hb90 : HasBody Try.prog 90 := ⟨Try.f90, Try.func90, by kernel_rfl, by kernel_rfl⟩
@[simp] theorem hb91 : HasBody Try.prog 91 := ⟨Try.f91, Try.func91, by kernel_rfl, by kernel_rfl⟩
@[simp] theorem hb92 : HasBody Try.prog 92 := ⟨Try.f92, Try.func92, by kernel_rfl, by kernel_rfl⟩
@[simp] theorem hb93 : HasBody Try.prog 93 := ⟨Try.f93, Try.func93, by kernel_rfl, by kernel_rfl⟩
@[simp] theorem hb94 : HasBody Try.prog 94 := ⟨Try.f94, Try.func94, by kernel_rfl, by kernel_rfl⟩
@[simp] theorem hb95 : HasBody Try.prog 95 := ⟨Try.f95, Try.func95, by kernel_rfl, by kernel_rfl⟩
@[simp] theorem hb96 : HasBody Try.prog 96 := ⟨Try.f96, Try.func96, by kernel_rfl, by kernel_rfl⟩
@[simp] theorem hb97 : HasBody Try.prog 97 := ⟨Try.f97, Try.func97, by kernel_rfl, by kernel_rfl⟩
@[simp] theorem hb98 : HasBody Try.prog 98 := ⟨Try.f98, Try.func98, by kernel_rfl, by kernel_rfl⟩
@[simp] theorem hb99 : HasBody Try.prog 99 := ⟨Try.f99, Try.func99, by kernel_rfl, by kernel_rfl⟩
@[simp] theorem hb100 : HasBody Try.prog 100 := ⟨Try.f100, Try.func100, by kernel_rfl, by kernel_rfl⟩
@[simp] theorem hb101 : HasBody Try.prog 101 := ⟨Try.f101, Try.func101, by kernel_rfl, by kernel_rfl⟩
@[simp] theorem hb102 : HasBody Try.prog 102 := ⟨Try.f102, Try.func102, by kernel_rfl, by kernel_rfl⟩
@[simp] theorem hb103 : HasBody Try.prog 103 := ⟨Try.f103, Try.func103, by kernel_rfl, by kernel_rfl⟩
@[simp] theorem hb104 : HasBody Try.prog 104 := ⟨Try.f104, Try.func104, by kernel_rfl, by kernel_rfl⟩
@[simp] theorem hb105 : HasBody Try.prog 105 := ⟨Try.f105, Try.func105, by kernel_rfl, by kernel_rfl⟩
@[simp] theorem hb106 : HasBody Try.prog 106 := ⟨Try.f106, Try.func106, by kernel_rfl, by kernel_rfl⟩
@[simp] theorem hb107 : HasBody Try.prog 107 := ⟨Try.f107, Try.func107, by kernel_rfl, by kernel_rfl⟩
@[simp] theorem hb108 : HasBody Try.prog 108 := ⟨Try.f108, Try.func108, by kernel_rfl, by kernel_rfl⟩
@[simp] theorem hb109 : HasBody Try.prog 109 := ⟨Try.f109, Try.func109, by kernel_rfl, by kernel_rfl⟩
@[simp] theorem hb110 : HasBody Try.prog 110 := ⟨Try.f110, Try.func110, by kernel_rfl, by kernel_rfl⟩
@[simp] theorem hb111 : HasBody Try.prog 111 := ⟨Try.f111, Try.func111, by kernel_rfl, by kernel_rfl⟩
@[simp] theorem hb112 : HasBody Try.prog 112 := ⟨Try.f112, Try.func112, by kernel_rfl, by kernel_rfl⟩
@[simp] theorem hb113 : HasBody Try.prog 113 := ⟨Try.f113, Try.func113, by kernel_rfl, by kernel_rfl⟩
@[simp] theorem hb114 : HasBody Try.prog 114 := ⟨Try.f114, Try.func114, by kernel_rfl, by kernel_rfl⟩
@[simp] theorem hb115 : HasBody Try.prog 115 := ⟨Try.f115, Try.func115, by kernel_rfl, by kernel_rfl⟩
@[simp] theorem hb116 : HasBody Try.prog 116 := ⟨Try.f116, Try.func116, by kernel_rfl, by kernel_rfl⟩
@[simp] theorem hb117 : HasBody Try.prog 117 := ⟨Try.f117, Try.func117, by kernel_rfl, by kernel_rfl⟩
@[simp] theorem hb118 : HasBody Try.prog 118 := ⟨Try.f118, Try.func118, by kernel_rfl, by kernel_rfl⟩
@[simp] theorem hb119 : HasBody Try.prog 119 := ⟨Try.f119, Try.func119, by kernel_rfl, by kernel_rfl⟩
@[simp] theorem hb120 : HasBody Try.prog 120 := ⟨Try.f120, Try.func120, by kernel_rfl, by kernel_rfl⟩
@[simp] theorem hb121 : HasBody Try.prog 121 := ⟨Try.f121, Try.func121, by kernel_rfl, by kernel_rfl⟩
@[simp] theorem hb122 : HasBody Try.prog 122 := ⟨Try.f122, Try.func122, by kernel_rfl, by kernel_rfl⟩
@[simp] theorem hb123 : HasBody Try.prog 123 := ⟨Try.f123, Try.func123, by kernel_rfl, by kernel_rfl⟩
@[simp] theorem hb124 : HasBody Try.prog 124 := ⟨Try.f124, Try.func124, by kernel_rfl, by kernel_rfl⟩
@[simp] theorem hb125 : HasBody Try.prog 125 := ⟨Try.f125, Try.func125, by kernel_rfl, by kernel_rfl⟩
@[simp] theorem hb126 : HasBody Try.prog 126 := ⟨Try.f126, Try.func126, by kernel_rfl, by kernel_rfl⟩
@[simp] theorem hb127 : HasBody Try.prog 127 := ⟨Try.f127, Try.func127, by kernel_rfl, by kernel_rfl⟩
@[simp] theorem hb128 : HasBody Try.prog 128 := ⟨Try.f128, Try.func128, by kernel_rfl, by kernel_rfl⟩
@[simp] theorem hb129 : HasBody Try.prog 129 := ⟨Try.f129, Try.func129, by kernel_rfl, by kernel_rfl⟩
@[simp] theorem hb130 : HasBody Try.prog 130 := ⟨Try.f130, Try.func130, by kernel_rfl, by kernel_rfl⟩
@[simp] theorem hb131 : HasBody Try.prog 131 := ⟨Try.f131, Try.func131, by kernel_rfl, by kernel_rfl⟩
@[simp] theorem hb132 : HasBody Try.prog 132 := ⟨Try.f132, Try.func132, by kernel_rfl, by kernel_rfl⟩
@[simp] theorem hb133 : HasBody Try.prog 133 := ⟨Try.f133, Try.func133, by kernel_rfl, by kernel_rfl⟩
@[simp] theorem hb134 : HasBody Try.prog 134 := ⟨Try.f134, Try.func134, by kernel_rfl, by kernel_rfl⟩
@[simp] theorem hb135 : HasBody Try.prog 135 := ⟨Try.f135, Try.func135, by kernel_rfl, by kernel_rfl⟩
@[simp] theorem hb136 : HasBody Try.prog 136 := ⟨Try.f136, Try.func136, by kernel_rfl, by kernel_rfl⟩
@[simp] theorem hb137 : HasBody Try.prog 137 := ⟨Try.f137, Try.func137, by kernel_rfl, by kernel_rfl⟩
@[simp] theorem hb138 : HasBody Try.prog 138 := ⟨Try.f138, Try.func138, by kernel_rfl, by kernel_rfl⟩
@[simp] theorem hb139 : HasBody Try.prog 139 := ⟨Try.f139, Try.func139, by kernel_rfl, by kernel_rfl⟩
@[simp] theorem hb140 : HasBody Try.prog 140 := ⟨Try.f140, Try.func140, by kernel_rfl, by kernel_rfl⟩
@[simp] theorem hb141 : HasBody Try.prog 141 := ⟨Try.f141, Try.func141, by kernel_rfl, by kernel_rfl⟩
@[simp] theorem hb142 : HasBody Try.prog 142 := ⟨Try.f142, Try.func142, by kernel_rfl, by kernel_rfl⟩
@[simp] theorem hb143 : HasBody Try.prog 143 := ⟨Try.f143, Try.func143, by kernel_rfl, by kernel_rfl⟩
@[simp] theorem hb144 : HasBody Try.prog 144 := ⟨Try.f144, Try.func144, by kernel_rfl, by kernel_rfl⟩
@[simp] theorem hb145 : HasBody Try.prog 145 := ⟨Try.f145, Try.func145, by kernel_rfl, by kernel_rfl⟩
@[simp] theorem hb146 : HasBody Try.prog 146 := ⟨Try.f146, Try.func146, by kernel_rfl, by kernel_rfl⟩
@[simp] theorem hb147 : HasBody Try.prog 147 := ⟨Try.f147, Try.func147, by kernel_rfl, by kernel_rfl⟩
@[simp] theorem hb148 : HasBody Try.prog 148 := ⟨Try.f148, Try.func148, by kernel_rfl, by kernel_rfl⟩
@[simp] theorem hb149 : HasBody Try.prog 149 := ⟨Try.f149, Try.func149, by kernel_rfl, by kernel_rfl⟩
@[simp] theorem hb150 : HasBody Try.prog 150 := ⟨Try.f150, Try.func150, by kernel_rfl, by kernel_rfl⟩
@[simp] theorem hb151 : HasBody Try.prog 151 := ⟨Try.f151, Try.func151, by kernel_rfl, by kernel_rfl⟩
@[simp] theorem hb152 : HasBody Try.prog 152 := ⟨Try.f152, Try.func152, by kernel_rfl, by kernel_rfl⟩
@[simp] theorem hb153 : HasBody Try.prog 153 := ⟨Try.f153, Try.func153, by kernel_rfl, by kernel_rfl⟩
@[simp] theorem hb154 : HasBody Try.prog 154 := ⟨Try.f154, Try.func154, by kernel_rfl, by kernel_rfl⟩
@[simp] theorem hb155 : HasBody Try.prog 155 := ⟨Try.f155, Try.func155, by kernel_rfl, by kernel_rfl⟩
@[simp] theorem hb156 : HasBody Try.prog 156 := ⟨Try.f156, Try.func156, by kernel_rfl, by kernel_rfl⟩
@[simp] theorem hb157 : HasBody Try.prog 157 := ⟨Try.f157, Try.func157, by kernel_rfl, by kernel_rfl⟩
@[simp] theorem hb158 : HasBody Try.prog 158 := ⟨Try.f158, Try.func158, by kernel_rfl, by kernel_rfl⟩
@[simp] theorem hb159 : HasBody Try.prog 159 := ⟨Try.f159, Try.func159, by kernel_rfl, by kernel_rfl⟩
@[simp] theorem hb160 : HasBody Try.prog 160 := ⟨Try.f160, Try.func160, by kernel_rfl, by kernel_rfl⟩
@[simp] theorem hb161 : HasBody Try.prog 161 := ⟨Try.f161, Try.func161, by kernel_rfl, by kernel_rfl⟩
@[simp] theorem hb162 : HasBody Try.prog 162 := ⟨Try.f162, Try.func162, by kernel_rfl, by kernel_rfl⟩
@[simp] theorem hb163 : HasBody Try.prog 163 := ⟨Try.f163, Try.func163, by kernel_rfl, by kernel_rfl⟩
@[simp] theorem hb165 : HasBody Try.prog 165 := ⟨Try.f165, Try.func165, by kernel_rfl, by kernel_rfl⟩
@[simp] theorem hb166 : HasBody Try.prog 166 := ⟨Try.f166, Try.func166, by kernel_rfl, by kernel_rfl⟩
@[simp] theorem hb167 : HasBody Try.prog 167 := ⟨Try.f167, Try.func167, by kernel_rfl, by kernel_rfl⟩
@[simp] theorem hb168 : HasBody Try.prog 168 := ⟨Try.f168, Try.func168, by kernel_rfl, by kernel_rfl⟩
@[simp] theorem hb169 : HasBody Try.prog 169 := ⟨Try.f169, Try.func169, by kernel_rfl, by kernel_rfl⟩
@[simp] theorem hb170 : HasBody Try.prog 170 := ⟨Try.f170, Try.func170, by kernel_rfl, by kernel_rfl⟩
@[simp] theorem hb171 : HasBody Try.prog 171 := ⟨Try.f171, Try.func171, by kernel_rfl, by kernel_rfl⟩
@[simp] theorem hb172 : HasBody Try.prog 172 := ⟨Try.f172, Try.func172, by kernel_rfl, by kernel_rfl⟩
@[simp] theorem hb173 : HasBody Try.prog 173 := ⟨Try.f173, Try.func173, by kernel_rfl, by kernel_rfl⟩
@[simp] theorem hb174 : HasBody Try.prog 174 := ⟨Try.f174, Try.func174, by kernel_rfl, by kernel_rfl⟩
@[simp] theorem hb175 : HasBody Try.prog 175 := ⟨Try.f175, Try.func175, by kernel_rfl, by kernel_rfl⟩
@[simp] theorem hb177 : HasBody Try.prog 177 := ⟨Try.f177, Try.func177, by kernel_rfl, by kernel_rfl⟩
@[simp] theorem hb178 : HasBody Try.prog 178 := ⟨Try.f178, Try.func178, by kernel_rfl, by kernel_rfl⟩
@[simp] theorem hb179 : HasBody Try.prog 179 := ⟨Try.f179, Try.func179, by kernel_rfl, by kernel_rfl⟩
end Go.Proofs.Ytbofobjofngoeaa.EngS

set_option linter.unusedSimpArgs false
set_option linter.unusedVariables false
namespace Go.Proofs.Ytbofobjofngoeaa.EngS
open Go Go.Proofs Go.Eng
abbrev int (n : Int) : D := .v (.sc (.int .i64 n))
abbrev boo (b : Bool) : D := .v (.sc (.bool b))
def ints (xs : List Int) : List PV := xs.map fun x => .sc (.int .i64 x)
@[simp] theorem ints_len (xs) : (ints xs).length = xs.length := by simp [ints]
@[simp] theorem ints_get (xs : List Int) (i : Nat) : (ints xs)[i]? = (xs[i]?).map fun x => .sc (.int .i64 x) := by simp [ints]
@[simp] theorem ints_at (xs : List Int) (i : Nat) (h : i < (ints xs).length) : (ints xs)[i] = .sc (.int .i64 (xs[i]'(by simpa using h))) := by simp [ints]
@[simp] theorem ints_frz (xs) : PV.frzs (ints xs) = ints xs := by simp [ints]
def inR (lo hi n : Int) : Bool := decide (lo ≤ n) && decide (n ≤ hi)
theorem inR_iff {lo hi n : Int} : inR lo hi n = true ↔ lo ≤ n ∧ n ≤ hi := by simp [inR]
theorem c_impl_within (n lo hi : Int) : ACall Try.prog 59 [int n, int lo, int hi] [.x, .x, .x] [boo (inR lo hi n)] := by
  refine ACall.of (N := 15) tok Try.func59 rfl rfl rfl (by simp) ?_
  repeat' (first | with_reducible refine OutOK.done ?_ | refine thenQ_n ?_ | refine thenQ_r ?_ | refine thenQ_e ?_ | refine AW.seq ?_ | refine AW.reg tok (by simp [*]; rfl) ?_ | refine AW.ifB (by simp [*]; rfl) ?_ | refine IfG.t ?_ | refine IfG.f ?_ | ((first | refine IfG.p (fun hg => ?_) (fun hg => ?_) | refine IfG.n (fun hg => ?_) (fun hg => ?_) | refine OutOK.gateP (fun hg => ?_) (fun hg => ?_) | refine OutOK.gateN (fun hg => ?_) (fun hg => ?_) | refine IfG.g (fun hg => ?_) (fun hg => ?_) | refine OutOK.gate (fun hg => ?_) (fun hg => ?_)) <;> (try (have hg' := hg; simp at hg'))) | refine OutOK.run (by simp [*]; rfl) ?_ | refine AW.ret ?_ | refine AW.skip ?_ | refine AW.exit ?_ | refine fin_r ?_ | refine fin_n ?_ | refine AW.block ?_ | refine blockQ_n ?_ | refine blockQ_r ?_ | refine blockQ_e ?_ | refine blockQ_o rfl ?_)
  all_goals simp [*, Try.f59, inR]
theorem c_spec_l1In (n lo hi : Int) : ACall Try.prog 64 [int n, int lo, int hi] [.x, .x, .x] [boo (inR lo hi n)] := by
  refine ACall.of (N := 15) tok Try.func64 rfl rfl rfl (by simp) ?_
  repeat' (first | with_reducible refine OutOK.done ?_ | refine thenQ_n ?_ | refine thenQ_r ?_ | refine thenQ_e ?_ | refine AW.seq ?_ | refine AW.reg tok (by simp [*]; rfl) ?_ | refine AW.ifB (by simp [*]; rfl) ?_ | refine IfG.t ?_ | refine IfG.f ?_ | ((first | refine IfG.p (fun hg => ?_) (fun hg => ?_) | refine IfG.n (fun hg => ?_) (fun hg => ?_) | refine OutOK.gateP (fun hg => ?_) (fun hg => ?_) | refine OutOK.gateN (fun hg => ?_) (fun hg => ?_) | refine IfG.g (fun hg => ?_) (fun hg => ?_) | refine OutOK.gate (fun hg => ?_) (fun hg => ?_)) <;> (try (have hg' := hg; simp at hg'))) | refine OutOK.run (by simp [*]; rfl) ?_ | refine AW.ret ?_ | refine AW.skip ?_ | refine AW.exit ?_ | refine fin_r ?_ | refine fin_n ?_ | refine AW.block ?_ | refine blockQ_n ?_ | refine blockQ_r ?_ | refine blockQ_e ?_ | refine blockQ_o rfl ?_)
  all_goals simp [*, Try.f64, inR]
def lef (l : Int) (n : Nat) : Int := if l - n < 0 then -1 else l - n
attribute [irreducible] inR
end Go.Proofs.Ytbofobjofngoeaa.EngS


set_option linter.unusedSimpArgs false
set_option linter.unusedVariables false
namespace Go.Proofs.Ytbofobjofngoeaa.EngS
open Go Go.Proofs Go.Eng
@[simp] theorem rep_ints (n : Nat) (x : Int) : List.replicate n (PV.sc (.int .i64 x)) = ints (List.replicate n x) := by simp [ints]
@[simp] theorem ints_set (xs : List Int) (i : Nat) (x : Int) : (ints xs).set i (.sc (.int .i64 x)) = ints (xs.set i x) := by simp [ints, List.map_set]
@[simp] theorem ints_inj (xs ys : List Int) : ints xs = ints ys ↔ xs = ys := by
  constructor
  · intro h
    have := congrArg (List.map fun p => match p with | PV.sc (.int _ x) => x | _ => 0) h
    simpa [ints, Function.comp_def] using this
  · rintro rfl; rfl
@[simp] theorem ints_nofz (xs : List Int) : PV.nofzs (ints xs) = true := by
  induction xs with
  | nil => rfl
  | cons x xs ih => simpa [ints] using ih
def copied {α : Type} (z : α) (xs : List α) (i : Nat) : List α := xs.take i ++ List.replicate (xs.length - i) z
@[simp] theorem copied_len {α : Type} (z : α) (xs : List α) (i : Nat) (h : i ≤ xs.length) : (copied z xs i).length = xs.length := by simp [copied]; omega
theorem copied_zero {α : Type} (z : α) (xs : List α) : copied z xs 0 = List.replicate xs.length z := by simp [copied]
theorem copied_all {α : Type} (z : α) (xs : List α) (i : Nat) (h : xs.length ≤ i) : copied z xs i = xs := by simp [copied, List.take_of_length_le h, show xs.length - i = 0 by omega]
theorem copied_step {α : Type} (z : α) (xs : List α) (i : Nat) (h : i < xs.length) : (copied z xs i).set i xs[i] = copied z xs (i + 1) := by
  unfold copied
  apply List.ext_getElem?
  intro j
  have e1 : min i xs.length = i := Nat.min_eq_left (by omega)
  have e2 : min (i + 1) xs.length = i + 1 := Nat.min_eq_left (by omega)
  simp only [List.getElem?_set, List.getElem?_append, List.length_take, List.length_append, List.length_replicate, List.getElem?_take, List.getElem?_replicate, e1, e2]
  rcases Nat.lt_trichotomy j i with h1 | h1 | h1
  · rw [if_neg (by omega), if_pos h1, if_pos h1, if_pos (by omega), if_pos (by omega)]
  · subst h1
    rw [if_pos rfl, if_pos (by omega), if_pos (by omega), if_pos (by omega), List.getElem?_eq_getElem h]
  · have a1 : ¬ i = j := by omega
    have a2 : ¬ j < i := by omega
    have a3 : ¬ j < i + 1 := by omega
    simp only [a1, a2, a3, if_false]
    by_cases h2 : j < xs.length
    · rw [if_pos (by omega), if_pos (by omega)]
    · rw [if_neg (by omega), if_neg (by omega)]
theorem c_laws_toIntS (xs : List Int) (h : xs.length ≤ 1048576) : ACall Try.prog 52 [.v (.sl true 1 (ints xs))] [.x] [.v (.sl false 1 (ints xs))] := by
  have h1 : (xs.length : Int) * 8 ≤ 140737488355328 := by omega
  have h2 : (xs.length : Int) ≤ 4611686018427387904 := by omega
  refine ACall.of (N := 22) tok Try.func52 rfl rfl rfl (by simp) ?_
  repeat' (first | with_reducible refine OutOK.done ?_ | refine thenQ_n ?_ | refine thenQ_r ?_ | refine thenQ_e ?_ | refine AW.seq ?_ | refine AW.reg tok (by simp [*]; rfl) ?_ | refine AW.ifB (by simp [*]; rfl) ?_ | refine IfG.t ?_ | refine IfG.f ?_ | ((first | refine IfG.p (fun hg => ?_) (fun hg => ?_) | refine IfG.n (fun hg => ?_) (fun hg => ?_) | refine OutOK.gateP (fun hg => ?_) (fun hg => ?_) | refine OutOK.gateN (fun hg => ?_) (fun hg => ?_) | refine IfG.g (fun hg => ?_) (fun hg => ?_) | refine OutOK.gate (fun hg => ?_) (fun hg => ?_)) <;> (try (have hg' := hg; simp at hg'))) | refine OutOK.run (by simp [*]; rfl) ?_ | refine AW.ret ?_ | refine AW.skip ?_ | refine AW.exit ?_ | refine fin_r ?_ | refine fin_n ?_ | refine AW.block ?_ | refine blockQ_n ?_ | refine blockQ_r ?_ | refine blockQ_e ?_ | refine blockQ_o rfl ?_)
  refine AW.loopL (fun i => i ≤ xs.length) (fun i => [(0, .c (.sl true 1 (ints xs))), (3, .rf 7000 []), (4, .c (.sc (.int .i64 (i : Int))))]) (fun i => [(7000, .sv (.sl false 1 (ints (copied 0 xs i))))]) (fun i => xs.length - i) 0 (Nat.zero_le _) ⟨by simp, by simp [copied_zero], by simp⟩ ?_
  intro i hi
  repeat' (first | with_reducible refine OutOK.done ?_ | refine thenQ_n ?_ | refine thenQ_r ?_ | refine thenQ_e ?_ | refine AW.seq ?_ | refine AW.reg tok (by simp [*]; rfl) ?_ | refine AW.ifB (by simp [*]; rfl) ?_ | refine IfG.t ?_ | refine IfG.f ?_ | ((first | refine IfG.p (fun hg => ?_) (fun hg => ?_) | refine IfG.n (fun hg => ?_) (fun hg => ?_) | refine OutOK.gateP (fun hg => ?_) (fun hg => ?_) | refine OutOK.gateN (fun hg => ?_) (fun hg => ?_) | refine IfG.g (fun hg => ?_) (fun hg => ?_) | refine OutOK.gate (fun hg => ?_) (fun hg => ?_)) <;> (try (have hg' := hg; simp at hg'))) | refine OutOK.run (by simp [*]; rfl) ?_ | refine AW.ret ?_ | refine AW.skip ?_ | refine AW.exit ?_ | refine fin_r ?_ | refine fin_n ?_ | refine AW.block ?_ | refine blockQ_n ?_ | refine blockQ_r ?_ | refine blockQ_e ?_ | refine blockQ_o rfl ?_)
  · refine ⟨i + 1, by omega, ⟨?_, by simp [*, copied_step], by simp⟩, by omega⟩
    simp
    rw [w64 (by omega) (by omega)]
  · simp [Try.f52, copied_all _ _ _ hg']
@[simp] theorem ints_coks (xs : List Int) : PV.coks (ints xs) = true := by
  induction xs with
  | nil => rfl
  | cons x xs ih => simpa [ints] using ih
@[simp] theorem ints_eq_nil (xs : List Int) : ints xs = [] ↔ xs = [] := by simp [ints]
@[simp] theorem ints_nil : ints [] = [] := rfl
@[simp] theorem ints_snoc (xs : List Int) (y : Int) : ints xs ++ [.sc (.int .i64 y)] = ints (xs ++ [y]) := by simp [ints]
theorem tmod_nat (a b : Nat) : Int.tmod (a : Int) (b : Int) = ((a % b : Nat) : Int) := (Int.ofNat_tmod a b).symm
end Go.Proofs.Ytbofobjofngoeaa.EngS


set_option linter.unusedSimpArgs false
set_option linter.unusedVariables false
set_option maxHeartbeats 4000000
set_option maxRecDepth 10000
namespace Go.Proofs.Ytbofobjofngoeaa.EngS
open Go Go.Proofs Go.Eng Go.RowKit
def els {α : Type} (c : α → List PV) (xs : List α) : List PV := xs.map fun x => .ag (c x)
class Flat {α : Type} (c : α → List PV) : Prop where
  frz : ∀ x, PV.frzs (c x) = c x
  ok : ∀ x, PV.coks (c x) = true
  nofz : ∀ x, PV.nofzs (c x) = true
  fl : ∀ x, (PV.ag (c x)).flat1 = true
  inj : ∀ x y, c x = c y → x = y
@[simp] theorem els_len {α : Type} (c : α → List PV) (xs) : (els c xs).length = xs.length := by simp [els]
@[simp] theorem els_get {α : Type} (c : α → List PV) (xs : List α) (i : Nat) : (els c xs)[i]? = (xs[i]?).map fun x => .ag (c x) := by simp [els]
@[simp] theorem els_at {α : Type} (c : α → List PV) (xs : List α) (i : Nat) (h : i < (els c xs).length) : (els c xs)[i] = .ag (c (xs[i]'(by simpa using h))) := by simp [els]
@[simp] theorem els_frz {α : Type} (c : α → List PV) [Flat c] (xs) : PV.frzs (els c xs) = els c xs := by
  induction xs with
  | nil => rfl
  | cons x xs ih => simp only [els, List.map_cons, PV.frzs, PV.frz, Flat.frz] at ih ⊢; rw [ih]
@[simp] theorem els_coks {α : Type} (c : α → List PV) [Flat c] (xs) : PV.coks (els c xs) = true := by
  induction xs with
  | nil => rfl
  | cons x xs ih => simp only [els, List.map_cons, PV.coks, PV.cok, Flat.ok] at ih ⊢; rw [ih]; rfl
@[simp] theorem els_nofz {α : Type} (c : α → List PV) [Flat c] (xs) : PV.nofzs (els c xs) = true := by
  induction xs with
  | nil => rfl
  | cons x xs ih => simp only [els, List.map_cons, PV.nofzs, PV.nofz, Flat.nofz] at ih ⊢; rw [ih]; rfl
@[simp] theorem els_flat {α : Type} (c : α → List PV) [Flat c] (xs) : (els c xs).all PV.flat1 = true := by
  induction xs with
  | nil => rfl
  | cons x xs ih => simp only [els, List.map_cons, List.all_cons, Flat.fl] at ih ⊢; rw [ih]; rfl
@[simp] theorem els_flat' {α : Type} (c : α → List PV) [Flat c] (xs) : (∀ x ∈ els c xs, x.flat1 = true) ↔ True := by
  have := els_flat c xs
  rw [List.all_eq_true] at this
  exact ⟨fun _ => trivial, fun _ => this⟩
@[simp] theorem els_nil {α : Type} (c : α → List PV) : els c [] = [] := rfl
@[simp] theorem els_eq_nil {α : Type} (c : α → List PV) (xs) : els c xs = [] ↔ xs = [] := by simp [els]
theorem els_app {α : Type} (c : α → List PV) (xs ys) : els c xs ++ els c ys = els c (xs ++ ys) := by simp [els]
@[simp] theorem els_inj {α : Type} (c : α → List PV) [Flat c] (xs ys : List α) : els c xs = els c ys ↔ xs = ys := by
  constructor
  · intro h
    induction xs generalizing ys with
    | nil => cases ys with
      | nil => rfl
      | cons y ys => simp [els] at h
    | cons x xs ih => cases ys with
      | nil => simp [els] at h
      | cons y ys =>
        simp only [els, List.map_cons, List.cons.injEq, PV.ag.injEq] at h
        rw [Flat.inj _ _ h.1, ih ys h.2]
  · rintro rfl; rfl
structure Smp where
  id : Int
  par : Int
  ctx : Int
  tak : Int
  lef : Int
  usd : Int
  giv : Int
  hol : ByteArray
  deriving Inhabited
def smpC (s : Smp) : List PV := [.sc (.int .i64 s.id), .sc (.int .i64 s.par), .sc (.int .i64 s.ctx), .sc (.int .i64 s.tak), .sc (.int .i64 s.lef), .sc (.int .i64 s.usd), .sc (.int .i64 s.giv), .sc (.string s.hol)]
@[simp] theorem smpC_eq (s : Smp) : smpC s = [.sc (.int .i64 s.id), .sc (.int .i64 s.par), .sc (.int .i64 s.ctx), .sc (.int .i64 s.tak), .sc (.int .i64 s.lef), .sc (.int .i64 s.usd), .sc (.int .i64 s.giv), .sc (.string s.hol)] := rfl
instance smpFlat : Flat smpC where
  frz _ := rfl
  ok _ := rfl
  nofz _ := rfl
  fl _ := rfl
  inj x y h := by cases x; cases y; simpa using h
abbrev smps (l : List Smp) : List PV := els smpC l
@[simp] theorem smps_set (l : List Smp) (i : Nat) (a b c d e f g : Int) (h : ByteArray) : (smps l).set i (.ag [.sc (.int .i64 a), .sc (.int .i64 b), .sc (.int .i64 c), .sc (.int .i64 d), .sc (.int .i64 e), .sc (.int .i64 f), .sc (.int .i64 g), .sc (.string h)]) = smps (l.set i ⟨a, b, c, d, e, f, g, h⟩) := by
  simp [smps, els, List.map_set]
@[simp] theorem smps_snoc (l : List Smp) (a b c d e f g : Int) (h : ByteArray) : smps l ++ [.ag [.sc (.int .i64 a), .sc (.int .i64 b), .sc (.int .i64 c), .sc (.int .i64 d), .sc (.int .i64 e), .sc (.int .i64 f), .sc (.int .i64 g), .sc (.string h)]] = smps (l ++ [⟨a, b, c, d, e, f, g, h⟩]) := by
  simp [smps, els]
def zS : Smp := ⟨0, 0, 0, 0, 0, 0, 0, ⟨#[]⟩⟩
@[simp] theorem rep_smps (n : Nat) : List.replicate n (PV.ag [.sc (.int .i64 0), .sc (.int .i64 0), .sc (.int .i64 0), .sc (.int .i64 0), .sc (.int .i64 0), .sc (.int .i64 0), .sc (.int .i64 0), .sc (.string ⟨#[]⟩)]) = smps (List.replicate n zS) := by simp [smps, els, zS]
@[simp] theorem ba_size (a : Array UInt8) : (ByteArray.mk a).size = a.size := rfl
@[simp] theorem son_size (xs : List Int) : (strOfNums xs).size = xs.length := strOfNums_size xs
def figs (k : Nat) (acc : ByteArray) : ByteArray := if h : k = 0 then acc else figs (k / 10) (strOfNums [48 + ((k % 10 : Nat) : Int)] ++ acc)
termination_by k
decreasing_by omega
end Go.Proofs.Ytbofobjofngoeaa.EngS


set_option linter.unusedSimpArgs false
set_option linter.unusedVariables false
set_option maxHeartbeats 4000000
set_option maxRecDepth 10000
namespace Go.Proofs.Ytbofobjofngoeaa.EngS
open Go Go.Proofs Go.Eng Go.RowKit
def mkTx (k : Nat) : ByteArray := ⟨#[109]⟩ ++ figs k ⟨#[]⟩
def mkS (k : Nat) : Smp := ⟨k, (k + 1 : Nat), (k + 2 : Nat), (k + 3 : Nat), (k + 4 : Nat), (k + 5 : Nat), (k + 6 : Nat), mkTx (k + 7)⟩
def mksI (k : Nat) (l : List Smp) (i : Nat) : List Smp := (List.range l.length).map fun j => if j < i then mkS (k + 8 * j) else l[j]?.getD default
def mksN (k n : Nat) : List Smp := (List.range n).map fun j => mkS (k + 8 * j)
@[simp] theorem mksI_len (k l i) : (mksI k l i).length = l.length := by simp [mksI]
@[simp] theorem mksN_len (k n) : (mksN k n).length = n := by simp [mksN]
theorem mksI_zero (k l) : mksI k l 0 = l := by
  apply List.ext_getElem
  · simp
  · intro j h1 h2; simp [mksI, h2]
end Go.Proofs.Ytbofobjofngoeaa.EngS


set_option linter.unusedSimpArgs false
set_option linter.unusedVariables false
set_option maxHeartbeats 4000000
set_option maxRecDepth 10000
namespace Go.Proofs.Ytbofobjofngoeaa.EngS
open Go Go.Proofs Go.Eng Go.RowKit
def nmC (b : Nat) : Bool := (decide (97 ≤ b) && decide (b ≤ 122)) || (decide (48 ≤ b) && decide (b ≤ 57))
def nmA (b : Nat) : Bool := decide (97 ≤ b) && decide (b ≤ 122)
def bAt (s : ByteArray) (i : Nat) : Nat := (s[i]?.getD 0).toNat
def nameOK (s : ByteArray) : Bool := inR 1 8 s.size && nmA (bAt s 0) && (List.range s.size).all fun i => nmC (bAt s i)
theorem nmA_C {b} (h : nmA b = true) : nmC b = true := by simp only [nmA, nmC] at *; rw [h]; rfl
theorem nameOK_no {s : ByteArray} {i : Nat} (h : i < s.size) (hc : nmC (bAt s i) = false) : nameOK s = false := by
  unfold nameOK
  rw [Bool.and_eq_false_iff]
  right
  rw [Bool.eq_false_iff]
  intro ha
  have := List.all_eq_true.1 ha i (by simpa using h)
  rw [hc] at this; cases this
theorem bAt_of {s : ByteArray} {i : Nat} (h : i < s.size) : ∃ B : Nat, (s[i]'h).toNat = B ∧ Hd (bAt s i = B) := ⟨_, rfl, by simp [Hd, bAt, h]⟩
theorem nameOK_first {s : ByteArray} (hc : nmA (bAt s 0) = false) : nameOK s = false := by simp [nameOK, hc]
theorem nameOK_all {s : ByteArray} (h1 : inR 1 8 (s.size : Int) = true) (h2 : nmA (bAt s 0) = true) (h3 : ∀ j < s.size, nmC (bAt s j) = true) : nameOK s = true := by
  unfold nameOK
  rw [h1, h2]
  simp
  exact h3
theorem c_spec_l7Name (s : ByteArray) (h : s.size ≤ 9223372036854775807) : ACall Try.prog 113 [.v (.sc (.string s))] [.x] [boo (nameOK s)] := by
  cases b1 : inR 1 8 (s.size : Int) with
  | false =>
    have hn : nameOK s = false := by simp [nameOK, b1]
    refine ACall.of (N := 46) tok Try.func113 rfl rfl rfl (by simp) ?_
    repeat' (first | with_reducible refine OutOK.done ?_ | refine thenQ_n ?_ | refine thenQ_r ?_ | refine thenQ_e ?_ | refine AW.seq ?_ | refine AW.reg tok (by simp [*]; rfl) ?_ | refine AW.ifB (by simp [*]; rfl) ?_ | refine IfG.t ?_ | refine IfG.f ?_ | ((first | refine IfG.p (fun hg => ?_) (fun hg => ?_) | refine IfG.n (fun hg => ?_) (fun hg => ?_) | refine OutOK.gateP (fun hg => ?_) (fun hg => ?_) | refine OutOK.gateN (fun hg => ?_) (fun hg => ?_) | refine IfG.g (fun hg => ?_) (fun hg => ?_) | refine OutOK.gate (fun hg => ?_) (fun hg => ?_)) <;> (try (have hg' := hg; simp at hg'))) | (refine OutOK.callF [] (by simp [*]; rfl) (by simp [*]; rfl) (by simp [*]; rfl) hb64 (by apply c_spec_l1In <;> first | assumption | exact Hd.out (by assumption) | ((try clear e1); omega)) ⟨by simp [*], by simp [*], by simp [*], by simp [*], by simp [*]⟩ (by simp [*]) (by simp [*]; rfl) ?_) | refine OutOK.run (by simp [*]; rfl) ?_ | refine AW.ret ?_ | refine AW.skip ?_ | refine AW.exit ?_ | refine fin_r ?_ | refine fin_n ?_ | refine AW.block ?_ | refine blockQ_n ?_ | refine blockQ_r ?_ | refine blockQ_e ?_ | refine blockQ_o rfl ?_)
    simp [Try.f113, hn]
  | true =>
    have hs := inR_iff.1 b1
    have z1 : (0 : Int) < s.size := by omega
    have z2 : 0 < s.size := by omega
    clear hs
    obtain ⟨B, hB, hB2⟩ := bAt_of z2
    refine ACall.of (N := 46) tok Try.func113 rfl rfl rfl (by simp) ?_
    repeat' (first | with_reducible refine OutOK.done ?_ | refine thenQ_n ?_ | refine thenQ_r ?_ | refine thenQ_e ?_ | refine AW.seq ?_ | refine AW.reg tok (by simp [*]; rfl) ?_ | refine AW.ifB (by simp [*]; rfl) ?_ | refine IfG.t ?_ | refine IfG.f ?_ | ((first | refine IfG.p (fun hg => ?_) (fun hg => ?_) | refine IfG.n (fun hg => ?_) (fun hg => ?_) | refine OutOK.gateP (fun hg => ?_) (fun hg => ?_) | refine OutOK.gateN (fun hg => ?_) (fun hg => ?_) | refine IfG.g (fun hg => ?_) (fun hg => ?_) | refine OutOK.gate (fun hg => ?_) (fun hg => ?_)) <;> (try (have hg' := hg; simp at hg'))) | (refine OutOK.callF [] (by simp [*]; rfl) (by simp [*]; rfl) (by simp [*]; rfl) hb64 (by apply c_spec_l1In <;> first | assumption | exact Hd.out (by assumption) | ((try clear e1); omega)) ⟨by simp [*], by simp [*], by simp [*], by simp [*], by simp [*]⟩ (by simp [*]) (by simp [*]; rfl) ?_) | refine OutOK.run (by simp [*]; rfl) ?_ | refine AW.ret ?_ | refine AW.skip ?_ | refine AW.exit ?_ | refine fin_r ?_ | refine fin_n ?_ | refine AW.block ?_ | refine blockQ_n ?_ | refine blockQ_r ?_ | refine blockQ_e ?_ | refine blockQ_o rfl ?_)
    · have hn : nameOK s = false := nameOK_first (by rw [hB2.out]; simp [nmA]; omega)
      simp [Try.f113, hn]
    · have hA : Hd (nmA (bAt s 0) = true) := by rw [hB2.out]; simp [Hd, nmA]; omega
      clear hg hg'
      clear hg hg' hB hB2
      refine AW.loopL (fun i => i ≤ s.size ∧ Hd (∀ j < i, nmC (bAt s j) = true)) (fun i => [(0, .c (.sc (.string s))), (3, .c (.sc (.int .i64 (i : Int))))]) (fun i => []) (fun i => s.size - i) 0 ⟨Nat.zero_le _, by intro j hj; omega⟩ ⟨by simp, by simp, by simp⟩ ?_
      rintro i ⟨hi, hs⟩
      rcases Nat.lt_or_ge i s.size with hl | hl
      · have e1 : wrap64 ((i : Int) + 1) = (i : Int) + 1 := w64 (by omega) (by omega)
        obtain ⟨B, hB, hB2⟩ := bAt_of hl
        repeat' (first | with_reducible refine OutOK.done ?_ | refine thenQ_n ?_ | refine thenQ_r ?_ | refine thenQ_e ?_ | refine AW.seq ?_ | refine AW.reg tok (by simp [*]; rfl) ?_ | refine AW.ifB (by simp [*]; rfl) ?_ | refine IfG.t ?_ | refine IfG.f ?_ | ((first | refine IfG.p (fun hg => ?_) (fun hg => ?_) | refine IfG.n (fun hg => ?_) (fun hg => ?_) | refine OutOK.gateP (fun hg => ?_) (fun hg => ?_) | refine OutOK.gateN (fun hg => ?_) (fun hg => ?_) | refine IfG.g (fun hg => ?_) (fun hg => ?_) | refine OutOK.gate (fun hg => ?_) (fun hg => ?_)) <;> (try (have hg' := hg; simp at hg'))) | (refine OutOK.callF [] (by simp [*]; rfl) (by simp [*]; rfl) (by simp [*]; rfl) hb64 (by apply c_spec_l1In <;> first | assumption | exact Hd.out (by assumption) | ((try clear e1); omega)) ⟨by simp [*], by simp [*], by simp [*], by simp [*], by simp [*]⟩ (by simp [*]) (by simp [*]; rfl) ?_) | refine OutOK.run (by simp [*]; rfl) ?_ | refine AW.ret ?_ | refine AW.skip ?_ | refine AW.exit ?_ | refine fin_r ?_ | refine fin_n ?_ | refine AW.block ?_ | refine blockQ_n ?_ | refine blockQ_r ?_ | refine blockQ_e ?_ | refine blockQ_o rfl ?_)
        all_goals clear e1
        all_goals first
          | (have hn : nameOK s = false := nameOK_no hl (by rw [hB2.out]; simp [nmC]; omega)
             simp [Try.f113, hn]; done)
          | (have hc : nmC (bAt s i) = true := by rw [hB2.out]; simp [nmC]; omega
             refine ⟨i + 1, ⟨hl, fun j hj => ?_⟩, ⟨by simp, by simp, by simp⟩, by omega⟩
             rcases Nat.lt_succ_iff_lt_or_eq.1 hj with h1 | rfl
             · exact hs j h1
             · exact hc)
      · have hn : ¬ i < s.size := by omega
        have hii : i = s.size := by omega
        have hok : nameOK s = true := nameOK_all b1 hA.out (fun j hj => hs j (by omega))
        clear hii hi
        repeat' (first | with_reducible refine OutOK.done ?_ | refine thenQ_n ?_ | refine thenQ_r ?_ | refine thenQ_e ?_ | refine AW.seq ?_ | refine AW.reg tok (by simp [*]; rfl) ?_ | refine AW.ifB (by simp [*]; rfl) ?_ | refine IfG.t ?_ | refine IfG.f ?_ | ((first | refine IfG.p (fun hg => ?_) (fun hg => ?_) | refine IfG.n (fun hg => ?_) (fun hg => ?_) | refine OutOK.gateP (fun hg => ?_) (fun hg => ?_) | refine OutOK.gateN (fun hg => ?_) (fun hg => ?_) | refine IfG.g (fun hg => ?_) (fun hg => ?_) | refine OutOK.gate (fun hg => ?_) (fun hg => ?_)) <;> (try (have hg' := hg; simp at hg'))) | (refine OutOK.callF [] (by simp [*]; rfl) (by simp [*]; rfl) (by simp [*]; rfl) hb64 (by apply c_spec_l1In <;> first | assumption | exact Hd.out (by assumption) | ((try clear e1); omega)) ⟨by simp [*], by simp [*], by simp [*], by simp [*], by simp [*]⟩ (by simp [*]) (by simp [*]; rfl) ?_) | refine OutOK.run (by simp [*]; rfl) ?_ | refine AW.ret ?_ | refine AW.skip ?_ | refine AW.exit ?_ | refine fin_r ?_ | refine fin_n ?_ | refine AW.block ?_ | refine blockQ_n ?_ | refine blockQ_r ?_ | refine blockQ_e ?_ | refine blockQ_o rfl ?_)
        simp [Try.f113, hok]
    · have hn : nameOK s = false := nameOK_first (by rw [hB2.out]; simp [nmA]; omega)
      simp [Try.f113, hn]
theorem c_impl_isName (s : ByteArray) (h : s.size ≤ 9223372036854775807) : ACall Try.prog 77 [.v (.sc (.string s))] [.x] [boo (nameOK s)] := by
  refine ACall.of (N := 45) tok Try.func77 rfl rfl rfl (by simp) ?_
  repeat' (first | with_reducible refine OutOK.done ?_ | refine thenQ_n ?_ | refine thenQ_r ?_ | refine thenQ_e ?_ | refine AW.seq ?_ | refine AW.reg tok (by simp [*]; rfl) ?_ | refine AW.ifB (by simp [*]; rfl) ?_ | refine IfG.t ?_ | refine IfG.f ?_ | ((first | refine IfG.p (fun hg => ?_) (fun hg => ?_) | refine IfG.n (fun hg => ?_) (fun hg => ?_) | refine OutOK.gateP (fun hg => ?_) (fun hg => ?_) | refine OutOK.gateN (fun hg => ?_) (fun hg => ?_) | refine IfG.g (fun hg => ?_) (fun hg => ?_) | refine OutOK.gate (fun hg => ?_) (fun hg => ?_)) <;> (try (have hg' := hg; simp at hg'))) | (refine OutOK.callF [] (by simp [*]; rfl) (by simp [*]; rfl) (by simp [*]; rfl) hb59 (by apply c_impl_within <;> first | assumption | exact Hd.out (by assumption) | ((try clear e1); omega)) ⟨by simp [*], by simp [*], by simp [*], by simp [*], by simp [*]⟩ (by simp [*]) (by simp [*]; rfl) ?_) | refine OutOK.run (by simp [*]; rfl) ?_ | refine AW.ret ?_ | refine AW.skip ?_ | refine AW.exit ?_ | refine fin_r ?_ | refine fin_n ?_ | refine AW.block ?_ | refine blockQ_n ?_ | refine blockQ_r ?_ | refine blockQ_e ?_ | refine blockQ_o rfl ?_)
  refine AW.loopL (fun i => i ≤ s.size ∧ Hd (∀ j < i, nmC (bAt s j) = true) ∧ Hd (0 < i → nmA (bAt s 0) = true)) (fun i => [(0, .c (.sc (.string s))), (7, .c (.sc (.int .i64 (s.size : Int)))), (8, .c (.sc (.int .i64 (i : Int))))]) (fun i => []) (fun i => s.size - i) 0 ⟨Nat.zero_le _, fun j hj => by omega, fun h => by omega⟩ ⟨by simp, by simp, by simp⟩ ?_
  rintro i ⟨hi, hs, hA⟩
  rcases Nat.lt_or_ge i s.size with hl | hl
  · have e1 : wrap64 ((i : Int) + 1) = (i : Int) + 1 := w64 (by omega) (by omega)
    obtain ⟨B, hB, hB2⟩ := bAt_of hl
    rcases Nat.eq_zero_or_pos i with h0 | h0
    · subst h0
      repeat' (first | with_reducible refine OutOK.done ?_ | refine thenQ_n ?_ | refine thenQ_r ?_ | refine thenQ_e ?_ | refine AW.seq ?_ | refine AW.reg tok (by simp [*]; rfl) ?_ | refine AW.ifB (by simp [*]; rfl) ?_ | refine IfG.t ?_ | refine IfG.f ?_ | ((first | refine IfG.p (fun hg => ?_) (fun hg => ?_) | refine IfG.n (fun hg => ?_) (fun hg => ?_) | refine OutOK.gateP (fun hg => ?_) (fun hg => ?_) | refine OutOK.gateN (fun hg => ?_) (fun hg => ?_) | refine IfG.g (fun hg => ?_) (fun hg => ?_) | refine OutOK.gate (fun hg => ?_) (fun hg => ?_)) <;> (try (have hg' := hg; simp at hg'))) | (refine OutOK.callF [] (by simp [*]; rfl) (by simp [*]; rfl) (by simp [*]; rfl) hb59 (by apply c_impl_within <;> first | assumption | exact Hd.out (by assumption) | ((try clear e1); omega)) ⟨by simp [*], by simp [*], by simp [*], by simp [*], by simp [*]⟩ (by simp [*]) (by simp [*]; rfl) ?_) | refine OutOK.run (by simp [*]; rfl) ?_ | refine AW.ret ?_ | refine AW.skip ?_ | refine AW.exit ?_ | refine fin_r ?_ | refine fin_n ?_ | refine AW.block ?_ | refine blockQ_n ?_ | refine blockQ_r ?_ | refine blockQ_e ?_ | refine blockQ_o rfl ?_)
      all_goals clear e1
      all_goals first
        | (have hn : nameOK s = false := nameOK_first (by rw [hB2.out]; simp [nmA]; omega)
           simp [Try.f77, hn]; done)
        | (have hc : nmA (bAt s 0) = true := by rw [hB2.out]; simp [nmA]; omega
           refine ⟨1, ⟨hl, fun j hj => ?_, fun _ => hc⟩, ⟨by simp; rfl, by simp, by simp⟩, by omega⟩
           have hj0 : j = 0 := by omega
           subst hj0
           exact nmA_C hc)
    · have h0' : ¬ i = 0 := by omega
      have h0'' : ¬ (i : Int) = 0 := by omega
      repeat' (first | with_reducible refine OutOK.done ?_ | refine thenQ_n ?_ | refine thenQ_r ?_ | refine thenQ_e ?_ | refine AW.seq ?_ | refine AW.reg tok (by simp [*]; rfl) ?_ | refine AW.ifB (by simp [*]; rfl) ?_ | refine IfG.t ?_ | refine IfG.f ?_ | ((first | refine IfG.p (fun hg => ?_) (fun hg => ?_) | refine IfG.n (fun hg => ?_) (fun hg => ?_) | refine OutOK.gateP (fun hg => ?_) (fun hg => ?_) | refine OutOK.gateN (fun hg => ?_) (fun hg => ?_) | refine IfG.g (fun hg => ?_) (fun hg => ?_) | refine OutOK.gate (fun hg => ?_) (fun hg => ?_)) <;> (try (have hg' := hg; simp at hg'))) | (refine OutOK.callF [] (by simp [*]; rfl) (by simp [*]; rfl) (by simp [*]; rfl) hb59 (by apply c_impl_within <;> first | assumption | exact Hd.out (by assumption) | ((try clear e1); omega)) ⟨by simp [*], by simp [*], by simp [*], by simp [*], by simp [*]⟩ (by simp [*]) (by simp [*]; rfl) ?_) | refine OutOK.run (by simp [*]; rfl) ?_ | refine AW.ret ?_ | refine AW.skip ?_ | refine AW.exit ?_ | refine fin_r ?_ | refine fin_n ?_ | refine AW.block ?_ | refine blockQ_n ?_ | refine blockQ_r ?_ | refine blockQ_e ?_ | refine blockQ_o rfl ?_)
      all_goals clear e1
      all_goals first
        | (have hn : nameOK s = false := nameOK_no hl (by rw [hB2.out]; simp [nmC]; omega)
           simp [Try.f77, hn]; done)
        | (have hc : nmC (bAt s i) = true := by rw [hB2.out]; simp [nmC]; omega
           refine ⟨i + 1, ⟨hl, fun j hj => ?_, fun _ => hA h0⟩, ⟨by simp, by simp, by simp⟩, by omega⟩
           rcases Nat.lt_succ_iff_lt_or_eq.1 hj with h1 | rfl
           · exact hs j h1
           · exact hc)
  · have hn : ¬ i < s.size := by omega
    have hii : i = s.size := by omega
    have hok : Hd (inR 1 8 (s.size : Int) = nameOK s) := by
      cases b1 : inR 1 8 (s.size : Int) with
      | false => simp [Hd, nameOK, b1]
      | true =>
        have := inR_iff.1 b1
        exact (nameOK_all b1 (hA (by omega)) (fun j hj => hs j (by omega))).symm
    clear hii hi
    repeat' (first | with_reducible refine OutOK.done ?_ | refine thenQ_n ?_ | refine thenQ_r ?_ | refine thenQ_e ?_ | refine AW.seq ?_ | refine AW.reg tok (by simp [*]; rfl) ?_ | refine AW.ifB (by simp [*]; rfl) ?_ | refine IfG.t ?_ | refine IfG.f ?_ | ((first | refine IfG.p (fun hg => ?_) (fun hg => ?_) | refine IfG.n (fun hg => ?_) (fun hg => ?_) | refine OutOK.gateP (fun hg => ?_) (fun hg => ?_) | refine OutOK.gateN (fun hg => ?_) (fun hg => ?_) | refine IfG.g (fun hg => ?_) (fun hg => ?_) | refine OutOK.gate (fun hg => ?_) (fun hg => ?_)) <;> (try (have hg' := hg; simp at hg'))) | (refine OutOK.callF [] (by simp [*]; rfl) (by simp [*]; rfl) (by simp [*]; rfl) hb59 (by apply c_impl_within <;> first | assumption | exact Hd.out (by assumption) | ((try clear e1); omega)) ⟨by simp [*], by simp [*], by simp [*], by simp [*], by simp [*]⟩ (by simp [*]) (by simp [*]; rfl) ?_) | refine OutOK.run (by simp [*]; rfl) ?_ | refine AW.ret ?_ | refine AW.skip ?_ | refine AW.exit ?_ | refine fin_r ?_ | refine fin_n ?_ | refine AW.block ?_ | refine blockQ_n ?_ | refine blockQ_r ?_ | refine blockQ_e ?_ | refine blockQ_o rfl ?_)
    simp [Try.f77, hok.out]
def givI (l : List Smp) (p : Int) (i : Nat) : Int := (l.take i).foldl (fun a s => if s.par = p then wrap64 (a + s.tak) else a) 0
theorem givI_zero (l p) : givI l p 0 = 0 := rfl
end Go.Proofs.Ytbofobjofngoeaa.EngS


set_option linter.unusedSimpArgs false
set_option linter.unusedVariables false
namespace Go.Proofs.Ytbofobjofngoeaa.EngS
open Go Go.Proofs Go.Eng
def idx {α : Type} (p : α → Bool) (xs : List α) : Int := ((xs.findIdx? p).map Int.ofNat).getD (-1)
theorem idx_at {α : Type} {p : α → Bool} {xs : List α} {i : Nat} (h : i < xs.length) (hs : (xs.take i).any p = false) (hp : p xs[i] = true) : idx p xs = i := by
  have : xs.findIdx? p = some i := by
    rw [List.findIdx?_eq_some_iff_getElem]
    refine ⟨h, hp, fun j hj => ?_⟩
    rw [Bool.eq_false_iff] at hs
    intro hc
    exact hs (List.any_eq_true.2 ⟨xs[j], List.mem_take_iff_getElem.2 ⟨j, by omega, rfl⟩, hc⟩)
  simp [idx, this]
theorem idx_none {α : Type} {p : α → Bool} {xs : List α} (hs : xs.any p = false) : idx p xs = -1 := by
  have : xs.findIdx? p = none := by
    rw [List.findIdx?_eq_none_iff]
    intro x hx
    rw [Bool.eq_false_iff] at hs ⊢
    exact fun hc => hs (List.any_eq_true.2 ⟨x, hx, hc⟩)
  simp [idx, this]
theorem any_more {α : Type} {p : α → Bool} {xs : List α} {i : Nat} (h : i < xs.length) (hs : (xs.take i).any p = false) (hp : p xs[i] = false) : (xs.take (i + 1)).any p = false := by
  rw [List.take_succ_eq_append_getElem h, List.any_append, hs]
  simp [hp]
theorem any_end {α : Type} {p : α → Bool} {xs : List α} {i : Nat} (h : xs.length ≤ i) (hs : (xs.take i).any p = false) : xs.any p = false := by
  rwa [List.take_of_length_le h] at hs
end Go.Proofs.Ytbofobjofngoeaa.EngS


set_option linter.unusedSimpArgs false
set_option linter.unusedVariables false
set_option maxHeartbeats 4000000
set_option maxRecDepth 100000
namespace Go.Proofs.Ytbofobjofngoeaa.EngS
open Go Go.Proofs Go.Eng Go.RowKit
attribute [local irreducible] Go.RowKit.wrap64
def txC (b : Nat) : Bool := decide (32 ≤ b) && decide (b ≤ 126)
def textOK (s : ByteArray) : Bool := decide (s.size ≤ 40) && (List.range s.size).all fun i => txC (bAt s i)
theorem textOK_no {s : ByteArray} {i : Nat} (h : i < s.size) (hc : txC (bAt s i) = false) : textOK s = false := by
  unfold textOK
  rw [Bool.and_eq_false_iff]
  right
  rw [Bool.eq_false_iff]
  intro ha
  have := List.all_eq_true.1 ha i (by simpa using h)
  rw [hc] at this; cases this
theorem textOK_all {s : ByteArray} (h3 : ∀ j < s.size, txC (bAt s j) = true) : textOK s = decide (s.size ≤ 40) := by
  unfold textOK
  have : (List.range s.size).all (fun i => txC (bAt s i)) = true := by
    rw [List.all_eq_true]; intro i hi; exact h3 i (by simpa using hi)
  rw [this, Bool.and_true]
theorem c_impl_isText (s : ByteArray) (h : s.size ≤ 9223372036854775807) : ACall Try.prog 78 [.v (.sc (.string s))] [.x] [boo (textOK s)] := by
  refine ACall.of (N := 23) tok Try.func78 rfl rfl rfl (by simp) ?_
  repeat' (first | with_reducible refine OutOK.done ?_ | refine thenQ_n ?_ | refine thenQ_r ?_ | refine thenQ_e ?_ | refine AW.seq ?_ | refine AW.reg tok (by simp [*]; rfl) ?_ | refine AW.ifB (by simp [*]; rfl) ?_ | refine IfG.t ?_ | refine IfG.f ?_ | ((first | refine IfG.p (fun hg => ?_) (fun hg => ?_) | refine IfG.n (fun hg => ?_) (fun hg => ?_) | refine OutOK.gateP (fun hg => ?_) (fun hg => ?_) | refine OutOK.gateN (fun hg => ?_) (fun hg => ?_) | refine IfG.g (fun hg => ?_) (fun hg => ?_) | refine OutOK.gate (fun hg => ?_) (fun hg => ?_)) <;> (try (have hg' := hg; simp at hg'))) | refine OutOK.run (by simp [*]; rfl) ?_ | refine AW.ret ?_ | refine AW.skip ?_ | refine AW.exit ?_ | refine fin_r ?_ | refine fin_n ?_ | refine AW.block ?_ | refine blockQ_n ?_ | refine blockQ_r ?_ | refine blockQ_e ?_ | refine blockQ_o rfl ?_)
  refine AW.loopL (fun i => i ≤ s.size ∧ Hd (∀ j < i, txC (bAt s j) = true)) (fun i => [(0, .c (.sc (.string s))), (5, .c (.sc (.int .i64 (s.size : Int)))), (6, .c (.sc (.int .i64 (i : Int))))]) (fun i => []) (fun i => s.size - i) 0 ⟨Nat.zero_le _, fun j hj => by omega⟩ ⟨by simp, by simp, by simp⟩ ?_
  rintro i ⟨hi, hs⟩
  rcases Nat.lt_or_ge i s.size with hl | hl
  · have e1 : wrap64 ((i : Int) + 1) = ((i + 1 : Nat) : Int) := by rw [w64 (by omega) (by omega)]; omega
    obtain ⟨B, hB, hB2⟩ := bAt_of hl
    repeat' (first | with_reducible refine OutOK.done ?_ | refine thenQ_n ?_ | refine thenQ_r ?_ | refine thenQ_e ?_ | refine AW.seq ?_ | refine AW.reg tok (by simp [*]; rfl) ?_ | refine AW.ifB (by simp [*]; rfl) ?_ | refine IfG.t ?_ | refine IfG.f ?_ | ((first | refine IfG.p (fun hg => ?_) (fun hg => ?_) | refine IfG.n (fun hg => ?_) (fun hg => ?_) | refine OutOK.gateP (fun hg => ?_) (fun hg => ?_) | refine OutOK.gateN (fun hg => ?_) (fun hg => ?_) | refine IfG.g (fun hg => ?_) (fun hg => ?_) | refine OutOK.gate (fun hg => ?_) (fun hg => ?_)) <;> (try (have hg' := hg; simp at hg'))) | refine OutOK.run (by simp [*]; rfl) ?_ | refine AW.ret ?_ | refine AW.skip ?_ | refine AW.exit ?_ | refine fin_r ?_ | refine fin_n ?_ | refine AW.block ?_ | refine blockQ_n ?_ | refine blockQ_r ?_ | refine blockQ_e ?_ | refine blockQ_o rfl ?_)
    all_goals clear e1
    all_goals first
      | (have hn : textOK s = false := textOK_no hl (by rw [hB2.out]; simp [txC]; omega)
         simp [Try.f78, hn]; done)
      | (have hc : txC (bAt s i) = true := by rw [hB2.out]; simp [txC]; omega
         refine ⟨i + 1, ⟨hl, fun j hj => ?_⟩, ⟨by simp, by simp, by simp⟩, by omega⟩
         rcases Nat.lt_succ_iff_lt_or_eq.1 hj with h1 | rfl
         · exact hs j h1
         · exact hc)
  · have hn : ¬ i < s.size := by omega
    have hok : Hd (textOK s = decide (s.size ≤ 40)) := textOK_all (fun j hj => hs j (by omega))
    have hii : i = s.size := by omega
    clear hi
    repeat' (first | with_reducible refine OutOK.done ?_ | refine thenQ_n ?_ | refine thenQ_r ?_ | refine thenQ_e ?_ | refine AW.seq ?_ | refine AW.reg tok (by simp [*]; rfl) ?_ | refine AW.ifB (by simp [*]; rfl) ?_ | refine IfG.t ?_ | refine IfG.f ?_ | ((first | refine IfG.p (fun hg => ?_) (fun hg => ?_) | refine IfG.n (fun hg => ?_) (fun hg => ?_) | refine OutOK.gateP (fun hg => ?_) (fun hg => ?_) | refine OutOK.gateN (fun hg => ?_) (fun hg => ?_) | refine IfG.g (fun hg => ?_) (fun hg => ?_) | refine OutOK.gate (fun hg => ?_) (fun hg => ?_)) <;> (try (have hg' := hg; simp at hg'))) | refine OutOK.run (by simp [*]; rfl) ?_ | refine AW.ret ?_ | refine AW.skip ?_ | refine AW.exit ?_ | refine fin_r ?_ | refine fin_n ?_ | refine AW.block ?_ | refine blockQ_n ?_ | refine blockQ_r ?_ | refine blockQ_e ?_ | refine blockQ_o rfl ?_)
    simp [Try.f78, hok.out]
    omega
theorem c_spec_l21Text (s : ByteArray) (h : s.size ≤ 9223372036854775807) : ACall Try.prog 114 [.v (.sc (.string s))] [.x] [boo (textOK s)] := by
  refine ACall.of (N := 27) tok Try.func114 rfl rfl rfl (by simp) ?_
  repeat' (first | with_reducible refine OutOK.done ?_ | refine thenQ_n ?_ | refine thenQ_r ?_ | refine thenQ_e ?_ | refine AW.seq ?_ | refine AW.reg tok (by simp [*]; rfl) ?_ | refine AW.ifB (by simp [*]; rfl) ?_ | refine IfG.t ?_ | refine IfG.f ?_ | ((first | refine IfG.p (fun hg => ?_) (fun hg => ?_) | refine IfG.n (fun hg => ?_) (fun hg => ?_) | refine OutOK.gateP (fun hg => ?_) (fun hg => ?_) | refine OutOK.gateN (fun hg => ?_) (fun hg => ?_) | refine IfG.g (fun hg => ?_) (fun hg => ?_) | refine OutOK.gate (fun hg => ?_) (fun hg => ?_)) <;> (try (have hg' := hg; simp at hg'))) | refine OutOK.run (by simp [*]; rfl) ?_ | refine AW.ret ?_ | refine AW.skip ?_ | refine AW.exit ?_ | refine fin_r ?_ | refine fin_n ?_ | refine AW.block ?_ | refine blockQ_n ?_ | refine blockQ_r ?_ | refine blockQ_e ?_ | refine blockQ_o rfl ?_)
  refine AW.loopL (fun i => i ≤ s.size ∧ i ≤ 41 ∧ Hd (∀ j < i, txC (bAt s j) = true)) (fun i => [(0, .c (.sc (.string s))), (3, .c (.sc (.int .i64 (i : Int))))]) (fun i => []) (fun i => s.size - i) 0 ⟨Nat.zero_le _, Nat.zero_le _, fun j hj => by omega⟩ ⟨by simp, by simp, by simp⟩ ?_
  rintro i ⟨hi, h41, hs⟩
  rcases Nat.lt_or_ge i s.size with hl | hl
  · rcases Nat.lt_or_ge 40 i with h40 | h40
    · have hn : textOK s = false := by simp [textOK]; omega
      have h40' : ¬ (i : Int) ≤ 40 := by omega
      have hz : ¬ (s.size : Int) ≤ 40 := by omega
      have hz' : ¬ s.size ≤ 40 := by omega
      repeat' (first | with_reducible refine OutOK.done ?_ | refine thenQ_n ?_ | refine thenQ_r ?_ | refine thenQ_e ?_ | refine AW.seq ?_ | refine AW.reg tok (by simp [*]; rfl) ?_ | refine AW.ifB (by simp [*]; rfl) ?_ | refine IfG.t ?_ | refine IfG.f ?_ | ((first | refine IfG.p (fun hg => ?_) (fun hg => ?_) | refine IfG.n (fun hg => ?_) (fun hg => ?_) | refine OutOK.gateP (fun hg => ?_) (fun hg => ?_) | refine OutOK.gateN (fun hg => ?_) (fun hg => ?_) | refine IfG.g (fun hg => ?_) (fun hg => ?_) | refine OutOK.gate (fun hg => ?_) (fun hg => ?_)) <;> (try (have hg' := hg; simp at hg'))) | refine OutOK.run (by simp [*]; rfl) ?_ | refine AW.ret ?_ | refine AW.skip ?_ | refine AW.exit ?_ | refine fin_r ?_ | refine fin_n ?_ | refine AW.block ?_ | refine blockQ_n ?_ | refine blockQ_r ?_ | refine blockQ_e ?_ | refine blockQ_o rfl ?_)
      simp [Try.f114, hn]
    have h40' : (i : Int) ≤ 40 := by omega
    have e1 : wrap64 ((i : Int) + 1) = ((i + 1 : Nat) : Int) := by rw [w64 (by omega) (by omega)]; omega
    obtain ⟨B, hB, hB2⟩ := bAt_of hl
    repeat' (first | with_reducible refine OutOK.done ?_ | refine thenQ_n ?_ | refine thenQ_r ?_ | refine thenQ_e ?_ | refine AW.seq ?_ | refine AW.reg tok (by simp [*]; rfl) ?_ | refine AW.ifB (by simp [*]; rfl) ?_ | refine IfG.t ?_ | refine IfG.f ?_ | ((first | refine IfG.p (fun hg => ?_) (fun hg => ?_) | refine IfG.n (fun hg => ?_) (fun hg => ?_) | refine OutOK.gateP (fun hg => ?_) (fun hg => ?_) | refine OutOK.gateN (fun hg => ?_) (fun hg => ?_) | refine IfG.g (fun hg => ?_) (fun hg => ?_) | refine OutOK.gate (fun hg => ?_) (fun hg => ?_)) <;> (try (have hg' := hg; simp at hg'))) | refine OutOK.run (by simp [*]; rfl) ?_ | refine AW.ret ?_ | refine AW.skip ?_ | refine AW.exit ?_ | refine fin_r ?_ | refine fin_n ?_ | refine AW.block ?_ | refine blockQ_n ?_ | refine blockQ_r ?_ | refine blockQ_e ?_ | refine blockQ_o rfl ?_)
    all_goals clear e1
    all_goals first
      | (have hn : textOK s = false := textOK_no hl (by rw [hB2.out]; simp [txC]; omega)
         simp [Try.f114, hn]; done)
      | (have hc : txC (bAt s i) = true := by rw [hB2.out]; simp [txC]; omega
         refine ⟨i + 1, ⟨hl, by omega, fun j hj => ?_⟩, ⟨by simp, by simp, by simp⟩, by omega⟩
         rcases Nat.lt_succ_iff_lt_or_eq.1 hj with h1 | rfl
         · exact hs j h1
         · exact hc)
  · have hn : ¬ i < s.size := by omega
    have hok : Hd (textOK s = decide (s.size ≤ 40)) := textOK_all (fun j hj => hs j (by omega))
    have hii : i = s.size := by omega
    clear hi
    repeat' (first | with_reducible refine OutOK.done ?_ | refine thenQ_n ?_ | refine thenQ_r ?_ | refine thenQ_e ?_ | refine AW.seq ?_ | refine AW.reg tok (by simp [*]; rfl) ?_ | refine AW.ifB (by simp [*]; rfl) ?_ | refine IfG.t ?_ | refine IfG.f ?_ | ((first | refine IfG.p (fun hg => ?_) (fun hg => ?_) | refine IfG.n (fun hg => ?_) (fun hg => ?_) | refine OutOK.gateP (fun hg => ?_) (fun hg => ?_) | refine OutOK.gateN (fun hg => ?_) (fun hg => ?_) | refine IfG.g (fun hg => ?_) (fun hg => ?_) | refine OutOK.gate (fun hg => ?_) (fun hg => ?_)) <;> (try (have hg' := hg; simp at hg'))) | refine OutOK.run (by simp [*]; rfl) ?_ | refine AW.ret ?_ | refine AW.skip ?_ | refine AW.exit ?_ | refine fin_r ?_ | refine fin_n ?_ | refine AW.block ?_ | refine blockQ_n ?_ | refine blockQ_r ?_ | refine blockQ_e ?_ | refine blockQ_o rfl ?_)
    simp [Try.f114, hok.out]
    omega
structure Ent where
  kd : Int
  itm : ByteArray
  txt : ByteArray
  deriving Inhabited
def entC (s : Ent) : List PV := [.sc (.int .i64 s.kd), .sc (.string s.itm), .sc (.string s.txt)]
@[simp] theorem entC_eq (s : Ent) : entC s = [.sc (.int .i64 s.kd), .sc (.string s.itm), .sc (.string s.txt)] := rfl
instance entFlat : Flat entC where
  frz _ := rfl
  ok _ := rfl
  nofz _ := rfl
  fl _ := rfl
  inj x y h := by cases x; cases y; simpa using h
abbrev ents (l : List Ent) : List PV := els entC l
@[simp] theorem ents_snoc (l : List Ent) (a : Int) (b c : ByteArray) : ents l ++ [.ag [.sc (.int .i64 a), .sc (.string b), .sc (.string c)]] = ents (l ++ [⟨a, b, c⟩]) := by
  simp [ents, els]
structure Itm where
  nm : ByteArray
  tx : ByteArray
  vd : Bool
  deriving Inhabited
def itmC (s : Itm) : List PV := [.sc (.string s.nm), .sc (.string s.tx), .sc (.bool s.vd)]
@[simp] theorem itmC_eq (s : Itm) : itmC s = [.sc (.string s.nm), .sc (.string s.tx), .sc (.bool s.vd)] := rfl
instance itmFlat : Flat itmC where
  frz _ := rfl
  ok _ := rfl
  nofz _ := rfl
  fl _ := rfl
  inj x y h := by cases x; cases y; simpa using h
abbrev itms (l : List Itm) : List PV := els itmC l
@[simp] theorem itms_set (l : List Itm) (i : Nat) (a b : ByteArray) (c : Bool) : (itms l).set i (.ag [.sc (.string a), .sc (.string b), .sc (.bool c)]) = itms (l.set i ⟨a, b, c⟩) := by
  simp [itms, els, List.map_set]
@[simp] theorem itms_snoc (l : List Itm) (a b : ByteArray) (c : Bool) : itms l ++ [.ag [.sc (.string a), .sc (.string b), .sc (.bool c)]] = itms (l ++ [⟨a, b, c⟩]) := by
  simp [itms, els]
end Go.Proofs.Ytbofobjofngoeaa.EngS


set_option linter.unusedSimpArgs false
set_option linter.unusedVariables false
set_option maxHeartbeats 4000000
set_option maxRecDepth 100000
namespace Go.Proofs.Ytbofobjofngoeaa.EngS
open Go Go.Proofs Go.Eng Go.RowKit
attribute [local irreducible] Go.RowKit.wrap64
structure Edt where
  tm : Int
  ct : Int
  ck : List Int
  it : ByteArray
  tx : ByteArray
  deriving Inhabited
def edtC (f : Bool) (e : Edt) : List PV := [.sc (.int .i64 e.tm), .sc (.int .i64 e.ct), .sl f 1 (ints e.ck), .sc (.string e.it), .sc (.string e.tx)]
@[simp] theorem edtC_eq (f : Bool) (e : Edt) : edtC f e = [.sc (.int .i64 e.tm), .sc (.int .i64 e.ct), .sl f 1 (ints e.ck), .sc (.string e.it), .sc (.string e.tx)] := rfl
abbrev edtD (e : Edt) : D := .g [.sc (.int .i64 e.tm), .sc (.int .i64 e.ct), .sl true 1 (ints e.ck), .sc (.string e.it), .sc (.string e.tx)]
abbrev edtO (e : Edt) : D := .g [.sc (.int .i64 e.tm), .sc (.int .i64 e.ct), .sl false 1 (ints e.ck), .sc (.string e.it), .sc (.string e.tx)]
abbrev edts (f : Bool) (l : List Edt) : List PV := els (edtC f) l
@[simp] theorem edts_frz (f : Bool) (l : List Edt) : PV.frzs (els (edtC f) l) = els (edtC true) l := by
  induction l with
  | nil => rfl
  | cons x xs ih => simp only [els, List.map_cons, PV.frzs, PV.frz, edtC_eq] at ih ⊢; rw [ih]; simp [PV.frzs, PV.frz]
@[simp] theorem edts_coks (f : Bool) (l : List Edt) : PV.coks (els (edtC f) l) = true := by
  induction l with
  | nil => rfl
  | cons x xs ih => simp only [els, List.map_cons, PV.coks, PV.cok, edtC_eq] at ih ⊢; rw [ih]; rfl
@[simp] theorem edts_nofz (l : List Edt) : PV.nofzs (els (edtC false) l) = true := by
  induction l with
  | nil => rfl
  | cons x xs ih => simp only [els, List.map_cons, PV.nofzs, PV.nofz, edtC_eq] at ih ⊢; rw [ih]; simp
@[simp] theorem edts_flat (l : List Edt) : (els (edtC true) l).all PV.flat1 = true := by
  induction l with
  | nil => rfl
  | cons x xs ih => simp only [els, List.map_cons, List.all_cons, edtC_eq] at ih ⊢; rw [ih]; rfl
@[simp] theorem edts_flat' (l : List Edt) : (∀ x ∈ els (edtC true) l, x.flat1 = true) ↔ True := by
  have := edts_flat l
  rw [List.all_eq_true] at this
  exact ⟨fun _ => trivial, fun _ => this⟩
theorem edtC_inj {f : Bool} {x y : Edt} (h : edtC f x = edtC f y) : x = y := by
  cases x; cases y; simpa using h
@[simp] theorem edts_inj (f : Bool) (xs ys : List Edt) : els (edtC f) xs = els (edtC f) ys ↔ xs = ys := by
  constructor
  · intro h
    induction xs generalizing ys with
    | nil => cases ys with
      | nil => rfl
      | cons y ys => simp [els] at h
    | cons x xs ih => cases ys with
      | nil => simp [els] at h
      | cons y ys =>
        simp only [els, List.map_cons, List.cons.injEq, PV.ag.injEq] at h
        rw [edtC_inj h.1, ih ys h.2]
  · rintro rfl; rfl
@[simp] theorem edts_snoc (f : Bool) (l : List Edt) (a b : Int) (c : List Int) (d e : ByteArray) : els (edtC f) l ++ [.ag [.sc (.int .i64 a), .sc (.int .i64 b), .sl f 1 (ints c), .sc (.string d), .sc (.string e)]] = els (edtC f) (l ++ [⟨a, b, c, d, e⟩]) := by
  simp [els]
@[simp] theorem edts_set (f : Bool) (l : List Edt) (i : Nat) (a b : Int) (c : List Int) (d e : ByteArray) : (els (edtC f) l).set i (.ag [.sc (.int .i64 a), .sc (.int .i64 b), .sl f 1 (ints c), .sc (.string d), .sc (.string e)]) = els (edtC f) (l.set i ⟨a, b, c, d, e⟩) := by
  simp [els, List.map_set]
def EdtW (e : Edt) : Prop := e.it.size ≤ 9223372036854775807 ∧ e.tx.size ≤ 9223372036854775807 ∧ e.ck.length ≤ 9223372036854775806
def cmpI (a b : Int) : Int := if a < b then -1 else if b < a then 1 else 0
theorem c_cmp_isNaN_int (a : Int) : ACall Try.prog 141 [int a] [.x] [boo false] := by
  refine ACall.of (N := 6) tok Try.func141 rfl rfl rfl (by simp) ?_
  repeat' (first | with_reducible refine OutOK.done ?_ | refine thenQ_n ?_ | refine thenQ_r ?_ | refine thenQ_e ?_ | refine AW.seq ?_ | refine AW.reg tok (by simp [*]; rfl) ?_ | refine AW.ifB (by simp [*]; rfl) ?_ | refine IfG.t ?_ | refine IfG.f ?_ | ((first | refine IfG.p (fun hg => ?_) (fun hg => ?_) | refine IfG.n (fun hg => ?_) (fun hg => ?_) | refine OutOK.gateP (fun hg => ?_) (fun hg => ?_) | refine OutOK.gateN (fun hg => ?_) (fun hg => ?_) | refine IfG.g (fun hg => ?_) (fun hg => ?_) | refine OutOK.gate (fun hg => ?_) (fun hg => ?_)) <;> (try (have hg' := hg; simp at hg'))) | refine OutOK.run (by simp [*]; rfl) ?_ | refine AW.ret ?_ | refine AW.skip ?_ | refine AW.exit ?_ | refine fin_r ?_ | refine fin_n ?_ | refine AW.block ?_ | refine blockQ_n ?_ | refine blockQ_r ?_ | refine blockQ_e ?_ | refine blockQ_o rfl ?_)
  all_goals (try simp [*, Try.f141])
theorem c_cmp_Compare_int (a b : Int) : ACall Try.prog 120 [int a, int b] [.x, .x] [int (cmpI a b)] := by
  refine ACall.of (N := 20) tok Try.func120 rfl rfl rfl (by simp) ?_
  repeat' (first | with_reducible refine OutOK.done ?_ | refine thenQ_n ?_ | refine thenQ_r ?_ | refine thenQ_e ?_ | refine AW.seq ?_ | refine AW.reg tok (by simp [*]; rfl) ?_ | refine AW.ifB (by simp [*]; rfl) ?_ | refine IfG.t ?_ | refine IfG.f ?_ | ((first | refine IfG.p (fun hg => ?_) (fun hg => ?_) | refine IfG.n (fun hg => ?_) (fun hg => ?_) | refine OutOK.gateP (fun hg => ?_) (fun hg => ?_) | refine OutOK.gateN (fun hg => ?_) (fun hg => ?_) | refine IfG.g (fun hg => ?_) (fun hg => ?_) | refine OutOK.gate (fun hg => ?_) (fun hg => ?_)) <;> (try (have hg' := hg; simp at hg'))) | (refine OutOK.callF [] (by simp [*]; rfl) (by simp [*]; rfl) (by simp [*]; rfl) hb141 (by apply c_cmp_isNaN_int <;> first | assumption | exact Hd.out (by assumption) | omega) ⟨by simp [*], by simp [*], by simp [*], by simp [*], by simp [*]⟩ (by simp [*]) (by simp [*]; rfl) ?_) | refine OutOK.run (by simp [*]; rfl) ?_ | refine AW.ret ?_ | refine AW.skip ?_ | refine AW.exit ?_ | refine fin_r ?_ | refine fin_n ?_ | refine AW.block ?_ | refine blockQ_n ?_ | refine blockQ_r ?_ | refine blockQ_e ?_ | refine blockQ_o rfl ?_)
  all_goals simp [*, Try.f120, cmpI]
  all_goals (try (rw [if_neg (by omega)]))
theorem c_cmp_Or_int (a b : Int) : ACall Try.prog 119 [.v (.sl true 1 (ints [a, b]))] [.x] [int (if a = 0 then b else a)] := by
  refine ACall.of (N := 18) tok Try.func119 rfl rfl rfl (by simp) ?_
  repeat' (first | with_reducible refine OutOK.done ?_ | refine thenQ_n ?_ | refine thenQ_r ?_ | refine thenQ_e ?_ | refine AW.seq ?_ | refine AW.reg tok (by simp [*]; rfl) ?_ | refine AW.ifB (by simp [*]; rfl) ?_ | refine IfG.t ?_ | refine IfG.f ?_ | ((first | refine IfG.p (fun hg => ?_) (fun hg => ?_) | refine IfG.n (fun hg => ?_) (fun hg => ?_) | refine OutOK.gateP (fun hg => ?_) (fun hg => ?_) | refine OutOK.gateN (fun hg => ?_) (fun hg => ?_) | refine IfG.g (fun hg => ?_) (fun hg => ?_) | refine OutOK.gate (fun hg => ?_) (fun hg => ?_)) <;> (try (have hg' := hg; simp at hg'))) | refine OutOK.run (by simp [*]; rfl) ?_ | refine AW.ret ?_ | refine AW.skip ?_ | refine AW.exit ?_ | refine fin_r ?_ | refine fin_n ?_ | refine AW.block ?_ | refine blockQ_n ?_ | refine blockQ_r ?_ | refine blockQ_e ?_ | refine blockQ_o rfl ?_)
  refine AW.loopL (α := Nat) (fun i => i ≤ 2 ∧ (0 < i → a = 0) ∧ (1 < i → b = 0)) (fun i => [(2, .c (.sc (.int .i64 0))), (3, .c (.sc (.int .i64 0))), (6, .c (.sl true 1 (ints [a, b]))), (7, .c (.sc (.int .i64 2))), (8, .c (.sc (.int .i64 (i : Int))))]) (fun _ => []) (fun i => 2 - i) 0 ⟨by omega, by omega, by omega⟩ ⟨by simp, by simp, by simp⟩ ?_
  rintro i ⟨hi, h0, h1⟩
  have hi3 : i = 0 ∨ i = 1 ∨ i = 2 := by omega
  clear hi
  rcases hi3 with rfl | rfl | rfl
  · by_cases ha : a = 0
    · subst ha
      have e1 : wrap64 1 = 1 := by rw [w64 (by omega) (by omega)]
      repeat' (first | with_reducible refine OutOK.done ?_ | refine thenQ_n ?_ | refine thenQ_r ?_ | refine thenQ_e ?_ | refine AW.seq ?_ | refine AW.reg tok (by simp [*]; rfl) ?_ | refine AW.ifB (by simp [*]; rfl) ?_ | refine IfG.t ?_ | refine IfG.f ?_ | ((first | refine IfG.p (fun hg => ?_) (fun hg => ?_) | refine IfG.n (fun hg => ?_) (fun hg => ?_) | refine OutOK.gateP (fun hg => ?_) (fun hg => ?_) | refine OutOK.gateN (fun hg => ?_) (fun hg => ?_) | refine IfG.g (fun hg => ?_) (fun hg => ?_) | refine OutOK.gate (fun hg => ?_) (fun hg => ?_)) <;> (try (have hg' := hg; simp at hg'))) | refine OutOK.run (by simp [*]; rfl) ?_ | refine AW.ret ?_ | refine AW.skip ?_ | refine AW.exit ?_ | refine fin_r ?_ | refine fin_n ?_ | refine AW.block ?_ | refine blockQ_n ?_ | refine blockQ_r ?_ | refine blockQ_e ?_ | refine blockQ_o rfl ?_)
      exact ⟨1, ⟨by omega, fun _ => rfl, fun h => by omega⟩, ⟨by simp, by simp, by simp⟩, by omega⟩
    · repeat' (first | with_reducible refine OutOK.done ?_ | refine thenQ_n ?_ | refine thenQ_r ?_ | refine thenQ_e ?_ | refine AW.seq ?_ | refine AW.reg tok (by simp [*]; rfl) ?_ | refine AW.ifB (by simp [*]; rfl) ?_ | refine IfG.t ?_ | refine IfG.f ?_ | ((first | refine IfG.p (fun hg => ?_) (fun hg => ?_) | refine IfG.n (fun hg => ?_) (fun hg => ?_) | refine OutOK.gateP (fun hg => ?_) (fun hg => ?_) | refine OutOK.gateN (fun hg => ?_) (fun hg => ?_) | refine IfG.g (fun hg => ?_) (fun hg => ?_) | refine OutOK.gate (fun hg => ?_) (fun hg => ?_)) <;> (try (have hg' := hg; simp at hg'))) | refine OutOK.run (by simp [*]; rfl) ?_ | refine AW.ret ?_ | refine AW.skip ?_ | refine AW.exit ?_ | refine fin_r ?_ | refine fin_n ?_ | refine AW.block ?_ | refine blockQ_n ?_ | refine blockQ_r ?_ | refine blockQ_e ?_ | refine blockQ_o rfl ?_)
      simp [Try.f119, ha]
  · have ha := h0 (by omega)
    subst ha
    by_cases hb : b = 0
    · subst hb
      have e1 : wrap64 2 = 2 := by rw [w64 (by omega) (by omega)]
      repeat' (first | with_reducible refine OutOK.done ?_ | refine thenQ_n ?_ | refine thenQ_r ?_ | refine thenQ_e ?_ | refine AW.seq ?_ | refine AW.reg tok (by simp [*]; rfl) ?_ | refine AW.ifB (by simp [*]; rfl) ?_ | refine IfG.t ?_ | refine IfG.f ?_ | ((first | refine IfG.p (fun hg => ?_) (fun hg => ?_) | refine IfG.n (fun hg => ?_) (fun hg => ?_) | refine OutOK.gateP (fun hg => ?_) (fun hg => ?_) | refine OutOK.gateN (fun hg => ?_) (fun hg => ?_) | refine IfG.g (fun hg => ?_) (fun hg => ?_) | refine OutOK.gate (fun hg => ?_) (fun hg => ?_)) <;> (try (have hg' := hg; simp at hg'))) | refine OutOK.run (by simp [*]; rfl) ?_ | refine AW.ret ?_ | refine AW.skip ?_ | refine AW.exit ?_ | refine fin_r ?_ | refine fin_n ?_ | refine AW.block ?_ | refine blockQ_n ?_ | refine blockQ_r ?_ | refine blockQ_e ?_ | refine blockQ_o rfl ?_)
      exact ⟨2, ⟨by omega, fun _ => rfl, fun _ => rfl⟩, ⟨by simp, by simp, by simp⟩, by omega⟩
    · repeat' (first | with_reducible refine OutOK.done ?_ | refine thenQ_n ?_ | refine thenQ_r ?_ | refine thenQ_e ?_ | refine AW.seq ?_ | refine AW.reg tok (by simp [*]; rfl) ?_ | refine AW.ifB (by simp [*]; rfl) ?_ | refine IfG.t ?_ | refine IfG.f ?_ | ((first | refine IfG.p (fun hg => ?_) (fun hg => ?_) | refine IfG.n (fun hg => ?_) (fun hg => ?_) | refine OutOK.gateP (fun hg => ?_) (fun hg => ?_) | refine OutOK.gateN (fun hg => ?_) (fun hg => ?_) | refine IfG.g (fun hg => ?_) (fun hg => ?_) | refine OutOK.gate (fun hg => ?_) (fun hg => ?_)) <;> (try (have hg' := hg; simp at hg'))) | refine OutOK.run (by simp [*]; rfl) ?_ | refine AW.ret ?_ | refine AW.skip ?_ | refine AW.exit ?_ | refine fin_r ?_ | refine fin_n ?_ | refine AW.block ?_ | refine blockQ_n ?_ | refine blockQ_r ?_ | refine blockQ_e ?_ | refine blockQ_o rfl ?_)
      simp [Try.f119]
  · have ha := h0 (by omega)
    have hb := h1 (by omega)
    repeat' (first | with_reducible refine OutOK.done ?_ | refine thenQ_n ?_ | refine thenQ_r ?_ | refine thenQ_e ?_ | refine AW.seq ?_ | refine AW.reg tok (by simp [*]; rfl) ?_ | refine AW.ifB (by simp [*]; rfl) ?_ | refine IfG.t ?_ | refine IfG.f ?_ | ((first | refine IfG.p (fun hg => ?_) (fun hg => ?_) | refine IfG.n (fun hg => ?_) (fun hg => ?_) | refine OutOK.gateP (fun hg => ?_) (fun hg => ?_) | refine OutOK.gateN (fun hg => ?_) (fun hg => ?_) | refine IfG.g (fun hg => ?_) (fun hg => ?_) | refine OutOK.gate (fun hg => ?_) (fun hg => ?_)) <;> (try (have hg' := hg; simp at hg'))) | refine OutOK.run (by simp [*]; rfl) ?_ | refine AW.ret ?_ | refine AW.skip ?_ | refine AW.exit ?_ | refine fin_r ?_ | refine fin_n ?_ | refine AW.block ?_ | refine blockQ_n ?_ | refine blockQ_r ?_ | refine blockQ_e ?_ | refine blockQ_o rfl ?_)
    simp [Try.f119, ha, hb]
def cmpE (a b : Edt) : Int := if cmpI a.tm b.tm = 0 then cmpI a.ct b.ct else cmpI a.tm b.tm
theorem c_impl_compareEdits (a b : Edt) : ACall Try.prog 76 [edtD a, edtD b] [.x, .x] [int (cmpE a b)] := by
  refine ACall.of (N := 17) tok Try.func76 rfl rfl rfl (by simp) ?_
  repeat' (first | with_reducible refine OutOK.done ?_ | refine thenQ_n ?_ | refine thenQ_r ?_ | refine thenQ_e ?_ | refine AW.seq ?_ | refine AW.dreg tok mixed [3, 4, 6, 8]  [(0, false), (2, false), (5, false), (7, false), (1, false), (3, true), (6, true), (8, true), (4, true), (9, false), (10, false), (11, false), (12, false)] (by decide +kernel) rfl (by simp [*]; rfl) ?_ | refine AW.reg tok (by simp [*]; rfl) ?_ | refine AW.ifB (by simp [*]; rfl) ?_ | refine IfG.t ?_ | refine IfG.f ?_ | ((first | refine IfG.p (fun hg => ?_) (fun hg => ?_) | refine IfG.n (fun hg => ?_) (fun hg => ?_) | refine OutOK.gateP (fun hg => ?_) (fun hg => ?_) | refine OutOK.gateN (fun hg => ?_) (fun hg => ?_) | refine IfG.g (fun hg => ?_) (fun hg => ?_) | refine OutOK.gate (fun hg => ?_) (fun hg => ?_)) <;> (try (have hg' := hg; simp at hg'))) | (refine OutOK.callF [] (by simp [*]; rfl) (by simp [*]; rfl) (by simp [*]; rfl) hb119 (by apply c_cmp_Or_int <;> first | assumption | exact Hd.out (by assumption) | omega) ⟨by simp [*], by simp [*], by simp [*], by simp [*], by simp [*]⟩ (by simp [*]) (by simp [*]; rfl) ?_) | (refine OutOK.callF [] (by simp [*]; rfl) (by simp [*]; rfl) (by simp [*]; rfl) hb120 (by apply c_cmp_Compare_int <;> first | assumption | exact Hd.out (by assumption) | omega) ⟨by simp [*], by simp [*], by simp [*], by simp [*], by simp [*]⟩ (by simp [*]) (by simp [*]; rfl) ?_) | refine OutOK.run (by simp [*]; rfl) ?_ | refine AW.ret ?_ | refine AW.skip ?_ | refine AW.exit ?_ | refine fin_r ?_ | refine fin_n ?_ | refine AW.block ?_ | refine blockQ_n ?_ | refine blockQ_r ?_ | refine blockQ_e ?_ | refine blockQ_o rfl ?_)
  simp [Try.f76, cmpE]
end Go.Proofs.Ytbofobjofngoeaa.EngS


set_option linter.unusedSimpArgs false
set_option linter.unusedVariables false
namespace Go.Proofs.Ytbofobjofngoeaa.EngS
open Go Go.Proofs Go.Eng Go.RowKit
structure CellEq (w y x n n1 m m1 : Nat) : Prop where
  e1 : n = y * w + x
  e2 : n1 = n + 1
  e3 : m = n + w
  e4 : m1 = n + w + 1
end Go.Proofs.Ytbofobjofngoeaa.EngS


set_option linter.unusedSimpArgs false
set_option linter.unusedVariables false
namespace Go.Proofs.Ytbofobjofngoeaa.EngS
open Go Go.Proofs Go.Eng Go.RowKit
end Go.Proofs.Ytbofobjofngoeaa.EngS


set_option linter.unusedSimpArgs false
set_option linter.unusedVariables false
namespace Go.Proofs.Ytbofobjofngoeaa.EngS
open Go Go.Proofs Go.Eng Go.RowKit
end Go.Proofs.Ytbofobjofngoeaa.EngS
namespace Go.Proofs.Ytbofobjofngoeaa.EngS
open Go Go.Proofs Go.Eng Go.RowKit
end Go.Proofs.Ytbofobjofngoeaa.EngS


set_option linter.unusedSimpArgs false
set_option linter.unusedVariables false
namespace Go.Proofs.Ytbofobjofngoeaa.EngS
open Go Go.Proofs Go.Eng Go.RowKit
theorem c_slices_Clone_int_int (xs : List Int) (h : xs.length ≤ 1048576) : ACall Try.prog 127 [.v (.sl true 1 (ints xs))] [.x] [.v (.sl false 1 (ints xs))] := by
  have h1 : (xs.length : Int) * 8 ≤ 140737488355328 := by omega
  have h2 : (xs.length : Int) ≤ 4611686018427387904 := by omega
  have h3 : xs.length * 8 ≤ 140737488355328 := by omega
  have h4 : xs.length ≤ 4611686018427387904 := by omega
  refine ACall.of (N := 8) tok Try.func127 rfl rfl rfl (by simp) ?_
  repeat' (first | with_reducible refine OutOK.done ?_ | refine thenQ_n ?_ | refine thenQ_r ?_ | refine thenQ_e ?_ | refine AW.seq ?_ | (refine AW.isNil tok rfl rfl rfl (by simp [*]; rfl) (by simp [*]; done) (by decide) ?_; intro hb hc; cases hb <;> simp at hc) | refine AW.reg tok (by simp [*]; rfl) ?_ | refine AW.ifB (by simp [*]; rfl) ?_ | refine IfG.t ?_ | refine IfG.f ?_ | ((first | refine IfG.p (fun hg => ?_) (fun hg => ?_) | refine IfG.n (fun hg => ?_) (fun hg => ?_) | refine OutOK.gateP (fun hg => ?_) (fun hg => ?_) | refine OutOK.gateN (fun hg => ?_) (fun hg => ?_) | refine IfG.g (fun hg => ?_) (fun hg => ?_) | refine OutOK.gate (fun hg => ?_) (fun hg => ?_)) <;> (try (have hg' := hg; simp at hg'))) | refine OutOK.run (by simp [*]; rfl) ?_ | refine AW.ret ?_ | refine AW.skip ?_ | refine AW.exit ?_ | refine fin_r ?_ | refine fin_n ?_ | refine AW.block ?_ | refine blockQ_n ?_ | refine blockQ_r ?_ | refine blockQ_e ?_ | refine blockQ_o rfl ?_)
  all_goals (try simp [*, Try.f127])
theorem c_spec_l1Most (a b : Int) : ACall Try.prog 161 [int a, int b] [.x, .x] [int (max a b)] := by
  refine ACall.of (N := 10) tok Try.func161 rfl rfl rfl (by simp) ?_
  repeat' (first | with_reducible refine OutOK.done ?_ | refine thenQ_n ?_ | refine thenQ_r ?_ | refine thenQ_e ?_ | refine AW.seq ?_ | refine AW.reg tok (by simp [*]; rfl) ?_ | refine AW.ifB (by simp [*]; rfl) ?_ | refine IfG.t ?_ | refine IfG.f ?_ | ((first | refine IfG.p (fun hg => ?_) (fun hg => ?_) | refine IfG.n (fun hg => ?_) (fun hg => ?_) | refine OutOK.gateP (fun hg => ?_) (fun hg => ?_) | refine OutOK.gateN (fun hg => ?_) (fun hg => ?_) | refine IfG.g (fun hg => ?_) (fun hg => ?_) | refine OutOK.gate (fun hg => ?_) (fun hg => ?_)) <;> (try (have hg' := hg; simp at hg'))) | refine OutOK.run (by simp [*]; rfl) ?_ | refine AW.ret ?_ | refine AW.skip ?_ | refine AW.exit ?_ | refine fin_r ?_ | refine fin_n ?_ | refine AW.block ?_ | refine blockQ_n ?_ | refine blockQ_r ?_ | refine blockQ_e ?_ | refine blockQ_o rfl ?_)
  · have : max a b = a := by omega
    simp [Try.f161, this]
  · have : max a b = b := by omega
    simp [Try.f161, this]
def upTo (k : Int) (n : Nat) : List Int := (List.range n).map fun i : Nat => k + (i : Int)
@[simp] theorem upTo_len (k n) : (upTo k n).length = n := by simp [upTo]
@[simp] theorem upTo_at (k n i) (h : i < (upTo k n).length) : (upTo k n)[i] = k + i := by simp [upTo]
def marked (k : Int) (xs : List Int) (i : Nat) : List Int := (List.range xs.length).map fun j => if j < i then k + j else xs[j]?.getD 0
@[simp] theorem marked_len (k xs i) : (marked k xs i).length = xs.length := by simp [marked]
theorem marked_zero (k xs) : marked k xs 0 = xs := by
  apply List.ext_getElem
  · simp
  · intro j h1 h2; simp [marked, h2]
end Go.Proofs.Ytbofobjofngoeaa.EngS


set_option linter.unusedSimpArgs false
set_option linter.unusedVariables false
set_option maxHeartbeats 4000000
set_option maxRecDepth 100000
namespace Go.Proofs.Ytbofobjofngoeaa.EngS
open Go Go.Proofs Go.Eng Go.RowKit
attribute [local irreducible] Go.RowKit.wrap64
def EdtB (e : Edt) : Prop := e.ck.length ≤ 1048576 ∧ e.it.size ≤ 1048576 ∧ e.tx.size ≤ 1048576
def EdtV (e : Edt) : Prop := e.it.size ≤ 9223372036854775807 ∧ e.tx.size ≤ 9223372036854775807 ∧ e.ck.length ≤ 9223372036854775807
theorem EdtB.w {e : Edt} (h : EdtB e) : EdtW e := ⟨by have := h.2.1; omega, by have := h.2.2; omega, by have := h.1; omega⟩
theorem c_laws_toEdit (e : Edt) (h : EdtB e) : ACall Try.prog 75 [edtD e] [.x] [edtO e] := by
  have ct := c_laws_toIntS e.ck h.1
  clear h
  refine ACall.of (N := 21) tok Try.func75 rfl rfl rfl (by simp) ?_
  repeat' (first | with_reducible refine OutOK.done ?_ | refine thenQ_n ?_ | refine thenQ_r ?_ | refine thenQ_e ?_ | refine AW.seq ?_ | refine AW.reg tok (by simp [*]; rfl) ?_ | refine AW.ifB (by simp [*]; rfl) ?_ | refine IfG.t ?_ | refine IfG.f ?_ | ((first | refine IfG.p (fun hg => ?_) (fun hg => ?_) | refine IfG.n (fun hg => ?_) (fun hg => ?_) | refine OutOK.gateP (fun hg => ?_) (fun hg => ?_) | refine OutOK.gateN (fun hg => ?_) (fun hg => ?_) | refine IfG.g (fun hg => ?_) (fun hg => ?_) | refine OutOK.gate (fun hg => ?_) (fun hg => ?_)) <;> (try (have hg' := hg; simp at hg'))) | (refine OutOK.callF [] (by simp [*]; rfl) (by simp [*]; rfl) (by simp [*]; rfl) hb52 (by apply ct <;> first | assumption | exact Hd.out (by assumption) | omega) ⟨by simp [*], by simp [*], by simp [*], by simp [*], by simp [*]⟩ (by simp [*]) (by simp [*]; rfl) ?_) | refine OutOK.run (by simp [*]; rfl) ?_ | refine AW.ret ?_ | refine AW.skip ?_ | refine AW.exit ?_ | refine fin_r ?_ | refine fin_n ?_ | refine AW.block ?_ | refine blockQ_n ?_ | refine blockQ_r ?_ | refine blockQ_e ?_ | refine blockQ_o rfl ?_)
  all_goals (try simp [*, Try.f75])
def zE : Edt := ⟨0, 0, [], ⟨#[]⟩, ⟨#[]⟩⟩
@[simp] theorem rep_edts (n : Nat) : List.replicate n (PV.ag [.sc (.int .i64 0), .sc (.int .i64 0), .sl false 1 [], .sc (.string ⟨#[]⟩), .sc (.string ⟨#[]⟩)]) = els (edtC false) (List.replicate n zE) := by simp [els, zE]
theorem c_laws_toEditS (xs : List Edt) (h : xs.length ≤ 1048576) (hb : ∀ e ∈ xs, EdtB e) : ACall Try.prog 25 [.v (.sl true 5 (edts true xs))] [.x] [.v (.sl false 5 (edts false xs))] := by
  have h1 : (xs.length : Int) * 72 ≤ 140737488355328 := by omega
  have h2 : (xs.length : Int) ≤ 4611686018427387904 := by omega
  have hb' : Hd _ := hb
  clear hb
  refine ACall.of (N := 23) tok Try.func25 rfl rfl rfl (by simp) ?_
  repeat' (first | with_reducible refine OutOK.done ?_ | refine thenQ_n ?_ | refine thenQ_r ?_ | refine thenQ_e ?_ | refine AW.seq ?_ | refine AW.reg tok (by simp [*]; rfl) ?_ | refine AW.ifB (by simp [*]; rfl) ?_ | refine IfG.t ?_ | refine IfG.f ?_ | ((first | refine IfG.p (fun hg => ?_) (fun hg => ?_) | refine IfG.n (fun hg => ?_) (fun hg => ?_) | refine OutOK.gateP (fun hg => ?_) (fun hg => ?_) | refine OutOK.gateN (fun hg => ?_) (fun hg => ?_) | refine IfG.g (fun hg => ?_) (fun hg => ?_) | refine OutOK.gate (fun hg => ?_) (fun hg => ?_)) <;> (try (have hg' := hg; simp at hg'))) | (refine OutOK.callF [] (by simp [*]; rfl) (by simp [*]; rfl) (by simp [*]; rfl) hb75 (by apply c_laws_toEdit <;> first | assumption | exact Hd.out (by assumption) | ((try clear e1); omega)) ⟨by simp [*], by simp [*], by simp [*], by simp [*], by simp [*]⟩ (by simp [*]) (by simp [*]; rfl) ?_) | refine OutOK.run (by simp [*]; rfl) ?_ | refine AW.ret ?_ | refine AW.skip ?_ | refine AW.exit ?_ | refine fin_r ?_ | refine fin_n ?_ | refine AW.block ?_ | refine blockQ_n ?_ | refine blockQ_r ?_ | refine blockQ_e ?_ | refine blockQ_o rfl ?_)
  refine AW.loopL (fun i => i ≤ xs.length) (fun i => [(0, .c (.sl true 5 (edts true xs))), (3, .rf 7000 []), (4, .c (.sc (.int .i64 (i : Int))))]) (fun i => [(7000, .sv (.sl false 5 (edts false (copied zE xs i))))]) (fun i => xs.length - i) 0 (Nat.zero_le _) ⟨by simp, by simp [copied_zero], by simp⟩ ?_
  intro i hi
  rcases Nat.lt_or_ge i xs.length with hl | hl
  · have e1 : wrap64 ((i : Int) + 1) = (i : Int) + 1 := w64 (by omega) (by omega)
    have ct := c_laws_toEdit xs[i] (hb'.out _ (List.getElem_mem hl))
    have cst : Hd _ := copied_step zE xs i hl
    have cln : (copied zE xs i).length = xs.length := copied_len zE xs i hi
    generalize copied zE xs i = cp at *
    repeat' (first | with_reducible refine OutOK.done ?_ | refine thenQ_n ?_ | refine thenQ_r ?_ | refine thenQ_e ?_ | refine AW.seq ?_ | refine AW.reg tok (by simp [*]; rfl) ?_ | refine AW.ifB (by simp [*]; rfl) ?_ | refine IfG.t ?_ | refine IfG.f ?_ | ((first | refine IfG.p (fun hg => ?_) (fun hg => ?_) | refine IfG.n (fun hg => ?_) (fun hg => ?_) | refine OutOK.gateP (fun hg => ?_) (fun hg => ?_) | refine OutOK.gateN (fun hg => ?_) (fun hg => ?_) | refine IfG.g (fun hg => ?_) (fun hg => ?_) | refine OutOK.gate (fun hg => ?_) (fun hg => ?_)) <;> (try (have hg' := hg; simp at hg'))) | (refine OutOK.callF [] (by simp [*]; rfl) (by simp [*]; rfl) (by simp [*]; rfl) hb75 (by apply ct <;> first | assumption | exact Hd.out (by assumption) | ((try clear e1); omega)) ⟨by simp [*], by simp [*], by simp [*], by simp [*], by simp [*]⟩ (by simp [*]) (by simp [*]; rfl) ?_) | refine OutOK.run (by simp [*]; rfl) ?_ | refine AW.ret ?_ | refine AW.skip ?_ | refine AW.exit ?_ | refine fin_r ?_ | refine fin_n ?_ | refine AW.block ?_ | refine blockQ_n ?_ | refine blockQ_r ?_ | refine blockQ_e ?_ | refine blockQ_o rfl ?_)
    refine ⟨i + 1, by clear e1; omega, ⟨by simp [e1], ?_, by simp⟩, by clear e1; omega⟩
    have := cst.out
    simp [← this]
  · have hn : ¬ i < xs.length := by omega
    have hc := copied_all zE xs i hl
    repeat' (first | with_reducible refine OutOK.done ?_ | refine thenQ_n ?_ | refine thenQ_r ?_ | refine thenQ_e ?_ | refine AW.seq ?_ | refine AW.reg tok (by simp [*]; rfl) ?_ | refine AW.ifB (by simp [*]; rfl) ?_ | refine IfG.t ?_ | refine IfG.f ?_ | ((first | refine IfG.p (fun hg => ?_) (fun hg => ?_) | refine IfG.n (fun hg => ?_) (fun hg => ?_) | refine OutOK.gateP (fun hg => ?_) (fun hg => ?_) | refine OutOK.gateN (fun hg => ?_) (fun hg => ?_) | refine IfG.g (fun hg => ?_) (fun hg => ?_) | refine OutOK.gate (fun hg => ?_) (fun hg => ?_)) <;> (try (have hg' := hg; simp at hg'))) | (refine OutOK.callF [] (by simp [*]; rfl) (by simp [*]; rfl) (by simp [*]; rfl) hb75 (by apply c_laws_toEdit <;> first | assumption | exact Hd.out (by assumption) | ((try clear e1); omega)) ⟨by simp [*], by simp [*], by simp [*], by simp [*], by simp [*]⟩ (by simp [*]) (by simp [*]; rfl) ?_) | refine OutOK.run (by simp [*]; rfl) ?_ | refine AW.ret ?_ | refine AW.skip ?_ | refine AW.exit ?_ | refine fin_r ?_ | refine fin_n ?_ | refine AW.block ?_ | refine blockQ_n ?_ | refine blockQ_r ?_ | refine blockQ_e ?_ | refine blockQ_o rfl ?_)
    simp [Try.f25, hc]
end Go.Proofs.Ytbofobjofngoeaa.EngS


set_option linter.unusedSimpArgs false
set_option linter.unusedVariables false
set_option maxHeartbeats 4000000
set_option maxRecDepth 100000
namespace Go.Proofs.Ytbofobjofngoeaa.EngS
open Go Go.Proofs Go.Eng Go.RowKit
attribute [local irreducible] Go.RowKit.wrap64
def mkE (k n : Nat) : Edt := ⟨k, (k + 1 : Nat), upTo (k + 2 : Nat) n, mkTx (k + 2 + n), mkTx (k + 3 + n)⟩
def mkEs : Nat → List Nat → List Edt
  | _, [] => []
  | k, n :: r => mkE k n :: mkEs (k + 4 + n) r
@[simp] theorem mkEs_len : ∀ (k : Nat) (ns : List Nat), (mkEs k ns).length = ns.length
  | _, [] => rfl
  | k, n :: r => by simp [mkEs, mkEs_len]
def lens (l : List Edt) : List Nat := l.map (·.ck.length)
@[simp] theorem lens_len (l) : (lens l).length = l.length := by simp [lens]
def mkI (k : Nat) (l : List Edt) (i : Nat) : List Edt := mkEs k ((lens l).take i) ++ l.drop i
@[simp] theorem mkI_len (k l i) (h : i ≤ l.length) : (mkI k l i).length = l.length := by simp [mkI]; omega
end Go.Proofs.Ytbofobjofngoeaa.EngS


set_option linter.unusedSimpArgs false
set_option linter.unusedVariables false
set_option maxHeartbeats 4000000
set_option maxRecDepth 100000
namespace Go.Proofs.Ytbofobjofngoeaa.EngS
open Go Go.Proofs Go.Eng Go.RowKit
attribute [local irreducible] Go.RowKit.wrap64
def ckAt (ck : List Int) (t : Int) : Int := ck[t.toNat]?.getD 0
theorem cmpI_zero {a b : Int} : cmpI a b = 0 ↔ a = b := by unfold cmpI; split <;> (try split) <;> omega
theorem cmpI_neg {a b : Int} : cmpI a b < 0 ↔ a < b := by unfold cmpI; split <;> (try split) <;> omega
theorem cmpE_zero {a b : Edt} : cmpE a b = 0 ↔ a.tm = b.tm ∧ a.ct = b.ct := by
  unfold cmpE
  split
  · rename_i h; rw [cmpI_zero] at h ⊢; simp [h]
  · rename_i h; rw [cmpI_zero] at h; constructor
    · intro h2; exact absurd (cmpI_zero.1 h2) h
    · intro h2; exact absurd h2.1 h
theorem cmpE_neg {a b : Edt} : cmpE a b < 0 ↔ a.tm < b.tm ∨ a.tm = b.tm ∧ a.ct < b.ct := by
  unfold cmpE
  split
  · rename_i h; rw [cmpI_zero] at h; rw [cmpI_neg]; omega
  · rename_i h; rw [cmpI_zero] at h; rw [cmpI_neg]; omega
def precE (a b : Edt) : Bool := (!(decide (a.tm = b.tm) && decide (a.ct = b.ct))) && inR 0 ((b.ck.length : Int) - 1) a.tm && decide (a.ct ≤ ckAt b.ck a.tm)
theorem c_impl_Precedes (a b : Edt) (h : b.ck.length ≤ 4611686018427387904) : ACall Try.prog 40 [edtD a, edtD b] [.x, .x] [boo (precE a b)] := by
  have e1 : wrap64 ((b.ck.length : Int) - 1) = (b.ck.length : Int) - 1 := w64 (by omega) (by omega)
  have cc := c_impl_compareEdits a b
  by_cases hz : a.tm = b.tm ∧ a.ct = b.ct
  · rw [cmpE_zero.2 hz] at cc
    have hp : precE a b = false := by simp [precE, hz]
    clear hz
    refine ACall.of (N := 29) tok Try.func40 rfl rfl rfl (by simp) ?_
    repeat' (first | with_reducible refine OutOK.done ?_ | refine thenQ_n ?_ | refine thenQ_r ?_ | refine thenQ_e ?_ | refine AW.seq ?_ | refine AW.dreg tok mixed [1, 8, 9, 10, 17, 21]  [(0, false), (1, true), (2, false), (3, false), (4, false), (5, false), (7, false), (6, false), (8, true), (9, true), (10, true), (11, false), (12, false), (13, false), (14, false), (16, false), (20, false), (15, false), (17, true), (18, false), (19, false), (21, true), (22, false), (23, false), (24, false)] (by decide +kernel) rfl (by simp [*]; rfl) ?_ | refine AW.reg tok (by simp [*]; rfl) ?_ | refine AW.ifB (by simp [*]; rfl) ?_ | refine IfG.t ?_ | refine IfG.f ?_ | ((first | refine IfG.p (fun hg => ?_) (fun hg => ?_) | refine IfG.n (fun hg => ?_) (fun hg => ?_) | refine OutOK.gateP (fun hg => ?_) (fun hg => ?_) | refine OutOK.gateN (fun hg => ?_) (fun hg => ?_) | refine IfG.g (fun hg => ?_) (fun hg => ?_) | refine OutOK.gate (fun hg => ?_) (fun hg => ?_)) <;> (try (have hg' := hg; simp at hg'))) | (refine OutOK.callF [] (by simp [*]; rfl) (by simp [*]; rfl) (by simp [*]; rfl) hb76 (by apply cc <;> first | assumption | exact Hd.out (by assumption) | ((try clear e1); omega)) ⟨by simp [*], by simp [*], by simp [*], by simp [*], by simp [*]⟩ (by simp [*]) (by simp [*]; rfl) ?_) | (refine OutOK.callF [] (by simp [*]; rfl) (by simp [*]; rfl) (by simp [*]; rfl) hb59 (by apply c_impl_within <;> first | assumption | exact Hd.out (by assumption) | ((try clear e1); omega)) ⟨by simp [*], by simp [*], by simp [*], by simp [*], by simp [*]⟩ (by simp [*]) (by simp [*]; rfl) ?_) | refine OutOK.run (by simp [*]; rfl) ?_ | refine AW.ret ?_ | refine AW.skip ?_ | refine AW.exit ?_ | refine fin_r ?_ | refine fin_n ?_ | refine AW.block ?_ | refine blockQ_n ?_ | refine blockQ_r ?_ | refine blockQ_e ?_ | refine blockQ_o rfl ?_)
    simp [Try.f40, hp]
  have hcz : ¬ cmpE a b = 0 := fun e => hz (cmpE_zero.1 e)
  generalize cmpE a b = z at *
  have hk : Hd ((!(decide (a.tm = b.tm) && decide (a.ct = b.ct))) = true) := by simp only [Hd, Bool.not_eq_true', Bool.and_eq_false_iff, decide_eq_false_iff_not]; omega
  clear hz
  cases hR : inR 0 ((b.ck.length : Int) - 1) a.tm with
  | false =>
    have hp : precE a b = false := by simp [precE, hR]
    refine ACall.of (N := 29) tok Try.func40 rfl rfl rfl (by simp) ?_
    repeat' (first | with_reducible refine OutOK.done ?_ | refine thenQ_n ?_ | refine thenQ_r ?_ | refine thenQ_e ?_ | refine AW.seq ?_ | refine AW.dreg tok mixed [1, 8, 9, 10, 17, 21]  [(0, false), (1, true), (2, false), (3, false), (4, false), (5, false), (7, false), (6, false), (8, true), (9, true), (10, true), (11, false), (12, false), (13, false), (14, false), (16, false), (20, false), (15, false), (17, true), (18, false), (19, false), (21, true), (22, false), (23, false), (24, false)] (by decide +kernel) rfl (by simp [*]; rfl) ?_ | refine AW.reg tok (by simp [*]; rfl) ?_ | refine AW.ifB (by simp [*]; rfl) ?_ | refine IfG.t ?_ | refine IfG.f ?_ | ((first | refine IfG.p (fun hg => ?_) (fun hg => ?_) | refine IfG.n (fun hg => ?_) (fun hg => ?_) | refine OutOK.gateP (fun hg => ?_) (fun hg => ?_) | refine OutOK.gateN (fun hg => ?_) (fun hg => ?_) | refine IfG.g (fun hg => ?_) (fun hg => ?_) | refine OutOK.gate (fun hg => ?_) (fun hg => ?_)) <;> (try (have hg' := hg; simp at hg'))) | (refine OutOK.callF [] (by simp [*]; rfl) (by simp [*]; rfl) (by simp [*]; rfl) hb76 (by apply cc <;> first | assumption | exact Hd.out (by assumption) | ((try clear e1); omega)) ⟨by simp [*], by simp [*], by simp [*], by simp [*], by simp [*]⟩ (by simp [*]) (by simp [*]; rfl) ?_) | (refine OutOK.callF [] (by simp [*]; rfl) (by simp [*]; rfl) (by simp [*]; rfl) hb59 (by apply c_impl_within <;> first | assumption | exact Hd.out (by assumption) | ((try clear e1); omega)) ⟨by simp [*], by simp [*], by simp [*], by simp [*], by simp [*]⟩ (by simp [*]) (by simp [*]; rfl) ?_) | refine OutOK.run (by simp [*]; rfl) ?_ | refine AW.ret ?_ | refine AW.skip ?_ | refine AW.exit ?_ | refine fin_r ?_ | refine fin_n ?_ | refine AW.block ?_ | refine blockQ_n ?_ | refine blockQ_r ?_ | refine blockQ_e ?_ | refine blockQ_o rfl ?_)
    all_goals simp [Try.f40, hp]
  | true =>
    obtain ⟨r1, r2⟩ := inR_iff.1 hR
    obtain ⟨n, hn⟩ : ∃ n : Nat, a.tm = (n : Int) := ⟨a.tm.toNat, by omega⟩
    have hnl : n < b.ck.length := by omega
    rw [hn] at hR
    have hp : Hd (precE a b = decide (a.ct ≤ b.ck[n])) := by rw [Hd, precE, hk.out, hn, hR]; simp [ckAt, hnl]
    clear r1 r2
    obtain ⟨tm, ct, ck, it, tx⟩ := a
    simp only at hn cc hp hR
    subst hn
    refine ACall.of (N := 29) tok Try.func40 rfl rfl rfl (by simp) ?_
    repeat' (first | with_reducible refine OutOK.done ?_ | refine thenQ_n ?_ | refine thenQ_r ?_ | refine thenQ_e ?_ | refine AW.seq ?_ | refine AW.dreg tok mixed [1, 8, 9, 10, 17, 21]  [(0, false), (1, true), (2, false), (3, false), (4, false), (5, false), (7, false), (6, false), (8, true), (9, true), (10, true), (11, false), (12, false), (13, false), (14, false), (16, false), (20, false), (15, false), (17, true), (18, false), (19, false), (21, true), (22, false), (23, false), (24, false)] (by decide +kernel) rfl (by simp [*]; rfl) ?_ | refine AW.reg tok (by simp [*]; rfl) ?_ | refine AW.ifB (by simp [*]; rfl) ?_ | refine IfG.t ?_ | refine IfG.f ?_ | ((first | refine IfG.p (fun hg => ?_) (fun hg => ?_) | refine IfG.n (fun hg => ?_) (fun hg => ?_) | refine OutOK.gateP (fun hg => ?_) (fun hg => ?_) | refine OutOK.gateN (fun hg => ?_) (fun hg => ?_) | refine IfG.g (fun hg => ?_) (fun hg => ?_) | refine OutOK.gate (fun hg => ?_) (fun hg => ?_)) <;> (try (have hg' := hg; simp at hg'))) | (refine OutOK.callF [] (by simp [*]; rfl) (by simp [*]; rfl) (by simp [*]; rfl) hb76 (by apply cc <;> first | assumption | exact Hd.out (by assumption) | ((try clear e1); omega)) ⟨by simp [*], by simp [*], by simp [*], by simp [*], by simp [*]⟩ (by simp [*]) (by simp [*]; rfl) ?_) | (refine OutOK.callF [] (by simp [*]; rfl) (by simp [*]; rfl) (by simp [*]; rfl) hb59 (by apply c_impl_within <;> first | assumption | exact Hd.out (by assumption) | ((try clear e1); omega)) ⟨by simp [*], by simp [*], by simp [*], by simp [*], by simp [*]⟩ (by simp [*]) (by simp [*]; rfl) ?_) | refine OutOK.run (by simp [*]; rfl) ?_ | refine AW.ret ?_ | refine AW.skip ?_ | refine AW.exit ?_ | refine fin_r ?_ | refine fin_n ?_ | refine AW.block ?_ | refine blockQ_n ?_ | refine blockQ_r ?_ | refine blockQ_e ?_ | refine blockQ_o rfl ?_)
    all_goals simp [Try.f40, hp.out]
def noGr (a b : List Int) : Bool := (List.range a.length).all fun i => decide (a[i]?.getD 0 ≤ b[i]?.getD 0)
theorem noGr_iff {a b : List Int} : noGr a b = true ↔ ∀ i < a.length, a[i]?.getD 0 ≤ b[i]?.getD 0 := by simp [noGr]
theorem c_impl_noGreater (a b : List Int) (h : a.length ≤ b.length) (hb : b.length ≤ 4611686018427387904) : ACall Try.prog 79 [.v (.sl true 1 (ints a)), .v (.sl true 1 (ints b))] [.x, .x] [boo (noGr a b)] := by
  refine ACall.of (N := 21) tok Try.func79 rfl rfl rfl (by simp) ?_
  repeat' (first | with_reducible refine OutOK.done ?_ | refine thenQ_n ?_ | refine thenQ_r ?_ | refine thenQ_e ?_ | refine AW.seq ?_ | refine AW.reg tok (by simp [*]; rfl) ?_ | refine AW.ifB (by simp [*]; rfl) ?_ | refine IfG.t ?_ | refine IfG.f ?_ | ((first | refine IfG.p (fun hg => ?_) (fun hg => ?_) | refine IfG.n (fun hg => ?_) (fun hg => ?_) | refine OutOK.gateP (fun hg => ?_) (fun hg => ?_) | refine OutOK.gateN (fun hg => ?_) (fun hg => ?_) | refine IfG.g (fun hg => ?_) (fun hg => ?_) | refine OutOK.gate (fun hg => ?_) (fun hg => ?_)) <;> (try (have hg' := hg; simp at hg'))) | refine OutOK.run (by simp [*]; rfl) ?_ | refine AW.ret ?_ | refine AW.skip ?_ | refine AW.exit ?_ | refine fin_r ?_ | refine fin_n ?_ | refine AW.block ?_ | refine blockQ_n ?_ | refine blockQ_r ?_ | refine blockQ_e ?_ | refine blockQ_o rfl ?_)
  refine AW.loopL (α := Nat) (fun i => i ≤ a.length ∧ Hd (∀ j < i, a[j]?.getD 0 ≤ b[j]?.getD 0)) (fun i => [(1, .c (.sl true 1 (ints b))), (7, .c (.sl true 1 (ints a))), (8, .c (.sc (.int .i64 (a.length : Int)))), (9, .c (.sc (.int .i64 (i : Int))))]) (fun _ => []) (fun i => a.length - i) 0 ⟨Nat.zero_le _, fun j hj => by omega⟩ ⟨by simp, by simp, by simp⟩ ?_
  rintro i ⟨hi, hs⟩
  rcases Nat.lt_or_ge i a.length with hl | hl
  · have e1 : wrap64 ((i : Int) + 1) = ((i + 1 : Nat) : Int) := by rw [w64 (by omega) (by omega)]; omega
    have hlb : i < b.length := by omega
    by_cases hc : b[i] < a[i]
    · have hn : noGr a b = false := by
        rw [Bool.eq_false_iff]; intro ht
        have := noGr_iff.1 ht i hl
        simp [hl, hlb] at this; omega
      repeat' (first | with_reducible refine OutOK.done ?_ | refine thenQ_n ?_ | refine thenQ_r ?_ | refine thenQ_e ?_ | refine AW.seq ?_ | refine AW.reg tok (by simp [*]; rfl) ?_ | refine AW.ifB (by simp [*]; rfl) ?_ | refine IfG.t ?_ | refine IfG.f ?_ | ((first | refine IfG.p (fun hg => ?_) (fun hg => ?_) | refine IfG.n (fun hg => ?_) (fun hg => ?_) | refine OutOK.gateP (fun hg => ?_) (fun hg => ?_) | refine OutOK.gateN (fun hg => ?_) (fun hg => ?_) | refine IfG.g (fun hg => ?_) (fun hg => ?_) | refine OutOK.gate (fun hg => ?_) (fun hg => ?_)) <;> (try (have hg' := hg; simp at hg'))) | refine OutOK.run (by simp [*]; rfl) ?_ | refine AW.ret ?_ | refine AW.skip ?_ | refine AW.exit ?_ | refine fin_r ?_ | refine fin_n ?_ | refine AW.block ?_ | refine blockQ_n ?_ | refine blockQ_r ?_ | refine blockQ_e ?_ | refine blockQ_o rfl ?_)
      simp [Try.f79, hn]
    · have hs2 : Hd (∀ j < i + 1, a[j]?.getD 0 ≤ b[j]?.getD 0) := by
        intro j hj
        rcases Nat.lt_succ_iff_lt_or_eq.1 hj with h1 | rfl
        · exact hs.out j h1
        · simp [hl, hlb]; omega
      repeat' (first | with_reducible refine OutOK.done ?_ | refine thenQ_n ?_ | refine thenQ_r ?_ | refine thenQ_e ?_ | refine AW.seq ?_ | refine AW.reg tok (by simp [*]; rfl) ?_ | refine AW.ifB (by simp [*]; rfl) ?_ | refine IfG.t ?_ | refine IfG.f ?_ | ((first | refine IfG.p (fun hg => ?_) (fun hg => ?_) | refine IfG.n (fun hg => ?_) (fun hg => ?_) | refine OutOK.gateP (fun hg => ?_) (fun hg => ?_) | refine OutOK.gateN (fun hg => ?_) (fun hg => ?_) | refine IfG.g (fun hg => ?_) (fun hg => ?_) | refine OutOK.gate (fun hg => ?_) (fun hg => ?_)) <;> (try (have hg' := hg; simp at hg'))) | refine OutOK.run (by simp [*]; rfl) ?_ | refine AW.ret ?_ | refine AW.skip ?_ | refine AW.exit ?_ | refine fin_r ?_ | refine fin_n ?_ | refine AW.block ?_ | refine blockQ_n ?_ | refine blockQ_r ?_ | refine blockQ_e ?_ | refine blockQ_o rfl ?_)
      exact ⟨i + 1, ⟨hl, hs2⟩, ⟨by simp, by simp, by simp⟩, by ((try clear e1); omega)⟩
  · have hii : i = a.length := by omega
    subst hii
    have hn : noGr a b = true := noGr_iff.2 hs.out
    repeat' (first | with_reducible refine OutOK.done ?_ | refine thenQ_n ?_ | refine thenQ_r ?_ | refine thenQ_e ?_ | refine AW.seq ?_ | refine AW.reg tok (by simp [*]; rfl) ?_ | refine AW.ifB (by simp [*]; rfl) ?_ | refine IfG.t ?_ | refine IfG.f ?_ | ((first | refine IfG.p (fun hg => ?_) (fun hg => ?_) | refine IfG.n (fun hg => ?_) (fun hg => ?_) | refine OutOK.gateP (fun hg => ?_) (fun hg => ?_) | refine OutOK.gateN (fun hg => ?_) (fun hg => ?_) | refine IfG.g (fun hg => ?_) (fun hg => ?_) | refine OutOK.gate (fun hg => ?_) (fun hg => ?_)) <;> (try (have hg' := hg; simp at hg'))) | refine OutOK.run (by simp [*]; rfl) ?_ | refine AW.ret ?_ | refine AW.skip ?_ | refine AW.exit ?_ | refine fin_r ?_ | refine fin_n ?_ | refine AW.block ?_ | refine blockQ_n ?_ | refine blockQ_r ?_ | refine blockQ_e ?_ | refine blockQ_o rfl ?_)
    simp [Try.f79, hn]
def keyE (t n : Int) (e : Edt) : Bool := decide (e.tm = t) && decide (e.ct = n)
def fndE (l : List Edt) (t n : Int) : Int := idx (keyE t n) l
theorem c_spec_l22Find (l : List Edt) (t n : Int) (h : l.length ≤ 9223372036854775806) : ACall Try.prog 89 [.v (.sl true 5 (edts true l)), int t, int n] [.x, .x, .x] [int (fndE l t n)] := by
  refine ACall.of (N := 31) tok Try.func89 rfl rfl rfl (by simp) ?_
  repeat' (first | with_reducible refine OutOK.done ?_ | refine thenQ_n ?_ | refine thenQ_r ?_ | refine thenQ_e ?_ | refine AW.seq ?_ | refine AW.reg tok (by simp [*]; rfl) ?_ | refine AW.ifB (by simp [*]; rfl) ?_ | refine IfG.t ?_ | refine IfG.f ?_ | ((first | refine IfG.p (fun hg => ?_) (fun hg => ?_) | refine IfG.n (fun hg => ?_) (fun hg => ?_) | refine OutOK.gateP (fun hg => ?_) (fun hg => ?_) | refine OutOK.gateN (fun hg => ?_) (fun hg => ?_) | refine IfG.g (fun hg => ?_) (fun hg => ?_) | refine OutOK.gate (fun hg => ?_) (fun hg => ?_)) <;> (try (have hg' := hg; simp at hg'))) | refine OutOK.run (by simp [*]; rfl) ?_ | refine AW.ret ?_ | refine AW.skip ?_ | refine AW.exit ?_ | refine fin_r ?_ | refine fin_n ?_ | refine AW.block ?_ | refine blockQ_n ?_ | refine blockQ_r ?_ | refine blockQ_e ?_ | refine blockQ_o rfl ?_)
  refine AW.loopL (fun i => i ≤ l.length ∧ Hd ((l.take i).any (keyE t n) = false)) (fun i => [(0, .c (.sl true 5 (edts true l))), (1, .c (.sc (.int .i64 t))), (2, .c (.sc (.int .i64 n))), (7, .c (.sc (.int .i64 (i : Int))))]) (fun _ => []) (fun i => l.length - i) 0 ⟨Nat.zero_le _, by simp [Hd]⟩ ⟨by simp, by simp, by simp⟩ ?_
  rintro i ⟨hi, hs⟩
  rcases Nat.lt_or_ge i l.length with hl | hl
  · have e1 : wrap64 ((i : Int) + 1) = ((i + 1 : Nat) : Int) := by rw [w64 (by omega) (by omega)]; omega
    by_cases h1 : l[i].tm = t
    · by_cases h2 : l[i].ct = n
      · have hf : fndE l t n = (i : Int) := idx_at hl hs.out (by simp [keyE, h1, h2])
        repeat' (first | with_reducible refine OutOK.done ?_ | refine thenQ_n ?_ | refine thenQ_r ?_ | refine thenQ_e ?_ | refine AW.seq ?_ | refine AW.reg tok (by simp [*]; rfl) ?_ | refine AW.ifB (by simp [*]; rfl) ?_ | refine IfG.t ?_ | refine IfG.f ?_ | ((first | refine IfG.p (fun hg => ?_) (fun hg => ?_) | refine IfG.n (fun hg => ?_) (fun hg => ?_) | refine OutOK.gateP (fun hg => ?_) (fun hg => ?_) | refine OutOK.gateN (fun hg => ?_) (fun hg => ?_) | refine IfG.g (fun hg => ?_) (fun hg => ?_) | refine OutOK.gate (fun hg => ?_) (fun hg => ?_)) <;> (try (have hg' := hg; simp at hg'))) | refine OutOK.run (by simp [*]; rfl) ?_ | refine AW.ret ?_ | refine AW.skip ?_ | refine AW.exit ?_ | refine fin_r ?_ | refine fin_n ?_ | refine AW.block ?_ | refine blockQ_n ?_ | refine blockQ_r ?_ | refine blockQ_e ?_ | refine blockQ_o rfl ?_)
        simp [Try.f89, hf]
      · have hs2 : Hd ((l.take (i + 1)).any (keyE t n) = false) := any_more hl hs.out (by simp [keyE, h2])
        repeat' (first | with_reducible refine OutOK.done ?_ | refine thenQ_n ?_ | refine thenQ_r ?_ | refine thenQ_e ?_ | refine AW.seq ?_ | refine AW.reg tok (by simp [*]; rfl) ?_ | refine AW.ifB (by simp [*]; rfl) ?_ | refine IfG.t ?_ | refine IfG.f ?_ | ((first | refine IfG.p (fun hg => ?_) (fun hg => ?_) | refine IfG.n (fun hg => ?_) (fun hg => ?_) | refine OutOK.gateP (fun hg => ?_) (fun hg => ?_) | refine OutOK.gateN (fun hg => ?_) (fun hg => ?_) | refine IfG.g (fun hg => ?_) (fun hg => ?_) | refine OutOK.gate (fun hg => ?_) (fun hg => ?_)) <;> (try (have hg' := hg; simp at hg'))) | refine OutOK.run (by simp [*]; rfl) ?_ | refine AW.ret ?_ | refine AW.skip ?_ | refine AW.exit ?_ | refine fin_r ?_ | refine fin_n ?_ | refine AW.block ?_ | refine blockQ_n ?_ | refine blockQ_r ?_ | refine blockQ_e ?_ | refine blockQ_o rfl ?_)
        exact ⟨i + 1, ⟨hl, hs2⟩, ⟨by simp, by simp, by simp⟩, by ((try clear e1); omega)⟩
    · have hs2 : Hd ((l.take (i + 1)).any (keyE t n) = false) := any_more hl hs.out (by simp [keyE, h1])
      repeat' (first | with_reducible refine OutOK.done ?_ | refine thenQ_n ?_ | refine thenQ_r ?_ | refine thenQ_e ?_ | refine AW.seq ?_ | refine AW.reg tok (by simp [*]; rfl) ?_ | refine AW.ifB (by simp [*]; rfl) ?_ | refine IfG.t ?_ | refine IfG.f ?_ | ((first | refine IfG.p (fun hg => ?_) (fun hg => ?_) | refine IfG.n (fun hg => ?_) (fun hg => ?_) | refine OutOK.gateP (fun hg => ?_) (fun hg => ?_) | refine OutOK.gateN (fun hg => ?_) (fun hg => ?_) | refine IfG.g (fun hg => ?_) (fun hg => ?_) | refine OutOK.gate (fun hg => ?_) (fun hg => ?_)) <;> (try (have hg' := hg; simp at hg'))) | refine OutOK.run (by simp [*]; rfl) ?_ | refine AW.ret ?_ | refine AW.skip ?_ | refine AW.exit ?_ | refine fin_r ?_ | refine fin_n ?_ | refine AW.block ?_ | refine blockQ_n ?_ | refine blockQ_r ?_ | refine blockQ_e ?_ | refine blockQ_o rfl ?_)
      exact ⟨i + 1, ⟨hl, hs2⟩, ⟨by simp, by simp, by simp⟩, by ((try clear e1); omega)⟩
  · have hf : fndE l t n = -1 := idx_none (any_end hl hs.out)
    have hn : ¬ i < l.length := by omega
    repeat' (first | with_reducible refine OutOK.done ?_ | refine thenQ_n ?_ | refine thenQ_r ?_ | refine thenQ_e ?_ | refine AW.seq ?_ | refine AW.reg tok (by simp [*]; rfl) ?_ | refine AW.ifB (by simp [*]; rfl) ?_ | refine IfG.t ?_ | refine IfG.f ?_ | ((first | refine IfG.p (fun hg => ?_) (fun hg => ?_) | refine IfG.n (fun hg => ?_) (fun hg => ?_) | refine OutOK.gateP (fun hg => ?_) (fun hg => ?_) | refine OutOK.gateN (fun hg => ?_) (fun hg => ?_) | refine IfG.g (fun hg => ?_) (fun hg => ?_) | refine OutOK.gate (fun hg => ?_) (fun hg => ?_)) <;> (try (have hg' := hg; simp at hg'))) | refine OutOK.run (by simp [*]; rfl) ?_ | refine AW.ret ?_ | refine AW.skip ?_ | refine AW.exit ?_ | refine fin_r ?_ | refine fin_n ?_ | refine AW.block ?_ | refine blockQ_n ?_ | refine blockQ_r ?_ | refine blockQ_e ?_ | refine blockQ_o rfl ?_)
    simp [Try.f89, hf]
def fldE (e : Edt) (n : Int) : Bool := inR 0 (n - 1) e.tm && decide ((e.ck.length : Int) = n) && decide (ckAt e.ck e.tm = e.ct) && nameOK e.it && textOK e.tx
theorem c_spec_l22Fields (e : Edt) (n : Int) (hW : EdtW e) (h1 : 1 ≤ n) (h3 : n ≤ 3) : ACall Try.prog 117 [edtD e, int n] [.x, .x] [boo (fldE e n)] := by
  obtain ⟨w1, w2, w3⟩ := hW
  have e1 : wrap64 (n - 1) = n - 1 := w64 (by omega) (by omega)
  cases hR : inR 0 (n - 1) e.tm with
  | false =>
    have hp : fldE e n = false := by simp [fldE, hR]
    refine ACall.of (N := 38) tok Try.func117 rfl rfl rfl (by simp) ?_
    repeat' (first | with_reducible refine OutOK.done ?_ | refine thenQ_n ?_ | refine thenQ_r ?_ | refine thenQ_e ?_ | refine AW.seq ?_ | refine AW.dreg tok mixed [16, 20]  [(0, false), (2, false), (3, false), (1, false), (4, false), (5, false), (6, false), (9, false), (7, false), (8, false), (10, false), (11, false), (12, false), (13, false), (15, false), (19, false), (14, false), (16, true), (17, false), (18, false), (20, true), (21, false), (22, false), (23, false), (24, false), (25, false), (26, false), (27, false), (28, false), (29, false), (30, false), (31, false), (32, false), (33, false)] (by decide +kernel) rfl (by simp [*]; rfl) ?_ | refine AW.reg tok (by simp [*]; rfl) ?_ | refine AW.ifB (by simp [*]; rfl) ?_ | refine IfG.t ?_ | refine IfG.f ?_ | ((first | refine IfG.p (fun hg => ?_) (fun hg => ?_) | refine IfG.n (fun hg => ?_) (fun hg => ?_) | refine OutOK.gateP (fun hg => ?_) (fun hg => ?_) | refine OutOK.gateN (fun hg => ?_) (fun hg => ?_) | refine IfG.g (fun hg => ?_) (fun hg => ?_) | refine OutOK.gate (fun hg => ?_) (fun hg => ?_)) <;> (try (have hg' := hg; simp at hg'))) | (refine OutOK.callF [] (by simp [*]; rfl) (by simp [*]; rfl) (by simp [*]; rfl) hb64 (by apply c_spec_l1In <;> first | assumption | exact Hd.out (by assumption) | ((try clear e1); omega)) ⟨by simp [*], by simp [*], by simp [*], by simp [*], by simp [*]⟩ (by simp [*]) (by simp [*]; rfl) ?_) | (refine OutOK.callF [] (by simp [*]; rfl) (by simp [*]; rfl) (by simp [*]; rfl) hb113 (by apply c_spec_l7Name <;> first | assumption | exact Hd.out (by assumption) | ((try clear e1); omega)) ⟨by simp [*], by simp [*], by simp [*], by simp [*], by simp [*]⟩ (by simp [*]) (by simp [*]; rfl) ?_) | (refine OutOK.callF [] (by simp [*]; rfl) (by simp [*]; rfl) (by simp [*]; rfl) hb114 (by apply c_spec_l21Text <;> first | assumption | exact Hd.out (by assumption) | ((try clear e1); omega)) ⟨by simp [*], by simp [*], by simp [*], by simp [*], by simp [*]⟩ (by simp [*]) (by simp [*]; rfl) ?_) | refine OutOK.run (by simp [*]; rfl) ?_ | refine AW.ret ?_ | refine AW.skip ?_ | refine AW.exit ?_ | refine fin_r ?_ | refine fin_n ?_ | refine AW.block ?_ | refine blockQ_n ?_ | refine blockQ_r ?_ | refine blockQ_e ?_ | refine blockQ_o rfl ?_)
    all_goals simp [Try.f117, hp]
  | true =>
    by_cases hl : (e.ck.length : Int) = n
    · obtain ⟨r1, r2⟩ := inR_iff.1 hR
      obtain ⟨k, hk⟩ : ∃ k : Nat, e.tm = (k : Int) := ⟨e.tm.toNat, by omega⟩
      have hkl : k < e.ck.length := by omega
      rw [hk] at hR
      have hp : Hd (fldE e n = (decide (e.ck[k] = e.ct) && nameOK e.it && textOK e.tx)) := by rw [Hd, fldE, hk, hR]; simp [ckAt, hkl, hl]
      subst hl
      clear r1 r2
      refine ACall.of (N := 38) tok Try.func117 rfl rfl rfl (by simp) ?_
      repeat' (first | with_reducible refine OutOK.done ?_ | refine thenQ_n ?_ | refine thenQ_r ?_ | refine thenQ_e ?_ | refine AW.seq ?_ | refine AW.dreg tok mixed [16, 20]  [(0, false), (2, false), (3, false), (1, false), (4, false), (5, false), (6, false), (9, false), (7, false), (8, false), (10, false), (11, false), (12, false), (13, false), (15, false), (19, false), (14, false), (16, true), (17, false), (18, false), (20, true), (21, false), (22, false), (23, false), (24, false), (25, false), (26, false), (27, false), (28, false), (29, false), (30, false), (31, false), (32, false), (33, false)] (by decide +kernel) rfl (by simp [*]; rfl) ?_ | refine AW.reg tok (by simp [*]; rfl) ?_ | refine AW.ifB (by simp [*]; rfl) ?_ | refine IfG.t ?_ | refine IfG.f ?_ | ((first | refine IfG.p (fun hg => ?_) (fun hg => ?_) | refine IfG.n (fun hg => ?_) (fun hg => ?_) | refine OutOK.gateP (fun hg => ?_) (fun hg => ?_) | refine OutOK.gateN (fun hg => ?_) (fun hg => ?_) | refine IfG.g (fun hg => ?_) (fun hg => ?_) | refine OutOK.gate (fun hg => ?_) (fun hg => ?_)) <;> (try (have hg' := hg; simp at hg'))) | (refine OutOK.callF [] (by simp [*]; rfl) (by simp [*]; rfl) (by simp [*]; rfl) hb64 (by apply c_spec_l1In <;> first | assumption | exact Hd.out (by assumption) | ((try clear e1); omega)) ⟨by simp [*], by simp [*], by simp [*], by simp [*], by simp [*]⟩ (by simp [*]) (by simp [*]; rfl) ?_) | (refine OutOK.callF [] (by simp [*]; rfl) (by simp [*]; rfl) (by simp [*]; rfl) hb113 (by apply c_spec_l7Name <;> first | assumption | exact Hd.out (by assumption) | ((try clear e1); omega)) ⟨by simp [*], by simp [*], by simp [*], by simp [*], by simp [*]⟩ (by simp [*]) (by simp [*]; rfl) ?_) | (refine OutOK.callF [] (by simp [*]; rfl) (by simp [*]; rfl) (by simp [*]; rfl) hb114 (by apply c_spec_l21Text <;> first | assumption | exact Hd.out (by assumption) | ((try clear e1); omega)) ⟨by simp [*], by simp [*], by simp [*], by simp [*], by simp [*]⟩ (by simp [*]) (by simp [*]; rfl) ?_) | refine OutOK.run (by simp [*]; rfl) ?_ | refine AW.ret ?_ | refine AW.skip ?_ | refine AW.exit ?_ | refine fin_r ?_ | refine fin_n ?_ | refine AW.block ?_ | refine blockQ_n ?_ | refine blockQ_r ?_ | refine blockQ_e ?_ | refine blockQ_o rfl ?_)
      all_goals simp [Try.f117, hp.out, *]
    · have hp : fldE e n = false := by simp [fldE, hl]
      refine ACall.of (N := 38) tok Try.func117 rfl rfl rfl (by simp) ?_
      repeat' (first | with_reducible refine OutOK.done ?_ | refine thenQ_n ?_ | refine thenQ_r ?_ | refine thenQ_e ?_ | refine AW.seq ?_ | refine AW.dreg tok mixed [16, 20]  [(0, false), (2, false), (3, false), (1, false), (4, false), (5, false), (6, false), (9, false), (7, false), (8, false), (10, false), (11, false), (12, false), (13, false), (15, false), (19, false), (14, false), (16, true), (17, false), (18, false), (20, true), (21, false), (22, false), (23, false), (24, false), (25, false), (26, false), (27, false), (28, false), (29, false), (30, false), (31, false), (32, false), (33, false)] (by decide +kernel) rfl (by simp [*]; rfl) ?_ | refine AW.reg tok (by simp [*]; rfl) ?_ | refine AW.ifB (by simp [*]; rfl) ?_ | refine IfG.t ?_ | refine IfG.f ?_ | ((first | refine IfG.p (fun hg => ?_) (fun hg => ?_) | refine IfG.n (fun hg => ?_) (fun hg => ?_) | refine OutOK.gateP (fun hg => ?_) (fun hg => ?_) | refine OutOK.gateN (fun hg => ?_) (fun hg => ?_) | refine IfG.g (fun hg => ?_) (fun hg => ?_) | refine OutOK.gate (fun hg => ?_) (fun hg => ?_)) <;> (try (have hg' := hg; simp at hg'))) | (refine OutOK.callF [] (by simp [*]; rfl) (by simp [*]; rfl) (by simp [*]; rfl) hb64 (by apply c_spec_l1In <;> first | assumption | exact Hd.out (by assumption) | ((try clear e1); omega)) ⟨by simp [*], by simp [*], by simp [*], by simp [*], by simp [*]⟩ (by simp [*]) (by simp [*]; rfl) ?_) | (refine OutOK.callF [] (by simp [*]; rfl) (by simp [*]; rfl) (by simp [*]; rfl) hb113 (by apply c_spec_l7Name <;> first | assumption | exact Hd.out (by assumption) | ((try clear e1); omega)) ⟨by simp [*], by simp [*], by simp [*], by simp [*], by simp [*]⟩ (by simp [*]) (by simp [*]; rfl) ?_) | (refine OutOK.callF [] (by simp [*]; rfl) (by simp [*]; rfl) (by simp [*]; rfl) hb114 (by apply c_spec_l21Text <;> first | assumption | exact Hd.out (by assumption) | ((try clear e1); omega)) ⟨by simp [*], by simp [*], by simp [*], by simp [*], by simp [*]⟩ (by simp [*]) (by simp [*]; rfl) ?_) | refine OutOK.run (by simp [*]; rfl) ?_ | refine AW.ret ?_ | refine AW.skip ?_ | refine AW.exit ?_ | refine fin_r ?_ | refine fin_n ?_ | refine AW.block ?_ | refine blockQ_n ?_ | refine blockQ_r ?_ | refine blockQ_e ?_ | refine blockQ_o rfl ?_)
      all_goals simp [Try.f117, hp]
end Go.Proofs.Ytbofobjofngoeaa.EngS


set_option linter.unusedSimpArgs false
set_option linter.unusedVariables false
namespace Go.Eng
open Go.RowKit
def cStep (c : Code) (n : Nat) : Code :=
  match c, n with
  | .seq a _, 1 => a
  | .seq _ b, 2 => b
  | .cond _ a _, 3 => a
  | .cond _ _ b, 4 => b
  | .block _ b, 5 => b
  | .scope b, 6 => b
  | .loop b, 7 => b
  | c, _ => c
def cAt (f : Func) (l : List Nat) : Code := l.foldl cStep (f.body.getD .skip)
end Go.Eng

set_option linter.unusedSimpArgs false
set_option linter.unusedVariables false
set_option maxHeartbeats 4000000
set_option maxRecDepth 100000
namespace Go.Proofs.Ytbofobjofngoeaa.EngS
open Go Go.Proofs Go.Eng Go.RowKit
attribute [local irreducible] Go.RowKit.wrap64
theorem idx_cases {α : Type} (p : α → Bool) (xs : List α) : idx p xs < 0 ∨ ∃ k : Nat, idx p xs = (k : Int) ∧ k < xs.length := by
  unfold idx
  cases h : xs.findIdx? p with
  | none => left; simp
  | some k =>
    right
    refine ⟨k, by simp, ?_⟩
    rw [List.findIdx?_eq_some_iff_getElem] at h
    exact h.1
end Go.Proofs.Ytbofobjofngoeaa.EngS

