-- Written by a program of this session's for this claim. Lean checks it.
import Derived.Test.YtlphkfkcfomlbaaZFnExactApplyStepQx0
import Derived.Test.YtlphkfkcfomlbaaZFnExactApplyStepB1
namespace Go.Proofs.Ytlphkfkcfomlbaa.Q
open Go.RowKit Go.Proofs.YtlphkfkcfomlbaaW.PrintWords Go.Proofs.YtlphkfkcfomlbaaW.PrintLast Go.Proofs.YtlphkfkcfomlbaaW.PrintMore
attribute [local go_sem] max2_int min2_int max_two min_two max_three min_three max_four min_four   -- for this text's walks alone
set_option linter.unusedVariables false
set_option linter.unusedSimpArgs false
section
/-! ### impl_IsValidSamples: function 33 -/
mutual
def impl_IsValidSamples.l0 : Nat → List (S71) → List Int → List (S71) → Int → Int → Option (Bool)
 | 0, _, _, _, _, _ => none
 | k + 1, x0, x3, x15, x16, x17 => if x17 < x16 then (if 0 ≤ x17 then (if x17 < (x15.length : Int) then (if ((rd_T71 x15 x17).f0) = (wrap64 (x17 + 1)) then ((impl_within.f ((rd_T71 x15 x17).f1) 0 x17).bind fun t106 => (if t106 = true then ((impl_isNumber.f ((rd_T71 x15 x17).f2)).bind fun t107 => (if t107 = true then ((impl_within.f ((rd_T71 x15 x17).f3) 1 500).bind fun t108 => (if t108 = true then ((impl_isName.f k ((rd_T71 x15 x17).f7)).bind fun t109 => (impl_IsValidSamples.j1 k x0 x3 x15 x16 x17 (!t109) ((rd_T71 x15 x17).f0) ((rd_T71 x15 x17).f1) ((rd_T71 x15 x17).f2) ((rd_T71 x15 x17).f3) ((rd_T71 x15 x17).f4) ((rd_T71 x15 x17).f5) ((rd_T71 x15 x17).f6) ((rd_T71 x15 x17).f7))) else (impl_IsValidSamples.j1 k x0 x3 x15 x16 x17 true ((rd_T71 x15 x17).f0) ((rd_T71 x15 x17).f1) ((rd_T71 x15 x17).f2) ((rd_T71 x15 x17).f3) ((rd_T71 x15 x17).f4) ((rd_T71 x15 x17).f5) ((rd_T71 x15 x17).f6) ((rd_T71 x15 x17).f7)))) else (impl_IsValidSamples.j1 k x0 x3 x15 x16 x17 true ((rd_T71 x15 x17).f0) ((rd_T71 x15 x17).f1) ((rd_T71 x15 x17).f2) ((rd_T71 x15 x17).f3) ((rd_T71 x15 x17).f4) ((rd_T71 x15 x17).f5) ((rd_T71 x15 x17).f6) ((rd_T71 x15 x17).f7)))) else (impl_IsValidSamples.j1 k x0 x3 x15 x16 x17 true ((rd_T71 x15 x17).f0) ((rd_T71 x15 x17).f1) ((rd_T71 x15 x17).f2) ((rd_T71 x15 x17).f3) ((rd_T71 x15 x17).f4) ((rd_T71 x15 x17).f5) ((rd_T71 x15 x17).f6) ((rd_T71 x15 x17).f7)))) else (impl_IsValidSamples.j1 k x0 x3 x15 x16 x17 true ((rd_T71 x15 x17).f0) ((rd_T71 x15 x17).f1) ((rd_T71 x15 x17).f2) ((rd_T71 x15 x17).f3) ((rd_T71 x15 x17).f4) ((rd_T71 x15 x17).f5) ((rd_T71 x15 x17).f6) ((rd_T71 x15 x17).f7))) else (none)) else (none)) else (impl_IsValidSamples.l1 k x3 x0 (x0.length : Int) 0)
def impl_IsValidSamples.j1 : Nat → List (S71) → List Int → List (S71) → Int → Int → Bool → Int → Int → Int → Int → Int → Int → Int → ByteArray → Option (Bool)
 | 0, _, _, _, _, _, _, _, _, _, _, _, _, _, _ => none
 | k + 1, x0, x3, x15, x16, x17, x51, x106000, x106001, x106002, x106003, x106004, x106005, x106006, x106007 => if x51 = true then (some false) else ((impl_within.f x106004 0 x106003).bind fun t110 => (if t110 = true then ((impl_within.f x106005 0 x106003).bind fun t111 => (if t111 = true then ((impl_within.f x106006 0 x106003).bind fun t112 => (if t112 = true then (impl_IsValidSamples.j2 k x0 x3 x15 x16 x17 ((wrap64 ((wrap64 (x106004 + x106005)) + x106006)) != x106003) x106000 x106001 x106002 x106003 x106004 x106005 x106006 x106007) else (impl_IsValidSamples.j2 k x0 x3 x15 x16 x17 true x106000 x106001 x106002 x106003 x106004 x106005 x106006 x106007))) else (impl_IsValidSamples.j2 k x0 x3 x15 x16 x17 true x106000 x106001 x106002 x106003 x106004 x106005 x106006 x106007))) else (impl_IsValidSamples.j2 k x0 x3 x15 x16 x17 true x106000 x106001 x106002 x106003 x106004 x106005 x106006 x106007)))
def impl_IsValidSamples.j2 : Nat → List (S71) → List Int → List (S71) → Int → Int → Bool → Int → Int → Int → Int → Int → Int → Int → ByteArray → Option (Bool)
 | 0, _, _, _, _, _, _, _, _, _, _, _, _, _, _ => none
 | k + 1, x0, x3, x15, x16, x17, x86, x106000, x106001, x106002, x106003, x106004, x106005, x106006, x106007 => if x86 = true then (some false) else (if x106001 > 0 then (if 0 ≤ (wrap64 (x106001 - 1)) then (if (wrap64 (x106001 - 1)) < (x0.length : Int) then (if ((rd_T71 x0 (wrap64 (x106001 - 1))).f2) = x106002 then (if 0 ≤ x106001 then (if x106001 < (x3.length : Int) then (impl_IsValidSamples.l0 k x0 (x3.set (x106001 : Int).toNat (wrap64 ((rd x3 x106001) + x106003))) x15 x16 (wrap64 (x17 + 1))) else (none)) else (none)) else (some false)) else (none)) else (none)) else (if 0 ≤ x106001 then (if x106001 < (x3.length : Int) then (impl_IsValidSamples.l0 k x0 (x3.set (x106001 : Int).toNat (wrap64 ((rd x3 x106001) + x106003))) x15 x16 (wrap64 (x17 + 1))) else (none)) else (none)))
def impl_IsValidSamples.l1 : Nat → List Int → List (S71) → Int → Int → Option (Bool)
 | 0, _, _, _, _ => none
 | k + 1, x3, x112, x113, x114 => if x114 < x113 then (if 0 ≤ x114 then (if x114 < (x112.length : Int) then (if 0 ≤ ((rd_T71 x112 x114).f0) then (if ((rd_T71 x112 x114).f0) < (x3.length : Int) then (if (rd x3 ((rd_T71 x112 x114).f0)) = ((rd_T71 x112 x114).f6) then (impl_IsValidSamples.l1 k x3 x112 x113 (wrap64 (x114 + 1))) else (some false)) else (none)) else (none)) else (none)) else (none)) else (some true)
end
def impl_IsValidSamples.f (k : Nat) (l0 : List (S71)) : Option (Bool) := if (l0.length : Int) > 16 then (some false) else (if 0 ≤ (wrap64 ((l0.length : Int) + 1)) then (if (wrap64 ((l0.length : Int) + 1) : Int).toNat ≤ 35184372088832 then (impl_IsValidSamples.l0 k l0 (List.replicate (wrap64 ((l0.length : Int) + 1) : Int).toNat 0) l0 (l0.length : Int) 0) else (none)) else (none))
theorem impl_IsValidSamples.mono_l : ∀ k, (∀ y0 y1 y2 y3 y4, LeO (impl_IsValidSamples.l0 k y0 y1 y2 y3 y4) (impl_IsValidSamples.l0 (k + 1) y0 y1 y2 y3 y4)) ∧ (∀ y0 y1 y2 y3 y4 y5 y6 y7 y8 y9 y10 y11 y12 y13, LeO (impl_IsValidSamples.j1 k y0 y1 y2 y3 y4 y5 y6 y7 y8 y9 y10 y11 y12 y13) (impl_IsValidSamples.j1 (k + 1) y0 y1 y2 y3 y4 y5 y6 y7 y8 y9 y10 y11 y12 y13)) ∧ (∀ y0 y1 y2 y3 y4 y5 y6 y7 y8 y9 y10 y11 y12 y13, LeO (impl_IsValidSamples.j2 k y0 y1 y2 y3 y4 y5 y6 y7 y8 y9 y10 y11 y12 y13) (impl_IsValidSamples.j2 (k + 1) y0 y1 y2 y3 y4 y5 y6 y7 y8 y9 y10 y11 y12 y13)) ∧ (∀ y0 y1 y2 y3, LeO (impl_IsValidSamples.l1 k y0 y1 y2 y3) (impl_IsValidSamples.l1 (k + 1) y0 y1 y2 y3))
 | 0 => ⟨fun _ _ _ _ _ r h => by simp [impl_IsValidSamples.l0] at h, fun _ _ _ _ _ _ _ _ _ _ _ _ _ _ r h => by simp [impl_IsValidSamples.j1] at h, fun _ _ _ _ _ _ _ _ _ _ _ _ _ _ r h => by simp [impl_IsValidSamples.j2] at h, fun _ _ _ _ r h => by simp [impl_IsValidSamples.l1] at h⟩
 | k + 1 => by
  obtain ⟨ih0, ih1, ih2, ih3⟩ := impl_IsValidSamples.mono_l k
  refine ⟨?_, ?_, ?_, ?_⟩
  ·intro y0 y1 y2 y3 y4
   unfold impl_IsValidSamples.l0
   repeat' first
   | (with_reducible exact ih0 _ _ _ _ _)
   | (with_reducible exact ih1 _ _ _ _ _ _ _ _ _ _ _ _ _ _)
   | (with_reducible exact ih2 _ _ _ _ _ _ _ _ _ _ _ _ _ _)
   | (with_reducible exact ih3 _ _ _ _)
   | (with_reducible exact impl_isName.mono _ _)
   | (with_reducible exact LeO.refl _)
   | (with_reducible exact LeO.none _)
   | (with_reducible refine LeO.ite ?_ ?_)
   | (with_reducible refine LeO.bind ?_ (fun _ => ?_))
   | exact ih0 _ _ _ _ _
   | exact ih1 _ _ _ _ _ _ _ _ _ _ _ _ _ _
   | exact ih2 _ _ _ _ _ _ _ _ _ _ _ _ _ _
   | exact ih3 _ _ _ _
   | exact impl_isName.mono _ _
   | exact LeO.none _
   | refine LeO.ite ?_ ?_
   | refine LeO.bind ?_ (fun _ => ?_)
  ·intro y0 y1 y2 y3 y4 y5 y6 y7 y8 y9 y10 y11 y12 y13
   unfold impl_IsValidSamples.j1
   repeat' first
   | (with_reducible exact ih0 _ _ _ _ _)
   | (with_reducible exact ih1 _ _ _ _ _ _ _ _ _ _ _ _ _ _)
   | (with_reducible exact ih2 _ _ _ _ _ _ _ _ _ _ _ _ _ _)
   | (with_reducible exact ih3 _ _ _ _)
   | (with_reducible exact impl_isName.mono _ _)
   | (with_reducible exact LeO.refl _)
   | (with_reducible exact LeO.none _)
   | (with_reducible refine LeO.ite ?_ ?_)
   | (with_reducible refine LeO.bind ?_ (fun _ => ?_))
   | exact ih0 _ _ _ _ _
   | exact ih1 _ _ _ _ _ _ _ _ _ _ _ _ _ _
   | exact ih2 _ _ _ _ _ _ _ _ _ _ _ _ _ _
   | exact ih3 _ _ _ _
   | exact impl_isName.mono _ _
   | exact LeO.none _
   | refine LeO.ite ?_ ?_
   | refine LeO.bind ?_ (fun _ => ?_)
  ·intro y0 y1 y2 y3 y4 y5 y6 y7 y8 y9 y10 y11 y12 y13
   unfold impl_IsValidSamples.j2
   repeat' first
   | (with_reducible exact ih0 _ _ _ _ _)
   | (with_reducible exact ih1 _ _ _ _ _ _ _ _ _ _ _ _ _ _)
   | (with_reducible exact ih2 _ _ _ _ _ _ _ _ _ _ _ _ _ _)
   | (with_reducible exact ih3 _ _ _ _)
   | (with_reducible exact impl_isName.mono _ _)
   | (with_reducible exact LeO.refl _)
   | (with_reducible exact LeO.none _)
   | (with_reducible refine LeO.ite ?_ ?_)
   | (with_reducible refine LeO.bind ?_ (fun _ => ?_))
   | exact ih0 _ _ _ _ _
   | exact ih1 _ _ _ _ _ _ _ _ _ _ _ _ _ _
   | exact ih2 _ _ _ _ _ _ _ _ _ _ _ _ _ _
   | exact ih3 _ _ _ _
   | exact impl_isName.mono _ _
   | exact LeO.none _
   | refine LeO.ite ?_ ?_
   | refine LeO.bind ?_ (fun _ => ?_)
  intro y0 y1 y2 y3
  unfold impl_IsValidSamples.l1
  repeat' first
  | (with_reducible exact ih0 _ _ _ _ _)
  | (with_reducible exact ih1 _ _ _ _ _ _ _ _ _ _ _ _ _ _)
  | (with_reducible exact ih2 _ _ _ _ _ _ _ _ _ _ _ _ _ _)
  | (with_reducible exact ih3 _ _ _ _)
  | (with_reducible exact impl_isName.mono _ _)
  | (with_reducible exact LeO.refl _)
  | (with_reducible exact LeO.none _)
  | (with_reducible refine LeO.ite ?_ ?_)
  | (with_reducible refine LeO.bind ?_ (fun _ => ?_))
  | exact ih0 _ _ _ _ _
  | exact ih1 _ _ _ _ _ _ _ _ _ _ _ _ _ _
  | exact ih2 _ _ _ _ _ _ _ _ _ _ _ _ _ _
  | exact ih3 _ _ _ _
  | exact impl_isName.mono _ _
  | exact LeO.none _
  | refine LeO.ite ?_ ?_
  | refine LeO.bind ?_ (fun _ => ?_)
theorem impl_IsValidSamples.mono : ∀ a0 k, LeO (impl_IsValidSamples.f k a0) (impl_IsValidSamples.f (k + 1) a0) := by
 intro a0 k
 obtain ⟨ih0, ih1, ih2, ih3⟩ := impl_IsValidSamples.mono_l k
 unfold impl_IsValidSamples.f
 repeat' first
   | (with_reducible exact ih0 _ _ _ _ _)
   | (with_reducible exact ih1 _ _ _ _ _ _ _ _ _ _ _ _ _ _)
   | (with_reducible exact ih2 _ _ _ _ _ _ _ _ _ _ _ _ _ _)
   | (with_reducible exact ih3 _ _ _ _)
   | (with_reducible exact impl_isName.mono _ _)
   | (with_reducible exact LeO.refl _)
   | (with_reducible exact LeO.none _)
   | (with_reducible refine LeO.ite ?_ ?_)
   | (with_reducible refine LeO.bind ?_ (fun _ => ?_))
   | exact ih0 _ _ _ _ _
   | exact ih1 _ _ _ _ _ _ _ _ _ _ _ _ _ _
   | exact ih2 _ _ _ _ _ _ _ _ _ _ _ _ _ _
   | exact ih3 _ _ _ _
   | exact impl_isName.mono _ _
   | exact LeO.none _
   | refine LeO.ite ?_ ?_
   | refine LeO.bind ?_ (fun _ => ?_)
def impl_IsValidSamples.T11 : Bool × List (List Nat × List Nat) := (true, [([], []), ([0], [0]), ([1], [1]), ([2], [2]), ([3], [3]), ([3], [3]), ([5, 3], [3, 5]), ([6, 3], [3, 6]), ([4, 7, 3], [3, 4, 7]), ([8, 3], [3, 8]), ([9, 3], [3, 9]), ([3], [3]), ([11, 3], [3, 11]), ([10, 12, 3], [3, 10, 12]), ([3, 13], [3, 13])])
def impl_IsValidSamples.B11 : List Nat := [0, 1, 3, 7, 15, 15, 47, 111, 255, 511, 1023, 15, 2063, 8191, 16383]
theorem impl_IsValidSamples.tab11 : rtab .any (opsOf Try.f33 11) = impl_IsValidSamples.T11 := by kernel_rfl
theorem impl_IsValidSamples.bits11 : waitsOk impl_IsValidSamples.T11.2 impl_IsValidSamples.B11 = true := by kernel_rfl
def impl_IsValidSamples.T13 : Bool × List (List Nat × List Nat) := (true, [([], []), ([], []), ([1], [1]), ([0, 2], [0, 2]), ([3], [3]), ([], []), ([5], [5]), ([4, 6], [4, 6]), ([0, 2, 0, 1, 2, 3, 4, 5, 6, 7], [0, 2]), ([8, 7, 0, 1, 2, 3, 4, 5, 6, 7], [7, 8])])
def impl_IsValidSamples.B13 : List Nat := [0, 0, 2, 7, 15, 0, 32, 127, 255, 511]
theorem impl_IsValidSamples.tab13 : rtab .any (opsOf Try.f33 13) = impl_IsValidSamples.T13 := by kernel_rfl
theorem impl_IsValidSamples.bits13 : waitsOk impl_IsValidSamples.T13.2 impl_IsValidSamples.B13 = true := by kernel_rfl
def impl_IsValidSamples.T18 : Bool × List (List Nat × List Nat) := (true, [([], []), ([], []), ([1], [1]), ([0, 2], [0, 2]), ([3], [3]), ([], []), ([5], [5]), ([4, 6], [4, 6])])
def impl_IsValidSamples.B18 : List Nat := [0, 0, 2, 7, 15, 0, 32, 127]
theorem impl_IsValidSamples.tab18 : rtab .any (opsOf Try.f33 18) = impl_IsValidSamples.T18 := by kernel_rfl
theorem impl_IsValidSamples.bits18 : waitsOk impl_IsValidSamples.T18.2 impl_IsValidSamples.B18 = true := by kernel_rfl
set_option maxHeartbeats 8000000 in
set_option maxRecDepth 100000 in
theorem impl_IsValidSamples.calls (k : Nat) (A0 : Option Addr) (c0 : Nat) (l0 : List (S71)) (r : Bool) (w : World) (hr0 : Kd.C k71 w A0 l0.length l0) (hc0 : l0.length ≤ c0) (h : impl_IsValidSamples.f k l0 = some r) :
  Calls Try.prog 33 #[.slice A0 l0.length c0] w fun e w' => e = .returned (.bool r) ∧ Below w.heap.size w w' := by
 have hu71 := Try.underlying71
 have HR0 := Aside0.mk hr0
 have HC0 := Aside0.mk hc0
 clear hr0 hc0
 have HB := Aside0.mk (Below.refl w.heap.size w)
 have H : (if (l0.length : Int) > 16 then (some false) else (if 0 ≤ (wrap64 ((l0.length : Int) + 1)) then (if (wrap64 ((l0.length : Int) + 1) : Int).toNat ≤ 35184372088832 then (impl_IsValidSamples.l0 k l0 (List.replicate (wrap64 ((l0.length : Int) + 1) : Int).toNat 0) l0 (l0.length : Int) 0) else (none)) else (none))) = some r := h
 clear h
 by_cases c2 : (l0.length : Int) > 16
 ·rw [if_pos c2] at H
  have c2b0 : decide (16 < (l0.length : Int)) = true := decide_eq_true c2
  have c2b1 : decide (16 < l0.length) = true := decide_eq_true (by omega)
  clear c2
  obtain rfl := Option.some.inj H
  go_enter Try.func33, Try.ntmps33
  go_wp2
  go_ret
  exact ⟨by first | rfl | (simp [errW_none, errW_some] <;> rfl) | (simp [*, errW_none, errW_some] <;> rfl), by repeat (first | (with_reducible first | exact HB.out | apply below_alloc | apply pw_below_drewN | apply below_drew1) | exact HB.out)⟩
 rw [if_neg c2] at H
 have c2b0 : decide (16 < (l0.length : Int)) = false := decide_eq_false c2
 have c2b1 : decide (16 < l0.length) = false := decide_eq_false (by omega)
 clear c2
 obtain ⟨ji3, hji3⟩ : ∃ j_ : Int, (wrap64 ((l0.length : Int) + 1)) = j_ := ⟨_, rfl⟩
 replace H : (if 0 ≤ (ji3) then (if (ji3 : Int).toNat ≤ 35184372088832 then (impl_IsValidSamples.l0 k l0 (List.replicate (ji3 : Int).toNat 0) l0 (l0.length : Int) 0) else (none)) else (none)) = some r := by first | (rw [hji3] at H; exact H) | (simp only [hji3] at H ⊢; exact H)
 have hji3w : (IntKind.i64.wrap ((l0.length : Int) + 1)) = ji3 := (i64_w _).trans hji3
 by_cases c4 : 0 ≤ (ji3)
 ·rw [if_pos c4] at H
  have c4b0 := eq_true c4
  have c4b1 : decide (0 ≤ (ji3)) = true := decide_eq_true c4
  clear c4
  by_cases c5 : (ji3 : Int).toNat ≤ 35184372088832
  ·rw [if_pos c5] at H
   have c5b0 := eq_true c5
   have c5b1 : decide ((ji3 : Int).toNat ≤ 35184372088832) = true := decide_eq_true c5
   clear c5
   obtain ⟨y101, hy101⟩ : ∃ y_ : List Int, y_ = (List.replicate (ji3 : Int).toNat 0) := ⟨_, rfl⟩
   replace H : (impl_IsValidSamples.l0 k l0 y101 l0 (l0.length : Int) 0) = some r := by first | (rw [hy101]; with_reducible exact H) | (have H2_ := (Option.bind_some _ _).symm.trans H; rw [hy101]; with_reducible exact H2_) | (have H2_ := (Option.bind_some _ _).symm.trans H; with_reducible exact H2_) | with_reducible exact H | (rw [hy101]; exact H) | exact H
   have Ny101 := Aside0.mk hy101
   clear hy101
   have H' := Aside0.mk H
   clear H
   go_enter Try.func33, Try.ntmps33
   go_wp2_with (first | ((with_reducible refine gate_dst (N := 14) rfl ?_); refine Kd.R_make (Kd.int .i64) _ 3 rfl (N := 14) rfl 24 _ _ rfl ji3 rfl rfl Try.underlying24 (.int .i64 0) 8 info3 rfl (by decide) (by omega) 0 (ok := fun _ => True) (okp := fun _ => True) rfl (fun _ hk => hk) trivial (of_decide_eq_true (by first | (with_reducible assumption) | assumption)) (Nat.le_trans (Nat.mul_le_mul_right _ (of_decide_eq_true (by first | (with_reducible assumption) | assumption) : ji3.toNat ≤ 35184372088832)) (by omega)) (Below.refl _ _) (Nat.le_refl _) ?_; intro v102 w6 ho7 hb hg_ hnew_; clear hg_ hnew_; (first | rw [← Ny101.out] at ho7 | (simp only [Int.reduceToNat] at ho7; rw [← Ny101.out] at ho7)); have n0_ := Aside0.mk (Kd.R_lower ho7 (below_size (pH_ HB.out))); have n1_ := Aside0.mk (below_step (pH_ HB.out) hb); clear HB; have HO103 := n0_; have HB := n1_; clear n0_ n1_; clear hb ho7))
   go_loopg [17] k (fun kq v17 w' => ∃ (x3_1 : List Int) (x17_1 : Int), v17 = .int .i64 x17_1 ∧ Aside0 (impl_IsValidSamples.l0 kq l0 x3_1 l0 (l0.length : Int) x17_1 = some r) ∧ Aside0 (kq ≤ k) ∧ Aside0 (Kd.R (Kd.int .i64) 3 w' w.heap.size (fun _ => True) v102 x3_1) ∧ Aside0 (Below w.heap.size w w'))
   case atStart => exact ⟨(y101), (0), (by first | rfl | (simp; done) | (simp [*]; done) | (simp [beq_nil_, bne_nil_]; done)), H', ⟨Nat.le_refl _⟩, ⟨by (with_reducible repeat (first | apply Kd.R_alloc | apply Kd.R_drewN | apply Kd.R_drew)); exact HO103.out⟩, ⟨by repeat (first | (with_reducible first | exact HB.out | apply below_alloc | apply pw_below_drewN | apply below_drew1) | exact HB.out)⟩⟩
   case round =>
    clear H'
    try clear c2
    try clear c2b0
    try clear c2b1
    try clear p2
    try clear c3
    try clear c4
    try clear c4b0
    try clear c4b1
    try clear c5
    try clear c5b0
    try clear c5b1
    try clear p6
    obtain ⟨x3_1, x17_1, rfl, HA, HK1, HO_3, HB⟩ := hrel
    cases gk with
    | zero => exact absurd HA.out (by simp [impl_IsValidSamples.l0])
    | succ k1 =>
     have H := HA.out
     clear HA
     simp only [impl_IsValidSamples.l0] at H
     by_cases c8 : x17_1 < (l0.length : Int)
     ·rw [if_pos c8] at H
      have c8b0 : decide (x17_1 < (l0.length : Int)) = true := decide_eq_true c8
      clear c8
      by_cases c9 : 0 ≤ x17_1
      ·rw [if_pos c9] at H
       have c9b0 : decide (0 ≤ x17_1) = true := decide_eq_true c9
       clear c9
       by_cases c10 : x17_1 < (l0.length : Int)
       ·rw [if_pos c10] at H
        have c10b0 : decide (x17_1 < (l0.length : Int)) = true := decide_eq_true c10
        clear c10
        have HC11 := Aside0.mk H
        clear H
        have p104 : 0 ≤ (x17_1 : Int) := of_decide_eq_true (by first | (with_reducible assumption) | assumption)
        have q104 : x17_1 < (l0.length : Int) := of_decide_eq_true (by first | (with_reducible assumption) | assumption)
        obtain ⟨ad104, e104, hx104_0, hx104_1, hx104_2, hx104_3, hx104_4, hx104_5, hx104_6, hx104_7⟩ := at_T71 HR0.out x17_1 p104 q104
        cases e104
        replace hx104_0 := (HB.out.cell (World.block_lt_of_cell? w _ hx104_0)).trans hx104_0
        replace hx104_1 := (HB.out.cell (World.block_lt_of_cell? w _ hx104_1)).trans hx104_1
        replace hx104_2 := (HB.out.cell (World.block_lt_of_cell? w _ hx104_2)).trans hx104_2
        replace hx104_3 := (HB.out.cell (World.block_lt_of_cell? w _ hx104_3)).trans hx104_3
        replace hx104_4 := (HB.out.cell (World.block_lt_of_cell? w _ hx104_4)).trans hx104_4
        replace hx104_5 := (HB.out.cell (World.block_lt_of_cell? w _ hx104_5)).trans hx104_5
        replace hx104_6 := (HB.out.cell (World.block_lt_of_cell? w _ hx104_6)).trans hx104_6
        replace hx104_7 := (HB.out.cell (World.block_lt_of_cell? w _ hx104_7)).trans hx104_7
        replace p104 := eq_true p104
        replace q104 := eq_true q104
        go_upto_region 7 with (first | ((with_reducible refine gate_dst (N := 5) rfl ?_); refine box_event ?hg (N := 5) ?hd (cs := #[.int .i64 0, .int .i64 0, .int .i64 0, .int .i64 0, .int .i64 0, .int .i64 0, .int .i64 0, .string (⟨#[]⟩ : ByteArray)]) (t := 71) ?hr ?_; (case hd => rfl); (case hg => rfl); (case hr => first | (go_simp; done) | (go_simp; rfl)); intro gb105 hg w12 hbox hb; have n0_ := Aside0.mk (Kd.R_below (pR_ HO_3.out) hb); have n1_ := Aside0.mk (below_step (pH_ HB.out) hb); have n2_ := Aside0.mk (hbox); have n3_ := Aside0.mk ((by rw [hg]; exact (below_size (pH_ HB.out)) : w.heap.size ≤ gb105)); have n4_ := Aside0.mk ((by rw [hg]; exact (below_size (pH_ HB.out)) : w.heap.size ≤ gb105)); clear HO_3; clear HB; have HO_3 := n0_; have HB := n1_; have BK105 := n2_; have GW105 := n3_; have GE105 := n4_; clear n0_ n1_ n2_ n3_ n4_; clear hb hbox hg; have hcz13_0 := cz_ BK105.out 0 _ rfl; have hcz13_1 := cz_ BK105.out 1 _ rfl; have hcz13_2 := cz_ BK105.out 2 _ rfl; have hcz13_3 := cz_ BK105.out 3 _ rfl; have hcz13_4 := cz_ BK105.out 4 _ rfl; have hcz13_5 := cz_ BK105.out 5 _ rfl; have hcz13_6 := cz_ BK105.out 6 _ rfl; have hcz13_7 := cz_ BK105.out 7 _ rfl; have hfz13_0 := blk_frozen BK105.out 0; have hfz13_1 := blk_frozen BK105.out 1; have hfz13_2 := blk_frozen BK105.out 2; have hfz13_3 := blk_frozen BK105.out 3; have hfz13_4 := blk_frozen BK105.out 4; have hfz13_5 := blk_frozen BK105.out 5; have hfz13_6 := blk_frozen BK105.out 6; have hfz13_7 := blk_frozen BK105.out 7))
        (try simp only [Act.put, List.setIfInBounds_toArray, List.set_cons_zero, List.set_cons_succ])
        go_cut [51] (fun v51 wc => ∃ (kq : Nat) (x51_10 : Bool), v51 = .bool x51_10 ∧ Aside0 (impl_IsValidSamples.j1 kq l0 x3_1 l0 (l0.length : Int) x17_1 x51_10 ((rd_T71 l0 x17_1).f0) ((rd_T71 l0 x17_1).f1) ((rd_T71 l0 x17_1).f2) ((rd_T71 l0 x17_1).f3) ((rd_T71 l0 x17_1).f4) ((rd_T71 l0 x17_1).f5) ((rd_T71 l0 x17_1).f6) ((rd_T71 l0 x17_1).f7) = some r) ∧ Aside0 (kq ≤ k1) ∧ Aside0 (Kd.R (Kd.int .i64) 3 wc w.heap.size (fun _ => True) v102 x3_1) ∧ Aside0 (wc.heap[gb105]? = some (.cells #[.int .i64 ((rd_T71 l0 x17_1).f0), .int .i64 ((rd_T71 l0 x17_1).f1), .int .i64 ((rd_T71 l0 x17_1).f2), .int .i64 ((rd_T71 l0 x17_1).f3), .int .i64 ((rd_T71 l0 x17_1).f4), .int .i64 ((rd_T71 l0 x17_1).f5), .int .i64 ((rd_T71 l0 x17_1).f6), .string ((rd_T71 l0 x17_1).f7)] 71 (0, 0))) ∧ Aside0 (Below w.heap.size w wc))
        case first =>
         have H := HC11.out
         clear HC11
         by_cases c14 : ((rd_T71 l0 x17_1).f0) = (wrap64 (x17_1 + 1))
         ·rw [if_pos c14] at H
          have c14b0 : (((rd_T71 l0 x17_1).f0) == (wrap64 (x17_1 + 1))) = true := beq_iff_eq.mpr c14
          have c14b1 : (((rd_T71 l0 x17_1).f0) != (wrap64 (x17_1 + 1))) = false := bne_eq_false_iff_eq.mpr c14
          clear c14
          (first | rw [c14b0] | (simp only [i64_w, i32_w]; rw [c14b0]) | skip)
          replace H := Option.bind_eq_some_iff.mp H
          obtain ⟨t106, A150, H⟩ := H
          replace H : (if t106 = true then ((impl_isNumber.f ((rd_T71 l0 x17_1).f2)).bind fun t107 => (if t107 = true then ((impl_within.f ((rd_T71 l0 x17_1).f3) 1 500).bind fun t108 => (if t108 = true then ((impl_isName.f k1 ((rd_T71 l0 x17_1).f7)).bind fun t109 => (impl_IsValidSamples.j1 k1 l0 x3_1 l0 (l0.length : Int) x17_1 (!t109) ((rd_T71 l0 x17_1).f0) ((rd_T71 l0 x17_1).f1) ((rd_T71 l0 x17_1).f2) ((rd_T71 l0 x17_1).f3) ((rd_T71 l0 x17_1).f4) ((rd_T71 l0 x17_1).f5) ((rd_T71 l0 x17_1).f6) ((rd_T71 l0 x17_1).f7))) else (impl_IsValidSamples.j1 k1 l0 x3_1 l0 (l0.length : Int) x17_1 true ((rd_T71 l0 x17_1).f0) ((rd_T71 l0 x17_1).f1) ((rd_T71 l0 x17_1).f2) ((rd_T71 l0 x17_1).f3) ((rd_T71 l0 x17_1).f4) ((rd_T71 l0 x17_1).f5) ((rd_T71 l0 x17_1).f6) ((rd_T71 l0 x17_1).f7)))) else (impl_IsValidSamples.j1 k1 l0 x3_1 l0 (l0.length : Int) x17_1 true ((rd_T71 l0 x17_1).f0) ((rd_T71 l0 x17_1).f1) ((rd_T71 l0 x17_1).f2) ((rd_T71 l0 x17_1).f3) ((rd_T71 l0 x17_1).f4) ((rd_T71 l0 x17_1).f5) ((rd_T71 l0 x17_1).f6) ((rd_T71 l0 x17_1).f7)))) else (impl_IsValidSamples.j1 k1 l0 x3_1 l0 (l0.length : Int) x17_1 true ((rd_T71 l0 x17_1).f0) ((rd_T71 l0 x17_1).f1) ((rd_T71 l0 x17_1).f2) ((rd_T71 l0 x17_1).f3) ((rd_T71 l0 x17_1).f4) ((rd_T71 l0 x17_1).f5) ((rd_T71 l0 x17_1).f6) ((rd_T71 l0 x17_1).f7))) = some r := H
          have A15 := Aside0.mk A150
          clear A150
          by_cases c16 : t106 = true
          ·subst c16
           have H1 : ((impl_isNumber.f ((rd_T71 l0 x17_1).f2)).bind fun t107 => (if t107 = true then ((impl_within.f ((rd_T71 l0 x17_1).f3) 1 500).bind fun t108 => (if t108 = true then ((impl_isName.f k1 ((rd_T71 l0 x17_1).f7)).bind fun t109 => (impl_IsValidSamples.j1 k1 l0 x3_1 l0 (l0.length : Int) x17_1 (!t109) ((rd_T71 l0 x17_1).f0) ((rd_T71 l0 x17_1).f1) ((rd_T71 l0 x17_1).f2) ((rd_T71 l0 x17_1).f3) ((rd_T71 l0 x17_1).f4) ((rd_T71 l0 x17_1).f5) ((rd_T71 l0 x17_1).f6) ((rd_T71 l0 x17_1).f7))) else (impl_IsValidSamples.j1 k1 l0 x3_1 l0 (l0.length : Int) x17_1 true ((rd_T71 l0 x17_1).f0) ((rd_T71 l0 x17_1).f1) ((rd_T71 l0 x17_1).f2) ((rd_T71 l0 x17_1).f3) ((rd_T71 l0 x17_1).f4) ((rd_T71 l0 x17_1).f5) ((rd_T71 l0 x17_1).f6) ((rd_T71 l0 x17_1).f7)))) else (impl_IsValidSamples.j1 k1 l0 x3_1 l0 (l0.length : Int) x17_1 true ((rd_T71 l0 x17_1).f0) ((rd_T71 l0 x17_1).f1) ((rd_T71 l0 x17_1).f2) ((rd_T71 l0 x17_1).f3) ((rd_T71 l0 x17_1).f4) ((rd_T71 l0 x17_1).f5) ((rd_T71 l0 x17_1).f6) ((rd_T71 l0 x17_1).f7)))) = some r := by rw [if_pos rfl] at H; exact H
           clear H
           have H := H1
           clear H1
           replace H := Option.bind_eq_some_iff.mp H
           obtain ⟨t107, A170, H⟩ := H
           replace H : (if t107 = true then ((impl_within.f ((rd_T71 l0 x17_1).f3) 1 500).bind fun t108 => (if t108 = true then ((impl_isName.f k1 ((rd_T71 l0 x17_1).f7)).bind fun t109 => (impl_IsValidSamples.j1 k1 l0 x3_1 l0 (l0.length : Int) x17_1 (!t109) ((rd_T71 l0 x17_1).f0) ((rd_T71 l0 x17_1).f1) ((rd_T71 l0 x17_1).f2) ((rd_T71 l0 x17_1).f3) ((rd_T71 l0 x17_1).f4) ((rd_T71 l0 x17_1).f5) ((rd_T71 l0 x17_1).f6) ((rd_T71 l0 x17_1).f7))) else (impl_IsValidSamples.j1 k1 l0 x3_1 l0 (l0.length : Int) x17_1 true ((rd_T71 l0 x17_1).f0) ((rd_T71 l0 x17_1).f1) ((rd_T71 l0 x17_1).f2) ((rd_T71 l0 x17_1).f3) ((rd_T71 l0 x17_1).f4) ((rd_T71 l0 x17_1).f5) ((rd_T71 l0 x17_1).f6) ((rd_T71 l0 x17_1).f7)))) else (impl_IsValidSamples.j1 k1 l0 x3_1 l0 (l0.length : Int) x17_1 true ((rd_T71 l0 x17_1).f0) ((rd_T71 l0 x17_1).f1) ((rd_T71 l0 x17_1).f2) ((rd_T71 l0 x17_1).f3) ((rd_T71 l0 x17_1).f4) ((rd_T71 l0 x17_1).f5) ((rd_T71 l0 x17_1).f6) ((rd_T71 l0 x17_1).f7))) = some r := H
           have A17 := Aside0.mk A170
           clear A170
           by_cases c18 : t107 = true
           ·subst c18
            have H1 : ((impl_within.f ((rd_T71 l0 x17_1).f3) 1 500).bind fun t108 => (if t108 = true then ((impl_isName.f k1 ((rd_T71 l0 x17_1).f7)).bind fun t109 => (impl_IsValidSamples.j1 k1 l0 x3_1 l0 (l0.length : Int) x17_1 (!t109) ((rd_T71 l0 x17_1).f0) ((rd_T71 l0 x17_1).f1) ((rd_T71 l0 x17_1).f2) ((rd_T71 l0 x17_1).f3) ((rd_T71 l0 x17_1).f4) ((rd_T71 l0 x17_1).f5) ((rd_T71 l0 x17_1).f6) ((rd_T71 l0 x17_1).f7))) else (impl_IsValidSamples.j1 k1 l0 x3_1 l0 (l0.length : Int) x17_1 true ((rd_T71 l0 x17_1).f0) ((rd_T71 l0 x17_1).f1) ((rd_T71 l0 x17_1).f2) ((rd_T71 l0 x17_1).f3) ((rd_T71 l0 x17_1).f4) ((rd_T71 l0 x17_1).f5) ((rd_T71 l0 x17_1).f6) ((rd_T71 l0 x17_1).f7)))) = some r := by rw [if_pos rfl] at H; exact H
            clear H
            have H := H1
            clear H1
            replace H := Option.bind_eq_some_iff.mp H
            obtain ⟨t108, A190, H⟩ := H
            replace H : (if t108 = true then ((impl_isName.f k1 ((rd_T71 l0 x17_1).f7)).bind fun t109 => (impl_IsValidSamples.j1 k1 l0 x3_1 l0 (l0.length : Int) x17_1 (!t109) ((rd_T71 l0 x17_1).f0) ((rd_T71 l0 x17_1).f1) ((rd_T71 l0 x17_1).f2) ((rd_T71 l0 x17_1).f3) ((rd_T71 l0 x17_1).f4) ((rd_T71 l0 x17_1).f5) ((rd_T71 l0 x17_1).f6) ((rd_T71 l0 x17_1).f7))) else (impl_IsValidSamples.j1 k1 l0 x3_1 l0 (l0.length : Int) x17_1 true ((rd_T71 l0 x17_1).f0) ((rd_T71 l0 x17_1).f1) ((rd_T71 l0 x17_1).f2) ((rd_T71 l0 x17_1).f3) ((rd_T71 l0 x17_1).f4) ((rd_T71 l0 x17_1).f5) ((rd_T71 l0 x17_1).f6) ((rd_T71 l0 x17_1).f7))) = some r := H
            have A19 := Aside0.mk A190
            clear A190
            by_cases c20 : t108 = true
            ·subst c20
             have H1 : ((impl_isName.f k1 ((rd_T71 l0 x17_1).f7)).bind fun t109 => (impl_IsValidSamples.j1 k1 l0 x3_1 l0 (l0.length : Int) x17_1 (!t109) ((rd_T71 l0 x17_1).f0) ((rd_T71 l0 x17_1).f1) ((rd_T71 l0 x17_1).f2) ((rd_T71 l0 x17_1).f3) ((rd_T71 l0 x17_1).f4) ((rd_T71 l0 x17_1).f5) ((rd_T71 l0 x17_1).f6) ((rd_T71 l0 x17_1).f7))) = some r := by rw [if_pos rfl] at H; exact H
             clear H
             have H := H1
             clear H1
             replace H := Option.bind_eq_some_iff.mp H
             obtain ⟨t109, A210, H⟩ := H
             replace H : (impl_IsValidSamples.j1 k1 l0 x3_1 l0 (l0.length : Int) x17_1 (!t109) ((rd_T71 l0 x17_1).f0) ((rd_T71 l0 x17_1).f1) ((rd_T71 l0 x17_1).f2) ((rd_T71 l0 x17_1).f3) ((rd_T71 l0 x17_1).f4) ((rd_T71 l0 x17_1).f5) ((rd_T71 l0 x17_1).f6) ((rd_T71 l0 x17_1).f7)) = some r := H
             have A21 := Aside0.mk A210
             clear A210
             have H' := Aside0.mk H
             clear H
             have hcz22_0 := cz_ BK105.out 0 _ rfl
             have hcz22_1 := cz_ BK105.out 1 _ rfl
             have hcz22_2 := cz_ BK105.out 2 _ rfl
             have hcz22_3 := cz_ BK105.out 3 _ rfl
             have hcz22_4 := cz_ BK105.out 4 _ rfl
             have hcz22_5 := cz_ BK105.out 5 _ rfl
             have hcz22_6 := cz_ BK105.out 6 _ rfl
             have hcz22_7 := cz_ BK105.out 7 _ rfl
             have hfz22_0 := blk_frozen BK105.out 0
             have hfz22_1 := blk_frozen BK105.out 1
             have hfz22_2 := blk_frozen BK105.out 2
             have hfz22_3 := blk_frozen BK105.out 3
             have hfz22_4 := blk_frozen BK105.out 4
             have hfz22_5 := blk_frozen BK105.out 5
             have hfz22_6 := blk_frozen BK105.out 6
             have hfz22_7 := blk_frozen BK105.out 7
             go_wp2_with (first | (go_at_call 67; (with_reducible refine (impl_within.calls ((rd_T71 l0 x17_1).f1) 0 x17_1 true _ A15.out).mono ?_); rintro e w' ⟨rfl, ⟨nd, rfl⟩⟩) | (go_at_call 87; (with_reducible refine (impl_isNumber.calls ((rd_T71 l0 x17_1).f2) true _ A17.out).mono ?_); rintro e w' ⟨rfl, ⟨nd, rfl⟩⟩) | (go_at_call 67; (with_reducible refine (impl_within.calls ((rd_T71 l0 x17_1).f3) 1 500 true _ A19.out).mono ?_); rintro e w' ⟨rfl, ⟨nd, rfl⟩⟩) | (go_at_call 88; (with_reducible refine (impl_isName.calls k1 ((rd_T71 l0 x17_1).f7) t109 _ A21.out).mono ?_); rintro e w' ⟨rfl, ⟨nd, rfl⟩⟩))
             go_meet
             case rel => exact ⟨_, (!t109), (by first | rfl | (simp; done) | (simp [*]; done) | (simp [beq_nil_, bne_nil_]; done)), H', ⟨by have := HK1.out; first | omega | exact Nat.le_refl _⟩, ⟨by (with_reducible repeat (first | apply Kd.R_alloc | apply Kd.R_drewN | apply Kd.R_drew)); exact Kd.R_mono (Kd.R_far (p := ⟨gb105, 7, none⟩) (Kd.R_far (p := ⟨gb105, 6, none⟩) (Kd.R_far (p := ⟨gb105, 5, none⟩) (Kd.R_far (p := ⟨gb105, 4, none⟩) (Kd.R_far (p := ⟨gb105, 3, none⟩) (Kd.R_far (p := ⟨gb105, 2, none⟩) (Kd.R_far (p := ⟨gb105, 1, none⟩) (Kd.R_far (p := ⟨gb105, 0, none⟩) (Kd.R_types HO_3.out BK105.out (by decide)) (fun _ hk => hk.2) (.int .i64 ((rd_T71 l0 x17_1).f0))) (fun _ hk => hk.2) (.int .i64 ((rd_T71 l0 x17_1).f1))) (fun _ hk => hk.2) (.int .i64 ((rd_T71 l0 x17_1).f2))) (fun _ hk => hk.2) (.int .i64 ((rd_T71 l0 x17_1).f3))) (fun _ hk => hk.2) (.int .i64 ((rd_T71 l0 x17_1).f4))) (fun _ hk => hk.2) (.int .i64 ((rd_T71 l0 x17_1).f5))) (fun _ hk => hk.2) (.int .i64 ((rd_T71 l0 x17_1).f6))) (fun _ hk => hk.2) (.string ((rd_T71 l0 x17_1).f7))) (fun _ hk => trivial)⟩, ⟨by (with_reducible repeat (first | refine blk_drewN ?_ _ | refine blk_drew ?_ | refine blk_alloc ?_ _)); refine blk_put (cs := #[.int .i64 ((rd_T71 l0 x17_1).f0), .int .i64 ((rd_T71 l0 x17_1).f1), .int .i64 ((rd_T71 l0 x17_1).f2), .int .i64 ((rd_T71 l0 x17_1).f3), .int .i64 ((rd_T71 l0 x17_1).f4), .int .i64 ((rd_T71 l0 x17_1).f5), .int .i64 ((rd_T71 l0 x17_1).f6), .string (⟨#[]⟩ : ByteArray)]) ?_ 7 _ rfl; (with_reducible repeat (first | refine blk_drewN ?_ _ | refine blk_drew ?_ | refine blk_alloc ?_ _)); refine blk_put (cs := #[.int .i64 ((rd_T71 l0 x17_1).f0), .int .i64 ((rd_T71 l0 x17_1).f1), .int .i64 ((rd_T71 l0 x17_1).f2), .int .i64 ((rd_T71 l0 x17_1).f3), .int .i64 ((rd_T71 l0 x17_1).f4), .int .i64 ((rd_T71 l0 x17_1).f5), .int .i64 0, .string (⟨#[]⟩ : ByteArray)]) ?_ 6 _ rfl; (with_reducible repeat (first | refine blk_drewN ?_ _ | refine blk_drew ?_ | refine blk_alloc ?_ _)); refine blk_put (cs := #[.int .i64 ((rd_T71 l0 x17_1).f0), .int .i64 ((rd_T71 l0 x17_1).f1), .int .i64 ((rd_T71 l0 x17_1).f2), .int .i64 ((rd_T71 l0 x17_1).f3), .int .i64 ((rd_T71 l0 x17_1).f4), .int .i64 0, .int .i64 0, .string (⟨#[]⟩ : ByteArray)]) ?_ 5 _ rfl; (with_reducible repeat (first | refine blk_drewN ?_ _ | refine blk_drew ?_ | refine blk_alloc ?_ _)); refine blk_put (cs := #[.int .i64 ((rd_T71 l0 x17_1).f0), .int .i64 ((rd_T71 l0 x17_1).f1), .int .i64 ((rd_T71 l0 x17_1).f2), .int .i64 ((rd_T71 l0 x17_1).f3), .int .i64 0, .int .i64 0, .int .i64 0, .string (⟨#[]⟩ : ByteArray)]) ?_ 4 _ rfl; (with_reducible repeat (first | refine blk_drewN ?_ _ | refine blk_drew ?_ | refine blk_alloc ?_ _)); refine blk_put (cs := #[.int .i64 ((rd_T71 l0 x17_1).f0), .int .i64 ((rd_T71 l0 x17_1).f1), .int .i64 ((rd_T71 l0 x17_1).f2), .int .i64 0, .int .i64 0, .int .i64 0, .int .i64 0, .string (⟨#[]⟩ : ByteArray)]) ?_ 3 _ rfl; (with_reducible repeat (first | refine blk_drewN ?_ _ | refine blk_drew ?_ | refine blk_alloc ?_ _)); refine blk_put (cs := #[.int .i64 ((rd_T71 l0 x17_1).f0), .int .i64 ((rd_T71 l0 x17_1).f1), .int .i64 0, .int .i64 0, .int .i64 0, .int .i64 0, .int .i64 0, .string (⟨#[]⟩ : ByteArray)]) ?_ 2 _ rfl; (with_reducible repeat (first | refine blk_drewN ?_ _ | refine blk_drew ?_ | refine blk_alloc ?_ _)); refine blk_put (cs := #[.int .i64 ((rd_T71 l0 x17_1).f0), .int .i64 0, .int .i64 0, .int .i64 0, .int .i64 0, .int .i64 0, .int .i64 0, .string (⟨#[]⟩ : ByteArray)]) ?_ 1 _ rfl; (with_reducible repeat (first | refine blk_drewN ?_ _ | refine blk_drew ?_ | refine blk_alloc ?_ _)); refine blk_put (cs := #[.int .i64 0, .int .i64 0, .int .i64 0, .int .i64 0, .int .i64 0, .int .i64 0, .int .i64 0, .string (⟨#[]⟩ : ByteArray)]) ?_ 0 _ rfl; (with_reducible repeat (first | refine blk_drewN ?_ _ | refine blk_drew ?_ | refine blk_alloc ?_ _)); exact BK105.out⟩, ⟨by repeat (first | (with_reducible first | exact HB.out | apply below_alloc | apply pw_below_drewN | apply below_drew1 | refine below_set ?_ GE105.out) | exact HB.out)⟩⟩
            replace c20 := Bool.eq_false_iff.mpr c20
            subst c20
            have H1 : (impl_IsValidSamples.j1 k1 l0 x3_1 l0 (l0.length : Int) x17_1 true ((rd_T71 l0 x17_1).f0) ((rd_T71 l0 x17_1).f1) ((rd_T71 l0 x17_1).f2) ((rd_T71 l0 x17_1).f3) ((rd_T71 l0 x17_1).f4) ((rd_T71 l0 x17_1).f5) ((rd_T71 l0 x17_1).f6) ((rd_T71 l0 x17_1).f7)) = some r := by rw [if_neg (show ¬ (false = true) by decide)] at H; exact H
            clear H
            have H := H1
            clear H1
            have H' := Aside0.mk H
            clear H
            have hcz23_0 := cz_ BK105.out 0 _ rfl
            have hcz23_1 := cz_ BK105.out 1 _ rfl
            have hcz23_2 := cz_ BK105.out 2 _ rfl
            have hcz23_3 := cz_ BK105.out 3 _ rfl
            have hcz23_4 := cz_ BK105.out 4 _ rfl
            have hcz23_5 := cz_ BK105.out 5 _ rfl
            have hcz23_6 := cz_ BK105.out 6 _ rfl
            have hcz23_7 := cz_ BK105.out 7 _ rfl
            have hfz23_0 := blk_frozen BK105.out 0
            have hfz23_1 := blk_frozen BK105.out 1
            have hfz23_2 := blk_frozen BK105.out 2
            have hfz23_3 := blk_frozen BK105.out 3
            have hfz23_4 := blk_frozen BK105.out 4
            have hfz23_5 := blk_frozen BK105.out 5
            have hfz23_6 := blk_frozen BK105.out 6
            have hfz23_7 := blk_frozen BK105.out 7
            go_wp2_with (first | (go_at_call 67; (with_reducible refine (impl_within.calls ((rd_T71 l0 x17_1).f1) 0 x17_1 true _ A15.out).mono ?_); rintro e w' ⟨rfl, ⟨nd, rfl⟩⟩) | (go_at_call 87; (with_reducible refine (impl_isNumber.calls ((rd_T71 l0 x17_1).f2) true _ A17.out).mono ?_); rintro e w' ⟨rfl, ⟨nd, rfl⟩⟩) | (go_at_call 67; (with_reducible refine (impl_within.calls ((rd_T71 l0 x17_1).f3) 1 500 false _ A19.out).mono ?_); rintro e w' ⟨rfl, ⟨nd, rfl⟩⟩))
            go_meet
            case rel => exact ⟨_, (true), (by first | rfl | (simp; done) | (simp [*]; done) | (simp [beq_nil_, bne_nil_]; done)), H', ⟨by have := HK1.out; first | omega | exact Nat.le_refl _⟩, ⟨by (with_reducible repeat (first | apply Kd.R_alloc | apply Kd.R_drewN | apply Kd.R_drew)); exact Kd.R_mono (Kd.R_far (p := ⟨gb105, 7, none⟩) (Kd.R_far (p := ⟨gb105, 6, none⟩) (Kd.R_far (p := ⟨gb105, 5, none⟩) (Kd.R_far (p := ⟨gb105, 4, none⟩) (Kd.R_far (p := ⟨gb105, 3, none⟩) (Kd.R_far (p := ⟨gb105, 2, none⟩) (Kd.R_far (p := ⟨gb105, 1, none⟩) (Kd.R_far (p := ⟨gb105, 0, none⟩) (Kd.R_types HO_3.out BK105.out (by decide)) (fun _ hk => hk.2) (.int .i64 ((rd_T71 l0 x17_1).f0))) (fun _ hk => hk.2) (.int .i64 ((rd_T71 l0 x17_1).f1))) (fun _ hk => hk.2) (.int .i64 ((rd_T71 l0 x17_1).f2))) (fun _ hk => hk.2) (.int .i64 ((rd_T71 l0 x17_1).f3))) (fun _ hk => hk.2) (.int .i64 ((rd_T71 l0 x17_1).f4))) (fun _ hk => hk.2) (.int .i64 ((rd_T71 l0 x17_1).f5))) (fun _ hk => hk.2) (.int .i64 ((rd_T71 l0 x17_1).f6))) (fun _ hk => hk.2) (.string ((rd_T71 l0 x17_1).f7))) (fun _ hk => trivial)⟩, ⟨by (with_reducible repeat (first | refine blk_drewN ?_ _ | refine blk_drew ?_ | refine blk_alloc ?_ _)); refine blk_put (cs := #[.int .i64 ((rd_T71 l0 x17_1).f0), .int .i64 ((rd_T71 l0 x17_1).f1), .int .i64 ((rd_T71 l0 x17_1).f2), .int .i64 ((rd_T71 l0 x17_1).f3), .int .i64 ((rd_T71 l0 x17_1).f4), .int .i64 ((rd_T71 l0 x17_1).f5), .int .i64 ((rd_T71 l0 x17_1).f6), .string (⟨#[]⟩ : ByteArray)]) ?_ 7 _ rfl; (with_reducible repeat (first | refine blk_drewN ?_ _ | refine blk_drew ?_ | refine blk_alloc ?_ _)); refine blk_put (cs := #[.int .i64 ((rd_T71 l0 x17_1).f0), .int .i64 ((rd_T71 l0 x17_1).f1), .int .i64 ((rd_T71 l0 x17_1).f2), .int .i64 ((rd_T71 l0 x17_1).f3), .int .i64 ((rd_T71 l0 x17_1).f4), .int .i64 ((rd_T71 l0 x17_1).f5), .int .i64 0, .string (⟨#[]⟩ : ByteArray)]) ?_ 6 _ rfl; (with_reducible repeat (first | refine blk_drewN ?_ _ | refine blk_drew ?_ | refine blk_alloc ?_ _)); refine blk_put (cs := #[.int .i64 ((rd_T71 l0 x17_1).f0), .int .i64 ((rd_T71 l0 x17_1).f1), .int .i64 ((rd_T71 l0 x17_1).f2), .int .i64 ((rd_T71 l0 x17_1).f3), .int .i64 ((rd_T71 l0 x17_1).f4), .int .i64 0, .int .i64 0, .string (⟨#[]⟩ : ByteArray)]) ?_ 5 _ rfl; (with_reducible repeat (first | refine blk_drewN ?_ _ | refine blk_drew ?_ | refine blk_alloc ?_ _)); refine blk_put (cs := #[.int .i64 ((rd_T71 l0 x17_1).f0), .int .i64 ((rd_T71 l0 x17_1).f1), .int .i64 ((rd_T71 l0 x17_1).f2), .int .i64 ((rd_T71 l0 x17_1).f3), .int .i64 0, .int .i64 0, .int .i64 0, .string (⟨#[]⟩ : ByteArray)]) ?_ 4 _ rfl; (with_reducible repeat (first | refine blk_drewN ?_ _ | refine blk_drew ?_ | refine blk_alloc ?_ _)); refine blk_put (cs := #[.int .i64 ((rd_T71 l0 x17_1).f0), .int .i64 ((rd_T71 l0 x17_1).f1), .int .i64 ((rd_T71 l0 x17_1).f2), .int .i64 0, .int .i64 0, .int .i64 0, .int .i64 0, .string (⟨#[]⟩ : ByteArray)]) ?_ 3 _ rfl; (with_reducible repeat (first | refine blk_drewN ?_ _ | refine blk_drew ?_ | refine blk_alloc ?_ _)); refine blk_put (cs := #[.int .i64 ((rd_T71 l0 x17_1).f0), .int .i64 ((rd_T71 l0 x17_1).f1), .int .i64 0, .int .i64 0, .int .i64 0, .int .i64 0, .int .i64 0, .string (⟨#[]⟩ : ByteArray)]) ?_ 2 _ rfl; (with_reducible repeat (first | refine blk_drewN ?_ _ | refine blk_drew ?_ | refine blk_alloc ?_ _)); refine blk_put (cs := #[.int .i64 ((rd_T71 l0 x17_1).f0), .int .i64 0, .int .i64 0, .int .i64 0, .int .i64 0, .int .i64 0, .int .i64 0, .string (⟨#[]⟩ : ByteArray)]) ?_ 1 _ rfl; (with_reducible repeat (first | refine blk_drewN ?_ _ | refine blk_drew ?_ | refine blk_alloc ?_ _)); refine blk_put (cs := #[.int .i64 0, .int .i64 0, .int .i64 0, .int .i64 0, .int .i64 0, .int .i64 0, .int .i64 0, .string (⟨#[]⟩ : ByteArray)]) ?_ 0 _ rfl; (with_reducible repeat (first | refine blk_drewN ?_ _ | refine blk_drew ?_ | refine blk_alloc ?_ _)); exact BK105.out⟩, ⟨by repeat (first | (with_reducible first | exact HB.out | apply below_alloc | apply pw_below_drewN | apply below_drew1 | refine below_set ?_ GE105.out) | exact HB.out)⟩⟩
           replace c18 := Bool.eq_false_iff.mpr c18
           subst c18
           have H1 : (impl_IsValidSamples.j1 k1 l0 x3_1 l0 (l0.length : Int) x17_1 true ((rd_T71 l0 x17_1).f0) ((rd_T71 l0 x17_1).f1) ((rd_T71 l0 x17_1).f2) ((rd_T71 l0 x17_1).f3) ((rd_T71 l0 x17_1).f4) ((rd_T71 l0 x17_1).f5) ((rd_T71 l0 x17_1).f6) ((rd_T71 l0 x17_1).f7)) = some r := by rw [if_neg (show ¬ (false = true) by decide)] at H; exact H
           clear H
           have H := H1
           clear H1
           have H' := Aside0.mk H
           clear H
           have hcz24_0 := cz_ BK105.out 0 _ rfl
           have hcz24_1 := cz_ BK105.out 1 _ rfl
           have hcz24_2 := cz_ BK105.out 2 _ rfl
           have hcz24_3 := cz_ BK105.out 3 _ rfl
           have hcz24_4 := cz_ BK105.out 4 _ rfl
           have hcz24_5 := cz_ BK105.out 5 _ rfl
           have hcz24_6 := cz_ BK105.out 6 _ rfl
           have hcz24_7 := cz_ BK105.out 7 _ rfl
           have hfz24_0 := blk_frozen BK105.out 0
           have hfz24_1 := blk_frozen BK105.out 1
           have hfz24_2 := blk_frozen BK105.out 2
           have hfz24_3 := blk_frozen BK105.out 3
           have hfz24_4 := blk_frozen BK105.out 4
           have hfz24_5 := blk_frozen BK105.out 5
           have hfz24_6 := blk_frozen BK105.out 6
           have hfz24_7 := blk_frozen BK105.out 7
           go_wp2_with (first | (go_at_call 67; (with_reducible refine (impl_within.calls ((rd_T71 l0 x17_1).f1) 0 x17_1 true _ A15.out).mono ?_); rintro e w' ⟨rfl, ⟨nd, rfl⟩⟩) | (go_at_call 87; (with_reducible refine (impl_isNumber.calls ((rd_T71 l0 x17_1).f2) false _ A17.out).mono ?_); rintro e w' ⟨rfl, ⟨nd, rfl⟩⟩))
           go_meet
           case rel => exact ⟨_, (true), (by first | rfl | (simp; done) | (simp [*]; done) | (simp [beq_nil_, bne_nil_]; done)), H', ⟨by have := HK1.out; first | omega | exact Nat.le_refl _⟩, ⟨by (with_reducible repeat (first | apply Kd.R_alloc | apply Kd.R_drewN | apply Kd.R_drew)); exact Kd.R_mono (Kd.R_far (p := ⟨gb105, 7, none⟩) (Kd.R_far (p := ⟨gb105, 6, none⟩) (Kd.R_far (p := ⟨gb105, 5, none⟩) (Kd.R_far (p := ⟨gb105, 4, none⟩) (Kd.R_far (p := ⟨gb105, 3, none⟩) (Kd.R_far (p := ⟨gb105, 2, none⟩) (Kd.R_far (p := ⟨gb105, 1, none⟩) (Kd.R_far (p := ⟨gb105, 0, none⟩) (Kd.R_types HO_3.out BK105.out (by decide)) (fun _ hk => hk.2) (.int .i64 ((rd_T71 l0 x17_1).f0))) (fun _ hk => hk.2) (.int .i64 ((rd_T71 l0 x17_1).f1))) (fun _ hk => hk.2) (.int .i64 ((rd_T71 l0 x17_1).f2))) (fun _ hk => hk.2) (.int .i64 ((rd_T71 l0 x17_1).f3))) (fun _ hk => hk.2) (.int .i64 ((rd_T71 l0 x17_1).f4))) (fun _ hk => hk.2) (.int .i64 ((rd_T71 l0 x17_1).f5))) (fun _ hk => hk.2) (.int .i64 ((rd_T71 l0 x17_1).f6))) (fun _ hk => hk.2) (.string ((rd_T71 l0 x17_1).f7))) (fun _ hk => trivial)⟩, ⟨by (with_reducible repeat (first | refine blk_drewN ?_ _ | refine blk_drew ?_ | refine blk_alloc ?_ _)); refine blk_put (cs := #[.int .i64 ((rd_T71 l0 x17_1).f0), .int .i64 ((rd_T71 l0 x17_1).f1), .int .i64 ((rd_T71 l0 x17_1).f2), .int .i64 ((rd_T71 l0 x17_1).f3), .int .i64 ((rd_T71 l0 x17_1).f4), .int .i64 ((rd_T71 l0 x17_1).f5), .int .i64 ((rd_T71 l0 x17_1).f6), .string (⟨#[]⟩ : ByteArray)]) ?_ 7 _ rfl; (with_reducible repeat (first | refine blk_drewN ?_ _ | refine blk_drew ?_ | refine blk_alloc ?_ _)); refine blk_put (cs := #[.int .i64 ((rd_T71 l0 x17_1).f0), .int .i64 ((rd_T71 l0 x17_1).f1), .int .i64 ((rd_T71 l0 x17_1).f2), .int .i64 ((rd_T71 l0 x17_1).f3), .int .i64 ((rd_T71 l0 x17_1).f4), .int .i64 ((rd_T71 l0 x17_1).f5), .int .i64 0, .string (⟨#[]⟩ : ByteArray)]) ?_ 6 _ rfl; (with_reducible repeat (first | refine blk_drewN ?_ _ | refine blk_drew ?_ | refine blk_alloc ?_ _)); refine blk_put (cs := #[.int .i64 ((rd_T71 l0 x17_1).f0), .int .i64 ((rd_T71 l0 x17_1).f1), .int .i64 ((rd_T71 l0 x17_1).f2), .int .i64 ((rd_T71 l0 x17_1).f3), .int .i64 ((rd_T71 l0 x17_1).f4), .int .i64 0, .int .i64 0, .string (⟨#[]⟩ : ByteArray)]) ?_ 5 _ rfl; (with_reducible repeat (first | refine blk_drewN ?_ _ | refine blk_drew ?_ | refine blk_alloc ?_ _)); refine blk_put (cs := #[.int .i64 ((rd_T71 l0 x17_1).f0), .int .i64 ((rd_T71 l0 x17_1).f1), .int .i64 ((rd_T71 l0 x17_1).f2), .int .i64 ((rd_T71 l0 x17_1).f3), .int .i64 0, .int .i64 0, .int .i64 0, .string (⟨#[]⟩ : ByteArray)]) ?_ 4 _ rfl; (with_reducible repeat (first | refine blk_drewN ?_ _ | refine blk_drew ?_ | refine blk_alloc ?_ _)); refine blk_put (cs := #[.int .i64 ((rd_T71 l0 x17_1).f0), .int .i64 ((rd_T71 l0 x17_1).f1), .int .i64 ((rd_T71 l0 x17_1).f2), .int .i64 0, .int .i64 0, .int .i64 0, .int .i64 0, .string (⟨#[]⟩ : ByteArray)]) ?_ 3 _ rfl; (with_reducible repeat (first | refine blk_drewN ?_ _ | refine blk_drew ?_ | refine blk_alloc ?_ _)); refine blk_put (cs := #[.int .i64 ((rd_T71 l0 x17_1).f0), .int .i64 ((rd_T71 l0 x17_1).f1), .int .i64 0, .int .i64 0, .int .i64 0, .int .i64 0, .int .i64 0, .string (⟨#[]⟩ : ByteArray)]) ?_ 2 _ rfl; (with_reducible repeat (first | refine blk_drewN ?_ _ | refine blk_drew ?_ | refine blk_alloc ?_ _)); refine blk_put (cs := #[.int .i64 ((rd_T71 l0 x17_1).f0), .int .i64 0, .int .i64 0, .int .i64 0, .int .i64 0, .int .i64 0, .int .i64 0, .string (⟨#[]⟩ : ByteArray)]) ?_ 1 _ rfl; (with_reducible repeat (first | refine blk_drewN ?_ _ | refine blk_drew ?_ | refine blk_alloc ?_ _)); refine blk_put (cs := #[.int .i64 0, .int .i64 0, .int .i64 0, .int .i64 0, .int .i64 0, .int .i64 0, .int .i64 0, .string (⟨#[]⟩ : ByteArray)]) ?_ 0 _ rfl; (with_reducible repeat (first | refine blk_drewN ?_ _ | refine blk_drew ?_ | refine blk_alloc ?_ _)); exact BK105.out⟩, ⟨by repeat (first | (with_reducible first | exact HB.out | apply below_alloc | apply pw_below_drewN | apply below_drew1 | refine below_set ?_ GE105.out) | exact HB.out)⟩⟩
          replace c16 := Bool.eq_false_iff.mpr c16
          subst c16
          have H1 : (impl_IsValidSamples.j1 k1 l0 x3_1 l0 (l0.length : Int) x17_1 true ((rd_T71 l0 x17_1).f0) ((rd_T71 l0 x17_1).f1) ((rd_T71 l0 x17_1).f2) ((rd_T71 l0 x17_1).f3) ((rd_T71 l0 x17_1).f4) ((rd_T71 l0 x17_1).f5) ((rd_T71 l0 x17_1).f6) ((rd_T71 l0 x17_1).f7)) = some r := by rw [if_neg (show ¬ (false = true) by decide)] at H; exact H
          clear H
          have H := H1
          clear H1
          have H' := Aside0.mk H
          clear H
          have hcz25_0 := cz_ BK105.out 0 _ rfl
          have hcz25_1 := cz_ BK105.out 1 _ rfl
          have hcz25_2 := cz_ BK105.out 2 _ rfl
          have hcz25_3 := cz_ BK105.out 3 _ rfl
          have hcz25_4 := cz_ BK105.out 4 _ rfl
          have hcz25_5 := cz_ BK105.out 5 _ rfl
          have hcz25_6 := cz_ BK105.out 6 _ rfl
          have hcz25_7 := cz_ BK105.out 7 _ rfl
          have hfz25_0 := blk_frozen BK105.out 0
          have hfz25_1 := blk_frozen BK105.out 1
          have hfz25_2 := blk_frozen BK105.out 2
          have hfz25_3 := blk_frozen BK105.out 3
          have hfz25_4 := blk_frozen BK105.out 4
          have hfz25_5 := blk_frozen BK105.out 5
          have hfz25_6 := blk_frozen BK105.out 6
          have hfz25_7 := blk_frozen BK105.out 7
          go_wp2_with (first | (go_at_call 67; (with_reducible refine (impl_within.calls ((rd_T71 l0 x17_1).f1) 0 x17_1 false _ A15.out).mono ?_); rintro e w' ⟨rfl, ⟨nd, rfl⟩⟩))
          go_meet
          case rel => exact ⟨_, (true), (by first | rfl | (simp; done) | (simp [*]; done) | (simp [beq_nil_, bne_nil_]; done)), H', ⟨by have := HK1.out; first | omega | exact Nat.le_refl _⟩, ⟨by (with_reducible repeat (first | apply Kd.R_alloc | apply Kd.R_drewN | apply Kd.R_drew)); exact Kd.R_mono (Kd.R_far (p := ⟨gb105, 7, none⟩) (Kd.R_far (p := ⟨gb105, 6, none⟩) (Kd.R_far (p := ⟨gb105, 5, none⟩) (Kd.R_far (p := ⟨gb105, 4, none⟩) (Kd.R_far (p := ⟨gb105, 3, none⟩) (Kd.R_far (p := ⟨gb105, 2, none⟩) (Kd.R_far (p := ⟨gb105, 1, none⟩) (Kd.R_far (p := ⟨gb105, 0, none⟩) (Kd.R_types HO_3.out BK105.out (by decide)) (fun _ hk => hk.2) (.int .i64 ((rd_T71 l0 x17_1).f0))) (fun _ hk => hk.2) (.int .i64 ((rd_T71 l0 x17_1).f1))) (fun _ hk => hk.2) (.int .i64 ((rd_T71 l0 x17_1).f2))) (fun _ hk => hk.2) (.int .i64 ((rd_T71 l0 x17_1).f3))) (fun _ hk => hk.2) (.int .i64 ((rd_T71 l0 x17_1).f4))) (fun _ hk => hk.2) (.int .i64 ((rd_T71 l0 x17_1).f5))) (fun _ hk => hk.2) (.int .i64 ((rd_T71 l0 x17_1).f6))) (fun _ hk => hk.2) (.string ((rd_T71 l0 x17_1).f7))) (fun _ hk => trivial)⟩, ⟨by (with_reducible repeat (first | refine blk_drewN ?_ _ | refine blk_drew ?_ | refine blk_alloc ?_ _)); refine blk_put (cs := #[.int .i64 ((rd_T71 l0 x17_1).f0), .int .i64 ((rd_T71 l0 x17_1).f1), .int .i64 ((rd_T71 l0 x17_1).f2), .int .i64 ((rd_T71 l0 x17_1).f3), .int .i64 ((rd_T71 l0 x17_1).f4), .int .i64 ((rd_T71 l0 x17_1).f5), .int .i64 ((rd_T71 l0 x17_1).f6), .string (⟨#[]⟩ : ByteArray)]) ?_ 7 _ rfl; (with_reducible repeat (first | refine blk_drewN ?_ _ | refine blk_drew ?_ | refine blk_alloc ?_ _)); refine blk_put (cs := #[.int .i64 ((rd_T71 l0 x17_1).f0), .int .i64 ((rd_T71 l0 x17_1).f1), .int .i64 ((rd_T71 l0 x17_1).f2), .int .i64 ((rd_T71 l0 x17_1).f3), .int .i64 ((rd_T71 l0 x17_1).f4), .int .i64 ((rd_T71 l0 x17_1).f5), .int .i64 0, .string (⟨#[]⟩ : ByteArray)]) ?_ 6 _ rfl; (with_reducible repeat (first | refine blk_drewN ?_ _ | refine blk_drew ?_ | refine blk_alloc ?_ _)); refine blk_put (cs := #[.int .i64 ((rd_T71 l0 x17_1).f0), .int .i64 ((rd_T71 l0 x17_1).f1), .int .i64 ((rd_T71 l0 x17_1).f2), .int .i64 ((rd_T71 l0 x17_1).f3), .int .i64 ((rd_T71 l0 x17_1).f4), .int .i64 0, .int .i64 0, .string (⟨#[]⟩ : ByteArray)]) ?_ 5 _ rfl; (with_reducible repeat (first | refine blk_drewN ?_ _ | refine blk_drew ?_ | refine blk_alloc ?_ _)); refine blk_put (cs := #[.int .i64 ((rd_T71 l0 x17_1).f0), .int .i64 ((rd_T71 l0 x17_1).f1), .int .i64 ((rd_T71 l0 x17_1).f2), .int .i64 ((rd_T71 l0 x17_1).f3), .int .i64 0, .int .i64 0, .int .i64 0, .string (⟨#[]⟩ : ByteArray)]) ?_ 4 _ rfl; (with_reducible repeat (first | refine blk_drewN ?_ _ | refine blk_drew ?_ | refine blk_alloc ?_ _)); refine blk_put (cs := #[.int .i64 ((rd_T71 l0 x17_1).f0), .int .i64 ((rd_T71 l0 x17_1).f1), .int .i64 ((rd_T71 l0 x17_1).f2), .int .i64 0, .int .i64 0, .int .i64 0, .int .i64 0, .string (⟨#[]⟩ : ByteArray)]) ?_ 3 _ rfl; (with_reducible repeat (first | refine blk_drewN ?_ _ | refine blk_drew ?_ | refine blk_alloc ?_ _)); refine blk_put (cs := #[.int .i64 ((rd_T71 l0 x17_1).f0), .int .i64 ((rd_T71 l0 x17_1).f1), .int .i64 0, .int .i64 0, .int .i64 0, .int .i64 0, .int .i64 0, .string (⟨#[]⟩ : ByteArray)]) ?_ 2 _ rfl; (with_reducible repeat (first | refine blk_drewN ?_ _ | refine blk_drew ?_ | refine blk_alloc ?_ _)); refine blk_put (cs := #[.int .i64 ((rd_T71 l0 x17_1).f0), .int .i64 0, .int .i64 0, .int .i64 0, .int .i64 0, .int .i64 0, .int .i64 0, .string (⟨#[]⟩ : ByteArray)]) ?_ 1 _ rfl; (with_reducible repeat (first | refine blk_drewN ?_ _ | refine blk_drew ?_ | refine blk_alloc ?_ _)); refine blk_put (cs := #[.int .i64 0, .int .i64 0, .int .i64 0, .int .i64 0, .int .i64 0, .int .i64 0, .int .i64 0, .string (⟨#[]⟩ : ByteArray)]) ?_ 0 _ rfl; (with_reducible repeat (first | refine blk_drewN ?_ _ | refine blk_drew ?_ | refine blk_alloc ?_ _)); exact BK105.out⟩, ⟨by repeat (first | (with_reducible first | exact HB.out | apply below_alloc | apply pw_below_drewN | apply below_drew1 | refine below_set ?_ GE105.out) | exact HB.out)⟩⟩
         rw [if_neg c14] at H
         have c14b0 : (((rd_T71 l0 x17_1).f0) == (wrap64 (x17_1 + 1))) = false := beq_eq_false_iff_ne.mpr c14
         have c14b1 : (((rd_T71 l0 x17_1).f0) != (wrap64 (x17_1 + 1))) = true := bne_iff_ne.mpr c14
         (first | rw [c14b0] | (simp only [i64_w, i32_w]; rw [c14b0]) | skip)
         have H' := Aside0.mk H
         clear H
         have hcz26_0 := cz_ BK105.out 0 _ rfl
         have hcz26_1 := cz_ BK105.out 1 _ rfl
         have hcz26_2 := cz_ BK105.out 2 _ rfl
         have hcz26_3 := cz_ BK105.out 3 _ rfl
         have hcz26_4 := cz_ BK105.out 4 _ rfl
         have hcz26_5 := cz_ BK105.out 5 _ rfl
         have hcz26_6 := cz_ BK105.out 6 _ rfl
         have hcz26_7 := cz_ BK105.out 7 _ rfl
         have hfz26_0 := blk_frozen BK105.out 0
         have hfz26_1 := blk_frozen BK105.out 1
         have hfz26_2 := blk_frozen BK105.out 2
         have hfz26_3 := blk_frozen BK105.out 3
         have hfz26_4 := blk_frozen BK105.out 4
         have hfz26_5 := blk_frozen BK105.out 5
         have hfz26_6 := blk_frozen BK105.out 6
         have hfz26_7 := blk_frozen BK105.out 7
         go_wp2
         go_meet
         case rel => exact ⟨_, (true), (by first | rfl | (simp; done) | (simp [*]; done) | (simp [beq_nil_, bne_nil_]; done)), H', ⟨by have := HK1.out; first | omega | exact Nat.le_refl _⟩, ⟨by (with_reducible repeat (first | apply Kd.R_alloc | apply Kd.R_drewN | apply Kd.R_drew)); exact Kd.R_mono (Kd.R_far (p := ⟨gb105, 7, none⟩) (Kd.R_far (p := ⟨gb105, 6, none⟩) (Kd.R_far (p := ⟨gb105, 5, none⟩) (Kd.R_far (p := ⟨gb105, 4, none⟩) (Kd.R_far (p := ⟨gb105, 3, none⟩) (Kd.R_far (p := ⟨gb105, 2, none⟩) (Kd.R_far (p := ⟨gb105, 1, none⟩) (Kd.R_far (p := ⟨gb105, 0, none⟩) (Kd.R_types HO_3.out BK105.out (by decide)) (fun _ hk => hk.2) (.int .i64 ((rd_T71 l0 x17_1).f0))) (fun _ hk => hk.2) (.int .i64 ((rd_T71 l0 x17_1).f1))) (fun _ hk => hk.2) (.int .i64 ((rd_T71 l0 x17_1).f2))) (fun _ hk => hk.2) (.int .i64 ((rd_T71 l0 x17_1).f3))) (fun _ hk => hk.2) (.int .i64 ((rd_T71 l0 x17_1).f4))) (fun _ hk => hk.2) (.int .i64 ((rd_T71 l0 x17_1).f5))) (fun _ hk => hk.2) (.int .i64 ((rd_T71 l0 x17_1).f6))) (fun _ hk => hk.2) (.string ((rd_T71 l0 x17_1).f7))) (fun _ hk => trivial)⟩, ⟨by (with_reducible repeat (first | refine blk_drewN ?_ _ | refine blk_drew ?_ | refine blk_alloc ?_ _)); refine blk_put (cs := #[.int .i64 ((rd_T71 l0 x17_1).f0), .int .i64 ((rd_T71 l0 x17_1).f1), .int .i64 ((rd_T71 l0 x17_1).f2), .int .i64 ((rd_T71 l0 x17_1).f3), .int .i64 ((rd_T71 l0 x17_1).f4), .int .i64 ((rd_T71 l0 x17_1).f5), .int .i64 ((rd_T71 l0 x17_1).f6), .string (⟨#[]⟩ : ByteArray)]) ?_ 7 _ rfl; (with_reducible repeat (first | refine blk_drewN ?_ _ | refine blk_drew ?_ | refine blk_alloc ?_ _)); refine blk_put (cs := #[.int .i64 ((rd_T71 l0 x17_1).f0), .int .i64 ((rd_T71 l0 x17_1).f1), .int .i64 ((rd_T71 l0 x17_1).f2), .int .i64 ((rd_T71 l0 x17_1).f3), .int .i64 ((rd_T71 l0 x17_1).f4), .int .i64 ((rd_T71 l0 x17_1).f5), .int .i64 0, .string (⟨#[]⟩ : ByteArray)]) ?_ 6 _ rfl; (with_reducible repeat (first | refine blk_drewN ?_ _ | refine blk_drew ?_ | refine blk_alloc ?_ _)); refine blk_put (cs := #[.int .i64 ((rd_T71 l0 x17_1).f0), .int .i64 ((rd_T71 l0 x17_1).f1), .int .i64 ((rd_T71 l0 x17_1).f2), .int .i64 ((rd_T71 l0 x17_1).f3), .int .i64 ((rd_T71 l0 x17_1).f4), .int .i64 0, .int .i64 0, .string (⟨#[]⟩ : ByteArray)]) ?_ 5 _ rfl; (with_reducible repeat (first | refine blk_drewN ?_ _ | refine blk_drew ?_ | refine blk_alloc ?_ _)); refine blk_put (cs := #[.int .i64 ((rd_T71 l0 x17_1).f0), .int .i64 ((rd_T71 l0 x17_1).f1), .int .i64 ((rd_T71 l0 x17_1).f2), .int .i64 ((rd_T71 l0 x17_1).f3), .int .i64 0, .int .i64 0, .int .i64 0, .string (⟨#[]⟩ : ByteArray)]) ?_ 4 _ rfl; (with_reducible repeat (first | refine blk_drewN ?_ _ | refine blk_drew ?_ | refine blk_alloc ?_ _)); refine blk_put (cs := #[.int .i64 ((rd_T71 l0 x17_1).f0), .int .i64 ((rd_T71 l0 x17_1).f1), .int .i64 ((rd_T71 l0 x17_1).f2), .int .i64 0, .int .i64 0, .int .i64 0, .int .i64 0, .string (⟨#[]⟩ : ByteArray)]) ?_ 3 _ rfl; (with_reducible repeat (first | refine blk_drewN ?_ _ | refine blk_drew ?_ | refine blk_alloc ?_ _)); refine blk_put (cs := #[.int .i64 ((rd_T71 l0 x17_1).f0), .int .i64 ((rd_T71 l0 x17_1).f1), .int .i64 0, .int .i64 0, .int .i64 0, .int .i64 0, .int .i64 0, .string (⟨#[]⟩ : ByteArray)]) ?_ 2 _ rfl; (with_reducible repeat (first | refine blk_drewN ?_ _ | refine blk_drew ?_ | refine blk_alloc ?_ _)); refine blk_put (cs := #[.int .i64 ((rd_T71 l0 x17_1).f0), .int .i64 0, .int .i64 0, .int .i64 0, .int .i64 0, .int .i64 0, .int .i64 0, .string (⟨#[]⟩ : ByteArray)]) ?_ 1 _ rfl; (with_reducible repeat (first | refine blk_drewN ?_ _ | refine blk_drew ?_ | refine blk_alloc ?_ _)); refine blk_put (cs := #[.int .i64 0, .int .i64 0, .int .i64 0, .int .i64 0, .int .i64 0, .int .i64 0, .int .i64 0, .string (⟨#[]⟩ : ByteArray)]) ?_ 0 _ rfl; (with_reducible repeat (first | refine blk_drewN ?_ _ | refine blk_drew ?_ | refine blk_alloc ?_ _)); exact BK105.out⟩, ⟨by repeat (first | (with_reducible first | exact HB.out | apply below_alloc | apply pw_below_drewN | apply below_drew1 | refine below_set ?_ GE105.out) | exact HB.out)⟩⟩
        case rest =>
         clear HC11
         try clear c1
         try clear p1
         try clear q1
         try clear hx1
         try clear c2
         try clear c2b0
         try clear c2b1
         try clear p2
         try clear c3
         try clear c4
         try clear c4b0
         try clear c4b1
         try clear c5
         try clear c5b0
         try clear c5b1
         try clear p6
         try clear c8
         try clear c8b0
         try clear c9
         try clear c9b0
         try clear c10
         try clear c10b0
         try clear p10
         try clear q10
         try clear hx10
         try clear c14
         try clear c14b0
         try clear c14b1
         try clear c16
         try clear c18
         try clear c20
         try clear hcz13_0
         try clear hcz13_1
         try clear hcz13_2
         try clear hcz13_3
         try clear hcz13_4
         try clear hcz13_5
         try clear hcz13_6
         try clear hcz13_7
         try clear hcz22_0
         try clear hcz22_1
         try clear hcz22_2
         try clear hcz22_3
         try clear hcz22_4
         try clear hcz22_5
         try clear hcz22_6
         try clear hcz22_7
         try clear hcz23_0
         try clear hcz23_1
         try clear hcz23_2
         try clear hcz23_3
         try clear hcz23_4
         try clear hcz23_5
         try clear hcz23_6
         try clear hcz23_7
         try clear hcz24_0
         try clear hcz24_1
         try clear hcz24_2
         try clear hcz24_3
         try clear hcz24_4
         try clear hcz24_5
         try clear hcz24_6
         try clear hcz24_7
         try clear hcz25_0
         try clear hcz25_1
         try clear hcz25_2
         try clear hcz25_3
         try clear hcz25_4
         try clear hcz25_5
         try clear hcz25_6
         try clear hcz25_7
         try clear hcz26_0
         try clear hcz26_1
         try clear hcz26_2
         try clear hcz26_3
         try clear hcz26_4
         try clear hcz26_5
         try clear hcz26_6
         try clear hcz26_7
         try clear hfz13_0
         try clear hfz13_1
         try clear hfz13_2
         try clear hfz13_3
         try clear hfz13_4
         try clear hfz13_5
         try clear hfz13_6
         try clear hfz13_7
         try clear hfz22_0
         try clear hfz22_1
         try clear hfz22_2
         try clear hfz22_3
         try clear hfz22_4
         try clear hfz22_5
         try clear hfz22_6
         try clear hfz22_7
         try clear hfz23_0
         try clear hfz23_1
         try clear hfz23_2
         try clear hfz23_3
         try clear hfz23_4
         try clear hfz23_5
         try clear hfz23_6
         try clear hfz23_7
         try clear hfz24_0
         try clear hfz24_1
         try clear hfz24_2
         try clear hfz24_3
         try clear hfz24_4
         try clear hfz24_5
         try clear hfz24_6
         try clear hfz24_7
         try clear hfz25_0
         try clear hfz25_1
         try clear hfz25_2
         try clear hfz25_3
         try clear hfz25_4
         try clear hfz25_5
         try clear hfz25_6
         try clear hfz25_7
         try clear hfz26_0
         try clear hfz26_1
         try clear hfz26_2
         try clear hfz26_3
         try clear hfz26_4
         try clear hfz26_5
         try clear hfz26_6
         try clear hfz26_7
         try clear hx104_0
         try clear hx104_1
         try clear hx104_2
         try clear hx104_3
         try clear hx104_4
         try clear hx104_5
         try clear hx104_6
         try clear hx104_7
         try clear p104
         try clear p2
         try clear p6
         try clear q104
         obtain ⟨kq, x51_10, rfl, HA, HJ10, HO_3, BK105, HB⟩ := hcut
         cases kq with
         | zero => exact absurd HA.out (by simp [impl_IsValidSamples.j1])
         | succ kj10 =>
          have H := HA.out
          clear HA
          simp only [impl_IsValidSamples.j1] at H
          by_cases c27 : x51_10 = true
          ·subst c27
           have H1 : (some false) = some r := by rw [if_pos rfl] at H; exact H
           clear H
           have H := H1
           clear H1
           obtain rfl := Option.some.inj H
           go_wp2
           go_ret
           exact ⟨by first | rfl | (simp [errW_none, errW_some] <;> rfl) | (simp only [← hji3]; first | rfl | (simp [errW_none, errW_some] <;> rfl)) | (simp [*, errW_none, errW_some] <;> rfl), by repeat (first | (with_reducible first | exact HB.out | apply below_alloc | apply pw_below_drewN | apply below_drew1 | refine below_set ?_ GE105.out) | exact HB.out)⟩
          replace c27 := Bool.eq_false_iff.mpr c27
          subst c27
          have H1 : ((impl_within.f ((rd_T71 l0 x17_1).f4) 0 ((rd_T71 l0 x17_1).f3)).bind fun t110 => (if t110 = true then ((impl_within.f ((rd_T71 l0 x17_1).f5) 0 ((rd_T71 l0 x17_1).f3)).bind fun t111 => (if t111 = true then ((impl_within.f ((rd_T71 l0 x17_1).f6) 0 ((rd_T71 l0 x17_1).f3)).bind fun t112 => (if t112 = true then (impl_IsValidSamples.j2 kj10 l0 x3_1 l0 (l0.length : Int) x17_1 ((wrap64 ((wrap64 (((rd_T71 l0 x17_1).f4) + ((rd_T71 l0 x17_1).f5))) + ((rd_T71 l0 x17_1).f6))) != ((rd_T71 l0 x17_1).f3)) ((rd_T71 l0 x17_1).f0) ((rd_T71 l0 x17_1).f1) ((rd_T71 l0 x17_1).f2) ((rd_T71 l0 x17_1).f3) ((rd_T71 l0 x17_1).f4) ((rd_T71 l0 x17_1).f5) ((rd_T71 l0 x17_1).f6) ((rd_T71 l0 x17_1).f7)) else (impl_IsValidSamples.j2 kj10 l0 x3_1 l0 (l0.length : Int) x17_1 true ((rd_T71 l0 x17_1).f0) ((rd_T71 l0 x17_1).f1) ((rd_T71 l0 x17_1).f2) ((rd_T71 l0 x17_1).f3) ((rd_T71 l0 x17_1).f4) ((rd_T71 l0 x17_1).f5) ((rd_T71 l0 x17_1).f6) ((rd_T71 l0 x17_1).f7)))) else (impl_IsValidSamples.j2 kj10 l0 x3_1 l0 (l0.length : Int) x17_1 true ((rd_T71 l0 x17_1).f0) ((rd_T71 l0 x17_1).f1) ((rd_T71 l0 x17_1).f2) ((rd_T71 l0 x17_1).f3) ((rd_T71 l0 x17_1).f4) ((rd_T71 l0 x17_1).f5) ((rd_T71 l0 x17_1).f6) ((rd_T71 l0 x17_1).f7)))) else (impl_IsValidSamples.j2 kj10 l0 x3_1 l0 (l0.length : Int) x17_1 true ((rd_T71 l0 x17_1).f0) ((rd_T71 l0 x17_1).f1) ((rd_T71 l0 x17_1).f2) ((rd_T71 l0 x17_1).f3) ((rd_T71 l0 x17_1).f4) ((rd_T71 l0 x17_1).f5) ((rd_T71 l0 x17_1).f6) ((rd_T71 l0 x17_1).f7)))) = some r := by rw [if_neg (show ¬ (false = true) by decide)] at H; exact H
          clear H
          have H := H1
          clear H1
          have HC28 := Aside0.mk H
          clear H
          go_upto_region 9 with (fail)
          go_cut [86] (fun v86 wc => ∃ (kq : Nat) (x86_27 : Bool), v86 = .bool x86_27 ∧ Aside0 (impl_IsValidSamples.j2 kq l0 x3_1 l0 (l0.length : Int) x17_1 x86_27 ((rd_T71 l0 x17_1).f0) ((rd_T71 l0 x17_1).f1) ((rd_T71 l0 x17_1).f2) ((rd_T71 l0 x17_1).f3) ((rd_T71 l0 x17_1).f4) ((rd_T71 l0 x17_1).f5) ((rd_T71 l0 x17_1).f6) ((rd_T71 l0 x17_1).f7) = some r) ∧ Aside0 (kq ≤ kj10) ∧ Aside0 (Kd.R (Kd.int .i64) 3 wc w.heap.size (fun _ => True) v102 x3_1) ∧ Aside0 (wc.heap[gb105]? = some (.cells #[.int .i64 ((rd_T71 l0 x17_1).f0), .int .i64 ((rd_T71 l0 x17_1).f1), .int .i64 ((rd_T71 l0 x17_1).f2), .int .i64 ((rd_T71 l0 x17_1).f3), .int .i64 ((rd_T71 l0 x17_1).f4), .int .i64 ((rd_T71 l0 x17_1).f5), .int .i64 ((rd_T71 l0 x17_1).f6), .string ((rd_T71 l0 x17_1).f7)] 71 (0, 0))) ∧ Aside0 (Below w.heap.size w wc))
          case first =>
           have H := HC28.out
           clear HC28
           replace H := Option.bind_eq_some_iff.mp H
           obtain ⟨t110, A290, H⟩ := H
           replace H : (if t110 = true then ((impl_within.f ((rd_T71 l0 x17_1).f5) 0 ((rd_T71 l0 x17_1).f3)).bind fun t111 => (if t111 = true then ((impl_within.f ((rd_T71 l0 x17_1).f6) 0 ((rd_T71 l0 x17_1).f3)).bind fun t112 => (if t112 = true then (impl_IsValidSamples.j2 kj10 l0 x3_1 l0 (l0.length : Int) x17_1 ((wrap64 ((wrap64 (((rd_T71 l0 x17_1).f4) + ((rd_T71 l0 x17_1).f5))) + ((rd_T71 l0 x17_1).f6))) != ((rd_T71 l0 x17_1).f3)) ((rd_T71 l0 x17_1).f0) ((rd_T71 l0 x17_1).f1) ((rd_T71 l0 x17_1).f2) ((rd_T71 l0 x17_1).f3) ((rd_T71 l0 x17_1).f4) ((rd_T71 l0 x17_1).f5) ((rd_T71 l0 x17_1).f6) ((rd_T71 l0 x17_1).f7)) else (impl_IsValidSamples.j2 kj10 l0 x3_1 l0 (l0.length : Int) x17_1 true ((rd_T71 l0 x17_1).f0) ((rd_T71 l0 x17_1).f1) ((rd_T71 l0 x17_1).f2) ((rd_T71 l0 x17_1).f3) ((rd_T71 l0 x17_1).f4) ((rd_T71 l0 x17_1).f5) ((rd_T71 l0 x17_1).f6) ((rd_T71 l0 x17_1).f7)))) else (impl_IsValidSamples.j2 kj10 l0 x3_1 l0 (l0.length : Int) x17_1 true ((rd_T71 l0 x17_1).f0) ((rd_T71 l0 x17_1).f1) ((rd_T71 l0 x17_1).f2) ((rd_T71 l0 x17_1).f3) ((rd_T71 l0 x17_1).f4) ((rd_T71 l0 x17_1).f5) ((rd_T71 l0 x17_1).f6) ((rd_T71 l0 x17_1).f7)))) else (impl_IsValidSamples.j2 kj10 l0 x3_1 l0 (l0.length : Int) x17_1 true ((rd_T71 l0 x17_1).f0) ((rd_T71 l0 x17_1).f1) ((rd_T71 l0 x17_1).f2) ((rd_T71 l0 x17_1).f3) ((rd_T71 l0 x17_1).f4) ((rd_T71 l0 x17_1).f5) ((rd_T71 l0 x17_1).f6) ((rd_T71 l0 x17_1).f7))) = some r := H
           have A29 := Aside0.mk A290
           clear A290
           by_cases c30 : t110 = true
           ·subst c30
            have H1 : ((impl_within.f ((rd_T71 l0 x17_1).f5) 0 ((rd_T71 l0 x17_1).f3)).bind fun t111 => (if t111 = true then ((impl_within.f ((rd_T71 l0 x17_1).f6) 0 ((rd_T71 l0 x17_1).f3)).bind fun t112 => (if t112 = true then (impl_IsValidSamples.j2 kj10 l0 x3_1 l0 (l0.length : Int) x17_1 ((wrap64 ((wrap64 (((rd_T71 l0 x17_1).f4) + ((rd_T71 l0 x17_1).f5))) + ((rd_T71 l0 x17_1).f6))) != ((rd_T71 l0 x17_1).f3)) ((rd_T71 l0 x17_1).f0) ((rd_T71 l0 x17_1).f1) ((rd_T71 l0 x17_1).f2) ((rd_T71 l0 x17_1).f3) ((rd_T71 l0 x17_1).f4) ((rd_T71 l0 x17_1).f5) ((rd_T71 l0 x17_1).f6) ((rd_T71 l0 x17_1).f7)) else (impl_IsValidSamples.j2 kj10 l0 x3_1 l0 (l0.length : Int) x17_1 true ((rd_T71 l0 x17_1).f0) ((rd_T71 l0 x17_1).f1) ((rd_T71 l0 x17_1).f2) ((rd_T71 l0 x17_1).f3) ((rd_T71 l0 x17_1).f4) ((rd_T71 l0 x17_1).f5) ((rd_T71 l0 x17_1).f6) ((rd_T71 l0 x17_1).f7)))) else (impl_IsValidSamples.j2 kj10 l0 x3_1 l0 (l0.length : Int) x17_1 true ((rd_T71 l0 x17_1).f0) ((rd_T71 l0 x17_1).f1) ((rd_T71 l0 x17_1).f2) ((rd_T71 l0 x17_1).f3) ((rd_T71 l0 x17_1).f4) ((rd_T71 l0 x17_1).f5) ((rd_T71 l0 x17_1).f6) ((rd_T71 l0 x17_1).f7)))) = some r := by rw [if_pos rfl] at H; exact H
            clear H
            have H := H1
            clear H1
            replace H := Option.bind_eq_some_iff.mp H
            obtain ⟨t111, A310, H⟩ := H
            replace H : (if t111 = true then ((impl_within.f ((rd_T71 l0 x17_1).f6) 0 ((rd_T71 l0 x17_1).f3)).bind fun t112 => (if t112 = true then (impl_IsValidSamples.j2 kj10 l0 x3_1 l0 (l0.length : Int) x17_1 ((wrap64 ((wrap64 (((rd_T71 l0 x17_1).f4) + ((rd_T71 l0 x17_1).f5))) + ((rd_T71 l0 x17_1).f6))) != ((rd_T71 l0 x17_1).f3)) ((rd_T71 l0 x17_1).f0) ((rd_T71 l0 x17_1).f1) ((rd_T71 l0 x17_1).f2) ((rd_T71 l0 x17_1).f3) ((rd_T71 l0 x17_1).f4) ((rd_T71 l0 x17_1).f5) ((rd_T71 l0 x17_1).f6) ((rd_T71 l0 x17_1).f7)) else (impl_IsValidSamples.j2 kj10 l0 x3_1 l0 (l0.length : Int) x17_1 true ((rd_T71 l0 x17_1).f0) ((rd_T71 l0 x17_1).f1) ((rd_T71 l0 x17_1).f2) ((rd_T71 l0 x17_1).f3) ((rd_T71 l0 x17_1).f4) ((rd_T71 l0 x17_1).f5) ((rd_T71 l0 x17_1).f6) ((rd_T71 l0 x17_1).f7)))) else (impl_IsValidSamples.j2 kj10 l0 x3_1 l0 (l0.length : Int) x17_1 true ((rd_T71 l0 x17_1).f0) ((rd_T71 l0 x17_1).f1) ((rd_T71 l0 x17_1).f2) ((rd_T71 l0 x17_1).f3) ((rd_T71 l0 x17_1).f4) ((rd_T71 l0 x17_1).f5) ((rd_T71 l0 x17_1).f6) ((rd_T71 l0 x17_1).f7))) = some r := H
            have A31 := Aside0.mk A310
            clear A310
            by_cases c32 : t111 = true
            ·subst c32
             have H1 : ((impl_within.f ((rd_T71 l0 x17_1).f6) 0 ((rd_T71 l0 x17_1).f3)).bind fun t112 => (if t112 = true then (impl_IsValidSamples.j2 kj10 l0 x3_1 l0 (l0.length : Int) x17_1 ((wrap64 ((wrap64 (((rd_T71 l0 x17_1).f4) + ((rd_T71 l0 x17_1).f5))) + ((rd_T71 l0 x17_1).f6))) != ((rd_T71 l0 x17_1).f3)) ((rd_T71 l0 x17_1).f0) ((rd_T71 l0 x17_1).f1) ((rd_T71 l0 x17_1).f2) ((rd_T71 l0 x17_1).f3) ((rd_T71 l0 x17_1).f4) ((rd_T71 l0 x17_1).f5) ((rd_T71 l0 x17_1).f6) ((rd_T71 l0 x17_1).f7)) else (impl_IsValidSamples.j2 kj10 l0 x3_1 l0 (l0.length : Int) x17_1 true ((rd_T71 l0 x17_1).f0) ((rd_T71 l0 x17_1).f1) ((rd_T71 l0 x17_1).f2) ((rd_T71 l0 x17_1).f3) ((rd_T71 l0 x17_1).f4) ((rd_T71 l0 x17_1).f5) ((rd_T71 l0 x17_1).f6) ((rd_T71 l0 x17_1).f7)))) = some r := by rw [if_pos rfl] at H; exact H
             clear H
             have H := H1
             clear H1
             replace H := Option.bind_eq_some_iff.mp H
             obtain ⟨t112, A330, H⟩ := H
             replace H : (if t112 = true then (impl_IsValidSamples.j2 kj10 l0 x3_1 l0 (l0.length : Int) x17_1 ((wrap64 ((wrap64 (((rd_T71 l0 x17_1).f4) + ((rd_T71 l0 x17_1).f5))) + ((rd_T71 l0 x17_1).f6))) != ((rd_T71 l0 x17_1).f3)) ((rd_T71 l0 x17_1).f0) ((rd_T71 l0 x17_1).f1) ((rd_T71 l0 x17_1).f2) ((rd_T71 l0 x17_1).f3) ((rd_T71 l0 x17_1).f4) ((rd_T71 l0 x17_1).f5) ((rd_T71 l0 x17_1).f6) ((rd_T71 l0 x17_1).f7)) else (impl_IsValidSamples.j2 kj10 l0 x3_1 l0 (l0.length : Int) x17_1 true ((rd_T71 l0 x17_1).f0) ((rd_T71 l0 x17_1).f1) ((rd_T71 l0 x17_1).f2) ((rd_T71 l0 x17_1).f3) ((rd_T71 l0 x17_1).f4) ((rd_T71 l0 x17_1).f5) ((rd_T71 l0 x17_1).f6) ((rd_T71 l0 x17_1).f7))) = some r := H
             have A33 := Aside0.mk A330
             clear A330
             by_cases c34 : t112 = true
             ·subst c34
              have H1 : (impl_IsValidSamples.j2 kj10 l0 x3_1 l0 (l0.length : Int) x17_1 ((wrap64 ((wrap64 (((rd_T71 l0 x17_1).f4) + ((rd_T71 l0 x17_1).f5))) + ((rd_T71 l0 x17_1).f6))) != ((rd_T71 l0 x17_1).f3)) ((rd_T71 l0 x17_1).f0) ((rd_T71 l0 x17_1).f1) ((rd_T71 l0 x17_1).f2) ((rd_T71 l0 x17_1).f3) ((rd_T71 l0 x17_1).f4) ((rd_T71 l0 x17_1).f5) ((rd_T71 l0 x17_1).f6) ((rd_T71 l0 x17_1).f7)) = some r := by rw [if_pos rfl] at H; exact H
              clear H
              have H := H1
              clear H1
              have H' := Aside0.mk H
              clear H
              have hcz35_0 := cz_ BK105.out 0 _ rfl
              have hcz35_1 := cz_ BK105.out 1 _ rfl
              have hcz35_2 := cz_ BK105.out 2 _ rfl
              have hcz35_3 := cz_ BK105.out 3 _ rfl
              have hcz35_4 := cz_ BK105.out 4 _ rfl
              have hcz35_5 := cz_ BK105.out 5 _ rfl
              have hcz35_6 := cz_ BK105.out 6 _ rfl
              have hcz35_7 := cz_ BK105.out 7 _ rfl
              have hfz35_0 := blk_frozen BK105.out 0
              have hfz35_1 := blk_frozen BK105.out 1
              have hfz35_2 := blk_frozen BK105.out 2
              have hfz35_3 := blk_frozen BK105.out 3
              have hfz35_4 := blk_frozen BK105.out 4
              have hfz35_5 := blk_frozen BK105.out 5
              have hfz35_6 := blk_frozen BK105.out 6
              have hfz35_7 := blk_frozen BK105.out 7
              go_wp2_with (first | ((with_reducible refine gate_callee (f := 67) rfl ?_); refine goesL_ (some 56) rfl rfl Try.func67 (by kernel_rfl) rfl #[.int .i64 ((rd_T71 l0 x17_1).f4), .int .i64 0, .int .i64 ((rd_T71 l0 x17_1).f3)] rfl (by (try simp only [List.map_toArray, List.map_cons, List.map_nil]); first | done | rfl | (simp only [List.length_drop, List.length_take]; rfl)) ?_; (with_reducible refine (impl_within.calls ((rd_T71 l0 x17_1).f4) 0 ((rd_T71 l0 x17_1).f3) true _ A29.out).mono ?_); rintro e w' ⟨rfl, ⟨nd, rfl⟩⟩; refine ⟨_, rfl, ?_⟩) | (go_at_call 67; (with_reducible refine (impl_within.calls ((rd_T71 l0 x17_1).f5) 0 ((rd_T71 l0 x17_1).f3) true _ A31.out).mono ?_); rintro e w' ⟨rfl, ⟨nd, rfl⟩⟩) | (go_at_call 67; (with_reducible refine (impl_within.calls ((rd_T71 l0 x17_1).f6) 0 ((rd_T71 l0 x17_1).f3) true _ A33.out).mono ?_); rintro e w' ⟨rfl, ⟨nd, rfl⟩⟩))
              go_meet
              case rel => exact ⟨_, (((wrap64 ((wrap64 (((rd_T71 l0 x17_1).f4) + ((rd_T71 l0 x17_1).f5))) + ((rd_T71 l0 x17_1).f6))) != ((rd_T71 l0 x17_1).f3))), (by first | rfl | (simp; done) | (simp [*]; done) | (simp [beq_nil_, bne_nil_]; done)), H', ⟨by have := HK1.out; have := HJ10.out; first | omega | exact Nat.le_refl _⟩, ⟨by (with_reducible repeat (first | apply Kd.R_alloc | apply Kd.R_drewN | apply Kd.R_drew)); exact HO_3.out⟩, ⟨by (with_reducible repeat (first | refine blk_drewN ?_ _ | refine blk_drew ?_ | refine blk_alloc ?_ _)); exact BK105.out⟩, ⟨by repeat (first | (with_reducible first | exact HB.out | apply below_alloc | apply pw_below_drewN | apply below_drew1 | refine below_set ?_ GE105.out) | exact HB.out)⟩⟩
             replace c34 := Bool.eq_false_iff.mpr c34
             subst c34
             have H1 : (impl_IsValidSamples.j2 kj10 l0 x3_1 l0 (l0.length : Int) x17_1 true ((rd_T71 l0 x17_1).f0) ((rd_T71 l0 x17_1).f1) ((rd_T71 l0 x17_1).f2) ((rd_T71 l0 x17_1).f3) ((rd_T71 l0 x17_1).f4) ((rd_T71 l0 x17_1).f5) ((rd_T71 l0 x17_1).f6) ((rd_T71 l0 x17_1).f7)) = some r := by rw [if_neg (show ¬ (false = true) by decide)] at H; exact H
             clear H
             have H := H1
             clear H1
             have H' := Aside0.mk H
             clear H
             have hcz36_0 := cz_ BK105.out 0 _ rfl
             have hcz36_1 := cz_ BK105.out 1 _ rfl
             have hcz36_2 := cz_ BK105.out 2 _ rfl
             have hcz36_3 := cz_ BK105.out 3 _ rfl
             have hcz36_4 := cz_ BK105.out 4 _ rfl
             have hcz36_5 := cz_ BK105.out 5 _ rfl
             have hcz36_6 := cz_ BK105.out 6 _ rfl
             have hcz36_7 := cz_ BK105.out 7 _ rfl
             have hfz36_0 := blk_frozen BK105.out 0
             have hfz36_1 := blk_frozen BK105.out 1
             have hfz36_2 := blk_frozen BK105.out 2
             have hfz36_3 := blk_frozen BK105.out 3
             have hfz36_4 := blk_frozen BK105.out 4
             have hfz36_5 := blk_frozen BK105.out 5
             have hfz36_6 := blk_frozen BK105.out 6
             have hfz36_7 := blk_frozen BK105.out 7
             go_wp2_with (first | ((with_reducible refine gate_callee (f := 67) rfl ?_); refine goesL_ (some 56) rfl rfl Try.func67 (by kernel_rfl) rfl #[.int .i64 ((rd_T71 l0 x17_1).f4), .int .i64 0, .int .i64 ((rd_T71 l0 x17_1).f3)] rfl (by (try simp only [List.map_toArray, List.map_cons, List.map_nil]); first | done | rfl | (simp only [List.length_drop, List.length_take]; rfl)) ?_; (with_reducible refine (impl_within.calls ((rd_T71 l0 x17_1).f4) 0 ((rd_T71 l0 x17_1).f3) true _ A29.out).mono ?_); rintro e w' ⟨rfl, ⟨nd, rfl⟩⟩; refine ⟨_, rfl, ?_⟩) | (go_at_call 67; (with_reducible refine (impl_within.calls ((rd_T71 l0 x17_1).f5) 0 ((rd_T71 l0 x17_1).f3) true _ A31.out).mono ?_); rintro e w' ⟨rfl, ⟨nd, rfl⟩⟩) | (go_at_call 67; (with_reducible refine (impl_within.calls ((rd_T71 l0 x17_1).f6) 0 ((rd_T71 l0 x17_1).f3) false _ A33.out).mono ?_); rintro e w' ⟨rfl, ⟨nd, rfl⟩⟩))
             go_meet
             case rel => exact ⟨_, (true), (by first | rfl | (simp; done) | (simp [*]; done) | (simp [beq_nil_, bne_nil_]; done)), H', ⟨by have := HK1.out; have := HJ10.out; first | omega | exact Nat.le_refl _⟩, ⟨by (with_reducible repeat (first | apply Kd.R_alloc | apply Kd.R_drewN | apply Kd.R_drew)); exact HO_3.out⟩, ⟨by (with_reducible repeat (first | refine blk_drewN ?_ _ | refine blk_drew ?_ | refine blk_alloc ?_ _)); exact BK105.out⟩, ⟨by repeat (first | (with_reducible first | exact HB.out | apply below_alloc | apply pw_below_drewN | apply below_drew1 | refine below_set ?_ GE105.out) | exact HB.out)⟩⟩
            replace c32 := Bool.eq_false_iff.mpr c32
            subst c32
            have H1 : (impl_IsValidSamples.j2 kj10 l0 x3_1 l0 (l0.length : Int) x17_1 true ((rd_T71 l0 x17_1).f0) ((rd_T71 l0 x17_1).f1) ((rd_T71 l0 x17_1).f2) ((rd_T71 l0 x17_1).f3) ((rd_T71 l0 x17_1).f4) ((rd_T71 l0 x17_1).f5) ((rd_T71 l0 x17_1).f6) ((rd_T71 l0 x17_1).f7)) = some r := by rw [if_neg (show ¬ (false = true) by decide)] at H; exact H
            clear H
            have H := H1
            clear H1
            have H' := Aside0.mk H
            clear H
            have hcz37_0 := cz_ BK105.out 0 _ rfl
            have hcz37_1 := cz_ BK105.out 1 _ rfl
            have hcz37_2 := cz_ BK105.out 2 _ rfl
            have hcz37_3 := cz_ BK105.out 3 _ rfl
            have hcz37_4 := cz_ BK105.out 4 _ rfl
            have hcz37_5 := cz_ BK105.out 5 _ rfl
            have hcz37_6 := cz_ BK105.out 6 _ rfl
            have hcz37_7 := cz_ BK105.out 7 _ rfl
            have hfz37_0 := blk_frozen BK105.out 0
            have hfz37_1 := blk_frozen BK105.out 1
            have hfz37_2 := blk_frozen BK105.out 2
            have hfz37_3 := blk_frozen BK105.out 3
            have hfz37_4 := blk_frozen BK105.out 4
            have hfz37_5 := blk_frozen BK105.out 5
            have hfz37_6 := blk_frozen BK105.out 6
            have hfz37_7 := blk_frozen BK105.out 7
            go_wp2_with (first | ((with_reducible refine gate_callee (f := 67) rfl ?_); refine goesL_ (some 56) rfl rfl Try.func67 (by kernel_rfl) rfl #[.int .i64 ((rd_T71 l0 x17_1).f4), .int .i64 0, .int .i64 ((rd_T71 l0 x17_1).f3)] rfl (by (try simp only [List.map_toArray, List.map_cons, List.map_nil]); first | done | rfl | (simp only [List.length_drop, List.length_take]; rfl)) ?_; (with_reducible refine (impl_within.calls ((rd_T71 l0 x17_1).f4) 0 ((rd_T71 l0 x17_1).f3) true _ A29.out).mono ?_); rintro e w' ⟨rfl, ⟨nd, rfl⟩⟩; refine ⟨_, rfl, ?_⟩) | (go_at_call 67; (with_reducible refine (impl_within.calls ((rd_T71 l0 x17_1).f5) 0 ((rd_T71 l0 x17_1).f3) false _ A31.out).mono ?_); rintro e w' ⟨rfl, ⟨nd, rfl⟩⟩))
            go_meet
            case rel => exact ⟨_, (true), (by first | rfl | (simp; done) | (simp [*]; done) | (simp [beq_nil_, bne_nil_]; done)), H', ⟨by have := HK1.out; have := HJ10.out; first | omega | exact Nat.le_refl _⟩, ⟨by (with_reducible repeat (first | apply Kd.R_alloc | apply Kd.R_drewN | apply Kd.R_drew)); exact HO_3.out⟩, ⟨by (with_reducible repeat (first | refine blk_drewN ?_ _ | refine blk_drew ?_ | refine blk_alloc ?_ _)); exact BK105.out⟩, ⟨by repeat (first | (with_reducible first | exact HB.out | apply below_alloc | apply pw_below_drewN | apply below_drew1 | refine below_set ?_ GE105.out) | exact HB.out)⟩⟩
           replace c30 := Bool.eq_false_iff.mpr c30
           subst c30
           have H1 : (impl_IsValidSamples.j2 kj10 l0 x3_1 l0 (l0.length : Int) x17_1 true ((rd_T71 l0 x17_1).f0) ((rd_T71 l0 x17_1).f1) ((rd_T71 l0 x17_1).f2) ((rd_T71 l0 x17_1).f3) ((rd_T71 l0 x17_1).f4) ((rd_T71 l0 x17_1).f5) ((rd_T71 l0 x17_1).f6) ((rd_T71 l0 x17_1).f7)) = some r := by rw [if_neg (show ¬ (false = true) by decide)] at H; exact H
           clear H
           have H := H1
           clear H1
           have H' := Aside0.mk H
           clear H
           have hcz38_0 := cz_ BK105.out 0 _ rfl
           have hcz38_1 := cz_ BK105.out 1 _ rfl
           have hcz38_2 := cz_ BK105.out 2 _ rfl
           have hcz38_3 := cz_ BK105.out 3 _ rfl
           have hcz38_4 := cz_ BK105.out 4 _ rfl
           have hcz38_5 := cz_ BK105.out 5 _ rfl
           have hcz38_6 := cz_ BK105.out 6 _ rfl
           have hcz38_7 := cz_ BK105.out 7 _ rfl
           have hfz38_0 := blk_frozen BK105.out 0
           have hfz38_1 := blk_frozen BK105.out 1
           have hfz38_2 := blk_frozen BK105.out 2
           have hfz38_3 := blk_frozen BK105.out 3
           have hfz38_4 := blk_frozen BK105.out 4
           have hfz38_5 := blk_frozen BK105.out 5
           have hfz38_6 := blk_frozen BK105.out 6
           have hfz38_7 := blk_frozen BK105.out 7
           go_wp2_with (first | ((with_reducible refine gate_callee (f := 67) rfl ?_); refine goesL_ (some 56) rfl rfl Try.func67 (by kernel_rfl) rfl #[.int .i64 ((rd_T71 l0 x17_1).f4), .int .i64 0, .int .i64 ((rd_T71 l0 x17_1).f3)] rfl (by (try simp only [List.map_toArray, List.map_cons, List.map_nil]); first | done | rfl | (simp only [List.length_drop, List.length_take]; rfl)) ?_; (with_reducible refine (impl_within.calls ((rd_T71 l0 x17_1).f4) 0 ((rd_T71 l0 x17_1).f3) false _ A29.out).mono ?_); rintro e w' ⟨rfl, ⟨nd, rfl⟩⟩; refine ⟨_, rfl, ?_⟩))
           go_meet
           case rel => exact ⟨_, (true), (by first | rfl | (simp; done) | (simp [*]; done) | (simp [beq_nil_, bne_nil_]; done)), H', ⟨by have := HK1.out; have := HJ10.out; first | omega | exact Nat.le_refl _⟩, ⟨by (with_reducible repeat (first | apply Kd.R_alloc | apply Kd.R_drewN | apply Kd.R_drew)); exact HO_3.out⟩, ⟨by (with_reducible repeat (first | refine blk_drewN ?_ _ | refine blk_drew ?_ | refine blk_alloc ?_ _)); exact BK105.out⟩, ⟨by repeat (first | (with_reducible first | exact HB.out | apply below_alloc | apply pw_below_drewN | apply below_drew1 | refine below_set ?_ GE105.out) | exact HB.out)⟩⟩
          case rest =>
           clear HC28
           try clear c1
           try clear p1
           try clear q1
           try clear hx1
           try clear c2
           try clear c2b0
           try clear c2b1
           try clear p2
           try clear c3
           try clear c4
           try clear c4b0
           try clear c4b1
           try clear c5
           try clear c5b0
           try clear c5b1
           try clear c6
           try clear p6
           try clear c8
           try clear c8b0
           try clear c9
           try clear c9b0
           try clear c10
           try clear c10b0
           try clear p10
           try clear q10
           try clear hx10
           try clear c14
           try clear c14b0
           try clear c14b1
           try clear c16
           try clear c18
           try clear c20
           try clear c27
           try clear c30
           try clear c32
           try clear c33
           try clear c34
           try clear hcz13_0
           try clear hcz13_1
           try clear hcz13_2
           try clear hcz13_3
           try clear hcz13_4
           try clear hcz13_5
           try clear hcz13_6
           try clear hcz13_7
           try clear hcz22_0
           try clear hcz22_1
           try clear hcz22_2
           try clear hcz22_3
           try clear hcz22_4
           try clear hcz22_5
           try clear hcz22_6
           try clear hcz22_7
           try clear hcz23_0
           try clear hcz23_1
           try clear hcz23_2
           try clear hcz23_3
           try clear hcz23_4
           try clear hcz23_5
           try clear hcz23_6
           try clear hcz23_7
           try clear hcz24_0
           try clear hcz24_1
           try clear hcz24_2
           try clear hcz24_3
           try clear hcz24_4
           try clear hcz24_5
           try clear hcz24_6
           try clear hcz24_7
           try clear hcz25_0
           try clear hcz25_1
           try clear hcz25_2
           try clear hcz25_3
           try clear hcz25_4
           try clear hcz25_5
           try clear hcz25_6
           try clear hcz25_7
           try clear hcz26_0
           try clear hcz26_1
           try clear hcz26_2
           try clear hcz26_3
           try clear hcz26_4
           try clear hcz26_5
           try clear hcz26_6
           try clear hcz26_7
           try clear hcz35_0
           try clear hcz35_1
           try clear hcz35_2
           try clear hcz35_3
           try clear hcz35_4
           try clear hcz35_5
           try clear hcz35_6
           try clear hcz35_7
           try clear hcz36_0
           try clear hcz36_1
           try clear hcz36_2
           try clear hcz36_3
           try clear hcz36_4
           try clear hcz36_5
           try clear hcz36_6
           try clear hcz36_7
           try clear hcz37_0
           try clear hcz37_1
           try clear hcz37_2
           try clear hcz37_3
           try clear hcz37_4
           try clear hcz37_5
           try clear hcz37_6
           try clear hcz37_7
           try clear hcz38_0
           try clear hcz38_1
           try clear hcz38_2
           try clear hcz38_3
           try clear hcz38_4
           try clear hcz38_5
           try clear hcz38_6
           try clear hcz38_7
           try clear hfz13_0
           try clear hfz13_1
           try clear hfz13_2
           try clear hfz13_3
           try clear hfz13_4
           try clear hfz13_5
           try clear hfz13_6
           try clear hfz13_7
           try clear hfz22_0
           try clear hfz22_1
           try clear hfz22_2
           try clear hfz22_3
           try clear hfz22_4
           try clear hfz22_5
           try clear hfz22_6
           try clear hfz22_7
           try clear hfz23_0
           try clear hfz23_1
           try clear hfz23_2
           try clear hfz23_3
           try clear hfz23_4
           try clear hfz23_5
           try clear hfz23_6
           try clear hfz23_7
           try clear hfz24_0
           try clear hfz24_1
           try clear hfz24_2
           try clear hfz24_3
           try clear hfz24_4
           try clear hfz24_5
           try clear hfz24_6
           try clear hfz24_7
           try clear hfz25_0
           try clear hfz25_1
           try clear hfz25_2
           try clear hfz25_3
           try clear hfz25_4
           try clear hfz25_5
           try clear hfz25_6
           try clear hfz25_7
           try clear hfz26_0
           try clear hfz26_1
           try clear hfz26_2
           try clear hfz26_3
           try clear hfz26_4
           try clear hfz26_5
           try clear hfz26_6
           try clear hfz26_7
           try clear hfz35_0
           try clear hfz35_1
           try clear hfz35_2
           try clear hfz35_3
           try clear hfz35_4
           try clear hfz35_5
           try clear hfz35_6
           try clear hfz35_7
           try clear hfz36_0
           try clear hfz36_1
           try clear hfz36_2
           try clear hfz36_3
           try clear hfz36_4
           try clear hfz36_5
           try clear hfz36_6
           try clear hfz36_7
           try clear hfz37_0
           try clear hfz37_1
           try clear hfz37_2
           try clear hfz37_3
           try clear hfz37_4
           try clear hfz37_5
           try clear hfz37_6
           try clear hfz37_7
           try clear hfz38_0
           try clear hfz38_1
           try clear hfz38_2
           try clear hfz38_3
           try clear hfz38_4
           try clear hfz38_5
           try clear hfz38_6
           try clear hfz38_7
           try clear hx104_0
           try clear hx104_1
           try clear hx104_2
           try clear hx104_3
           try clear hx104_4
           try clear hx104_5
           try clear hx104_6
           try clear hx104_7
           try clear p1
           try clear p10
           try clear p104
           try clear p2
           try clear p6
           try clear q1
           try clear q10
           try clear q104
           obtain ⟨kq, x86_27, rfl, HA, HJ27, HO_3, BK105, HB⟩ := hcut
           cases kq with
           | zero => exact absurd HA.out (by simp [impl_IsValidSamples.j2])
           | succ kj27 =>
            have H := HA.out
            clear HA
            simp only [impl_IsValidSamples.j2] at H
            by_cases c39 : x86_27 = true
            ·subst c39
             have H1 : (some false) = some r := by rw [if_pos rfl] at H; exact H
             clear H
             have H := H1
             clear H1
             obtain rfl := Option.some.inj H
             go_wp2
             go_ret
             exact ⟨by first | rfl | (simp [errW_none, errW_some] <;> rfl) | (simp only [← hji3]; first | rfl | (simp [errW_none, errW_some] <;> rfl)) | (simp [*, errW_none, errW_some] <;> rfl), by repeat (first | (with_reducible first | exact HB.out | apply below_alloc | apply pw_below_drewN | apply below_drew1 | refine below_set ?_ GE105.out) | exact HB.out)⟩
            replace c39 := Bool.eq_false_iff.mpr c39
            subst c39
            have H1 : (if ((rd_T71 l0 x17_1).f1) > 0 then (if 0 ≤ (wrap64 (((rd_T71 l0 x17_1).f1) - 1)) then (if (wrap64 (((rd_T71 l0 x17_1).f1) - 1)) < (l0.length : Int) then (if ((rd_T71 l0 (wrap64 (((rd_T71 l0 x17_1).f1) - 1))).f2) = ((rd_T71 l0 x17_1).f2) then (if 0 ≤ ((rd_T71 l0 x17_1).f1) then (if ((rd_T71 l0 x17_1).f1) < (x3_1.length : Int) then (impl_IsValidSamples.l0 kj27 l0 (x3_1.set (((rd_T71 l0 x17_1).f1) : Int).toNat (wrap64 ((rd x3_1 ((rd_T71 l0 x17_1).f1)) + ((rd_T71 l0 x17_1).f3)))) l0 (l0.length : Int) (wrap64 (x17_1 + 1))) else (none)) else (none)) else (some false)) else (none)) else (none)) else (if 0 ≤ ((rd_T71 l0 x17_1).f1) then (if ((rd_T71 l0 x17_1).f1) < (x3_1.length : Int) then (impl_IsValidSamples.l0 kj27 l0 (x3_1.set (((rd_T71 l0 x17_1).f1) : Int).toNat (wrap64 ((rd x3_1 ((rd_T71 l0 x17_1).f1)) + ((rd_T71 l0 x17_1).f3)))) l0 (l0.length : Int) (wrap64 (x17_1 + 1))) else (none)) else (none))) = some r := by rw [if_neg (show ¬ (false = true) by decide)] at H; exact H
            clear H
            have H := H1
            clear H1
            by_cases c40 : ((rd_T71 l0 x17_1).f1) > 0
            ·rw [if_pos c40] at H
             have c40b0 : decide (0 < ((rd_T71 l0 x17_1).f1)) = true := decide_eq_true c40
             clear c40
             obtain ⟨ji41, hji41⟩ : ∃ j_ : Int, (wrap64 (((rd_T71 l0 x17_1).f1) - 1)) = j_ := ⟨_, rfl⟩
             replace H : (if 0 ≤ (ji41) then (if (ji41) < (l0.length : Int) then (if ((rd_T71 l0 (ji41)).f2) = ((rd_T71 l0 x17_1).f2) then (if 0 ≤ ((rd_T71 l0 x17_1).f1) then (if ((rd_T71 l0 x17_1).f1) < (x3_1.length : Int) then (impl_IsValidSamples.l0 kj27 l0 (x3_1.set (((rd_T71 l0 x17_1).f1) : Int).toNat (wrap64 ((rd x3_1 ((rd_T71 l0 x17_1).f1)) + ((rd_T71 l0 x17_1).f3)))) l0 (l0.length : Int) (wrap64 (x17_1 + 1))) else (none)) else (none)) else (some false)) else (none)) else (none)) = some r := by first | (rw [hji41] at H; exact H) | (simp only [hji41] at H ⊢; exact H)
             have hji41w : (IntKind.i64.wrap (((rd_T71 l0 x17_1).f1) - 1)) = ji41 := (i64_w _).trans hji41
             by_cases c42 : 0 ≤ (ji41)
             ·rw [if_pos c42] at H
              have c42b0 : decide (0 ≤ (ji41)) = true := decide_eq_true c42
              clear c42
              by_cases c43 : (ji41) < (l0.length : Int)
              ·rw [if_pos c43] at H
               have c43b0 : decide ((ji41) < (l0.length : Int)) = true := decide_eq_true c43
               clear c43
               by_cases c44 : ((rd_T71 l0 (ji41)).f2) = ((rd_T71 l0 x17_1).f2)
               ·rw [if_pos c44] at H
                have c44b0 : (((rd_T71 l0 (ji41)).f2) == ((rd_T71 l0 x17_1).f2)) = true := beq_iff_eq.mpr c44
                have c44b1 : (((rd_T71 l0 (ji41)).f2) != ((rd_T71 l0 x17_1).f2)) = false := bne_eq_false_iff_eq.mpr c44
                clear c44
                by_cases c45 : 0 ≤ ((rd_T71 l0 x17_1).f1)
                ·rw [if_pos c45] at H
                 have c45b0 : decide (0 ≤ ((rd_T71 l0 x17_1).f1)) = true := decide_eq_true c45
                 clear c45
                 by_cases c46 : ((rd_T71 l0 x17_1).f1) < (x3_1.length : Int)
                 ·rw [if_pos c46] at H
                  have c46b0 : decide (((rd_T71 l0 x17_1).f1) < (x3_1.length : Int)) = true := decide_eq_true c46
                  clear c46
                  obtain ⟨y115, hy115⟩ : ∃ y_ : List Int, y_ = (x3_1.set (((rd_T71 l0 x17_1).f1) : Int).toNat (wrap64 ((rd x3_1 ((rd_T71 l0 x17_1).f1)) + ((rd_T71 l0 x17_1).f3)))) := ⟨_, rfl⟩
                  replace H : (impl_IsValidSamples.l0 kj27 l0 y115 l0 (l0.length : Int) (wrap64 (x17_1 + 1))) = some r := by first | (rw [hy115]; with_reducible exact H) | (have H2_ := (Option.bind_some _ _).symm.trans H; rw [hy115]; with_reducible exact H2_) | (have H2_ := (Option.bind_some _ _).symm.trans H; with_reducible exact H2_) | with_reducible exact H | (rw [hy115]; exact H) | exact H
                  have Ny115 := Aside0.mk hy115
                  clear hy115
                  have H' := Aside0.mk H
                  clear H
                  try go_wp2
                  have n0_ := Aside0.mk (Kd.R_drew HO_3.out)
                  have n1_ := Aside0.mk (blk_drew BK105.out)
                  have n2_ := Aside0.mk (below_drew1 HB.out)
                  clear HO_3
                  clear BK105
                  clear HB
                  have HO_3 := n0_
                  have BK105 := n1_
                  have HB := n2_
                  clear n0_ n1_ n2_
                  have p113 : 0 ≤ ((ji41) : Int) := of_decide_eq_true (by first | (with_reducible assumption) | assumption)
                  have q113 : (ji41) < (l0.length : Int) := of_decide_eq_true (by first | (with_reducible assumption) | assumption)
                  obtain ⟨ad113, e113, hx113_0, hx113_1, hx113_2, hx113_3, hx113_4, hx113_5, hx113_6, hx113_7⟩ := at_T71 HR0.out (ji41) p113 q113
                  have hw113_7 := hx113_7
                  have hw113_6 := hx113_6
                  have hw113_5 := hx113_5
                  have hw113_4 := hx113_4
                  have hw113_3 := hx113_3
                  have hw113_2 := hx113_2
                  have hw113_1 := hx113_1
                  have hw113_0 := hx113_0
                  obtain rfl : ad104 = ad113 := (by injection e113)
                  replace hx113_0 := (HB.out.cell (World.block_lt_of_cell? w _ hx113_0)).trans hx113_0
                  replace hx113_1 := (HB.out.cell (World.block_lt_of_cell? w _ hx113_1)).trans hx113_1
                  replace hx113_2 := (HB.out.cell (World.block_lt_of_cell? w _ hx113_2)).trans hx113_2
                  replace hx113_3 := (HB.out.cell (World.block_lt_of_cell? w _ hx113_3)).trans hx113_3
                  replace hx113_4 := (HB.out.cell (World.block_lt_of_cell? w _ hx113_4)).trans hx113_4
                  replace hx113_5 := (HB.out.cell (World.block_lt_of_cell? w _ hx113_5)).trans hx113_5
                  replace hx113_6 := (HB.out.cell (World.block_lt_of_cell? w _ hx113_6)).trans hx113_6
                  replace hx113_7 := (HB.out.cell (World.block_lt_of_cell? w _ hx113_7)).trans hx113_7
                  replace p113 := eq_true p113
                  replace q113 := eq_true q113
                  refine start_ (n := 15) (S := fun w' => w'.cell? ⟨gb105, 0, none⟩ = some (.int .i64 ((rd_T71 l0 x17_1).f0)) ∧ w'.cell? ⟨gb105, 1, none⟩ = some (.int .i64 ((rd_T71 l0 x17_1).f1)) ∧ w'.cell? ⟨gb105, 2, none⟩ = some (.int .i64 ((rd_T71 l0 x17_1).f2)) ∧ w'.cell? ⟨gb105, 3, none⟩ = some (.int .i64 ((rd_T71 l0 x17_1).f3)) ∧ w'.cell? ⟨gb105, 4, none⟩ = some (.int .i64 ((rd_T71 l0 x17_1).f4)) ∧ w'.cell? ⟨gb105, 5, none⟩ = some (.int .i64 ((rd_T71 l0 x17_1).f5)) ∧ w'.cell? ⟨gb105, 6, none⟩ = some (.int .i64 ((rd_T71 l0 x17_1).f6)) ∧ w'.cell? ⟨gb105, 7, none⟩ = some (.string ((rd_T71 l0 x17_1).f7)) ∧ w'.cell? (ad104.add (((ji41)).toNat * 8)) = some (.int .i64 ((rd_T71 l0 (ji41)).f0)) ∧ w'.cell? ⟨(ad104.add (((ji41)).toNat * 8)).block, (ad104.add (((ji41)).toNat * 8)).off + 1, none⟩ = some (.int .i64 ((rd_T71 l0 (ji41)).f1)) ∧ w'.cell? ⟨(ad104.add (((ji41)).toNat * 8)).block, (ad104.add (((ji41)).toNat * 8)).off + 2, none⟩ = some (.int .i64 ((rd_T71 l0 (ji41)).f2)) ∧ w'.cell? ⟨(ad104.add (((ji41)).toNat * 8)).block, (ad104.add (((ji41)).toNat * 8)).off + 3, none⟩ = some (.int .i64 ((rd_T71 l0 (ji41)).f3)) ∧ w'.cell? ⟨(ad104.add (((ji41)).toNat * 8)).block, (ad104.add (((ji41)).toNat * 8)).off + 4, none⟩ = some (.int .i64 ((rd_T71 l0 (ji41)).f4)) ∧ w'.cell? ⟨(ad104.add (((ji41)).toNat * 8)).block, (ad104.add (((ji41)).toNat * 8)).off + 5, none⟩ = some (.int .i64 ((rd_T71 l0 (ji41)).f5)) ∧ w'.cell? ⟨(ad104.add (((ji41)).toNat * 8)).block, (ad104.add (((ji41)).toNat * 8)).off + 6, none⟩ = some (.int .i64 ((rd_T71 l0 (ji41)).f6)) ∧ w'.cell? ⟨(ad104.add (((ji41)).toNat * 8)).block, (ad104.add (((ji41)).toNat * 8)).off + 7, none⟩ = some (.string ((rd_T71 l0 (ji41)).f7))) (ds := []) #[false, false, false, false, false, false, false, false, false, false, false, false, false, false, false] (by kernel_rfl) rfl rfl ⟨(blk_cell BK105.out 0).trans rfl, (blk_cell BK105.out 1).trans rfl, (blk_cell BK105.out 2).trans rfl, (blk_cell BK105.out 3).trans rfl, (blk_cell BK105.out 4).trans rfl, (blk_cell BK105.out 5).trans rfl, (blk_cell BK105.out 6).trans rfl, (blk_cell BK105.out 7).trans rfl, ((HB.out.cell (World.block_lt_of_cell? w _ hw113_0)).trans hw113_0), ((HB.out.cell (World.block_lt_of_cell? w _ hw113_1)).trans hw113_1), ((HB.out.cell (World.block_lt_of_cell? w _ hw113_2)).trans hw113_2), ((HB.out.cell (World.block_lt_of_cell? w _ hw113_3)).trans hw113_3), ((HB.out.cell (World.block_lt_of_cell? w _ hw113_4)).trans hw113_4), ((HB.out.cell (World.block_lt_of_cell? w _ hw113_5)).trans hw113_5), ((HB.out.cell (World.block_lt_of_cell? w _ hw113_6)).trans hw113_6), ((HB.out.cell (World.block_lt_of_cell? w _ hw113_7)).trans hw113_7)⟩ (fun hHeld => ?_); refine with_tabW impl_IsValidSamples.tab11 impl_IsValidSamples.bits11 (fun HT_ HW_ => ?_)
                  generalize wc.drew = w48 at HO_3 BK105 HB hx113_0 hx113_1 hx113_2 hx113_3 hx113_4 hx113_5 hx113_6 hx113_7 hHeld ⊢
                  refine pure_ (i := 0) (N := some 87) (v := ?_) (a' := ?_) #[true, false, false, false, false, false, false, false, false, false, false, false, false, false, false] rfl rfl (any_of HT_.out (by kernel_rfl)) (fun _ _ _ h => h) (Or.inl ⟨by rfl, ?_⟩) ?_ ?_
                  rotate_left
                  ·intro w'
                   go_simp
                   with_reducible rfl
                  rotate_left
                  ·simp only [Act.put, List.setIfInBounds_toArray, List.set_cons_zero, List.set_cons_succ, i64_w, i32_w]
                   rfl
                  refine take_ (i := 1) (N := some 88) (v := ?_) (a' := ?_) #[true, true, false, false, false, false, false, false, false, false, false, false, false, false, false] rfl rfl (take_ofW HT_.out HW_.out (by kernel_rfl)) (fun _ _ _ h => h) (Or.inl ⟨by rfl, ?_⟩) hHeld ?_ ?_
                  rotate_left
                  ·rintro w' ⟨s0, s1, s2, s3, s4, s5, s6, s7, s8, s9, s10, s11, s12, s13, s14, s15⟩
                   go_simp
                   with_reducible rfl
                  rotate_left
                  ·simp only [Act.put, List.setIfInBounds_toArray, List.set_cons_zero, List.set_cons_succ, i64_w, i32_w]
                   rfl
                  refine pure_ (i := 2) (N := some 89) (v := ?_) (a' := ?_) #[true, true, true, false, false, false, false, false, false, false, false, false, false, false, false] rfl rfl (any_of HT_.out (by kernel_rfl)) (fun _ _ _ h => h) (Or.inl ⟨by rfl, ?_⟩) ?_ ?_
                  rotate_left
                  ·intro w'
                   go_simp
                   with_reducible rfl
                  rotate_left
                  ·simp only [Act.put, List.setIfInBounds_toArray, List.set_cons_zero, List.set_cons_succ, i64_w, i32_w]
                   rfl
                  refine pure_ (i := 3) (N := some 90) (v := ?_) (a' := ?_) #[true, true, true, true, false, false, false, false, false, false, false, false, false, false, false] rfl rfl (any_of HT_.out (by kernel_rfl)) (fun _ _ _ h => h) (Or.inl ⟨by rfl, ?_⟩) ?_ ?_
                  rotate_left
                  ·intro w'
                   go_simp
                   with_reducible rfl
                  rotate_left
                  ·simp only [Act.put, List.setIfInBounds_toArray, List.set_cons_zero, List.set_cons_succ, i64_w, i32_w]
                   rfl
                  refine pure_ (i := 4) (N := some 91) (v := ?_) (a' := ?_) #[true, true, true, true, true, false, false, false, false, false, false, false, false, false, false] rfl rfl (any_of HT_.out (by kernel_rfl)) (fun _ _ _ h => h) (Or.inl ⟨by rfl, ?_⟩) ?_ ?_
                  rotate_left
                  ·intro w'
                   go_simp
                   with_reducible rfl
                  rotate_left
                  ·simp only [Act.put, List.setIfInBounds_toArray, List.set_cons_zero, List.set_cons_succ, i64_w, i32_w]
                   rfl
                  refine pure_ (i := 5) (N := some 92) (v := ?_) (a' := ?_) #[true, true, true, true, true, true, false, false, false, false, false, false, false, false, false] rfl rfl (any_of HT_.out (by kernel_rfl)) (fun _ _ _ h => h) (Or.inl ⟨by rfl, ?_⟩) ?_ ?_
                  rotate_left
                  ·intro w'
                   go_simp
                   with_reducible rfl
                  rotate_left
                  ·simp only [Act.put, List.setIfInBounds_toArray, List.set_cons_zero, List.set_cons_succ, i64_w, i32_w]
                   rfl
                  refine pure_ (i := 11) (N := some 98) (v := ?_) (a' := ?_) #[true, true, true, true, true, true, false, false, false, false, false, true, false, false, false] rfl rfl (any_of HT_.out (by kernel_rfl)) (fun _ _ _ h => h) (Or.inl ⟨by rfl, ?_⟩) ?_ ?_
                  rotate_left
                  ·intro w'
                   go_simp
                   with_reducible rfl
                  rotate_left
                  ·simp only [Act.put, List.setIfInBounds_toArray, List.set_cons_zero, List.set_cons_succ, i64_w, i32_w]
                   rfl
                  refine take_ (i := 6) (N := some 93) (v := ?_) (a' := ?_) #[true, true, true, true, true, true, true, false, false, false, false, true, false, false, false] rfl rfl (take_ofW HT_.out HW_.out (by kernel_rfl)) (fun _ _ _ h => h) (Or.inl ⟨by rfl, ?_⟩) hHeld ?_ ?_
                  rotate_left
                  ·rintro w' ⟨s0, s1, s2, s3, s4, s5, s6, s7, s8, s9, s10, s11, s12, s13, s14, s15⟩
                   go_simp
                   with_reducible rfl
                  rotate_left
                  ·simp only [Act.put, List.setIfInBounds_toArray, List.set_cons_zero, List.set_cons_succ, i64_w, i32_w]
                   rfl
                  refine pure_ (i := 7) (N := some 94) (v := ?_) (a' := ?_) #[true, true, true, true, true, true, true, true, false, false, false, true, false, false, false] rfl rfl (any_of HT_.out (by kernel_rfl)) (fun _ _ _ h => h) (Or.inl ⟨by rfl, ?_⟩) ?_ ?_
                  rotate_left
                  ·intro w'
                   go_simp
                   with_reducible rfl
                  rotate_left
                  ·simp only [Act.put, List.setIfInBounds_toArray, List.set_cons_zero, List.set_cons_succ, i64_w, i32_w]
                   rfl
                  refine pure_ (i := 8) (N := some 95) (v := ?_) (a' := ?_) #[true, true, true, true, true, true, true, true, true, false, false, true, false, false, false] rfl rfl (any_of HT_.out (by kernel_rfl)) (fun _ _ _ h => h) (Or.inl ⟨by rfl, ?_⟩) ?_ ?_
                  rotate_left
                  ·intro w'
                   go_simp
                   with_reducible rfl
                  rotate_left
                  ·simp only [Act.put, List.setIfInBounds_toArray, List.set_cons_zero, List.set_cons_succ, i64_w, i32_w]
                   rfl
                  refine pure_ (i := 9) (N := some 96) (v := ?_) (a' := ?_) #[true, true, true, true, true, true, true, true, true, true, false, true, false, false, false] rfl rfl (any_of HT_.out (by kernel_rfl)) (fun _ _ _ h => h) (Or.inl ⟨by rfl, ?_⟩) ?_ ?_
                  rotate_left
                  ·intro w'
                   go_simp
                   with_reducible rfl
                  rotate_left
                  ·simp only [Act.put, List.setIfInBounds_toArray, List.set_cons_zero, List.set_cons_succ, i64_w, i32_w]
                   rfl
                  refine take_ (i := 10) (N := some 97) (v := ?_) (a' := ?_) #[true, true, true, true, true, true, true, true, true, true, true, true, false, false, false] rfl rfl (take_ofW HT_.out HW_.out (by kernel_rfl)) (fun _ _ _ h => h) (Or.inl ⟨by rfl, ?_⟩) hHeld ?_ ?_
                  rotate_left
                  ·rintro w' ⟨s0, s1, s2, s3, s4, s5, s6, s7, s8, s9, s10, s11, s12, s13, s14, s15⟩
                   go_simp
                   with_reducible rfl
                  rotate_left
                  ·simp only [Act.put, List.setIfInBounds_toArray, List.set_cons_zero, List.set_cons_succ, i64_w, i32_w]
                   rfl
                  refine take_ (i := 12) (N := some 99) (v := ?_) (a' := ?_) #[true, true, true, true, true, true, true, true, true, true, true, true, true, false, false] rfl rfl (take_ofW HT_.out HW_.out (by kernel_rfl)) (fun _ _ _ h => h) (Or.inl ⟨by rfl, ?_⟩) hHeld ?_ ?_
                  rotate_left
                  ·rintro w' ⟨s0, s1, s2, s3, s4, s5, s6, s7, s8, s9, s10, s11, s12, s13, s14, s15⟩
                   go_simp
                   with_reducible rfl
                  rotate_left
                  ·simp only [Act.put, List.setIfInBounds_toArray, List.set_cons_zero, List.set_cons_succ, i64_w, i32_w]
                   rfl
                  refine pure_ (i := 13) (N := some 100) (v := ?_) (a' := ?_) #[true, true, true, true, true, true, true, true, true, true, true, true, true, true, false] rfl rfl (any_of HT_.out (by kernel_rfl)) (fun _ _ _ h => h) (Or.inl ⟨by rfl, ?_⟩) ?_ ?_
                  rotate_left
                  ·intro w'
                   go_simp
                   with_reducible rfl
                  rotate_left
                  ·simp only [Act.put, List.setIfInBounds_toArray, List.set_cons_zero, List.set_cons_succ, i64_w, i32_w]
                   rfl
                  refine pure_ (i := 14) (N := some 101) (v := ?_) (a' := ?_) #[true, true, true, true, true, true, true, true, true, true, true, true, true, true, true] rfl rfl (any_of HT_.out (by kernel_rfl)) (fun _ _ _ h => h) (Or.inl ⟨by rfl, ?_⟩) ?_ ?_
                  rotate_left
                  ·intro w'
                   go_simp
                   with_reducible rfl
                  rotate_left
                  ·simp only [Act.put, List.setIfInBounds_toArray, List.set_cons_zero, List.set_cons_succ, i64_w, i32_w]
                   rfl
                  refine done_ (done_of HT_.out (by kernel_rfl)) ?_
                  try go_wp2
                  have n0_ := Aside0.mk (Kd.R_drew HO_3.out)
                  have n1_ := Aside0.mk (blk_drew BK105.out)
                  have n2_ := Aside0.mk (below_drew1 HB.out)
                  clear HO_3
                  clear BK105
                  clear HB
                  have HO_3 := n0_
                  have BK105 := n1_
                  have HB := n2_
                  clear n0_ n1_ n2_
                  obtain ⟨Ao50, co50, eo50⟩ := Kd.R_slice HO_3.out
                  (first | subst eo50 | (injection eo50 with f1_ f2_ f3_; have f4_ := f1_.symm; have f5_ := f3_.symm; clear f1_ f2_ f3_; subst f4_; subst f5_))
                  have p114 : 0 ≤ (((rd_T71 l0 x17_1).f1) : Int) := of_decide_eq_true (by first | (with_reducible assumption) | assumption)
                  have q114 : ((rd_T71 l0 x17_1).f1) < (x3_1.length : Int) := of_decide_eq_true (by first | (with_reducible assumption) | assumption)
                  obtain ⟨ad114, e114, hx114_0⟩ := Kd.at_int (Kd.R_reads' HO_3.out).2.2 ((rd_T71 l0 x17_1).f1) p114 q114
                  cases e114
                  replace p114 := eq_true p114
                  replace q114 := eq_true q114
                  have p47 : 0 ≤ (((rd_T71 l0 x17_1).f1) : Int) := of_decide_eq_true (by first | (with_reducible assumption) | assumption)
                  have q47 : (((rd_T71 l0 x17_1).f1) : Int) < ((x3_1.length : Int) : Int) := of_decide_eq_true (by first | (with_reducible assumption) | assumption)
                  obtain ⟨go47, co47, eo47, gb47, gl47, cl47, HG47⟩ := Kd.R_form HO_3.out (by omega)
                  (first | cases eo47 | (injection eo47 with ea_ en_ ec_; (first | subst ea_ | (injection ea_ with ea_; subst ea_)); subst ec_; clear en_))
                  have GB47 := Aside0.mk gb47
                  have GG47 := Aside0.mk HG47
                  clear gb47 gl47 HG47
                  (first | simp only [add_plain] at hx114_0 | skip)
                  obtain ⟨hx47_0, hf47_0⟩ := Kd.R_celln 0 HO_3.out (((rd_T71 l0 x17_1).f1) : Int) p47 q47
                  replace p47 := eq_true p47
                  replace q47 := eq_true q47
                  have HP51 := Kd.R_putn HO_3.out (((rd_T71 l0 x17_1).f1) : Int) (wrap64 ((rd x3_1 ((rd_T71 l0 x17_1).f1)) + ((rd_T71 l0 x17_1).f3)))
                  rw [← Ny115.out] at HP51
                  have HQ51 := Aside0.mk HP51
                  clear HP51
                  refine start_ (n := 10) (S := fun w' => w'.cell? ⟨gb105, 0, none⟩ = some (.int .i64 ((rd_T71 l0 x17_1).f0)) ∧ w'.cell? ⟨gb105, 1, none⟩ = some (.int .i64 ((rd_T71 l0 x17_1).f1)) ∧ w'.cell? ⟨gb105, 2, none⟩ = some (.int .i64 ((rd_T71 l0 x17_1).f2)) ∧ w'.cell? ⟨gb105, 3, none⟩ = some (.int .i64 ((rd_T71 l0 x17_1).f3)) ∧ w'.cell? ⟨gb105, 4, none⟩ = some (.int .i64 ((rd_T71 l0 x17_1).f4)) ∧ w'.cell? ⟨gb105, 5, none⟩ = some (.int .i64 ((rd_T71 l0 x17_1).f5)) ∧ w'.cell? ⟨gb105, 6, none⟩ = some (.int .i64 ((rd_T71 l0 x17_1).f6)) ∧ w'.cell? ⟨gb105, 7, none⟩ = some (.string ((rd_T71 l0 x17_1).f7)) ∧ w'.cell? ⟨go47, (((rd_T71 l0 x17_1).f1)).toNat, none⟩ = some (.int .i64 (rd x3_1 ((rd_T71 l0 x17_1).f1)))) (ds := [9]) #[false, false, false, false, false, false, false, false, false, false] (by kernel_rfl) rfl rfl ⟨(blk_cell BK105.out 0).trans rfl, (blk_cell BK105.out 1).trans rfl, (blk_cell BK105.out 2).trans rfl, (blk_cell BK105.out 3).trans rfl, (blk_cell BK105.out 4).trans rfl, (blk_cell BK105.out 5).trans rfl, (blk_cell BK105.out 6).trans rfl, (blk_cell BK105.out 7).trans rfl, hx114_0⟩ (fun hHeld => ?_); refine with_tabW impl_IsValidSamples.tab13 impl_IsValidSamples.bits13 (fun HT_ HW_ => ?_)
                  generalize w48.drew = w49 at HO_3 BK105 HB GG47 HQ51 hf47_0 hx114_0 hx47_0 hHeld ⊢
                  refine pure_ (i := 0) (N := some 102) (v := ?_) (a' := ?_) #[true, false, false, false, false, false, false, false, false, false] rfl rfl (any_of HT_.out (by kernel_rfl)) (fun _ _ _ h => h) (Or.inl ⟨by rfl, ?_⟩) ?_ ?_
                  rotate_left
                  ·intro w'
                   go_simp
                   with_reducible rfl
                  rotate_left
                  ·simp only [Act.put, List.setIfInBounds_toArray, List.set_cons_zero, List.set_cons_succ, i64_w, i32_w]
                   rfl
                  refine pure_ (i := 1) (N := some 103) (v := ?_) (a' := ?_) #[true, true, false, false, false, false, false, false, false, false] rfl rfl (any_of HT_.out (by kernel_rfl)) (fun _ _ _ h => h) (Or.inl ⟨by rfl, ?_⟩) ?_ ?_
                  rotate_left
                  ·intro w'
                   go_simp
                   with_reducible rfl
                  rotate_left
                  ·simp only [Act.put, List.setIfInBounds_toArray, List.set_cons_zero, List.set_cons_succ, i64_w, i32_w]
                   rfl
                  refine pure_ (i := 5) (N := some 107) (v := ?_) (a' := ?_) #[true, true, false, false, false, true, false, false, false, false] rfl rfl (any_of HT_.out (by kernel_rfl)) (fun _ _ _ h => h) (Or.inl ⟨by rfl, ?_⟩) ?_ ?_
                  rotate_left
                  ·intro w'
                   go_simp
                   with_reducible rfl
                  rotate_left
                  ·simp only [Act.put, List.setIfInBounds_toArray, List.set_cons_zero, List.set_cons_succ, i64_w, i32_w]
                   rfl
                  refine take_ (i := 2) (N := some 104) (v := ?_) (a' := ?_) #[true, true, true, false, false, true, false, false, false, false] rfl rfl (take_ofW HT_.out HW_.out (by kernel_rfl)) (fun _ _ _ h => h) (Or.inl ⟨by rfl, ?_⟩) hHeld ?_ ?_
                  rotate_left
                  ·rintro w' ⟨s0, s1, s2, s3, s4, s5, s6, s7, s8⟩
                   go_simp
                   with_reducible rfl
                  rotate_left
                  ·simp only [Act.put, List.setIfInBounds_toArray, List.set_cons_zero, List.set_cons_succ, i64_w, i32_w]
                   rfl
                  refine pure_ (i := 3) (N := some 105) (v := ?_) (a' := ?_) #[true, true, true, true, false, true, false, false, false, false] rfl rfl (any_of HT_.out (by kernel_rfl)) (fun _ _ _ h => h) (Or.inl ⟨by rfl, ?_⟩) ?_ ?_
                  rotate_left
                  ·intro w'
                   go_simp
                   with_reducible rfl
                  rotate_left
                  ·simp only [Act.put, List.setIfInBounds_toArray, List.set_cons_zero, List.set_cons_succ, i64_w, i32_w]
                   rfl
                  refine take_ (i := 4) (N := some 106) (v := ?_) (a' := ?_) #[true, true, true, true, true, true, false, false, false, false] rfl rfl (take_ofW HT_.out HW_.out (by kernel_rfl)) (fun _ _ _ h => h) (Or.inl ⟨by rfl, ?_⟩) hHeld ?_ ?_
                  rotate_left
                  ·rintro w' ⟨s0, s1, s2, s3, s4, s5, s6, s7, s8⟩
                   go_simp
                   with_reducible rfl
                  rotate_left
                  ·simp only [Act.put, List.setIfInBounds_toArray, List.set_cons_zero, List.set_cons_succ, i64_w, i32_w]
                   rfl
                  refine take_ (i := 6) (N := some 108) (v := ?_) (a' := ?_) #[true, true, true, true, true, true, true, false, false, false] rfl rfl (take_ofW HT_.out HW_.out (by kernel_rfl)) (fun _ _ _ h => h) (Or.inl ⟨by rfl, ?_⟩) hHeld ?_ ?_
                  rotate_left
                  ·rintro w' ⟨s0, s1, s2, s3, s4, s5, s6, s7, s8⟩
                   go_simp
                   with_reducible rfl
                  rotate_left
                  ·simp only [Act.put, List.setIfInBounds_toArray, List.set_cons_zero, List.set_cons_succ, i64_w, i32_w]
                   rfl
                  refine pure_ (i := 7) (N := some 109) (v := ?_) (a' := ?_) #[true, true, true, true, true, true, true, true, false, false] rfl rfl (any_of HT_.out (by kernel_rfl)) (fun _ _ _ h => h) (Or.inl ⟨by rfl, ?_⟩) ?_ ?_
                  rotate_left
                  ·intro w'
                   go_simp
                   with_reducible rfl
                  rotate_left
                  ·simp only [Act.put, List.setIfInBounds_toArray, List.set_cons_zero, List.set_cons_succ, i64_w, i32_w]
                   rfl
                  refine pure_ (i := 8) (N := some 110) (v := ?_) (a' := ?_) #[true, true, true, true, true, true, true, true, true, false] rfl rfl (any_of HT_.out (by kernel_rfl)) (fun _ _ _ h => h) (Or.inl ⟨by rfl, ?_⟩) ?_ ?_
                  rotate_left
                  ·intro w'
                   go_simp
                   with_reducible rfl
                  rotate_left
                  ·simp only [Act.put, List.setIfInBounds_toArray, List.set_cons_zero, List.set_cons_succ, i64_w, i32_w]
                   rfl
                  refine last_ (i := 9) (N := none) #[true, true, true, true, true, true, true, true, true, true] rfl rfl (one_of HT_.out (by kernel_rfl)) (by decide) (fun K hK => ?_)
                  refine skip_ (w1 := ?_) (by rfl) rfl ?_ ?_
                  rotate_left
                  ·go_simp
                   rfl
                  refine hK.out _ _ ?_
                  clear hK K
                  refine done_ (done_of HT_.out (by kernel_rfl)) ?_
                  try go_wp2
                  go_roundg kj27
                  case measure => have := HK1.out; have := HJ10.out; have := HJ27.out; omega
                  case rel => exact ⟨(y115), (wrap64 (x17_1 + 1)), (by first | rfl | (simp; done) | (simp [*]; done) | (simp [beq_nil_, bne_nil_]; done)), H', ⟨by have := HK1.out; have := HJ10.out; have := HJ27.out; omega⟩, ⟨by (with_reducible repeat (first | apply Kd.R_alloc | apply Kd.R_drewN | apply Kd.R_drew)); exact HQ51.out⟩, ⟨by repeat (first | (with_reducible first | exact HB.out | apply below_alloc | apply pw_below_drewN | apply below_drew1 | refine below_set ?_ GB47.out | refine below_set ?_ GE105.out) | exact HB.out)⟩⟩
                 rw [if_neg c46] at H
                 exact absurd H (by simp)
                rw [if_neg c45] at H
                exact absurd H (by simp)
               rw [if_neg c44] at H
               have c44b0 : (((rd_T71 l0 (ji41)).f2) == ((rd_T71 l0 x17_1).f2)) = false := beq_eq_false_iff_ne.mpr c44
               have c44b1 : (((rd_T71 l0 (ji41)).f2) != ((rd_T71 l0 x17_1).f2)) = true := bne_iff_ne.mpr c44
               obtain rfl := Option.some.inj H
               try go_wp2
               have n0_ := Aside0.mk (Kd.R_drew HO_3.out)
               have n1_ := Aside0.mk (blk_drew BK105.out)
               have n2_ := Aside0.mk (below_drew1 HB.out)
               clear HO_3
               clear BK105
               clear HB
               have HO_3 := n0_
               have BK105 := n1_
               have HB := n2_
               clear n0_ n1_ n2_
               have p113 : 0 ≤ ((ji41) : Int) := of_decide_eq_true (by first | (with_reducible assumption) | assumption)
               have q113 : (ji41) < (l0.length : Int) := of_decide_eq_true (by first | (with_reducible assumption) | assumption)
               obtain ⟨ad113, e113, hx113_0, hx113_1, hx113_2, hx113_3, hx113_4, hx113_5, hx113_6, hx113_7⟩ := at_T71 HR0.out (ji41) p113 q113
               have hw113_7 := hx113_7
               have hw113_6 := hx113_6
               have hw113_5 := hx113_5
               have hw113_4 := hx113_4
               have hw113_3 := hx113_3
               have hw113_2 := hx113_2
               have hw113_1 := hx113_1
               have hw113_0 := hx113_0
               obtain rfl : ad104 = ad113 := (by injection e113)
               replace hx113_0 := (HB.out.cell (World.block_lt_of_cell? w _ hx113_0)).trans hx113_0
               replace hx113_1 := (HB.out.cell (World.block_lt_of_cell? w _ hx113_1)).trans hx113_1
               replace hx113_2 := (HB.out.cell (World.block_lt_of_cell? w _ hx113_2)).trans hx113_2
               replace hx113_3 := (HB.out.cell (World.block_lt_of_cell? w _ hx113_3)).trans hx113_3
               replace hx113_4 := (HB.out.cell (World.block_lt_of_cell? w _ hx113_4)).trans hx113_4
               replace hx113_5 := (HB.out.cell (World.block_lt_of_cell? w _ hx113_5)).trans hx113_5
               replace hx113_6 := (HB.out.cell (World.block_lt_of_cell? w _ hx113_6)).trans hx113_6
               replace hx113_7 := (HB.out.cell (World.block_lt_of_cell? w _ hx113_7)).trans hx113_7
               replace p113 := eq_true p113
               replace q113 := eq_true q113
               refine start_ (n := 15) (S := fun w' => w'.cell? ⟨gb105, 0, none⟩ = some (.int .i64 ((rd_T71 l0 x17_1).f0)) ∧ w'.cell? ⟨gb105, 1, none⟩ = some (.int .i64 ((rd_T71 l0 x17_1).f1)) ∧ w'.cell? ⟨gb105, 2, none⟩ = some (.int .i64 ((rd_T71 l0 x17_1).f2)) ∧ w'.cell? ⟨gb105, 3, none⟩ = some (.int .i64 ((rd_T71 l0 x17_1).f3)) ∧ w'.cell? ⟨gb105, 4, none⟩ = some (.int .i64 ((rd_T71 l0 x17_1).f4)) ∧ w'.cell? ⟨gb105, 5, none⟩ = some (.int .i64 ((rd_T71 l0 x17_1).f5)) ∧ w'.cell? ⟨gb105, 6, none⟩ = some (.int .i64 ((rd_T71 l0 x17_1).f6)) ∧ w'.cell? ⟨gb105, 7, none⟩ = some (.string ((rd_T71 l0 x17_1).f7)) ∧ w'.cell? (ad104.add (((ji41)).toNat * 8)) = some (.int .i64 ((rd_T71 l0 (ji41)).f0)) ∧ w'.cell? ⟨(ad104.add (((ji41)).toNat * 8)).block, (ad104.add (((ji41)).toNat * 8)).off + 1, none⟩ = some (.int .i64 ((rd_T71 l0 (ji41)).f1)) ∧ w'.cell? ⟨(ad104.add (((ji41)).toNat * 8)).block, (ad104.add (((ji41)).toNat * 8)).off + 2, none⟩ = some (.int .i64 ((rd_T71 l0 (ji41)).f2)) ∧ w'.cell? ⟨(ad104.add (((ji41)).toNat * 8)).block, (ad104.add (((ji41)).toNat * 8)).off + 3, none⟩ = some (.int .i64 ((rd_T71 l0 (ji41)).f3)) ∧ w'.cell? ⟨(ad104.add (((ji41)).toNat * 8)).block, (ad104.add (((ji41)).toNat * 8)).off + 4, none⟩ = some (.int .i64 ((rd_T71 l0 (ji41)).f4)) ∧ w'.cell? ⟨(ad104.add (((ji41)).toNat * 8)).block, (ad104.add (((ji41)).toNat * 8)).off + 5, none⟩ = some (.int .i64 ((rd_T71 l0 (ji41)).f5)) ∧ w'.cell? ⟨(ad104.add (((ji41)).toNat * 8)).block, (ad104.add (((ji41)).toNat * 8)).off + 6, none⟩ = some (.int .i64 ((rd_T71 l0 (ji41)).f6)) ∧ w'.cell? ⟨(ad104.add (((ji41)).toNat * 8)).block, (ad104.add (((ji41)).toNat * 8)).off + 7, none⟩ = some (.string ((rd_T71 l0 (ji41)).f7))) (ds := []) #[false, false, false, false, false, false, false, false, false, false, false, false, false, false, false] (by kernel_rfl) rfl rfl ⟨(blk_cell BK105.out 0).trans rfl, (blk_cell BK105.out 1).trans rfl, (blk_cell BK105.out 2).trans rfl, (blk_cell BK105.out 3).trans rfl, (blk_cell BK105.out 4).trans rfl, (blk_cell BK105.out 5).trans rfl, (blk_cell BK105.out 6).trans rfl, (blk_cell BK105.out 7).trans rfl, ((HB.out.cell (World.block_lt_of_cell? w _ hw113_0)).trans hw113_0), ((HB.out.cell (World.block_lt_of_cell? w _ hw113_1)).trans hw113_1), ((HB.out.cell (World.block_lt_of_cell? w _ hw113_2)).trans hw113_2), ((HB.out.cell (World.block_lt_of_cell? w _ hw113_3)).trans hw113_3), ((HB.out.cell (World.block_lt_of_cell? w _ hw113_4)).trans hw113_4), ((HB.out.cell (World.block_lt_of_cell? w _ hw113_5)).trans hw113_5), ((HB.out.cell (World.block_lt_of_cell? w _ hw113_6)).trans hw113_6), ((HB.out.cell (World.block_lt_of_cell? w _ hw113_7)).trans hw113_7)⟩ (fun hHeld => ?_); refine with_tabW impl_IsValidSamples.tab11 impl_IsValidSamples.bits11 (fun HT_ HW_ => ?_)
               generalize wc.drew = w52 at HO_3 BK105 HB hx113_0 hx113_1 hx113_2 hx113_3 hx113_4 hx113_5 hx113_6 hx113_7 hHeld ⊢
               refine pure_ (i := 0) (N := some 87) (v := ?_) (a' := ?_) #[true, false, false, false, false, false, false, false, false, false, false, false, false, false, false] rfl rfl (any_of HT_.out (by kernel_rfl)) (fun _ _ _ h => h) (Or.inl ⟨by rfl, ?_⟩) ?_ ?_
               rotate_left
               ·intro w'
                go_simp
                with_reducible rfl
               rotate_left
               ·simp only [Act.put, List.setIfInBounds_toArray, List.set_cons_zero, List.set_cons_succ, i64_w, i32_w]
                rfl
               refine take_ (i := 1) (N := some 88) (v := ?_) (a' := ?_) #[true, true, false, false, false, false, false, false, false, false, false, false, false, false, false] rfl rfl (take_ofW HT_.out HW_.out (by kernel_rfl)) (fun _ _ _ h => h) (Or.inl ⟨by rfl, ?_⟩) hHeld ?_ ?_
               rotate_left
               ·rintro w' ⟨s0, s1, s2, s3, s4, s5, s6, s7, s8, s9, s10, s11, s12, s13, s14, s15⟩
                go_simp
                with_reducible rfl
               rotate_left
               ·simp only [Act.put, List.setIfInBounds_toArray, List.set_cons_zero, List.set_cons_succ, i64_w, i32_w]
                rfl
               refine pure_ (i := 2) (N := some 89) (v := ?_) (a' := ?_) #[true, true, true, false, false, false, false, false, false, false, false, false, false, false, false] rfl rfl (any_of HT_.out (by kernel_rfl)) (fun _ _ _ h => h) (Or.inl ⟨by rfl, ?_⟩) ?_ ?_
               rotate_left
               ·intro w'
                go_simp
                with_reducible rfl
               rotate_left
               ·simp only [Act.put, List.setIfInBounds_toArray, List.set_cons_zero, List.set_cons_succ, i64_w, i32_w]
                rfl
               refine pure_ (i := 3) (N := some 90) (v := ?_) (a' := ?_) #[true, true, true, true, false, false, false, false, false, false, false, false, false, false, false] rfl rfl (any_of HT_.out (by kernel_rfl)) (fun _ _ _ h => h) (Or.inl ⟨by rfl, ?_⟩) ?_ ?_
               rotate_left
               ·intro w'
                go_simp
                with_reducible rfl
               rotate_left
               ·simp only [Act.put, List.setIfInBounds_toArray, List.set_cons_zero, List.set_cons_succ, i64_w, i32_w]
                rfl
               refine pure_ (i := 4) (N := some 91) (v := ?_) (a' := ?_) #[true, true, true, true, true, false, false, false, false, false, false, false, false, false, false] rfl rfl (any_of HT_.out (by kernel_rfl)) (fun _ _ _ h => h) (Or.inl ⟨by rfl, ?_⟩) ?_ ?_
               rotate_left
               ·intro w'
                go_simp
                with_reducible rfl
               rotate_left
               ·simp only [Act.put, List.setIfInBounds_toArray, List.set_cons_zero, List.set_cons_succ, i64_w, i32_w]
                rfl
               refine pure_ (i := 5) (N := some 92) (v := ?_) (a' := ?_) #[true, true, true, true, true, true, false, false, false, false, false, false, false, false, false] rfl rfl (any_of HT_.out (by kernel_rfl)) (fun _ _ _ h => h) (Or.inl ⟨by rfl, ?_⟩) ?_ ?_
               rotate_left
               ·intro w'
                go_simp
                with_reducible rfl
               rotate_left
               ·simp only [Act.put, List.setIfInBounds_toArray, List.set_cons_zero, List.set_cons_succ, i64_w, i32_w]
                rfl
               refine pure_ (i := 11) (N := some 98) (v := ?_) (a' := ?_) #[true, true, true, true, true, true, false, false, false, false, false, true, false, false, false] rfl rfl (any_of HT_.out (by kernel_rfl)) (fun _ _ _ h => h) (Or.inl ⟨by rfl, ?_⟩) ?_ ?_
               rotate_left
               ·intro w'
                go_simp
                with_reducible rfl
               rotate_left
               ·simp only [Act.put, List.setIfInBounds_toArray, List.set_cons_zero, List.set_cons_succ, i64_w, i32_w]
                rfl
               refine take_ (i := 6) (N := some 93) (v := ?_) (a' := ?_) #[true, true, true, true, true, true, true, false, false, false, false, true, false, false, false] rfl rfl (take_ofW HT_.out HW_.out (by kernel_rfl)) (fun _ _ _ h => h) (Or.inl ⟨by rfl, ?_⟩) hHeld ?_ ?_
               rotate_left
               ·rintro w' ⟨s0, s1, s2, s3, s4, s5, s6, s7, s8, s9, s10, s11, s12, s13, s14, s15⟩
                go_simp
                with_reducible rfl
               rotate_left
               ·simp only [Act.put, List.setIfInBounds_toArray, List.set_cons_zero, List.set_cons_succ, i64_w, i32_w]
                rfl
               refine pure_ (i := 7) (N := some 94) (v := ?_) (a' := ?_) #[true, true, true, true, true, true, true, true, false, false, false, true, false, false, false] rfl rfl (any_of HT_.out (by kernel_rfl)) (fun _ _ _ h => h) (Or.inl ⟨by rfl, ?_⟩) ?_ ?_
               rotate_left
               ·intro w'
                go_simp
                with_reducible rfl
               rotate_left
               ·simp only [Act.put, List.setIfInBounds_toArray, List.set_cons_zero, List.set_cons_succ, i64_w, i32_w]
                rfl
               refine pure_ (i := 8) (N := some 95) (v := ?_) (a' := ?_) #[true, true, true, true, true, true, true, true, true, false, false, true, false, false, false] rfl rfl (any_of HT_.out (by kernel_rfl)) (fun _ _ _ h => h) (Or.inl ⟨by rfl, ?_⟩) ?_ ?_
               rotate_left
               ·intro w'
                go_simp
                with_reducible rfl
               rotate_left
               ·simp only [Act.put, List.setIfInBounds_toArray, List.set_cons_zero, List.set_cons_succ, i64_w, i32_w]
                rfl
               refine pure_ (i := 9) (N := some 96) (v := ?_) (a' := ?_) #[true, true, true, true, true, true, true, true, true, true, false, true, false, false, false] rfl rfl (any_of HT_.out (by kernel_rfl)) (fun _ _ _ h => h) (Or.inl ⟨by rfl, ?_⟩) ?_ ?_
               rotate_left
               ·intro w'
                go_simp
                with_reducible rfl
               rotate_left
               ·simp only [Act.put, List.setIfInBounds_toArray, List.set_cons_zero, List.set_cons_succ, i64_w, i32_w]
                rfl
               refine take_ (i := 10) (N := some 97) (v := ?_) (a' := ?_) #[true, true, true, true, true, true, true, true, true, true, true, true, false, false, false] rfl rfl (take_ofW HT_.out HW_.out (by kernel_rfl)) (fun _ _ _ h => h) (Or.inl ⟨by rfl, ?_⟩) hHeld ?_ ?_
               rotate_left
               ·rintro w' ⟨s0, s1, s2, s3, s4, s5, s6, s7, s8, s9, s10, s11, s12, s13, s14, s15⟩
                go_simp
                with_reducible rfl
               rotate_left
               ·simp only [Act.put, List.setIfInBounds_toArray, List.set_cons_zero, List.set_cons_succ, i64_w, i32_w]
                rfl
               refine take_ (i := 12) (N := some 99) (v := ?_) (a' := ?_) #[true, true, true, true, true, true, true, true, true, true, true, true, true, false, false] rfl rfl (take_ofW HT_.out HW_.out (by kernel_rfl)) (fun _ _ _ h => h) (Or.inl ⟨by rfl, ?_⟩) hHeld ?_ ?_
               rotate_left
               ·rintro w' ⟨s0, s1, s2, s3, s4, s5, s6, s7, s8, s9, s10, s11, s12, s13, s14, s15⟩
                go_simp
                with_reducible rfl
               rotate_left
               ·simp only [Act.put, List.setIfInBounds_toArray, List.set_cons_zero, List.set_cons_succ, i64_w, i32_w]
                rfl
               refine pure_ (i := 13) (N := some 100) (v := ?_) (a' := ?_) #[true, true, true, true, true, true, true, true, true, true, true, true, true, true, false] rfl rfl (any_of HT_.out (by kernel_rfl)) (fun _ _ _ h => h) (Or.inl ⟨by rfl, ?_⟩) ?_ ?_
               rotate_left
               ·intro w'
                go_simp
                with_reducible rfl
               rotate_left
               ·simp only [Act.put, List.setIfInBounds_toArray, List.set_cons_zero, List.set_cons_succ, i64_w, i32_w]
                rfl
               refine pure_ (i := 14) (N := some 101) (v := ?_) (a' := ?_) #[true, true, true, true, true, true, true, true, true, true, true, true, true, true, true] rfl rfl (any_of HT_.out (by kernel_rfl)) (fun _ _ _ h => h) (Or.inl ⟨by rfl, ?_⟩) ?_ ?_
               rotate_left
               ·intro w'
                go_simp
                with_reducible rfl
               rotate_left
               ·simp only [Act.put, List.setIfInBounds_toArray, List.set_cons_zero, List.set_cons_succ, i64_w, i32_w]
                rfl
               refine done_ (done_of HT_.out (by kernel_rfl)) ?_
               try go_wp2
               go_ret
               exact ⟨by first | rfl | (simp [errW_none, errW_some] <;> rfl) | (simp only [← hji3, ← hji41]; first | rfl | (simp [errW_none, errW_some] <;> rfl)) | (simp [*, errW_none, errW_some] <;> rfl), by repeat (first | (with_reducible first | exact HB.out | apply below_alloc | apply pw_below_drewN | apply below_drew1 | refine below_set ?_ GE105.out) | exact HB.out)⟩
              rw [if_neg c43] at H
              exact absurd H (by simp)
             rw [if_neg c42] at H
             exact absurd H (by simp)
            rw [if_neg c40] at H
            have c40b0 : decide (0 < ((rd_T71 l0 x17_1).f1)) = false := decide_eq_false c40
            clear c40
            by_cases c53 : 0 ≤ ((rd_T71 l0 x17_1).f1)
            ·rw [if_pos c53] at H
             have c53b0 : decide (0 ≤ ((rd_T71 l0 x17_1).f1)) = true := decide_eq_true c53
             clear c53
             by_cases c54 : ((rd_T71 l0 x17_1).f1) < (x3_1.length : Int)
             ·rw [if_pos c54] at H
              have c54b0 : decide (((rd_T71 l0 x17_1).f1) < (x3_1.length : Int)) = true := decide_eq_true c54
              clear c54
              obtain ⟨y117, hy117⟩ : ∃ y_ : List Int, y_ = (x3_1.set (((rd_T71 l0 x17_1).f1) : Int).toNat (wrap64 ((rd x3_1 ((rd_T71 l0 x17_1).f1)) + ((rd_T71 l0 x17_1).f3)))) := ⟨_, rfl⟩
              replace H : (impl_IsValidSamples.l0 kj27 l0 y117 l0 (l0.length : Int) (wrap64 (x17_1 + 1))) = some r := by first | (rw [hy117]; with_reducible exact H) | (have H2_ := (Option.bind_some _ _).symm.trans H; rw [hy117]; with_reducible exact H2_) | (have H2_ := (Option.bind_some _ _).symm.trans H; with_reducible exact H2_) | with_reducible exact H | (rw [hy117]; exact H) | exact H
              have Ny117 := Aside0.mk hy117
              clear hy117
              have H' := Aside0.mk H
              clear H
              try go_wp2
              have n0_ := Aside0.mk (Kd.R_drew HO_3.out)
              have n1_ := Aside0.mk (blk_drew BK105.out)
              have n2_ := Aside0.mk (below_drew1 HB.out)
              clear HO_3
              clear BK105
              clear HB
              have HO_3 := n0_
              have BK105 := n1_
              have HB := n2_
              clear n0_ n1_ n2_
              refine start_ (n := 15) (S := fun w' => w'.cell? ⟨gb105, 0, none⟩ = some (.int .i64 ((rd_T71 l0 x17_1).f0)) ∧ w'.cell? ⟨gb105, 1, none⟩ = some (.int .i64 ((rd_T71 l0 x17_1).f1)) ∧ w'.cell? ⟨gb105, 2, none⟩ = some (.int .i64 ((rd_T71 l0 x17_1).f2)) ∧ w'.cell? ⟨gb105, 3, none⟩ = some (.int .i64 ((rd_T71 l0 x17_1).f3)) ∧ w'.cell? ⟨gb105, 4, none⟩ = some (.int .i64 ((rd_T71 l0 x17_1).f4)) ∧ w'.cell? ⟨gb105, 5, none⟩ = some (.int .i64 ((rd_T71 l0 x17_1).f5)) ∧ w'.cell? ⟨gb105, 6, none⟩ = some (.int .i64 ((rd_T71 l0 x17_1).f6)) ∧ w'.cell? ⟨gb105, 7, none⟩ = some (.string ((rd_T71 l0 x17_1).f7))) (ds := []) #[false, false, false, false, false, false, false, false, false, false, false, false, false, false, false] (by kernel_rfl) rfl rfl ⟨(blk_cell BK105.out 0).trans rfl, (blk_cell BK105.out 1).trans rfl, (blk_cell BK105.out 2).trans rfl, (blk_cell BK105.out 3).trans rfl, (blk_cell BK105.out 4).trans rfl, (blk_cell BK105.out 5).trans rfl, (blk_cell BK105.out 6).trans rfl, (blk_cell BK105.out 7).trans rfl⟩ (fun hHeld => ?_); refine with_tabW impl_IsValidSamples.tab11 impl_IsValidSamples.bits11 (fun HT_ HW_ => ?_)
              generalize wc.drew = w56 at HO_3 BK105 HB hHeld ⊢
              refine pure_ (i := 0) (N := some 87) (v := ?_) (a' := ?_) #[true, false, false, false, false, false, false, false, false, false, false, false, false, false, false] rfl rfl (any_of HT_.out (by kernel_rfl)) (fun _ _ _ h => h) (Or.inl ⟨by rfl, ?_⟩) ?_ ?_
              rotate_left
              ·intro w'
               go_simp
               with_reducible rfl
              rotate_left
              ·simp only [Act.put, List.setIfInBounds_toArray, List.set_cons_zero, List.set_cons_succ, i64_w, i32_w]
               rfl
              refine take_ (i := 1) (N := some 88) (v := ?_) (a' := ?_) #[true, true, false, false, false, false, false, false, false, false, false, false, false, false, false] rfl rfl (take_ofW HT_.out HW_.out (by kernel_rfl)) (fun _ _ _ h => h) (Or.inl ⟨by rfl, ?_⟩) hHeld ?_ ?_
              rotate_left
              ·rintro w' ⟨s0, s1, s2, s3, s4, s5, s6, s7⟩
               go_simp
               with_reducible rfl
              rotate_left
              ·simp only [Act.put, List.setIfInBounds_toArray, List.set_cons_zero, List.set_cons_succ, i64_w, i32_w]
               rfl
              refine pure_ (i := 2) (N := some 89) (v := ?_) (a' := ?_) #[true, true, true, false, false, false, false, false, false, false, false, false, false, false, false] rfl rfl (any_of HT_.out (by kernel_rfl)) (fun _ _ _ h => h) (Or.inl ⟨by rfl, ?_⟩) ?_ ?_
              rotate_left
              ·intro w'
               go_simp
               with_reducible rfl
              rotate_left
              ·simp only [Act.put, List.setIfInBounds_toArray, List.set_cons_zero, List.set_cons_succ, i64_w, i32_w]
               rfl
              refine pure_ (i := 3) (N := some 90) (v := ?_) (a' := ?_) #[true, true, true, true, false, false, false, false, false, false, false, false, false, false, false] rfl rfl (any_of HT_.out (by kernel_rfl)) (fun _ _ _ h => h) (Or.inl ⟨by rfl, ?_⟩) ?_ ?_
              rotate_left
              ·intro w'
               go_simp
               with_reducible rfl
              rotate_left
              ·simp only [Act.put, List.setIfInBounds_toArray, List.set_cons_zero, List.set_cons_succ, i64_w, i32_w]
               rfl
              refine pure_ (i := 4) (N := some 91) (v := undef) (a' := ?_) #[true, true, true, true, true, false, false, false, false, false, false, false, false, false, false] rfl rfl (any_of HT_.out (by kernel_rfl)) (fun _ _ _ h => h) (Or.inr ⟨by rfl, rfl⟩) ?_ ?_
              rotate_left
              ·simp only [Act.put, List.setIfInBounds_toArray, List.set_cons_zero, List.set_cons_succ, i64_w, i32_w]
               rfl
              refine pure_ (i := 5) (N := some 92) (v := undef) (a' := ?_) #[true, true, true, true, true, true, false, false, false, false, false, false, false, false, false] rfl rfl (any_of HT_.out (by kernel_rfl)) (fun _ _ _ h => h) (Or.inr ⟨by rfl, rfl⟩) ?_ ?_
              rotate_left
              ·simp only [Act.put, List.setIfInBounds_toArray, List.set_cons_zero, List.set_cons_succ, i64_w, i32_w]
               rfl
              refine pure_ (i := 6) (N := some 93) (v := undef) (a' := ?_) #[true, true, true, true, true, true, true, false, false, false, false, false, false, false, false] rfl rfl (any_of HT_.out (by kernel_rfl)) (fun _ _ _ h => h) (Or.inr ⟨by rfl, rfl⟩) ?_ ?_
              rotate_left
              ·simp only [Act.put, List.setIfInBounds_toArray, List.set_cons_zero, List.set_cons_succ, i64_w, i32_w]
               rfl
              refine pure_ (i := 7) (N := some 94) (v := undef) (a' := ?_) #[true, true, true, true, true, true, true, true, false, false, false, false, false, false, false] rfl rfl (any_of HT_.out (by kernel_rfl)) (fun _ _ _ h => h) (Or.inr ⟨by rfl, rfl⟩) ?_ ?_
              rotate_left
              ·simp only [Act.put, List.setIfInBounds_toArray, List.set_cons_zero, List.set_cons_succ, i64_w, i32_w]
               rfl
              refine pure_ (i := 8) (N := some 95) (v := undef) (a' := ?_) #[true, true, true, true, true, true, true, true, true, false, false, false, false, false, false] rfl rfl (any_of HT_.out (by kernel_rfl)) (fun _ _ _ h => h) (Or.inr ⟨by rfl, rfl⟩) ?_ ?_
              rotate_left
              ·simp only [Act.put, List.setIfInBounds_toArray, List.set_cons_zero, List.set_cons_succ, i64_w, i32_w]
               rfl
              refine pure_ (i := 9) (N := some 96) (v := undef) (a' := ?_) #[true, true, true, true, true, true, true, true, true, true, false, false, false, false, false] rfl rfl (any_of HT_.out (by kernel_rfl)) (fun _ _ _ h => h) (Or.inr ⟨by rfl, rfl⟩) ?_ ?_
              rotate_left
              ·simp only [Act.put, List.setIfInBounds_toArray, List.set_cons_zero, List.set_cons_succ, i64_w, i32_w]
               rfl
              refine pure_ (i := 10) (N := some 97) (v := undef) (a' := ?_) #[true, true, true, true, true, true, true, true, true, true, true, false, false, false, false] rfl rfl (any_of HT_.out (by kernel_rfl)) (fun _ _ _ h => h) (Or.inr ⟨by rfl, rfl⟩) ?_ ?_
              rotate_left
              ·simp only [Act.put, List.setIfInBounds_toArray, List.set_cons_zero, List.set_cons_succ, i64_w, i32_w]
               rfl
              refine pure_ (i := 11) (N := some 98) (v := undef) (a' := ?_) #[true, true, true, true, true, true, true, true, true, true, true, true, false, false, false] rfl rfl (any_of HT_.out (by kernel_rfl)) (fun _ _ _ h => h) (Or.inr ⟨by rfl, rfl⟩) ?_ ?_
              rotate_left
              ·simp only [Act.put, List.setIfInBounds_toArray, List.set_cons_zero, List.set_cons_succ, i64_w, i32_w]
               rfl
              refine pure_ (i := 12) (N := some 99) (v := undef) (a' := ?_) #[true, true, true, true, true, true, true, true, true, true, true, true, true, false, false] rfl rfl (any_of HT_.out (by kernel_rfl)) (fun _ _ _ h => h) (Or.inr ⟨by rfl, rfl⟩) ?_ ?_
              rotate_left
              ·simp only [Act.put, List.setIfInBounds_toArray, List.set_cons_zero, List.set_cons_succ, i64_w, i32_w]
               rfl
              refine pure_ (i := 13) (N := some 100) (v := undef) (a' := ?_) #[true, true, true, true, true, true, true, true, true, true, true, true, true, true, false] rfl rfl (any_of HT_.out (by kernel_rfl)) (fun _ _ _ h => h) (Or.inr ⟨by rfl, rfl⟩) ?_ ?_
              rotate_left
              ·simp only [Act.put, List.setIfInBounds_toArray, List.set_cons_zero, List.set_cons_succ, i64_w, i32_w]
               rfl
              refine pure_ (i := 14) (N := some 101) (v := ?_) (a' := ?_) #[true, true, true, true, true, true, true, true, true, true, true, true, true, true, true] rfl rfl (any_of HT_.out (by kernel_rfl)) (fun _ _ _ h => h) (Or.inl ⟨by rfl, ?_⟩) ?_ ?_
              rotate_left
              ·intro w'
               go_simp
               with_reducible rfl
              rotate_left
              ·simp only [Act.put, List.setIfInBounds_toArray, List.set_cons_zero, List.set_cons_succ, i64_w, i32_w]
               rfl
              refine done_ (done_of HT_.out (by kernel_rfl)) ?_
              try go_wp2
              have n0_ := Aside0.mk (Kd.R_drew HO_3.out)
              have n1_ := Aside0.mk (blk_drew BK105.out)
              have n2_ := Aside0.mk (below_drew1 HB.out)
              clear HO_3
              clear BK105
              clear HB
              have HO_3 := n0_
              have BK105 := n1_
              have HB := n2_
              clear n0_ n1_ n2_
              obtain ⟨Ao58, co58, eo58⟩ := Kd.R_slice HO_3.out
              (first | subst eo58 | (injection eo58 with f1_ f2_ f3_; have f4_ := f1_.symm; have f5_ := f3_.symm; clear f1_ f2_ f3_; subst f4_; subst f5_))
              have p116 : 0 ≤ (((rd_T71 l0 x17_1).f1) : Int) := of_decide_eq_true (by first | (with_reducible assumption) | assumption)
              have q116 : ((rd_T71 l0 x17_1).f1) < (x3_1.length : Int) := of_decide_eq_true (by first | (with_reducible assumption) | assumption)
              obtain ⟨ad116, e116, hx116_0⟩ := Kd.at_int (Kd.R_reads' HO_3.out).2.2 ((rd_T71 l0 x17_1).f1) p116 q116
              cases e116
              replace p116 := eq_true p116
              replace q116 := eq_true q116
              have p55 : 0 ≤ (((rd_T71 l0 x17_1).f1) : Int) := of_decide_eq_true (by first | (with_reducible assumption) | assumption)
              have q55 : (((rd_T71 l0 x17_1).f1) : Int) < ((x3_1.length : Int) : Int) := of_decide_eq_true (by first | (with_reducible assumption) | assumption)
              obtain ⟨go55, co55, eo55, gb55, gl55, cl55, HG55⟩ := Kd.R_form HO_3.out (by omega)
              (first | cases eo55 | (injection eo55 with ea_ en_ ec_; (first | subst ea_ | (injection ea_ with ea_; subst ea_)); subst ec_; clear en_))
              have GB55 := Aside0.mk gb55
              have GG55 := Aside0.mk HG55
              clear gb55 gl55 HG55
              (first | simp only [add_plain] at hx116_0 | skip)
              obtain ⟨hx55_0, hf55_0⟩ := Kd.R_celln 0 HO_3.out (((rd_T71 l0 x17_1).f1) : Int) p55 q55
              replace p55 := eq_true p55
              replace q55 := eq_true q55
              have HP59 := Kd.R_putn HO_3.out (((rd_T71 l0 x17_1).f1) : Int) (wrap64 ((rd x3_1 ((rd_T71 l0 x17_1).f1)) + ((rd_T71 l0 x17_1).f3)))
              rw [← Ny117.out] at HP59
              have HQ59 := Aside0.mk HP59
              clear HP59
              refine start_ (n := 10) (S := fun w' => w'.cell? ⟨gb105, 0, none⟩ = some (.int .i64 ((rd_T71 l0 x17_1).f0)) ∧ w'.cell? ⟨gb105, 1, none⟩ = some (.int .i64 ((rd_T71 l0 x17_1).f1)) ∧ w'.cell? ⟨gb105, 2, none⟩ = some (.int .i64 ((rd_T71 l0 x17_1).f2)) ∧ w'.cell? ⟨gb105, 3, none⟩ = some (.int .i64 ((rd_T71 l0 x17_1).f3)) ∧ w'.cell? ⟨gb105, 4, none⟩ = some (.int .i64 ((rd_T71 l0 x17_1).f4)) ∧ w'.cell? ⟨gb105, 5, none⟩ = some (.int .i64 ((rd_T71 l0 x17_1).f5)) ∧ w'.cell? ⟨gb105, 6, none⟩ = some (.int .i64 ((rd_T71 l0 x17_1).f6)) ∧ w'.cell? ⟨gb105, 7, none⟩ = some (.string ((rd_T71 l0 x17_1).f7)) ∧ w'.cell? ⟨go55, (((rd_T71 l0 x17_1).f1)).toNat, none⟩ = some (.int .i64 (rd x3_1 ((rd_T71 l0 x17_1).f1)))) (ds := [9]) #[false, false, false, false, false, false, false, false, false, false] (by kernel_rfl) rfl rfl ⟨(blk_cell BK105.out 0).trans rfl, (blk_cell BK105.out 1).trans rfl, (blk_cell BK105.out 2).trans rfl, (blk_cell BK105.out 3).trans rfl, (blk_cell BK105.out 4).trans rfl, (blk_cell BK105.out 5).trans rfl, (blk_cell BK105.out 6).trans rfl, (blk_cell BK105.out 7).trans rfl, hx116_0⟩ (fun hHeld => ?_); refine with_tabW impl_IsValidSamples.tab13 impl_IsValidSamples.bits13 (fun HT_ HW_ => ?_)
              generalize w56.drew = w57 at HO_3 BK105 HB GG55 HQ59 hf55_0 hx116_0 hx55_0 hHeld ⊢
              refine pure_ (i := 0) (N := some 102) (v := ?_) (a' := ?_) #[true, false, false, false, false, false, false, false, false, false] rfl rfl (any_of HT_.out (by kernel_rfl)) (fun _ _ _ h => h) (Or.inl ⟨by rfl, ?_⟩) ?_ ?_
              rotate_left
              ·intro w'
               go_simp
               with_reducible rfl
              rotate_left
              ·simp only [Act.put, List.setIfInBounds_toArray, List.set_cons_zero, List.set_cons_succ, i64_w, i32_w]
               rfl
              refine pure_ (i := 1) (N := some 103) (v := ?_) (a' := ?_) #[true, true, false, false, false, false, false, false, false, false] rfl rfl (any_of HT_.out (by kernel_rfl)) (fun _ _ _ h => h) (Or.inl ⟨by rfl, ?_⟩) ?_ ?_
              rotate_left
              ·intro w'
               go_simp
               with_reducible rfl
              rotate_left
              ·simp only [Act.put, List.setIfInBounds_toArray, List.set_cons_zero, List.set_cons_succ, i64_w, i32_w]
               rfl
              refine pure_ (i := 5) (N := some 107) (v := ?_) (a' := ?_) #[true, true, false, false, false, true, false, false, false, false] rfl rfl (any_of HT_.out (by kernel_rfl)) (fun _ _ _ h => h) (Or.inl ⟨by rfl, ?_⟩) ?_ ?_
              rotate_left
              ·intro w'
               go_simp
               with_reducible rfl
              rotate_left
              ·simp only [Act.put, List.setIfInBounds_toArray, List.set_cons_zero, List.set_cons_succ, i64_w, i32_w]
               rfl
              refine take_ (i := 2) (N := some 104) (v := ?_) (a' := ?_) #[true, true, true, false, false, true, false, false, false, false] rfl rfl (take_ofW HT_.out HW_.out (by kernel_rfl)) (fun _ _ _ h => h) (Or.inl ⟨by rfl, ?_⟩) hHeld ?_ ?_
              rotate_left
              ·rintro w' ⟨s0, s1, s2, s3, s4, s5, s6, s7, s8⟩
               go_simp
               with_reducible rfl
              rotate_left
              ·simp only [Act.put, List.setIfInBounds_toArray, List.set_cons_zero, List.set_cons_succ, i64_w, i32_w]
               rfl
              refine pure_ (i := 3) (N := some 105) (v := ?_) (a' := ?_) #[true, true, true, true, false, true, false, false, false, false] rfl rfl (any_of HT_.out (by kernel_rfl)) (fun _ _ _ h => h) (Or.inl ⟨by rfl, ?_⟩) ?_ ?_
              rotate_left
              ·intro w'
               go_simp
               with_reducible rfl
              rotate_left
              ·simp only [Act.put, List.setIfInBounds_toArray, List.set_cons_zero, List.set_cons_succ, i64_w, i32_w]
               rfl
              refine take_ (i := 4) (N := some 106) (v := ?_) (a' := ?_) #[true, true, true, true, true, true, false, false, false, false] rfl rfl (take_ofW HT_.out HW_.out (by kernel_rfl)) (fun _ _ _ h => h) (Or.inl ⟨by rfl, ?_⟩) hHeld ?_ ?_
              rotate_left
              ·rintro w' ⟨s0, s1, s2, s3, s4, s5, s6, s7, s8⟩
               go_simp
               with_reducible rfl
              rotate_left
              ·simp only [Act.put, List.setIfInBounds_toArray, List.set_cons_zero, List.set_cons_succ, i64_w, i32_w]
               rfl
              refine take_ (i := 6) (N := some 108) (v := ?_) (a' := ?_) #[true, true, true, true, true, true, true, false, false, false] rfl rfl (take_ofW HT_.out HW_.out (by kernel_rfl)) (fun _ _ _ h => h) (Or.inl ⟨by rfl, ?_⟩) hHeld ?_ ?_
              rotate_left
              ·rintro w' ⟨s0, s1, s2, s3, s4, s5, s6, s7, s8⟩
               go_simp
               with_reducible rfl
              rotate_left
              ·simp only [Act.put, List.setIfInBounds_toArray, List.set_cons_zero, List.set_cons_succ, i64_w, i32_w]
               rfl
              refine pure_ (i := 7) (N := some 109) (v := ?_) (a' := ?_) #[true, true, true, true, true, true, true, true, false, false] rfl rfl (any_of HT_.out (by kernel_rfl)) (fun _ _ _ h => h) (Or.inl ⟨by rfl, ?_⟩) ?_ ?_
              rotate_left
              ·intro w'
               go_simp
               with_reducible rfl
              rotate_left
              ·simp only [Act.put, List.setIfInBounds_toArray, List.set_cons_zero, List.set_cons_succ, i64_w, i32_w]
               rfl
              refine pure_ (i := 8) (N := some 110) (v := ?_) (a' := ?_) #[true, true, true, true, true, true, true, true, true, false] rfl rfl (any_of HT_.out (by kernel_rfl)) (fun _ _ _ h => h) (Or.inl ⟨by rfl, ?_⟩) ?_ ?_
              rotate_left
              ·intro w'
               go_simp
               with_reducible rfl
              rotate_left
              ·simp only [Act.put, List.setIfInBounds_toArray, List.set_cons_zero, List.set_cons_succ, i64_w, i32_w]
               rfl
              refine last_ (i := 9) (N := none) #[true, true, true, true, true, true, true, true, true, true] rfl rfl (one_of HT_.out (by kernel_rfl)) (by decide) (fun K hK => ?_)
              refine skip_ (w1 := ?_) (by rfl) rfl ?_ ?_
              rotate_left
              ·go_simp
               rfl
              refine hK.out _ _ ?_
              clear hK K
              refine done_ (done_of HT_.out (by kernel_rfl)) ?_
              try go_wp2
              go_roundg kj27
              case measure => have := HK1.out; have := HJ10.out; have := HJ27.out; omega
              case rel => exact ⟨(y117), (wrap64 (x17_1 + 1)), (by first | rfl | (simp; done) | (simp [*]; done) | (simp [beq_nil_, bne_nil_]; done)), H', ⟨by have := HK1.out; have := HJ10.out; have := HJ27.out; omega⟩, ⟨by (with_reducible repeat (first | apply Kd.R_alloc | apply Kd.R_drewN | apply Kd.R_drew)); exact HQ59.out⟩, ⟨by repeat (first | (with_reducible first | exact HB.out | apply below_alloc | apply pw_below_drewN | apply below_drew1 | refine below_set ?_ GB55.out | refine below_set ?_ GE105.out) | exact HB.out)⟩⟩
             rw [if_neg c54] at H
             exact absurd H (by simp)
            rw [if_neg c53] at H
            exact absurd H (by simp)
       rw [if_neg c10] at H
       exact absurd H (by simp)
      rw [if_neg c9] at H
      exact absurd H (by simp)
     rw [if_neg c8] at H
     have c8b0 : decide (x17_1 < (l0.length : Int)) = false := decide_eq_false c8
     clear c8
     have H' := Aside0.mk H
     clear H
     go_wp2
     go_loopg [114] k1 (fun kq v114 w' => ∃ (x114_2 : Int), v114 = .int .i64 x114_2 ∧ Aside0 (impl_IsValidSamples.l1 kq x3_1 l0 (l0.length : Int) x114_2 = some r) ∧ Aside0 (kq ≤ k1) ∧ Aside0 (Kd.R (Kd.int .i64) 3 w' w.heap.size (fun _ => True) v102 x3_1) ∧ Aside0 (Below w.heap.size w w'))
     case atStart => exact ⟨(0), (by first | rfl | (simp; done) | (simp [*]; done) | (simp [beq_nil_, bne_nil_]; done)), H', ⟨Nat.le_refl _⟩, ⟨by (with_reducible repeat (first | apply Kd.R_alloc | apply Kd.R_drewN | apply Kd.R_drew)); exact HO_3.out⟩, ⟨by repeat (first | (with_reducible first | exact HB.out | apply below_alloc | apply pw_below_drewN | apply below_drew1) | exact HB.out)⟩⟩
     case round =>
      clear H'
      try clear c1
      try clear p1
      try clear q1
      try clear hx1
      try clear p2
      try clear c4
      try clear p4
      try clear q4
      try clear hx4
      try clear hf4
      try clear c5
      try clear p5
      try clear q5
      try clear hx5
      try clear hf5
      try clear p6
      try clear c8
      try clear c8b0
      try clear c9
      try clear c10
      try clear p11
      try clear q11
      try clear hx11
      try clear c40
      try clear c40b0
      try clear c42
      try clear c43
      try clear c44
      try clear c44b0
      try clear c44b1
      try clear c45
      try clear c46
      try clear p47
      try clear q47
      try clear hx47
      try clear hf47
      try clear c53
      try clear c53b0
      try clear c54
      try clear c54b0
      try clear p55
      try clear q55
      try clear hx55
      try clear hf55
      try clear hx113_0
      try clear hx113_1
      try clear hx113_2
      try clear hx113_3
      try clear hx113_4
      try clear hx113_5
      try clear hx113_6
      try clear hx113_7
      try clear hx114_0
      try clear hx116_0
      try clear hx47_0
      try clear hx55_0
      try clear p113
      try clear p114
      try clear p116
      try clear p47
      try clear p55
      try clear q113
      try clear q114
      try clear q116
      try clear q47
      try clear q55
      obtain ⟨x114_2, rfl, HA, HK2, HO_3, HB⟩ := hrel
      cases gk with
      | zero => exact absurd HA.out (by simp [impl_IsValidSamples.l1])
      | succ k2 =>
       have H := HA.out
       clear HA
       simp only [impl_IsValidSamples.l1] at H
       by_cases c60 : x114_2 < (l0.length : Int)
       ·rw [if_pos c60] at H
        have c60b0 : decide (x114_2 < (l0.length : Int)) = true := decide_eq_true c60
        clear c60
        by_cases c61 : 0 ≤ x114_2
        ·rw [if_pos c61] at H
         have c61b0 : decide (0 ≤ x114_2) = true := decide_eq_true c61
         clear c61
         by_cases c62 : x114_2 < (l0.length : Int)
         ·rw [if_pos c62] at H
          have c62b0 : decide (x114_2 < (l0.length : Int)) = true := decide_eq_true c62
          clear c62
          by_cases c63 : 0 ≤ ((rd_T71 l0 x114_2).f0)
          ·rw [if_pos c63] at H
           have c63b0 : decide (0 ≤ ((rd_T71 l0 x114_2).f0)) = true := decide_eq_true c63
           clear c63
           by_cases c64 : ((rd_T71 l0 x114_2).f0) < (x3_1.length : Int)
           ·rw [if_pos c64] at H
            have c64b0 : decide (((rd_T71 l0 x114_2).f0) < (x3_1.length : Int)) = true := decide_eq_true c64
            clear c64
            by_cases c65 : (rd x3_1 ((rd_T71 l0 x114_2).f0)) = ((rd_T71 l0 x114_2).f6)
            ·rw [if_pos c65] at H
             have c65b0 : ((rd x3_1 ((rd_T71 l0 x114_2).f0)) == ((rd_T71 l0 x114_2).f6)) = true := beq_iff_eq.mpr c65
             have c65b1 : ((rd x3_1 ((rd_T71 l0 x114_2).f0)) != ((rd_T71 l0 x114_2).f6)) = false := bne_eq_false_iff_eq.mpr c65
             clear c65
             have H' := Aside0.mk H
             clear H
             have p118 : 0 ≤ (x114_2 : Int) := of_decide_eq_true (by first | (with_reducible assumption) | assumption)
             have q118 : x114_2 < (l0.length : Int) := of_decide_eq_true (by first | (with_reducible assumption) | assumption)
             obtain ⟨ad118, e118, hx118_0, hx118_1, hx118_2, hx118_3, hx118_4, hx118_5, hx118_6, hx118_7⟩ := at_T71 HR0.out x114_2 p118 q118
             cases e118
             replace hx118_0 := (HB.out.cell (World.block_lt_of_cell? w _ hx118_0)).trans hx118_0
             replace hx118_1 := (HB.out.cell (World.block_lt_of_cell? w _ hx118_1)).trans hx118_1
             replace hx118_2 := (HB.out.cell (World.block_lt_of_cell? w _ hx118_2)).trans hx118_2
             replace hx118_3 := (HB.out.cell (World.block_lt_of_cell? w _ hx118_3)).trans hx118_3
             replace hx118_4 := (HB.out.cell (World.block_lt_of_cell? w _ hx118_4)).trans hx118_4
             replace hx118_5 := (HB.out.cell (World.block_lt_of_cell? w _ hx118_5)).trans hx118_5
             replace hx118_6 := (HB.out.cell (World.block_lt_of_cell? w _ hx118_6)).trans hx118_6
             replace hx118_7 := (HB.out.cell (World.block_lt_of_cell? w _ hx118_7)).trans hx118_7
             replace p118 := eq_true p118
             replace q118 := eq_true q118
             try go_wp2_with (first | ((with_reducible refine gate_dst (N := 7) rfl ?_); refine box_event ?hg (N := 7) ?hd (cs := #[.int .i64 0, .int .i64 0, .int .i64 0, .int .i64 0, .int .i64 0, .int .i64 0, .int .i64 0, .string (⟨#[]⟩ : ByteArray)]) (t := 71) ?hr ?_; (case hd => rfl); (case hg => rfl); (case hr => first | (go_simp; done) | (go_simp; rfl)); intro gb119 hg w66 hbox hb; have n0_ := Aside0.mk (Kd.R_below (pR_ HO_3.out) hb); have n1_ := Aside0.mk (below_step (pH_ HB.out) hb); have n2_ := Aside0.mk (hbox); have n3_ := Aside0.mk ((by rw [hg]; exact (below_size (pH_ HB.out)) : w.heap.size ≤ gb119)); have n4_ := Aside0.mk ((by rw [hg]; exact (below_size (pH_ HB.out)) : w.heap.size ≤ gb119)); clear HO_3; clear HB; have HO_3 := n0_; have HB := n1_; have BK119 := n2_; have GW119 := n3_; have GE119 := n4_; clear n0_ n1_ n2_ n3_ n4_; clear hb hbox hg; have hcz67_0 := cz_ BK119.out 0 _ rfl; have hcz67_1 := cz_ BK119.out 1 _ rfl; have hcz67_2 := cz_ BK119.out 2 _ rfl; have hcz67_3 := cz_ BK119.out 3 _ rfl; have hcz67_4 := cz_ BK119.out 4 _ rfl; have hcz67_5 := cz_ BK119.out 5 _ rfl; have hcz67_6 := cz_ BK119.out 6 _ rfl; have hcz67_7 := cz_ BK119.out 7 _ rfl; have hfz67_0 := blk_frozen BK119.out 0; have hfz67_1 := blk_frozen BK119.out 1; have hfz67_2 := blk_frozen BK119.out 2; have hfz67_3 := blk_frozen BK119.out 3; have hfz67_4 := blk_frozen BK119.out 4; have hfz67_5 := blk_frozen BK119.out 5; have hfz67_6 := blk_frozen BK119.out 6; have hfz67_7 := blk_frozen BK119.out 7))
             have n0_ : Aside0 (Kd.R (Kd.int .i64) 3 ((((((((w66.setCell ⟨gb119, 0, none⟩ (.int .i64 ((rd_T71 l0 x114_2).f0))).setCell ⟨gb119, 1, none⟩ (.int .i64 ((rd_T71 l0 x114_2).f1))).setCell ⟨gb119, 2, none⟩ (.int .i64 ((rd_T71 l0 x114_2).f2))).setCell ⟨gb119, 3, none⟩ (.int .i64 ((rd_T71 l0 x114_2).f3))).setCell ⟨gb119, 4, none⟩ (.int .i64 ((rd_T71 l0 x114_2).f4))).setCell ⟨gb119, 5, none⟩ (.int .i64 ((rd_T71 l0 x114_2).f5))).setCell ⟨gb119, 6, none⟩ (.int .i64 ((rd_T71 l0 x114_2).f6))).setCell ⟨gb119, 7, none⟩ (.string ((rd_T71 l0 x114_2).f7))) w.heap.size (fun _ => True) v102 x3_1) := ⟨by (with_reducible repeat (first | apply Kd.R_alloc | apply Kd.R_drewN | apply Kd.R_drew)); exact Kd.R_mono (Kd.R_far (p := ⟨gb119, 7, none⟩) (Kd.R_far (p := ⟨gb119, 6, none⟩) (Kd.R_far (p := ⟨gb119, 5, none⟩) (Kd.R_far (p := ⟨gb119, 4, none⟩) (Kd.R_far (p := ⟨gb119, 3, none⟩) (Kd.R_far (p := ⟨gb119, 2, none⟩) (Kd.R_far (p := ⟨gb119, 1, none⟩) (Kd.R_far (p := ⟨gb119, 0, none⟩) (Kd.R_types HO_3.out BK119.out (by decide)) (fun _ hk => hk.2) (.int .i64 ((rd_T71 l0 x114_2).f0))) (fun _ hk => hk.2) (.int .i64 ((rd_T71 l0 x114_2).f1))) (fun _ hk => hk.2) (.int .i64 ((rd_T71 l0 x114_2).f2))) (fun _ hk => hk.2) (.int .i64 ((rd_T71 l0 x114_2).f3))) (fun _ hk => hk.2) (.int .i64 ((rd_T71 l0 x114_2).f4))) (fun _ hk => hk.2) (.int .i64 ((rd_T71 l0 x114_2).f5))) (fun _ hk => hk.2) (.int .i64 ((rd_T71 l0 x114_2).f6))) (fun _ hk => hk.2) (.string ((rd_T71 l0 x114_2).f7))) (fun _ hk => trivial)⟩
             have n1_ : Aside0 (((((((((w66.setCell ⟨gb119, 0, none⟩ (.int .i64 ((rd_T71 l0 x114_2).f0))).setCell ⟨gb119, 1, none⟩ (.int .i64 ((rd_T71 l0 x114_2).f1))).setCell ⟨gb119, 2, none⟩ (.int .i64 ((rd_T71 l0 x114_2).f2))).setCell ⟨gb119, 3, none⟩ (.int .i64 ((rd_T71 l0 x114_2).f3))).setCell ⟨gb119, 4, none⟩ (.int .i64 ((rd_T71 l0 x114_2).f4))).setCell ⟨gb119, 5, none⟩ (.int .i64 ((rd_T71 l0 x114_2).f5))).setCell ⟨gb119, 6, none⟩ (.int .i64 ((rd_T71 l0 x114_2).f6))).setCell ⟨gb119, 7, none⟩ (.string ((rd_T71 l0 x114_2).f7))).heap[gb119]? = some (.cells #[.int .i64 ((rd_T71 l0 x114_2).f0), .int .i64 ((rd_T71 l0 x114_2).f1), .int .i64 ((rd_T71 l0 x114_2).f2), .int .i64 ((rd_T71 l0 x114_2).f3), .int .i64 ((rd_T71 l0 x114_2).f4), .int .i64 ((rd_T71 l0 x114_2).f5), .int .i64 ((rd_T71 l0 x114_2).f6), .string ((rd_T71 l0 x114_2).f7)] 71 (0, 0))) := ⟨by (with_reducible repeat (first | refine blk_drewN ?_ _ | refine blk_drew ?_ | refine blk_alloc ?_ _)); refine blk_put (cs := #[.int .i64 ((rd_T71 l0 x114_2).f0), .int .i64 ((rd_T71 l0 x114_2).f1), .int .i64 ((rd_T71 l0 x114_2).f2), .int .i64 ((rd_T71 l0 x114_2).f3), .int .i64 ((rd_T71 l0 x114_2).f4), .int .i64 ((rd_T71 l0 x114_2).f5), .int .i64 ((rd_T71 l0 x114_2).f6), .string (⟨#[]⟩ : ByteArray)]) ?_ 7 _ rfl; (with_reducible repeat (first | refine blk_drewN ?_ _ | refine blk_drew ?_ | refine blk_alloc ?_ _)); refine blk_put (cs := #[.int .i64 ((rd_T71 l0 x114_2).f0), .int .i64 ((rd_T71 l0 x114_2).f1), .int .i64 ((rd_T71 l0 x114_2).f2), .int .i64 ((rd_T71 l0 x114_2).f3), .int .i64 ((rd_T71 l0 x114_2).f4), .int .i64 ((rd_T71 l0 x114_2).f5), .int .i64 0, .string (⟨#[]⟩ : ByteArray)]) ?_ 6 _ rfl; (with_reducible repeat (first | refine blk_drewN ?_ _ | refine blk_drew ?_ | refine blk_alloc ?_ _)); refine blk_put (cs := #[.int .i64 ((rd_T71 l0 x114_2).f0), .int .i64 ((rd_T71 l0 x114_2).f1), .int .i64 ((rd_T71 l0 x114_2).f2), .int .i64 ((rd_T71 l0 x114_2).f3), .int .i64 ((rd_T71 l0 x114_2).f4), .int .i64 0, .int .i64 0, .string (⟨#[]⟩ : ByteArray)]) ?_ 5 _ rfl; (with_reducible repeat (first | refine blk_drewN ?_ _ | refine blk_drew ?_ | refine blk_alloc ?_ _)); refine blk_put (cs := #[.int .i64 ((rd_T71 l0 x114_2).f0), .int .i64 ((rd_T71 l0 x114_2).f1), .int .i64 ((rd_T71 l0 x114_2).f2), .int .i64 ((rd_T71 l0 x114_2).f3), .int .i64 0, .int .i64 0, .int .i64 0, .string (⟨#[]⟩ : ByteArray)]) ?_ 4 _ rfl; (with_reducible repeat (first | refine blk_drewN ?_ _ | refine blk_drew ?_ | refine blk_alloc ?_ _)); refine blk_put (cs := #[.int .i64 ((rd_T71 l0 x114_2).f0), .int .i64 ((rd_T71 l0 x114_2).f1), .int .i64 ((rd_T71 l0 x114_2).f2), .int .i64 0, .int .i64 0, .int .i64 0, .int .i64 0, .string (⟨#[]⟩ : ByteArray)]) ?_ 3 _ rfl; (with_reducible repeat (first | refine blk_drewN ?_ _ | refine blk_drew ?_ | refine blk_alloc ?_ _)); refine blk_put (cs := #[.int .i64 ((rd_T71 l0 x114_2).f0), .int .i64 ((rd_T71 l0 x114_2).f1), .int .i64 0, .int .i64 0, .int .i64 0, .int .i64 0, .int .i64 0, .string (⟨#[]⟩ : ByteArray)]) ?_ 2 _ rfl; (with_reducible repeat (first | refine blk_drewN ?_ _ | refine blk_drew ?_ | refine blk_alloc ?_ _)); refine blk_put (cs := #[.int .i64 ((rd_T71 l0 x114_2).f0), .int .i64 0, .int .i64 0, .int .i64 0, .int .i64 0, .int .i64 0, .int .i64 0, .string (⟨#[]⟩ : ByteArray)]) ?_ 1 _ rfl; (with_reducible repeat (first | refine blk_drewN ?_ _ | refine blk_drew ?_ | refine blk_alloc ?_ _)); refine blk_put (cs := #[.int .i64 0, .int .i64 0, .int .i64 0, .int .i64 0, .int .i64 0, .int .i64 0, .int .i64 0, .string (⟨#[]⟩ : ByteArray)]) ?_ 0 _ rfl; (with_reducible repeat (first | refine blk_drewN ?_ _ | refine blk_drew ?_ | refine blk_alloc ?_ _)); exact BK119.out⟩
             have n2_ : Aside0 (Below w.heap.size w ((((((((w66.setCell ⟨gb119, 0, none⟩ (.int .i64 ((rd_T71 l0 x114_2).f0))).setCell ⟨gb119, 1, none⟩ (.int .i64 ((rd_T71 l0 x114_2).f1))).setCell ⟨gb119, 2, none⟩ (.int .i64 ((rd_T71 l0 x114_2).f2))).setCell ⟨gb119, 3, none⟩ (.int .i64 ((rd_T71 l0 x114_2).f3))).setCell ⟨gb119, 4, none⟩ (.int .i64 ((rd_T71 l0 x114_2).f4))).setCell ⟨gb119, 5, none⟩ (.int .i64 ((rd_T71 l0 x114_2).f5))).setCell ⟨gb119, 6, none⟩ (.int .i64 ((rd_T71 l0 x114_2).f6))).setCell ⟨gb119, 7, none⟩ (.string ((rd_T71 l0 x114_2).f7)))) := ⟨by repeat (first | (with_reducible first | exact HB.out | apply below_alloc | apply pw_below_drewN | apply below_drew1 | refine below_set ?_ GE119.out) | exact HB.out)⟩
             (try clear HO_3)
             (try clear BK119)
             (try clear HB)
             generalize ((((((((w66.setCell ⟨gb119, 0, none⟩ (.int .i64 ((rd_T71 l0 x114_2).f0))).setCell ⟨gb119, 1, none⟩ (.int .i64 ((rd_T71 l0 x114_2).f1))).setCell ⟨gb119, 2, none⟩ (.int .i64 ((rd_T71 l0 x114_2).f2))).setCell ⟨gb119, 3, none⟩ (.int .i64 ((rd_T71 l0 x114_2).f3))).setCell ⟨gb119, 4, none⟩ (.int .i64 ((rd_T71 l0 x114_2).f4))).setCell ⟨gb119, 5, none⟩ (.int .i64 ((rd_T71 l0 x114_2).f5))).setCell ⟨gb119, 6, none⟩ (.int .i64 ((rd_T71 l0 x114_2).f6))).setCell ⟨gb119, 7, none⟩ (.string ((rd_T71 l0 x114_2).f7))) = w68 at n0_ n1_ n2_ ⊢
             have HO_3 := n0_
             have BK119 := n1_
             have HB := n2_
             clear n0_ n1_ n2_
             have n0_ := Aside0.mk (Kd.R_drew HO_3.out)
             have n1_ := Aside0.mk (blk_drew BK119.out)
             have n2_ := Aside0.mk (below_drew1 HB.out)
             clear HO_3
             clear BK119
             clear HB
             have HO_3 := n0_
             have BK119 := n1_
             have HB := n2_
             clear n0_ n1_ n2_
             obtain ⟨Ao70, co70, eo70⟩ := Kd.R_slice HO_3.out
             (first | subst eo70 | (injection eo70 with f1_ f2_ f3_; have f4_ := f1_.symm; have f5_ := f3_.symm; clear f1_ f2_ f3_; subst f4_; subst f5_))
             have p120 : 0 ≤ (((rd_T71 l0 x114_2).f0) : Int) := of_decide_eq_true (by first | (with_reducible assumption) | assumption)
             have q120 : ((rd_T71 l0 x114_2).f0) < (x3_1.length : Int) := of_decide_eq_true (by first | (with_reducible assumption) | assumption)
             obtain ⟨ad120, e120, hx120_0⟩ := Kd.at_int (Kd.R_reads' HO_3.out).2.2 ((rd_T71 l0 x114_2).f0) p120 q120
             cases e120
             replace p120 := eq_true p120
             replace q120 := eq_true q120
             refine start_ (n := 8) (S := fun w' => w'.cell? ⟨gb119, 0, none⟩ = some (.int .i64 ((rd_T71 l0 x114_2).f0)) ∧ w'.cell? ⟨gb119, 1, none⟩ = some (.int .i64 ((rd_T71 l0 x114_2).f1)) ∧ w'.cell? ⟨gb119, 2, none⟩ = some (.int .i64 ((rd_T71 l0 x114_2).f2)) ∧ w'.cell? ⟨gb119, 3, none⟩ = some (.int .i64 ((rd_T71 l0 x114_2).f3)) ∧ w'.cell? ⟨gb119, 4, none⟩ = some (.int .i64 ((rd_T71 l0 x114_2).f4)) ∧ w'.cell? ⟨gb119, 5, none⟩ = some (.int .i64 ((rd_T71 l0 x114_2).f5)) ∧ w'.cell? ⟨gb119, 6, none⟩ = some (.int .i64 ((rd_T71 l0 x114_2).f6)) ∧ w'.cell? ⟨gb119, 7, none⟩ = some (.string ((rd_T71 l0 x114_2).f7)) ∧ w'.cell? (ad120.add (((rd_T71 l0 x114_2).f0)).toNat) = some (.int .i64 (rd x3_1 ((rd_T71 l0 x114_2).f0)))) (ds := []) #[false, false, false, false, false, false, false, false] (by kernel_rfl) rfl rfl ⟨(blk_cell BK119.out 0).trans rfl, (blk_cell BK119.out 1).trans rfl, (blk_cell BK119.out 2).trans rfl, (blk_cell BK119.out 3).trans rfl, (blk_cell BK119.out 4).trans rfl, (blk_cell BK119.out 5).trans rfl, (blk_cell BK119.out 6).trans rfl, (blk_cell BK119.out 7).trans rfl, hx120_0⟩ (fun hHeld => ?_); refine with_tabW impl_IsValidSamples.tab18 impl_IsValidSamples.bits18 (fun HT_ HW_ => ?_)
             generalize w68.drew = w69 at HO_3 BK119 HB hx120_0 hHeld ⊢
             refine pure_ (i := 0) (N := some 118) (v := ?_) (a' := ?_) #[true, false, false, false, false, false, false, false] rfl rfl (any_of HT_.out (by kernel_rfl)) (fun _ _ _ h => h) (Or.inl ⟨by rfl, ?_⟩) ?_ ?_
             rotate_left
             ·intro w'
              go_simp
              with_reducible rfl
             rotate_left
             ·simp only [Act.put, List.setIfInBounds_toArray, List.set_cons_zero, List.set_cons_succ, i64_w, i32_w]
              rfl
             refine pure_ (i := 1) (N := some 119) (v := ?_) (a' := ?_) #[true, true, false, false, false, false, false, false] rfl rfl (any_of HT_.out (by kernel_rfl)) (fun _ _ _ h => h) (Or.inl ⟨by rfl, ?_⟩) ?_ ?_
             rotate_left
             ·intro w'
              go_simp
              with_reducible rfl
             rotate_left
             ·simp only [Act.put, List.setIfInBounds_toArray, List.set_cons_zero, List.set_cons_succ, i64_w, i32_w]
              rfl
             refine pure_ (i := 5) (N := some 123) (v := ?_) (a' := ?_) #[true, true, false, false, false, true, false, false] rfl rfl (any_of HT_.out (by kernel_rfl)) (fun _ _ _ h => h) (Or.inl ⟨by rfl, ?_⟩) ?_ ?_
             rotate_left
             ·intro w'
              go_simp
              with_reducible rfl
             rotate_left
             ·simp only [Act.put, List.setIfInBounds_toArray, List.set_cons_zero, List.set_cons_succ, i64_w, i32_w]
              rfl
             refine take_ (i := 2) (N := some 120) (v := ?_) (a' := ?_) #[true, true, true, false, false, true, false, false] rfl rfl (take_ofW HT_.out HW_.out (by kernel_rfl)) (fun _ _ _ h => h) (Or.inl ⟨by rfl, ?_⟩) hHeld ?_ ?_
             rotate_left
             ·rintro w' ⟨s0, s1, s2, s3, s4, s5, s6, s7, s8⟩
              go_simp
              with_reducible rfl
             rotate_left
             ·simp only [Act.put, List.setIfInBounds_toArray, List.set_cons_zero, List.set_cons_succ, i64_w, i32_w]
              rfl
             refine pure_ (i := 3) (N := some 121) (v := ?_) (a' := ?_) #[true, true, true, true, false, true, false, false] rfl rfl (any_of HT_.out (by kernel_rfl)) (fun _ _ _ h => h) (Or.inl ⟨by rfl, ?_⟩) ?_ ?_
             rotate_left
             ·intro w'
              go_simp
              with_reducible rfl
             rotate_left
             ·simp only [Act.put, List.setIfInBounds_toArray, List.set_cons_zero, List.set_cons_succ, i64_w, i32_w]
              rfl
             refine take_ (i := 4) (N := some 122) (v := ?_) (a' := ?_) #[true, true, true, true, true, true, false, false] rfl rfl (take_ofW HT_.out HW_.out (by kernel_rfl)) (fun _ _ _ h => h) (Or.inl ⟨by rfl, ?_⟩) hHeld ?_ ?_
             rotate_left
             ·rintro w' ⟨s0, s1, s2, s3, s4, s5, s6, s7, s8⟩
              go_simp
              with_reducible rfl
             rotate_left
             ·simp only [Act.put, List.setIfInBounds_toArray, List.set_cons_zero, List.set_cons_succ, i64_w, i32_w]
              rfl
             refine take_ (i := 6) (N := some 124) (v := ?_) (a' := ?_) #[true, true, true, true, true, true, true, false] rfl rfl (take_ofW HT_.out HW_.out (by kernel_rfl)) (fun _ _ _ h => h) (Or.inl ⟨by rfl, ?_⟩) hHeld ?_ ?_
             rotate_left
             ·rintro w' ⟨s0, s1, s2, s3, s4, s5, s6, s7, s8⟩
              go_simp
              with_reducible rfl
             rotate_left
             ·simp only [Act.put, List.setIfInBounds_toArray, List.set_cons_zero, List.set_cons_succ, i64_w, i32_w]
              rfl
             refine pure_ (i := 7) (N := some 125) (v := ?_) (a' := ?_) #[true, true, true, true, true, true, true, true] rfl rfl (any_of HT_.out (by kernel_rfl)) (fun _ _ _ h => h) (Or.inl ⟨by rfl, ?_⟩) ?_ ?_
             rotate_left
             ·intro w'
              go_simp
              with_reducible rfl
             rotate_left
             ·simp only [Act.put, List.setIfInBounds_toArray, List.set_cons_zero, List.set_cons_succ, i64_w, i32_w]
              rfl
             refine done_ (done_of HT_.out (by kernel_rfl)) ?_
             try go_wp2
             go_roundg k2
             case measure => have := HK1.out; have := HK2.out; omega
             case rel => exact ⟨(wrap64 (x114_2 + 1)), (by first | rfl | (simp; done) | (simp [*]; done) | (simp [beq_nil_, bne_nil_]; done)), H', ⟨by have := HK1.out; have := HK2.out; omega⟩, ⟨by (with_reducible repeat (first | apply Kd.R_alloc | apply Kd.R_drewN | apply Kd.R_drew)); exact HO_3.out⟩, ⟨by repeat (first | (with_reducible first | exact HB.out | apply below_alloc | apply pw_below_drewN | apply below_drew1 | refine below_set ?_ GE119.out) | exact HB.out)⟩⟩
            rw [if_neg c65] at H
            have c65b0 : ((rd x3_1 ((rd_T71 l0 x114_2).f0)) == ((rd_T71 l0 x114_2).f6)) = false := beq_eq_false_iff_ne.mpr c65
            have c65b1 : ((rd x3_1 ((rd_T71 l0 x114_2).f0)) != ((rd_T71 l0 x114_2).f6)) = true := bne_iff_ne.mpr c65
            obtain rfl := Option.some.inj H
            have p118 : 0 ≤ (x114_2 : Int) := of_decide_eq_true (by first | (with_reducible assumption) | assumption)
            have q118 : x114_2 < (l0.length : Int) := of_decide_eq_true (by first | (with_reducible assumption) | assumption)
            obtain ⟨ad118, e118, hx118_0, hx118_1, hx118_2, hx118_3, hx118_4, hx118_5, hx118_6, hx118_7⟩ := at_T71 HR0.out x114_2 p118 q118
            cases e118
            replace hx118_0 := (HB.out.cell (World.block_lt_of_cell? w _ hx118_0)).trans hx118_0
            replace hx118_1 := (HB.out.cell (World.block_lt_of_cell? w _ hx118_1)).trans hx118_1
            replace hx118_2 := (HB.out.cell (World.block_lt_of_cell? w _ hx118_2)).trans hx118_2
            replace hx118_3 := (HB.out.cell (World.block_lt_of_cell? w _ hx118_3)).trans hx118_3
            replace hx118_4 := (HB.out.cell (World.block_lt_of_cell? w _ hx118_4)).trans hx118_4
            replace hx118_5 := (HB.out.cell (World.block_lt_of_cell? w _ hx118_5)).trans hx118_5
            replace hx118_6 := (HB.out.cell (World.block_lt_of_cell? w _ hx118_6)).trans hx118_6
            replace hx118_7 := (HB.out.cell (World.block_lt_of_cell? w _ hx118_7)).trans hx118_7
            replace p118 := eq_true p118
            replace q118 := eq_true q118
            try go_wp2_with (first | ((with_reducible refine gate_dst (N := 7) rfl ?_); refine box_event ?hg (N := 7) ?hd (cs := #[.int .i64 0, .int .i64 0, .int .i64 0, .int .i64 0, .int .i64 0, .int .i64 0, .int .i64 0, .string (⟨#[]⟩ : ByteArray)]) (t := 71) ?hr ?_; (case hd => rfl); (case hg => rfl); (case hr => first | (go_simp; done) | (go_simp; rfl)); intro gb119 hg w71 hbox hb; have n0_ := Aside0.mk (Kd.R_below (pR_ HO_3.out) hb); have n1_ := Aside0.mk (below_step (pH_ HB.out) hb); have n2_ := Aside0.mk (hbox); have n3_ := Aside0.mk ((by rw [hg]; exact (below_size (pH_ HB.out)) : w.heap.size ≤ gb119)); have n4_ := Aside0.mk ((by rw [hg]; exact (below_size (pH_ HB.out)) : w.heap.size ≤ gb119)); clear HO_3; clear HB; have HO_3 := n0_; have HB := n1_; have BK119 := n2_; have GW119 := n3_; have GE119 := n4_; clear n0_ n1_ n2_ n3_ n4_; clear hb hbox hg; have hcz72_0 := cz_ BK119.out 0 _ rfl; have hcz72_1 := cz_ BK119.out 1 _ rfl; have hcz72_2 := cz_ BK119.out 2 _ rfl; have hcz72_3 := cz_ BK119.out 3 _ rfl; have hcz72_4 := cz_ BK119.out 4 _ rfl; have hcz72_5 := cz_ BK119.out 5 _ rfl; have hcz72_6 := cz_ BK119.out 6 _ rfl; have hcz72_7 := cz_ BK119.out 7 _ rfl; have hfz72_0 := blk_frozen BK119.out 0; have hfz72_1 := blk_frozen BK119.out 1; have hfz72_2 := blk_frozen BK119.out 2; have hfz72_3 := blk_frozen BK119.out 3; have hfz72_4 := blk_frozen BK119.out 4; have hfz72_5 := blk_frozen BK119.out 5; have hfz72_6 := blk_frozen BK119.out 6; have hfz72_7 := blk_frozen BK119.out 7))
            have n0_ : Aside0 (Kd.R (Kd.int .i64) 3 ((((((((w71.setCell ⟨gb119, 0, none⟩ (.int .i64 ((rd_T71 l0 x114_2).f0))).setCell ⟨gb119, 1, none⟩ (.int .i64 ((rd_T71 l0 x114_2).f1))).setCell ⟨gb119, 2, none⟩ (.int .i64 ((rd_T71 l0 x114_2).f2))).setCell ⟨gb119, 3, none⟩ (.int .i64 ((rd_T71 l0 x114_2).f3))).setCell ⟨gb119, 4, none⟩ (.int .i64 ((rd_T71 l0 x114_2).f4))).setCell ⟨gb119, 5, none⟩ (.int .i64 ((rd_T71 l0 x114_2).f5))).setCell ⟨gb119, 6, none⟩ (.int .i64 ((rd_T71 l0 x114_2).f6))).setCell ⟨gb119, 7, none⟩ (.string ((rd_T71 l0 x114_2).f7))) w.heap.size (fun _ => True) v102 x3_1) := ⟨by (with_reducible repeat (first | apply Kd.R_alloc | apply Kd.R_drewN | apply Kd.R_drew)); exact Kd.R_mono (Kd.R_far (p := ⟨gb119, 7, none⟩) (Kd.R_far (p := ⟨gb119, 6, none⟩) (Kd.R_far (p := ⟨gb119, 5, none⟩) (Kd.R_far (p := ⟨gb119, 4, none⟩) (Kd.R_far (p := ⟨gb119, 3, none⟩) (Kd.R_far (p := ⟨gb119, 2, none⟩) (Kd.R_far (p := ⟨gb119, 1, none⟩) (Kd.R_far (p := ⟨gb119, 0, none⟩) (Kd.R_types HO_3.out BK119.out (by decide)) (fun _ hk => hk.2) (.int .i64 ((rd_T71 l0 x114_2).f0))) (fun _ hk => hk.2) (.int .i64 ((rd_T71 l0 x114_2).f1))) (fun _ hk => hk.2) (.int .i64 ((rd_T71 l0 x114_2).f2))) (fun _ hk => hk.2) (.int .i64 ((rd_T71 l0 x114_2).f3))) (fun _ hk => hk.2) (.int .i64 ((rd_T71 l0 x114_2).f4))) (fun _ hk => hk.2) (.int .i64 ((rd_T71 l0 x114_2).f5))) (fun _ hk => hk.2) (.int .i64 ((rd_T71 l0 x114_2).f6))) (fun _ hk => hk.2) (.string ((rd_T71 l0 x114_2).f7))) (fun _ hk => trivial)⟩
            have n1_ : Aside0 (((((((((w71.setCell ⟨gb119, 0, none⟩ (.int .i64 ((rd_T71 l0 x114_2).f0))).setCell ⟨gb119, 1, none⟩ (.int .i64 ((rd_T71 l0 x114_2).f1))).setCell ⟨gb119, 2, none⟩ (.int .i64 ((rd_T71 l0 x114_2).f2))).setCell ⟨gb119, 3, none⟩ (.int .i64 ((rd_T71 l0 x114_2).f3))).setCell ⟨gb119, 4, none⟩ (.int .i64 ((rd_T71 l0 x114_2).f4))).setCell ⟨gb119, 5, none⟩ (.int .i64 ((rd_T71 l0 x114_2).f5))).setCell ⟨gb119, 6, none⟩ (.int .i64 ((rd_T71 l0 x114_2).f6))).setCell ⟨gb119, 7, none⟩ (.string ((rd_T71 l0 x114_2).f7))).heap[gb119]? = some (.cells #[.int .i64 ((rd_T71 l0 x114_2).f0), .int .i64 ((rd_T71 l0 x114_2).f1), .int .i64 ((rd_T71 l0 x114_2).f2), .int .i64 ((rd_T71 l0 x114_2).f3), .int .i64 ((rd_T71 l0 x114_2).f4), .int .i64 ((rd_T71 l0 x114_2).f5), .int .i64 ((rd_T71 l0 x114_2).f6), .string ((rd_T71 l0 x114_2).f7)] 71 (0, 0))) := ⟨by (with_reducible repeat (first | refine blk_drewN ?_ _ | refine blk_drew ?_ | refine blk_alloc ?_ _)); refine blk_put (cs := #[.int .i64 ((rd_T71 l0 x114_2).f0), .int .i64 ((rd_T71 l0 x114_2).f1), .int .i64 ((rd_T71 l0 x114_2).f2), .int .i64 ((rd_T71 l0 x114_2).f3), .int .i64 ((rd_T71 l0 x114_2).f4), .int .i64 ((rd_T71 l0 x114_2).f5), .int .i64 ((rd_T71 l0 x114_2).f6), .string (⟨#[]⟩ : ByteArray)]) ?_ 7 _ rfl; (with_reducible repeat (first | refine blk_drewN ?_ _ | refine blk_drew ?_ | refine blk_alloc ?_ _)); refine blk_put (cs := #[.int .i64 ((rd_T71 l0 x114_2).f0), .int .i64 ((rd_T71 l0 x114_2).f1), .int .i64 ((rd_T71 l0 x114_2).f2), .int .i64 ((rd_T71 l0 x114_2).f3), .int .i64 ((rd_T71 l0 x114_2).f4), .int .i64 ((rd_T71 l0 x114_2).f5), .int .i64 0, .string (⟨#[]⟩ : ByteArray)]) ?_ 6 _ rfl; (with_reducible repeat (first | refine blk_drewN ?_ _ | refine blk_drew ?_ | refine blk_alloc ?_ _)); refine blk_put (cs := #[.int .i64 ((rd_T71 l0 x114_2).f0), .int .i64 ((rd_T71 l0 x114_2).f1), .int .i64 ((rd_T71 l0 x114_2).f2), .int .i64 ((rd_T71 l0 x114_2).f3), .int .i64 ((rd_T71 l0 x114_2).f4), .int .i64 0, .int .i64 0, .string (⟨#[]⟩ : ByteArray)]) ?_ 5 _ rfl; (with_reducible repeat (first | refine blk_drewN ?_ _ | refine blk_drew ?_ | refine blk_alloc ?_ _)); refine blk_put (cs := #[.int .i64 ((rd_T71 l0 x114_2).f0), .int .i64 ((rd_T71 l0 x114_2).f1), .int .i64 ((rd_T71 l0 x114_2).f2), .int .i64 ((rd_T71 l0 x114_2).f3), .int .i64 0, .int .i64 0, .int .i64 0, .string (⟨#[]⟩ : ByteArray)]) ?_ 4 _ rfl; (with_reducible repeat (first | refine blk_drewN ?_ _ | refine blk_drew ?_ | refine blk_alloc ?_ _)); refine blk_put (cs := #[.int .i64 ((rd_T71 l0 x114_2).f0), .int .i64 ((rd_T71 l0 x114_2).f1), .int .i64 ((rd_T71 l0 x114_2).f2), .int .i64 0, .int .i64 0, .int .i64 0, .int .i64 0, .string (⟨#[]⟩ : ByteArray)]) ?_ 3 _ rfl; (with_reducible repeat (first | refine blk_drewN ?_ _ | refine blk_drew ?_ | refine blk_alloc ?_ _)); refine blk_put (cs := #[.int .i64 ((rd_T71 l0 x114_2).f0), .int .i64 ((rd_T71 l0 x114_2).f1), .int .i64 0, .int .i64 0, .int .i64 0, .int .i64 0, .int .i64 0, .string (⟨#[]⟩ : ByteArray)]) ?_ 2 _ rfl; (with_reducible repeat (first | refine blk_drewN ?_ _ | refine blk_drew ?_ | refine blk_alloc ?_ _)); refine blk_put (cs := #[.int .i64 ((rd_T71 l0 x114_2).f0), .int .i64 0, .int .i64 0, .int .i64 0, .int .i64 0, .int .i64 0, .int .i64 0, .string (⟨#[]⟩ : ByteArray)]) ?_ 1 _ rfl; (with_reducible repeat (first | refine blk_drewN ?_ _ | refine blk_drew ?_ | refine blk_alloc ?_ _)); refine blk_put (cs := #[.int .i64 0, .int .i64 0, .int .i64 0, .int .i64 0, .int .i64 0, .int .i64 0, .int .i64 0, .string (⟨#[]⟩ : ByteArray)]) ?_ 0 _ rfl; (with_reducible repeat (first | refine blk_drewN ?_ _ | refine blk_drew ?_ | refine blk_alloc ?_ _)); exact BK119.out⟩
            have n2_ : Aside0 (Below w.heap.size w ((((((((w71.setCell ⟨gb119, 0, none⟩ (.int .i64 ((rd_T71 l0 x114_2).f0))).setCell ⟨gb119, 1, none⟩ (.int .i64 ((rd_T71 l0 x114_2).f1))).setCell ⟨gb119, 2, none⟩ (.int .i64 ((rd_T71 l0 x114_2).f2))).setCell ⟨gb119, 3, none⟩ (.int .i64 ((rd_T71 l0 x114_2).f3))).setCell ⟨gb119, 4, none⟩ (.int .i64 ((rd_T71 l0 x114_2).f4))).setCell ⟨gb119, 5, none⟩ (.int .i64 ((rd_T71 l0 x114_2).f5))).setCell ⟨gb119, 6, none⟩ (.int .i64 ((rd_T71 l0 x114_2).f6))).setCell ⟨gb119, 7, none⟩ (.string ((rd_T71 l0 x114_2).f7)))) := ⟨by repeat (first | (with_reducible first | exact HB.out | apply below_alloc | apply pw_below_drewN | apply below_drew1 | refine below_set ?_ GE119.out) | exact HB.out)⟩
            (try clear HO_3)
            (try clear BK119)
            (try clear HB)
            generalize ((((((((w71.setCell ⟨gb119, 0, none⟩ (.int .i64 ((rd_T71 l0 x114_2).f0))).setCell ⟨gb119, 1, none⟩ (.int .i64 ((rd_T71 l0 x114_2).f1))).setCell ⟨gb119, 2, none⟩ (.int .i64 ((rd_T71 l0 x114_2).f2))).setCell ⟨gb119, 3, none⟩ (.int .i64 ((rd_T71 l0 x114_2).f3))).setCell ⟨gb119, 4, none⟩ (.int .i64 ((rd_T71 l0 x114_2).f4))).setCell ⟨gb119, 5, none⟩ (.int .i64 ((rd_T71 l0 x114_2).f5))).setCell ⟨gb119, 6, none⟩ (.int .i64 ((rd_T71 l0 x114_2).f6))).setCell ⟨gb119, 7, none⟩ (.string ((rd_T71 l0 x114_2).f7))) = w73 at n0_ n1_ n2_ ⊢
            have HO_3 := n0_
            have BK119 := n1_
            have HB := n2_
            clear n0_ n1_ n2_
            have n0_ := Aside0.mk (Kd.R_drew HO_3.out)
            have n1_ := Aside0.mk (blk_drew BK119.out)
            have n2_ := Aside0.mk (below_drew1 HB.out)
            clear HO_3
            clear BK119
            clear HB
            have HO_3 := n0_
            have BK119 := n1_
            have HB := n2_
            clear n0_ n1_ n2_
            obtain ⟨Ao75, co75, eo75⟩ := Kd.R_slice HO_3.out
            (first | subst eo75 | (injection eo75 with f1_ f2_ f3_; have f4_ := f1_.symm; have f5_ := f3_.symm; clear f1_ f2_ f3_; subst f4_; subst f5_))
            have p120 : 0 ≤ (((rd_T71 l0 x114_2).f0) : Int) := of_decide_eq_true (by first | (with_reducible assumption) | assumption)
            have q120 : ((rd_T71 l0 x114_2).f0) < (x3_1.length : Int) := of_decide_eq_true (by first | (with_reducible assumption) | assumption)
            obtain ⟨ad120, e120, hx120_0⟩ := Kd.at_int (Kd.R_reads' HO_3.out).2.2 ((rd_T71 l0 x114_2).f0) p120 q120
            cases e120
            replace p120 := eq_true p120
            replace q120 := eq_true q120
            refine start_ (n := 8) (S := fun w' => w'.cell? ⟨gb119, 0, none⟩ = some (.int .i64 ((rd_T71 l0 x114_2).f0)) ∧ w'.cell? ⟨gb119, 1, none⟩ = some (.int .i64 ((rd_T71 l0 x114_2).f1)) ∧ w'.cell? ⟨gb119, 2, none⟩ = some (.int .i64 ((rd_T71 l0 x114_2).f2)) ∧ w'.cell? ⟨gb119, 3, none⟩ = some (.int .i64 ((rd_T71 l0 x114_2).f3)) ∧ w'.cell? ⟨gb119, 4, none⟩ = some (.int .i64 ((rd_T71 l0 x114_2).f4)) ∧ w'.cell? ⟨gb119, 5, none⟩ = some (.int .i64 ((rd_T71 l0 x114_2).f5)) ∧ w'.cell? ⟨gb119, 6, none⟩ = some (.int .i64 ((rd_T71 l0 x114_2).f6)) ∧ w'.cell? ⟨gb119, 7, none⟩ = some (.string ((rd_T71 l0 x114_2).f7)) ∧ w'.cell? (ad120.add (((rd_T71 l0 x114_2).f0)).toNat) = some (.int .i64 (rd x3_1 ((rd_T71 l0 x114_2).f0)))) (ds := []) #[false, false, false, false, false, false, false, false] (by kernel_rfl) rfl rfl ⟨(blk_cell BK119.out 0).trans rfl, (blk_cell BK119.out 1).trans rfl, (blk_cell BK119.out 2).trans rfl, (blk_cell BK119.out 3).trans rfl, (blk_cell BK119.out 4).trans rfl, (blk_cell BK119.out 5).trans rfl, (blk_cell BK119.out 6).trans rfl, (blk_cell BK119.out 7).trans rfl, hx120_0⟩ (fun hHeld => ?_); refine with_tabW impl_IsValidSamples.tab18 impl_IsValidSamples.bits18 (fun HT_ HW_ => ?_)
            generalize w73.drew = w74 at HO_3 BK119 HB hx120_0 hHeld ⊢
            refine pure_ (i := 0) (N := some 118) (v := ?_) (a' := ?_) #[true, false, false, false, false, false, false, false] rfl rfl (any_of HT_.out (by kernel_rfl)) (fun _ _ _ h => h) (Or.inl ⟨by rfl, ?_⟩) ?_ ?_
            rotate_left
            ·intro w'
             go_simp
             with_reducible rfl
            rotate_left
            ·simp only [Act.put, List.setIfInBounds_toArray, List.set_cons_zero, List.set_cons_succ, i64_w, i32_w]
             rfl
            refine pure_ (i := 1) (N := some 119) (v := ?_) (a' := ?_) #[true, true, false, false, false, false, false, false] rfl rfl (any_of HT_.out (by kernel_rfl)) (fun _ _ _ h => h) (Or.inl ⟨by rfl, ?_⟩) ?_ ?_
            rotate_left
            ·intro w'
             go_simp
             with_reducible rfl
            rotate_left
            ·simp only [Act.put, List.setIfInBounds_toArray, List.set_cons_zero, List.set_cons_succ, i64_w, i32_w]
             rfl
            refine pure_ (i := 5) (N := some 123) (v := ?_) (a' := ?_) #[true, true, false, false, false, true, false, false] rfl rfl (any_of HT_.out (by kernel_rfl)) (fun _ _ _ h => h) (Or.inl ⟨by rfl, ?_⟩) ?_ ?_
            rotate_left
            ·intro w'
             go_simp
             with_reducible rfl
            rotate_left
            ·simp only [Act.put, List.setIfInBounds_toArray, List.set_cons_zero, List.set_cons_succ, i64_w, i32_w]
             rfl
            refine take_ (i := 2) (N := some 120) (v := ?_) (a' := ?_) #[true, true, true, false, false, true, false, false] rfl rfl (take_ofW HT_.out HW_.out (by kernel_rfl)) (fun _ _ _ h => h) (Or.inl ⟨by rfl, ?_⟩) hHeld ?_ ?_
            rotate_left
            ·rintro w' ⟨s0, s1, s2, s3, s4, s5, s6, s7, s8⟩
             go_simp
             with_reducible rfl
            rotate_left
            ·simp only [Act.put, List.setIfInBounds_toArray, List.set_cons_zero, List.set_cons_succ, i64_w, i32_w]
             rfl
            refine pure_ (i := 3) (N := some 121) (v := ?_) (a' := ?_) #[true, true, true, true, false, true, false, false] rfl rfl (any_of HT_.out (by kernel_rfl)) (fun _ _ _ h => h) (Or.inl ⟨by rfl, ?_⟩) ?_ ?_
            rotate_left
            ·intro w'
             go_simp
             with_reducible rfl
            rotate_left
            ·simp only [Act.put, List.setIfInBounds_toArray, List.set_cons_zero, List.set_cons_succ, i64_w, i32_w]
             rfl
            refine take_ (i := 4) (N := some 122) (v := ?_) (a' := ?_) #[true, true, true, true, true, true, false, false] rfl rfl (take_ofW HT_.out HW_.out (by kernel_rfl)) (fun _ _ _ h => h) (Or.inl ⟨by rfl, ?_⟩) hHeld ?_ ?_
            rotate_left
            ·rintro w' ⟨s0, s1, s2, s3, s4, s5, s6, s7, s8⟩
             go_simp
             with_reducible rfl
            rotate_left
            ·simp only [Act.put, List.setIfInBounds_toArray, List.set_cons_zero, List.set_cons_succ, i64_w, i32_w]
             rfl
            refine take_ (i := 6) (N := some 124) (v := ?_) (a' := ?_) #[true, true, true, true, true, true, true, false] rfl rfl (take_ofW HT_.out HW_.out (by kernel_rfl)) (fun _ _ _ h => h) (Or.inl ⟨by rfl, ?_⟩) hHeld ?_ ?_
            rotate_left
            ·rintro w' ⟨s0, s1, s2, s3, s4, s5, s6, s7, s8⟩
             go_simp
             with_reducible rfl
            rotate_left
            ·simp only [Act.put, List.setIfInBounds_toArray, List.set_cons_zero, List.set_cons_succ, i64_w, i32_w]
             rfl
            refine pure_ (i := 7) (N := some 125) (v := ?_) (a' := ?_) #[true, true, true, true, true, true, true, true] rfl rfl (any_of HT_.out (by kernel_rfl)) (fun _ _ _ h => h) (Or.inl ⟨by rfl, ?_⟩) ?_ ?_
            rotate_left
            ·intro w'
             go_simp
             with_reducible rfl
            rotate_left
            ·simp only [Act.put, List.setIfInBounds_toArray, List.set_cons_zero, List.set_cons_succ, i64_w, i32_w]
             rfl
            refine done_ (done_of HT_.out (by kernel_rfl)) ?_
            try go_wp2
            go_ret
            exact ⟨by first | rfl | (simp [errW_none, errW_some] <;> rfl) | (simp only [← hji3]; first | rfl | (simp [errW_none, errW_some] <;> rfl)) | (simp [*, errW_none, errW_some] <;> rfl), by repeat (first | (with_reducible first | exact HB.out | apply below_alloc | apply pw_below_drewN | apply below_drew1 | refine below_set ?_ GE119.out) | exact HB.out)⟩
           rw [if_neg c64] at H
           exact absurd H (by simp)
          rw [if_neg c63] at H
          exact absurd H (by simp)
         rw [if_neg c62] at H
         exact absurd H (by simp)
        rw [if_neg c61] at H
        exact absurd H (by simp)
       rw [if_neg c60] at H
       have c60b0 : decide (x114_2 < (l0.length : Int)) = false := decide_eq_false c60
       clear c60
       obtain rfl := Option.some.inj H
       go_wp2
       go_ret
       exact ⟨by first | rfl | (simp [errW_none, errW_some] <;> rfl) | (simp only [← hji3]; first | rfl | (simp [errW_none, errW_some] <;> rfl)) | (simp [*, errW_none, errW_some] <;> rfl), by repeat (first | (with_reducible first | exact HB.out | apply below_alloc | apply pw_below_drewN | apply below_drew1) | exact HB.out)⟩
  rw [if_neg c5] at H
  exact absurd H (by simp)
 rw [if_neg c4] at H
 exact absurd H (by simp)
end
section
/-! ### impl_Sample: function 116 -/
def impl_Sample.f (l0 : List (S71)) : Option ((List (S71))) := (some (([] : List (S71)) : List (S71))).bind fun y101 => (if y101.length + l0.length < 1954687338268 then (some (y101 ++ l0)) else (none))
set_option maxHeartbeats 8000000 in
set_option maxRecDepth 100000 in
theorem impl_Sample.calls (A0 : Option Addr) (c0 : Nat) (l0 : List (S71)) (r : List (S71)) (w : World) (hr0 : Kd.C k71 w A0 l0.length l0) (hc0 : l0.length ≤ c0) (h : impl_Sample.f l0 = some r) :
  Calls Try.prog 116 #[.slice A0 l0.length c0] w fun e w' => ∃ v0_ : Value, e = .returned (v0_) ∧ Kd.R k71 71 w' w.heap.size (fun _ => True) v0_ r ∧ Below w.heap.size w w' := by
 have HR0 := Aside0.mk hr0
 have HC0 := Aside0.mk hc0
 clear hr0 hc0
 have HB := Aside0.mk (Below.refl w.heap.size w)
 cases A0 with
 | none =>
  obtain rfl : l0 = [] := by
   have h_ := HR0.out
   cases l0 with
   | nil => rfl
   | cons x_ xs_ => exact absurd (h_.2.2 (by simp)) (by rintro ⟨ad, he, _⟩; cases he)
  obtain rfl : r = [] := by
   simp [impl_Sample.f] at h
   first | exact h | exact h.symm
  clear HB h
  have heq_ := fun (w_ : World) => Lib.run_eql_slice_nil (P := Try.prog) w_ 47 71 none 0 c0 0 0 Try.underlying47
  go_enter Try.func116, Try.ntmps116
  go_wp2
  go_ret
  exact ⟨_, rfl, Kd.R_nil _ _ _ _ _, Below.refl _ _⟩
 | some ad0_ =>
  have heq_ := fun (w_ : World) => Lib.run_eql_slice_nil (P := Try.prog) w_ 47 71 (some ad0_) l0.length c0 0 0 Try.underlying47
  have H : ((some (([] : List (S71)) : List (S71))).bind fun y101 => (if y101.length + l0.length < 1954687338268 then (some (y101 ++ l0)) else (none))) = some r := h
  clear h
  obtain ⟨y101, hy101⟩ : ∃ y_ : List (S71), y_ = (([] : List (S71))) := ⟨_, rfl⟩
  replace H : (if y101.length + l0.length < 1954687338268 then (some (y101 ++ l0)) else (none)) = some r := by first | (rw [hy101]; with_reducible exact H) | (have H2_ := (Option.bind_some _ _).symm.trans H; rw [hy101]; with_reducible exact H2_) | (have H2_ := (Option.bind_some _ _).symm.trans H; with_reducible exact H2_) | with_reducible exact H | (rw [hy101]; exact H) | exact H
  have Ny101 := Aside0.mk hy101
  clear hy101
  by_cases c2 : y101.length + l0.length < 1954687338268
  ·rw [if_pos c2] at H
   have LMc2 := Aside0.mk c2
   clear c2
   obtain ⟨y104, hy104⟩ : ∃ y_ : List (S71), y_ = (y101 ++ l0) := ⟨_, rfl⟩
   replace H : (some y104) = some r := by first | (rw [hy104]; with_reducible exact H) | (have H2_ := (Option.bind_some _ _).symm.trans H; rw [hy104]; with_reducible exact H2_) | (have H2_ := (Option.bind_some _ _).symm.trans H; with_reducible exact H2_) | with_reducible exact H | (rw [hy104]; exact H) | exact H
   have Ny104 := Aside0.mk hy104
   clear hy104
   obtain rfl := Option.some.inj H
   go_enter Try.func116, Try.ntmps116
   go_wp2_with (first | ((with_reducible refine gate_dst (N := 5) rfl ?_); refine Kd.R_lit k71 _ 71 ?hg (N := 5) ?hd (xs := ([] : List (S71))) (inner := []) (ok := fun _ => True) (okp := fun _ => True) ?hr ?hp (fun _ hk => hk) trivial (Below.refl _ _) (Nat.le_refl _) (by simp) ?_; (case hd => rfl); (case hg => rfl); (case hr => first | (go_simp; done) | (go_simp; rfl)); (case hp => exact (Reps.none _ _)); intro v102 w3 ho4 hb hg_ hnew_; clear hg_ hnew_; (first | rw [← Ny101.out] at ho4 | (simp only [Int.reduceToNat] at ho4; rw [← Ny101.out] at ho4)); have n0_ := Aside0.mk (Kd.R_lower ho4 (below_size (pH_ HB.out))); have n1_ := Aside0.mk (below_step (pH_ HB.out) hb); clear HB; have HO103 := n0_; have HB := n1_; clear n0_ n1_; clear hb ho4) | ((with_reducible refine gate_builtin (b := .append) (xs := #[.tmp 5, .tmp 6]) rfl ?_); at_builtin; refine Kd.R_append_rows k71 (w0 := w) w.heap.size rfl (.tmp 5) (.tmp 6) 47 71 (.agg #[(.int .i64 0), (.int .i64 0), (.int .i64 0), (.int .i64 0), (.int .i64 0), (.int .i64 0), (.int .i64 0), (.string ⟨#[]⟩)]) 72 rfl Try.underlying47 info71 rfl (by decide) (by omega) v102 y101 l0 _ _ _ (fun _ => True) (fun _ => False) rfl rfl ?aO ?aR (fun _ _ h => h) (fun _ h => h.elim) ?aF ?aB ?aS ?aL ?_; (case aR => repeat (first | exact (Kd.C_below HR0.out HB.out) | (with_reducible refine Kd.C_alloc ?_ _) | (with_reducible refine Kd.C_drewN ?_ _) | (with_reducible refine Kd.C_drew ?_))); (case aB => exact (pH_ HB.out)); (case aF => exact (fun _ _ => trivial)); (case aO => exact (pR_ HO103.out)); (case aS => exact (below_size (pH_ HB.out))); (case aL => have := LMc2.out; omega); intro v105 w5 ho hb hg hat; rw [← Ny104.out] at ho; have n0_ := Aside0.mk (hb); have n1_ := Aside0.mk (ho); clear HB; clear HO103; have HB := n0_; have HO106 := n1_; clear n0_ n1_; clear ho hb hg hat))
   go_ret
   exact ⟨_, by first | rfl | (simp [errW_none, errW_some] <;> rfl) | (simp [*, errW_none, errW_some] <;> rfl), by (with_reducible repeat (first | apply Kd.R_alloc | apply Kd.R_drewN | apply Kd.R_drew)); exact HO106.out, by repeat (first | (with_reducible first | exact HB.out | apply below_alloc | apply pw_below_drewN | apply below_drew1) | exact HB.out)⟩
  rw [if_neg c2] at H
  exact absurd H (by simp)
end
end Go.Proofs.Ytlphkfkcfomlbaa.Q
