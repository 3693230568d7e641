-- Written by a program of this session's for this claim. Lean checks it.
import Derived.Test.YtlphkfkcfomlbaaZFnExactApplyStepQx0
import Derived.Test.YtlphkfkcfomlbaaZFnExactApplyStepB1
import Derived.Test.YtlphkfkcfomlbaaZFnExactApplyStepB2
namespace Go.Proofs.Ytlphkfkcfomlbaa.Q
open Go.RowKit Go.Proofs.YtlphkfkcfomlbaaW.PrintWords Go.Proofs.YtlphkfkcfomlbaaW.PrintLast Go.Proofs.YtlphkfkcfomlbaaW.PrintMore
attribute [local go_sem] max2_int min2_int max_two min_two max_three min_three max_four min_four   -- for this text's walks alone
set_option linter.unusedVariables false
set_option linter.unusedSimpArgs false
section
/-! ### impl_apply: function 101 -/
mutual
def impl_apply.j0 : Nat → List (S71) → Bool → Int → Int → Int → ByteArray → Option ((List (S71)) × Bool)
 | 0, _, _, _, _, _, _ => none
 | k + 1, x6, x20, x102000, x102001, x102002, x102003 => if x20 = true then (some (([] : List (S71)), false)) else (if x102000 = 2 then (if x102002 = 0 then ((impl_within.f x102002 0 500).bind fun t106 => (impl_apply.j1 k x6 (!t106) x102000 x102001 x102002 x102003)) else (impl_apply.j1 k x6 true x102000 x102001 x102002 x102003)) else (if x102002 = 0 then (impl_apply.j1 k x6 true x102000 x102001 x102002 x102003) else ((impl_within.f x102002 0 500).bind fun t107 => (impl_apply.j1 k x6 (!t107) x102000 x102001 x102002 x102003))))
def impl_apply.j1 : Nat → List (S71) → Bool → Int → Int → Int → ByteArray → Option ((List (S71)) × Bool)
 | 0, _, _, _, _, _, _ => none
 | k + 1, x6, x33, x102000, x102001, x102002, x102003 => if x33 = true then (some (([] : List (S71)), false)) else (if x102000 = 1 then (if x6.length < 1954687338268 then ((some (x6 ++ [(⟨wrap64 ((x6.length : Int) + 1), 0, x102001, x102002, x102002, 0, 0, x102003⟩ : S71)] : List (S71))).bind fun y108 => ((impl_IsValidSamples.f k y108).bind fun t111 => (if t111 = true then (some (y108, true)) else (some (([] : List (S71)), false))))) else (none)) else (if x102000 = 2 then (if 0 ≤ (wrap64 (x102001 - 1)) then (if (wrap64 (x102001 - 1)) < (x6.length : Int) then ((some (x6.set ((wrap64 (x102001 - 1)) : Int).toNat (⟨(rd_T71 x6 (wrap64 (x102001 - 1))).f0, (rd_T71 x6 (wrap64 (x102001 - 1))).f1, (rd_T71 x6 (wrap64 (x102001 - 1))).f2, (rd_T71 x6 (wrap64 (x102001 - 1))).f3, (rd_T71 x6 (wrap64 (x102001 - 1))).f4, (rd_T71 x6 (wrap64 (x102001 - 1))).f5, (rd_T71 x6 (wrap64 (x102001 - 1))).f6, x102003⟩ : S71) : List (S71))).bind fun y112 => ((impl_IsValidSamples.f k y112).bind fun t113 => (if t113 = true then (some (y112, true)) else (some (([] : List (S71)), false))))) else (none)) else (none)) else (if x102000 = 3 then (if 0 ≤ (wrap64 (x102001 - 1)) then (if (wrap64 (x102001 - 1)) < (x6.length : Int) then ((some (x6.set ((wrap64 (x102001 - 1)) : Int).toNat (⟨(rd_T71 x6 (wrap64 (x102001 - 1))).f0, (rd_T71 x6 (wrap64 (x102001 - 1))).f1, (rd_T71 x6 (wrap64 (x102001 - 1))).f2, (rd_T71 x6 (wrap64 (x102001 - 1))).f3, wrap64 (((rd_T71 x6 (wrap64 (x102001 - 1))).f4) - x102002), (rd_T71 x6 (wrap64 (x102001 - 1))).f5, (rd_T71 x6 (wrap64 (x102001 - 1))).f6, (rd_T71 x6 (wrap64 (x102001 - 1))).f7⟩ : S71) : List (S71))).bind fun y116 => ((some (y116.set ((wrap64 (x102001 - 1)) : Int).toNat (⟨(rd_T71 y116 (wrap64 (x102001 - 1))).f0, (rd_T71 y116 (wrap64 (x102001 - 1))).f1, (rd_T71 y116 (wrap64 (x102001 - 1))).f2, (rd_T71 y116 (wrap64 (x102001 - 1))).f3, (rd_T71 y116 (wrap64 (x102001 - 1))).f4, (rd_T71 y116 (wrap64 (x102001 - 1))).f5, wrap64 (((rd_T71 y116 (wrap64 (x102001 - 1))).f6) + x102002), (rd_T71 y116 (wrap64 (x102001 - 1))).f7⟩ : S71) : List (S71))).bind fun y118 => (if y118.length < 1954687338268 then ((some (y118 ++ [(⟨wrap64 ((x6.length : Int) + 1), x102001, (rd_T71 y118 (wrap64 (x102001 - 1))).f2, x102002, x102002, 0, 0, x102003⟩ : S71)] : List (S71))).bind fun y120 => ((impl_IsValidSamples.f k y120).bind fun t123 => (if t123 = true then (some (y120, true)) else (some (([] : List (S71)), false))))) else (none)))) else (none)) else (none)) else (if x102000 = 4 then (if x102003.toList = ([] : List UInt8) then (if 0 ≤ (wrap64 (x102001 - 1)) then (if (wrap64 (x102001 - 1)) < (x6.length : Int) then ((some (x6.set ((wrap64 (x102001 - 1)) : Int).toNat (⟨(rd_T71 x6 (wrap64 (x102001 - 1))).f0, (rd_T71 x6 (wrap64 (x102001 - 1))).f1, (rd_T71 x6 (wrap64 (x102001 - 1))).f2, (rd_T71 x6 (wrap64 (x102001 - 1))).f3, wrap64 (((rd_T71 x6 (wrap64 (x102001 - 1))).f4) - x102002), (rd_T71 x6 (wrap64 (x102001 - 1))).f5, (rd_T71 x6 (wrap64 (x102001 - 1))).f6, (rd_T71 x6 (wrap64 (x102001 - 1))).f7⟩ : S71) : List (S71))).bind fun y125 => ((some (y125.set ((wrap64 (x102001 - 1)) : Int).toNat (⟨(rd_T71 y125 (wrap64 (x102001 - 1))).f0, (rd_T71 y125 (wrap64 (x102001 - 1))).f1, (rd_T71 y125 (wrap64 (x102001 - 1))).f2, (rd_T71 y125 (wrap64 (x102001 - 1))).f3, (rd_T71 y125 (wrap64 (x102001 - 1))).f4, wrap64 (((rd_T71 y125 (wrap64 (x102001 - 1))).f5) + x102002), (rd_T71 y125 (wrap64 (x102001 - 1))).f6, (rd_T71 y125 (wrap64 (x102001 - 1))).f7⟩ : S71) : List (S71))).bind fun y127 => ((impl_IsValidSamples.f k y127).bind fun t128 => (if t128 = true then (some (y127, true)) else (some (([] : List (S71)), false)))))) else (none)) else (none)) else (some (([] : List (S71)), false))) else (some (([] : List (S71)), false))))))
end
def impl_apply.f (k : Nat) (l0 : List (S71)) (a1_0 : Int) (a1_1 : Int) (a1_2 : Int) (a1_3 : ByteArray) : Option ((List (S71)) × Bool) := (impl_Sample.f l0).bind fun t102 => (if a1_0 = 1 then (impl_apply.j0 k t102 false a1_0 a1_1 a1_2 a1_3) else ((impl_within.f a1_1 1 (l0.length : Int)).bind fun t105 => (impl_apply.j0 k t102 (!t105) a1_0 a1_1 a1_2 a1_3)))
theorem impl_apply.mono_l : ∀ k, (∀ y0 y1 y2 y3 y4 y5, LeO (impl_apply.j0 k y0 y1 y2 y3 y4 y5) (impl_apply.j0 (k + 1) y0 y1 y2 y3 y4 y5)) ∧ (∀ y0 y1 y2 y3 y4 y5, LeO (impl_apply.j1 k y0 y1 y2 y3 y4 y5) (impl_apply.j1 (k + 1) y0 y1 y2 y3 y4 y5))
 | 0 => ⟨fun _ _ _ _ _ _ r h => by simp [impl_apply.j0] at h, fun _ _ _ _ _ _ r h => by simp [impl_apply.j1] at h⟩
 | k + 1 => by
  obtain ⟨ih0, ih1⟩ := impl_apply.mono_l k
  refine ⟨?_, ?_⟩
  ·intro y0 y1 y2 y3 y4 y5
   unfold impl_apply.j0
   repeat' first
   | (with_reducible exact ih0 _ _ _ _ _ _)
   | (with_reducible exact ih1 _ _ _ _ _ _)
   | (with_reducible exact impl_IsValidSamples.mono _ _)
   | (with_reducible exact LeO.refl _)
   | (with_reducible exact LeO.none _)
   | (with_reducible refine LeO.ite ?_ ?_)
   | (with_reducible refine LeO.bind ?_ (fun _ => ?_))
   | exact ih0 _ _ _ _ _ _
   | exact ih1 _ _ _ _ _ _
   | exact impl_IsValidSamples.mono _ _
   | exact LeO.none _
   | refine LeO.ite ?_ ?_
   | refine LeO.bind ?_ (fun _ => ?_)
  intro y0 y1 y2 y3 y4 y5
  unfold impl_apply.j1
  repeat' first
  | (with_reducible exact ih0 _ _ _ _ _ _)
  | (with_reducible exact ih1 _ _ _ _ _ _)
  | (with_reducible exact impl_IsValidSamples.mono _ _)
  | (with_reducible exact LeO.refl _)
  | (with_reducible exact LeO.none _)
  | (with_reducible refine LeO.ite ?_ ?_)
  | (with_reducible refine LeO.bind ?_ (fun _ => ?_))
  | exact ih0 _ _ _ _ _ _
  | exact ih1 _ _ _ _ _ _
  | exact impl_IsValidSamples.mono _ _
  | exact LeO.none _
  | refine LeO.ite ?_ ?_
  | refine LeO.bind ?_ (fun _ => ?_)
theorem impl_apply.mono : ∀ a0 a1 a2 a3 a4 k, LeO (impl_apply.f k a0 a1 a2 a3 a4) (impl_apply.f (k + 1) a0 a1 a2 a3 a4) := by
 intro a0 a1 a2 a3 a4 k
 obtain ⟨ih0, ih1⟩ := impl_apply.mono_l k
 unfold impl_apply.f
 repeat' first
   | (with_reducible exact ih0 _ _ _ _ _ _)
   | (with_reducible exact ih1 _ _ _ _ _ _)
   | (with_reducible exact impl_IsValidSamples.mono _ _)
   | (with_reducible exact LeO.refl _)
   | (with_reducible exact LeO.none _)
   | (with_reducible refine LeO.ite ?_ ?_)
   | (with_reducible refine LeO.bind ?_ (fun _ => ?_))
   | exact ih0 _ _ _ _ _ _
   | exact ih1 _ _ _ _ _ _
   | exact impl_IsValidSamples.mono _ _
   | exact LeO.none _
   | refine LeO.ite ?_ ?_
   | refine LeO.bind ?_ (fun _ => ?_)
def impl_apply.T14 : Bool × List (List Nat × List Nat) := (true, [([], []), ([0], [0]), ([1], [1]), ([2], [2]), ([], []), ([4], [4]), ([3, 5], [3, 5]), ([0, 0, 1, 2, 3, 4, 5, 6], [0]), ([7, 0, 1, 2, 3, 4, 5, 6], [7]), ([8, 6, 0, 1, 2, 3, 4, 5, 6], [6, 8])])
def impl_apply.B14 : List Nat := [0, 1, 3, 7, 0, 16, 63, 127, 255, 511]
theorem impl_apply.tab14 : rtab .any (opsOf Try.f101 14) = impl_apply.T14 := by kernel_rfl
theorem impl_apply.bits14 : waitsOk impl_apply.T14.2 impl_apply.B14 = true := by kernel_rfl
def impl_apply.T15 : Bool × List (List Nat × List Nat) := (true, [([], []), ([0], [0]), ([1], [1]), ([2], [2]), ([], []), ([4], [4]), ([3, 5], [3, 5]), ([0, 0, 1, 2, 3, 4, 5, 6], [0]), ([7, 0, 1, 2, 3, 4, 5, 6], [7]), ([8, 6, 0, 1, 2, 3, 4, 5, 6], [6, 8])])
def impl_apply.B15 : List Nat := [0, 1, 3, 7, 0, 16, 63, 127, 255, 511]
theorem impl_apply.tab15 : rtab .any (opsOf Try.f101 15) = impl_apply.T15 := by kernel_rfl
theorem impl_apply.bits15 : waitsOk impl_apply.T15.2 impl_apply.B15 = true := by kernel_rfl
def impl_apply.T16 : Bool × List (List Nat × List Nat) := (true, [([], []), ([], []), ([1], [1]), ([2], [2]), ([], []), ([4], [4]), ([], []), ([6], [6]), ([7], [7]), ([8], [8]), ([], []), ([10], [10]), ([], []), ([12], [12]), ([], []), ([14], [14]), ([3, 5, 9, 11, 13, 15], [3, 5, 9, 11, 13, 15]), ([16], [16]), ([0, 17], [0, 17]), ([18, 18, 0, 1, 2, 3, 4, 5, 6, 7, 8, 9, 10, 11, 12, 13, 14, 15, 16, 17, 18], [0, 1, 18])])
def impl_apply.B16 : List Nat := [0, 0, 2, 6, 0, 16, 0, 64, 192, 448, 0, 1024, 0, 4096, 0, 16384, 65534, 131070, 262143, 524287]
theorem impl_apply.tab16 : rtab .any (opsOf Try.f101 16) = impl_apply.T16 := by kernel_rfl
theorem impl_apply.bits16 : waitsOk impl_apply.T16.2 impl_apply.B16 = true := by kernel_rfl
def impl_apply.T20 : Bool × List (List Nat × List Nat) := (true, [([], []), ([], []), ([1], [1]), ([2], [2]), ([0, 3], [0, 3]), ([4], [4]), ([5], [5]), ([], []), ([7], [7]), ([6, 8], [6, 8]), ([0, 3, 0, 1, 2, 3, 4, 5, 6, 7, 8, 9], [0, 3]), ([10, 0, 1, 2, 3, 4, 5, 6, 7, 8, 9], [10]), ([11, 9, 0, 1, 2, 3, 4, 5, 6, 7, 8, 9], [9, 11])])
def impl_apply.B20 : List Nat := [0, 0, 2, 6, 15, 31, 63, 0, 128, 511, 1023, 2047, 4095]
theorem impl_apply.tab20 : rtab .any (opsOf Try.f101 20) = impl_apply.T20 := by kernel_rfl
theorem impl_apply.bits20 : waitsOk impl_apply.T20.2 impl_apply.B20 = true := by kernel_rfl
def impl_apply.T21 : Bool × List (List Nat × List Nat) := (true, [([], []), ([], []), ([1], [1]), ([2], [2]), ([0, 3], [0, 3]), ([4], [4]), ([5], [5]), ([], []), ([7], [7]), ([6, 8], [6, 8]), ([0, 3, 0, 1, 2, 3, 4, 5, 6, 7, 8, 9], [0, 3]), ([10, 0, 1, 2, 3, 4, 5, 6, 7, 8, 9], [10]), ([11, 9, 0, 1, 2, 3, 4, 5, 6, 7, 8, 9], [9, 11])])
def impl_apply.B21 : List Nat := [0, 0, 2, 6, 15, 31, 63, 0, 128, 511, 1023, 2047, 4095]
theorem impl_apply.tab21 : rtab .any (opsOf Try.f101 21) = impl_apply.T21 := by kernel_rfl
theorem impl_apply.bits21 : waitsOk impl_apply.T21.2 impl_apply.B21 = true := by kernel_rfl
set_option maxHeartbeats 8000000 in
set_option maxRecDepth 100000 in
theorem impl_apply.calls (k : Nat) (A0 : Option Addr) (c0 : Nat) (l0 : List (S71)) (a1_0 : Int) (a1_1 : Int) (a1_2 : Int) (a1_3 : ByteArray) (r1 : List (S71)) (r2 : Bool) (w : World) (hr0 : Kd.C k71 w A0 l0.length l0) (hc0 : l0.length ≤ c0) (h : impl_apply.f k l0 a1_0 a1_1 a1_2 a1_3 = some (r1, r2)) :
  Calls Try.prog 101 #[.slice A0 l0.length c0, .agg #[.int .i64 a1_0, .int .i64 a1_1, .int .i64 a1_2, .string a1_3]] w fun e w' => ∃ v0_ : Value, e = .returned (.tuple #[v0_, .bool r2]) ∧ Kd.R k71 71 w' w.heap.size (fun _ => True) v0_ r1 ∧ Below w.heap.size w w' := by
 have hu61 := Try.underlying61
 have hu71 := Try.underlying71
 have HR0 := Aside0.mk hr0
 have HC0 := Aside0.mk hc0
 clear hr0 hc0
 have HB := Aside0.mk (Below.refl w.heap.size w)
 have H : ((impl_Sample.f l0).bind fun t102 => (if a1_0 = 1 then (impl_apply.j0 k t102 false a1_0 a1_1 a1_2 a1_3) else ((impl_within.f a1_1 1 (l0.length : Int)).bind fun t105 => (impl_apply.j0 k t102 (!t105) a1_0 a1_1 a1_2 a1_3)))) = some (r1, r2) := h
 clear h
 replace H := Option.bind_eq_some_iff.mp H
 obtain ⟨t102, A30, H⟩ := H
 replace H : (if a1_0 = 1 then (impl_apply.j0 k t102 false a1_0 a1_1 a1_2 a1_3) else ((impl_within.f a1_1 1 (l0.length : Int)).bind fun t105 => (impl_apply.j0 k t102 (!t105) a1_0 a1_1 a1_2 a1_3))) = some (r1, r2) := H
 have A3 := Aside0.mk A30
 clear A30
 have HC4 := Aside0.mk H
 clear H
 go_enter Try.func101, Try.ntmps101
 go_upto_region 2 with (first | ((with_reducible refine gate_dst (N := 3) rfl ?_); (try (refine gate_guard (by rfl) ?_; dsimp only)); refine box_event ?hg (N := 3) ?hd (cs := #[.int .i64 a1_0, .int .i64 a1_1, .int .i64 a1_2, .string a1_3]) (t := 61) ?hr ?_; (case hd => rfl); (case hg => rfl); (case hr => first | (go_simp; done) | (go_simp; rfl)); intro gb101 hg w5 hbox hb; have n0_ := Aside0.mk (below_step (pH_ HB.out) hb); have n1_ := Aside0.mk (hbox); have n2_ := Aside0.mk ((by rw [hg]; exact (below_size (pH_ HB.out)) : w.heap.size ≤ gb101)); have n3_ := Aside0.mk ((by rw [hg]; exact (below_size (pH_ HB.out)) : w.heap.size ≤ gb101)); clear HB; have HB := n0_; have BK101 := n1_; have GW101 := n2_; have GE101 := n3_; clear n0_ n1_ n2_ n3_; clear hb hbox hg) | ((with_reducible refine gate_callee (f := 116) rfl ?_); refine goesL_ (some 9) rfl rfl Try.func116 (by kernel_rfl) rfl #[.slice A0 l0.length c0] rfl (by (try simp only [List.map_toArray, List.map_cons, List.map_nil]); first | done | rfl | (simp only [List.length_drop, List.length_take]; rfl)) ?_; (with_reducible refine (impl_Sample.calls _ _ l0 t102 _ ?side1 ?side2 A3.out).mono ?_); (case side1 => repeat (first | exact (Kd.C_below HR0.out HB.out) | (with_reducible refine Kd.C_alloc ?_ _) | (with_reducible refine Kd.C_drewN ?_ _) | (with_reducible refine Kd.C_drew ?_))); (case side2 => exact HC0.out); rintro e w6 ⟨v103, rfl, ho0, hb⟩; refine ⟨_, rfl, ?_⟩; have n0_ := Aside0.mk (Kd.R_lower ho0 (below_size (pH_ HB.out))); have n1_ := Aside0.mk (blk_below (g := gb101) (o := .cells #[.int .i64 a1_0, .int .i64 a1_1, .int .i64 a1_2, .string a1_3] 61 (0, 0)) (pB_ BK101.out) hb); have n2_ := Aside0.mk (below_step (pH_ HB.out) hb); clear BK101; clear HB; have HO104 := n0_; have BK101 := n1_; have HB := n2_; clear n0_ n1_ n2_; (try clear hb); (try clear hb2); (try clear hk); (try clear hi); (try clear ho0)))
 (try simp only [Act.put, List.setIfInBounds_toArray, List.set_cons_zero, List.set_cons_succ])
 go_cut [20] (fun v20 wc => ∃ (kq : Nat) (x20_3 : Bool), v20 = .bool x20_3 ∧ Aside0 (impl_apply.j0 kq t102 x20_3 a1_0 a1_1 a1_2 a1_3 = some (r1, r2)) ∧ Aside0 (kq ≤ k) ∧ Aside0 (Kd.R k71 71 wc w.heap.size (fun _ => True) v103 t102) ∧ Aside0 (wc.heap[gb101]? = some (.cells #[.int .i64 a1_0, .int .i64 a1_1, .int .i64 a1_2, .string a1_3] 61 (0, 0))) ∧ Aside0 (Below w.heap.size w wc))
 case first =>
  have H := HC4.out
  clear HC4
  by_cases c7 : a1_0 = 1
  ·rw [if_pos c7] at H
   have c7b0 : (a1_0 == 1) = true := beq_iff_eq.mpr c7
   have c7b1 : (a1_0 != 1) = false := bne_eq_false_iff_eq.mpr c7
   clear c7
   (first | rw [c7b0] | (simp only [i64_w, i32_w]; rw [c7b0]) | skip)
   have H' := Aside0.mk H
   clear H
   have hcz8_0 := cz_ BK101.out 0 _ rfl
   have hcz8_1 := cz_ BK101.out 1 _ rfl
   have hcz8_2 := cz_ BK101.out 2 _ rfl
   have hcz8_3 := cz_ BK101.out 3 _ rfl
   have hfz8_0 := blk_frozen BK101.out 0
   have hfz8_1 := blk_frozen BK101.out 1
   have hfz8_2 := blk_frozen BK101.out 2
   have hfz8_3 := blk_frozen BK101.out 3
   go_wp2
   go_meet
   case rel => exact ⟨_, (false), (by first | rfl | (simp; done) | (simp [*]; done) | (simp [beq_nil_, bne_nil_]; done)), H', ⟨by first | omega | exact Nat.le_refl _⟩, ⟨by (with_reducible repeat (first | apply Kd.R_alloc | apply Kd.R_drewN | apply Kd.R_drew)); exact HO104.out⟩, ⟨by (with_reducible repeat (first | refine blk_drewN ?_ _ | refine blk_drew ?_ | refine blk_alloc ?_ _)); exact BK101.out⟩, ⟨by repeat (first | (with_reducible first | exact HB.out | apply below_alloc | apply pw_below_drewN | apply below_drew1 | refine below_set ?_ GE101.out) | exact HB.out)⟩⟩
  rw [if_neg c7] at H
  have c7b0 : (a1_0 == 1) = false := beq_eq_false_iff_ne.mpr c7
  have c7b1 : (a1_0 != 1) = true := bne_iff_ne.mpr c7
  (first | rw [c7b0] | (simp only [i64_w, i32_w]; rw [c7b0]) | skip)
  replace H := Option.bind_eq_some_iff.mp H
  obtain ⟨t105, A90, H⟩ := H
  replace H : (impl_apply.j0 k t102 (!t105) a1_0 a1_1 a1_2 a1_3) = some (r1, r2) := H
  have A9 := Aside0.mk A90
  clear A90
  have H' := Aside0.mk H
  clear H
  have hcz10_0 := cz_ BK101.out 0 _ rfl
  have hcz10_1 := cz_ BK101.out 1 _ rfl
  have hcz10_2 := cz_ BK101.out 2 _ rfl
  have hcz10_3 := cz_ BK101.out 3 _ rfl
  have hfz10_0 := blk_frozen BK101.out 0
  have hfz10_1 := blk_frozen BK101.out 1
  have hfz10_2 := blk_frozen BK101.out 2
  have hfz10_3 := blk_frozen BK101.out 3
  go_wp2_with (first | (go_at_call 67; (with_reducible refine (impl_within.calls a1_1 1 (l0.length : Int) t105 _ A9.out).mono ?_); rintro e w' ⟨rfl, ⟨nd, rfl⟩⟩))
  go_meet
  case rel => exact ⟨_, (!t105), (by first | rfl | (simp; done) | (simp [*]; done) | (simp [beq_nil_, bne_nil_]; done)), H', ⟨by first | omega | exact Nat.le_refl _⟩, ⟨by (with_reducible repeat (first | apply Kd.R_alloc | apply Kd.R_drewN | apply Kd.R_drew)); exact HO104.out⟩, ⟨by (with_reducible repeat (first | refine blk_drewN ?_ _ | refine blk_drew ?_ | refine blk_alloc ?_ _)); exact BK101.out⟩, ⟨by repeat (first | (with_reducible first | exact HB.out | apply below_alloc | apply pw_below_drewN | apply below_drew1 | refine below_set ?_ GE101.out) | exact HB.out)⟩⟩
 case rest =>
  clear HC4
  try clear c1
  try clear p2
  try clear c7
  try clear c7b0
  try clear c7b1
  try clear c10
  try clear hcz10_0
  try clear hcz10_1
  try clear hcz10_2
  try clear hcz10_3
  try clear hcz8_0
  try clear hcz8_1
  try clear hcz8_2
  try clear hcz8_3
  try clear hfz10_0
  try clear hfz10_1
  try clear hfz10_2
  try clear hfz10_3
  try clear hfz8_0
  try clear hfz8_1
  try clear hfz8_2
  try clear hfz8_3
  obtain ⟨kq, x20_3, rfl, HA, HJ3, HO_6, BK101, HB⟩ := hcut
  cases kq with
  | zero => exact absurd HA.out (by simp [impl_apply.j0])
  | succ kj3 =>
   have H := HA.out
   clear HA
   simp only [impl_apply.j0] at H
   by_cases c11 : x20_3 = true
   ·subst c11
    have H1 : (some (([] : List (S71)), false)) = some (r1, r2) := by rw [if_pos rfl] at H; exact H
    clear H
    have H := H1
    clear H1
    simp only [Option.some.injEq, Prod.mk.injEq] at H
    obtain ⟨rfl, rfl⟩ := H
    go_wp2
    go_ret2
    exact ⟨_, by first | rfl | (simp [errW_none, errW_some] <;> rfl) | (simp [*, errW_none, errW_some] <;> rfl), by first | exact Kd.R_nil _ _ _ _ _ | exact Kd.N_nil _ _ _ _ _ | exact Kd.V_nil _ _ _ _ _ | exact Kd.Q_nil _ _ _ _ _ | exact Kd.S_nil _ _ _ _ _, by repeat (first | (with_reducible first | exact HB.out | apply below_alloc | apply pw_below_drewN | apply below_drew1 | refine below_set ?_ GE101.out) | exact HB.out)⟩
   replace c11 := Bool.eq_false_iff.mpr c11
   subst c11
   have H1 : (if a1_0 = 2 then (if a1_2 = 0 then ((impl_within.f a1_2 0 500).bind fun t106 => (impl_apply.j1 kj3 t102 (!t106) a1_0 a1_1 a1_2 a1_3)) else (impl_apply.j1 kj3 t102 true a1_0 a1_1 a1_2 a1_3)) else (if a1_2 = 0 then (impl_apply.j1 kj3 t102 true a1_0 a1_1 a1_2 a1_3) else ((impl_within.f a1_2 0 500).bind fun t107 => (impl_apply.j1 kj3 t102 (!t107) a1_0 a1_1 a1_2 a1_3)))) = some (r1, r2) := by rw [if_neg (show ¬ (false = true) by decide)] at H; exact H
   clear H
   have H := H1
   clear H1
   have HC12 := Aside0.mk H
   clear H
   go_upto_region 4 with (fail)
   go_cut [33] (fun v33 wc => ∃ (kq : Nat) (x33_11 : Bool), v33 = .bool x33_11 ∧ Aside0 (impl_apply.j1 kq t102 x33_11 a1_0 a1_1 a1_2 a1_3 = some (r1, r2)) ∧ Aside0 (kq ≤ kj3) ∧ Aside0 (Kd.R k71 71 wc w.heap.size (fun _ => True) v103 t102) ∧ Aside0 (wc.heap[gb101]? = some (.cells #[.int .i64 a1_0, .int .i64 a1_1, .int .i64 a1_2, .string a1_3] 61 (0, 0))) ∧ Aside0 (Below w.heap.size w wc))
   case first =>
    have H := HC12.out
    clear HC12
    by_cases c13 : a1_0 = 2
    ·rw [if_pos c13] at H
     have c13b0 : (a1_0 == 2) = true := beq_iff_eq.mpr c13
     have c13b1 : (a1_0 != 2) = false := bne_eq_false_iff_eq.mpr c13
     clear c13
     (first | rw [c13b0] | (simp only [i64_w, i32_w]; rw [c13b0]) | skip)
     by_cases c14 : a1_2 = 0
     ·rw [if_pos c14] at H
      have c14b0 : (a1_2 == 0) = true := beq_iff_eq.mpr c14
      have c14b1 : (a1_2 != 0) = false := bne_eq_false_iff_eq.mpr c14
      clear c14
      replace H := Option.bind_eq_some_iff.mp H
      obtain ⟨t106, A150, H⟩ := H
      replace H : (impl_apply.j1 kj3 t102 (!t106) a1_0 a1_1 a1_2 a1_3) = some (r1, r2) := H
      have A15 := Aside0.mk A150
      clear A150
      have H' := Aside0.mk H
      clear H
      have hcz16_0 := cz_ BK101.out 0 _ rfl
      have hcz16_1 := cz_ BK101.out 1 _ rfl
      have hcz16_2 := cz_ BK101.out 2 _ rfl
      have hcz16_3 := cz_ BK101.out 3 _ rfl
      have hfz16_0 := blk_frozen BK101.out 0
      have hfz16_1 := blk_frozen BK101.out 1
      have hfz16_2 := blk_frozen BK101.out 2
      have hfz16_3 := blk_frozen BK101.out 3
      go_wp2_with (first | (go_at_call 67; (with_reducible refine (impl_within.calls a1_2 0 500 t106 _ A15.out).mono ?_); rintro e w' ⟨rfl, ⟨nd, rfl⟩⟩))
      go_meet
      case rel => exact ⟨_, (!t106), (by first | rfl | (simp; done) | (simp [*]; done) | (simp [beq_nil_, bne_nil_]; done)), H', ⟨by have := HJ3.out; first | omega | exact Nat.le_refl _⟩, ⟨by (with_reducible repeat (first | apply Kd.R_alloc | apply Kd.R_drewN | apply Kd.R_drew)); exact HO_6.out⟩, ⟨by (with_reducible repeat (first | refine blk_drewN ?_ _ | refine blk_drew ?_ | refine blk_alloc ?_ _)); exact BK101.out⟩, ⟨by repeat (first | (with_reducible first | exact HB.out | apply below_alloc | apply pw_below_drewN | apply below_drew1 | refine below_set ?_ GE101.out) | exact HB.out)⟩⟩
     rw [if_neg c14] at H
     have c14b0 : (a1_2 == 0) = false := beq_eq_false_iff_ne.mpr c14
     have c14b1 : (a1_2 != 0) = true := bne_iff_ne.mpr c14
     have H' := Aside0.mk H
     clear H
     have hcz17_0 := cz_ BK101.out 0 _ rfl
     have hcz17_1 := cz_ BK101.out 1 _ rfl
     have hcz17_2 := cz_ BK101.out 2 _ rfl
     have hcz17_3 := cz_ BK101.out 3 _ rfl
     have hfz17_0 := blk_frozen BK101.out 0
     have hfz17_1 := blk_frozen BK101.out 1
     have hfz17_2 := blk_frozen BK101.out 2
     have hfz17_3 := blk_frozen BK101.out 3
     go_wp2
     go_meet
     case rel => exact ⟨_, (true), (by first | rfl | (simp; done) | (simp [*]; done) | (simp [beq_nil_, bne_nil_]; done)), H', ⟨by have := HJ3.out; first | omega | exact Nat.le_refl _⟩, ⟨by (with_reducible repeat (first | apply Kd.R_alloc | apply Kd.R_drewN | apply Kd.R_drew)); exact HO_6.out⟩, ⟨by (with_reducible repeat (first | refine blk_drewN ?_ _ | refine blk_drew ?_ | refine blk_alloc ?_ _)); exact BK101.out⟩, ⟨by repeat (first | (with_reducible first | exact HB.out | apply below_alloc | apply pw_below_drewN | apply below_drew1 | refine below_set ?_ GE101.out) | exact HB.out)⟩⟩
    rw [if_neg c13] at H
    have c13b0 : (a1_0 == 2) = false := beq_eq_false_iff_ne.mpr c13
    have c13b1 : (a1_0 != 2) = true := bne_iff_ne.mpr c13
    (first | rw [c13b0] | (simp only [i64_w, i32_w]; rw [c13b0]) | skip)
    by_cases c18 : a1_2 = 0
    ·rw [if_pos c18] at H
     have c18b0 : (a1_2 == 0) = true := beq_iff_eq.mpr c18
     have c18b1 : (a1_2 != 0) = false := bne_eq_false_iff_eq.mpr c18
     clear c18
     have H' := Aside0.mk H
     clear H
     have hcz19_0 := cz_ BK101.out 0 _ rfl
     have hcz19_1 := cz_ BK101.out 1 _ rfl
     have hcz19_2 := cz_ BK101.out 2 _ rfl
     have hcz19_3 := cz_ BK101.out 3 _ rfl
     have hfz19_0 := blk_frozen BK101.out 0
     have hfz19_1 := blk_frozen BK101.out 1
     have hfz19_2 := blk_frozen BK101.out 2
     have hfz19_3 := blk_frozen BK101.out 3
     go_wp2
     go_meet
     case rel => exact ⟨_, (true), (by first | rfl | (simp; done) | (simp [*]; done) | (simp [beq_nil_, bne_nil_]; done)), H', ⟨by have := HJ3.out; first | omega | exact Nat.le_refl _⟩, ⟨by (with_reducible repeat (first | apply Kd.R_alloc | apply Kd.R_drewN | apply Kd.R_drew)); exact HO_6.out⟩, ⟨by (with_reducible repeat (first | refine blk_drewN ?_ _ | refine blk_drew ?_ | refine blk_alloc ?_ _)); exact BK101.out⟩, ⟨by repeat (first | (with_reducible first | exact HB.out | apply below_alloc | apply pw_below_drewN | apply below_drew1 | refine below_set ?_ GE101.out) | exact HB.out)⟩⟩
    rw [if_neg c18] at H
    have c18b0 : (a1_2 == 0) = false := beq_eq_false_iff_ne.mpr c18
    have c18b1 : (a1_2 != 0) = true := bne_iff_ne.mpr c18
    replace H := Option.bind_eq_some_iff.mp H
    obtain ⟨t107, A200, H⟩ := H
    replace H : (impl_apply.j1 kj3 t102 (!t107) a1_0 a1_1 a1_2 a1_3) = some (r1, r2) := H
    have A20 := Aside0.mk A200
    clear A200
    have H' := Aside0.mk H
    clear H
    have hcz21_0 := cz_ BK101.out 0 _ rfl
    have hcz21_1 := cz_ BK101.out 1 _ rfl
    have hcz21_2 := cz_ BK101.out 2 _ rfl
    have hcz21_3 := cz_ BK101.out 3 _ rfl
    have hfz21_0 := blk_frozen BK101.out 0
    have hfz21_1 := blk_frozen BK101.out 1
    have hfz21_2 := blk_frozen BK101.out 2
    have hfz21_3 := blk_frozen BK101.out 3
    go_wp2_with (first | (go_at_call 67; (with_reducible refine (impl_within.calls a1_2 0 500 t107 _ A20.out).mono ?_); rintro e w' ⟨rfl, ⟨nd, rfl⟩⟩))
    go_meet
    case rel => exact ⟨_, (!t107), (by first | rfl | (simp; done) | (simp [*]; done) | (simp [beq_nil_, bne_nil_]; done)), H', ⟨by have := HJ3.out; first | omega | exact Nat.le_refl _⟩, ⟨by (with_reducible repeat (first | apply Kd.R_alloc | apply Kd.R_drewN | apply Kd.R_drew)); exact HO_6.out⟩, ⟨by (with_reducible repeat (first | refine blk_drewN ?_ _ | refine blk_drew ?_ | refine blk_alloc ?_ _)); exact BK101.out⟩, ⟨by repeat (first | (with_reducible first | exact HB.out | apply below_alloc | apply pw_below_drewN | apply below_drew1 | refine below_set ?_ GE101.out) | exact HB.out)⟩⟩
   case rest =>
    clear HC12
    try clear c1
    try clear p2
    try clear c7
    try clear c7b0
    try clear c7b1
    try clear c10
    try clear c11
    try clear c13
    try clear c13b0
    try clear c13b1
    try clear c14
    try clear c14b0
    try clear c14b1
    try clear c18
    try clear c18b0
    try clear c18b1
    try clear hcz10_0
    try clear hcz10_1
    try clear hcz10_2
    try clear hcz10_3
    try clear hcz16_0
    try clear hcz16_1
    try clear hcz16_2
    try clear hcz16_3
    try clear hcz17_0
    try clear hcz17_1
    try clear hcz17_2
    try clear hcz17_3
    try clear hcz19_0
    try clear hcz19_1
    try clear hcz19_2
    try clear hcz19_3
    try clear hcz21_0
    try clear hcz21_1
    try clear hcz21_2
    try clear hcz21_3
    try clear hcz8_0
    try clear hcz8_1
    try clear hcz8_2
    try clear hcz8_3
    try clear hfz10_0
    try clear hfz10_1
    try clear hfz10_2
    try clear hfz10_3
    try clear hfz16_0
    try clear hfz16_1
    try clear hfz16_2
    try clear hfz16_3
    try clear hfz17_0
    try clear hfz17_1
    try clear hfz17_2
    try clear hfz17_3
    try clear hfz19_0
    try clear hfz19_1
    try clear hfz19_2
    try clear hfz19_3
    try clear hfz21_0
    try clear hfz21_1
    try clear hfz21_2
    try clear hfz21_3
    try clear hfz8_0
    try clear hfz8_1
    try clear hfz8_2
    try clear hfz8_3
    try clear p2
    obtain ⟨kq, x33_11, rfl, HA, HJ11, HO_6, BK101, HB⟩ := hcut
    cases kq with
    | zero => exact absurd HA.out (by simp [impl_apply.j1])
    | succ kj11 =>
     have H := HA.out
     clear HA
     simp only [impl_apply.j1] at H
     by_cases c22 : x33_11 = true
     ·subst c22
      have H1 : (some (([] : List (S71)), false)) = some (r1, r2) := by rw [if_pos rfl] at H; exact H
      clear H
      have H := H1
      clear H1
      simp only [Option.some.injEq, Prod.mk.injEq] at H
      obtain ⟨rfl, rfl⟩ := H
      go_wp2
      go_ret2
      exact ⟨_, by first | rfl | (simp [errW_none, errW_some] <;> rfl) | (simp [*, errW_none, errW_some] <;> rfl), by first | exact Kd.R_nil _ _ _ _ _ | exact Kd.N_nil _ _ _ _ _ | exact Kd.V_nil _ _ _ _ _ | exact Kd.Q_nil _ _ _ _ _ | exact Kd.S_nil _ _ _ _ _, by repeat (first | (with_reducible first | exact HB.out | apply below_alloc | apply pw_below_drewN | apply below_drew1 | refine below_set ?_ GE101.out) | exact HB.out)⟩
     replace c22 := Bool.eq_false_iff.mpr c22
     subst c22
     have H1 : (if a1_0 = 1 then (if t102.length < 1954687338268 then ((some (t102 ++ [(⟨wrap64 ((t102.length : Int) + 1), 0, a1_1, a1_2, a1_2, 0, 0, a1_3⟩ : S71)] : List (S71))).bind fun y108 => ((impl_IsValidSamples.f kj11 y108).bind fun t111 => (if t111 = true then (some (y108, true)) else (some (([] : List (S71)), false))))) else (none)) else (if a1_0 = 2 then (if 0 ≤ (wrap64 (a1_1 - 1)) then (if (wrap64 (a1_1 - 1)) < (t102.length : Int) then ((some (t102.set ((wrap64 (a1_1 - 1)) : Int).toNat (⟨(rd_T71 t102 (wrap64 (a1_1 - 1))).f0, (rd_T71 t102 (wrap64 (a1_1 - 1))).f1, (rd_T71 t102 (wrap64 (a1_1 - 1))).f2, (rd_T71 t102 (wrap64 (a1_1 - 1))).f3, (rd_T71 t102 (wrap64 (a1_1 - 1))).f4, (rd_T71 t102 (wrap64 (a1_1 - 1))).f5, (rd_T71 t102 (wrap64 (a1_1 - 1))).f6, a1_3⟩ : S71) : List (S71))).bind fun y112 => ((impl_IsValidSamples.f kj11 y112).bind fun t113 => (if t113 = true then (some (y112, true)) else (some (([] : List (S71)), false))))) else (none)) else (none)) else (if a1_0 = 3 then (if 0 ≤ (wrap64 (a1_1 - 1)) then (if (wrap64 (a1_1 - 1)) < (t102.length : Int) then ((some (t102.set ((wrap64 (a1_1 - 1)) : Int).toNat (⟨(rd_T71 t102 (wrap64 (a1_1 - 1))).f0, (rd_T71 t102 (wrap64 (a1_1 - 1))).f1, (rd_T71 t102 (wrap64 (a1_1 - 1))).f2, (rd_T71 t102 (wrap64 (a1_1 - 1))).f3, wrap64 (((rd_T71 t102 (wrap64 (a1_1 - 1))).f4) - a1_2), (rd_T71 t102 (wrap64 (a1_1 - 1))).f5, (rd_T71 t102 (wrap64 (a1_1 - 1))).f6, (rd_T71 t102 (wrap64 (a1_1 - 1))).f7⟩ : S71) : List (S71))).bind fun y116 => ((some (y116.set ((wrap64 (a1_1 - 1)) : Int).toNat (⟨(rd_T71 y116 (wrap64 (a1_1 - 1))).f0, (rd_T71 y116 (wrap64 (a1_1 - 1))).f1, (rd_T71 y116 (wrap64 (a1_1 - 1))).f2, (rd_T71 y116 (wrap64 (a1_1 - 1))).f3, (rd_T71 y116 (wrap64 (a1_1 - 1))).f4, (rd_T71 y116 (wrap64 (a1_1 - 1))).f5, wrap64 (((rd_T71 y116 (wrap64 (a1_1 - 1))).f6) + a1_2), (rd_T71 y116 (wrap64 (a1_1 - 1))).f7⟩ : S71) : List (S71))).bind fun y118 => (if y118.length < 1954687338268 then ((some (y118 ++ [(⟨wrap64 ((t102.length : Int) + 1), a1_1, (rd_T71 y118 (wrap64 (a1_1 - 1))).f2, a1_2, a1_2, 0, 0, a1_3⟩ : S71)] : List (S71))).bind fun y120 => ((impl_IsValidSamples.f kj11 y120).bind fun t123 => (if t123 = true then (some (y120, true)) else (some (([] : List (S71)), false))))) else (none)))) else (none)) else (none)) else (if a1_0 = 4 then (if a1_3.toList = ([] : List UInt8) then (if 0 ≤ (wrap64 (a1_1 - 1)) then (if (wrap64 (a1_1 - 1)) < (t102.length : Int) then ((some (t102.set ((wrap64 (a1_1 - 1)) : Int).toNat (⟨(rd_T71 t102 (wrap64 (a1_1 - 1))).f0, (rd_T71 t102 (wrap64 (a1_1 - 1))).f1, (rd_T71 t102 (wrap64 (a1_1 - 1))).f2, (rd_T71 t102 (wrap64 (a1_1 - 1))).f3, wrap64 (((rd_T71 t102 (wrap64 (a1_1 - 1))).f4) - a1_2), (rd_T71 t102 (wrap64 (a1_1 - 1))).f5, (rd_T71 t102 (wrap64 (a1_1 - 1))).f6, (rd_T71 t102 (wrap64 (a1_1 - 1))).f7⟩ : S71) : List (S71))).bind fun y125 => ((some (y125.set ((wrap64 (a1_1 - 1)) : Int).toNat (⟨(rd_T71 y125 (wrap64 (a1_1 - 1))).f0, (rd_T71 y125 (wrap64 (a1_1 - 1))).f1, (rd_T71 y125 (wrap64 (a1_1 - 1))).f2, (rd_T71 y125 (wrap64 (a1_1 - 1))).f3, (rd_T71 y125 (wrap64 (a1_1 - 1))).f4, wrap64 (((rd_T71 y125 (wrap64 (a1_1 - 1))).f5) + a1_2), (rd_T71 y125 (wrap64 (a1_1 - 1))).f6, (rd_T71 y125 (wrap64 (a1_1 - 1))).f7⟩ : S71) : List (S71))).bind fun y127 => ((impl_IsValidSamples.f kj11 y127).bind fun t128 => (if t128 = true then (some (y127, true)) else (some (([] : List (S71)), false)))))) else (none)) else (none)) else (some (([] : List (S71)), false))) else (some (([] : List (S71)), false)))))) = some (r1, r2) := by rw [if_neg (show ¬ (false = true) by decide)] at H; exact H
     clear H
     have H := H1
     clear H1
     by_cases c23 : a1_0 = 1
     ·rw [if_pos c23] at H
      have c23b0 : (a1_0 == 1) = true := beq_iff_eq.mpr c23
      have c23b1 : (a1_0 != 1) = false := bne_eq_false_iff_eq.mpr c23
      clear c23
      by_cases c24 : t102.length < 1954687338268
      ·rw [if_pos c24] at H
       have LMc24 := Aside0.mk c24
       clear c24
       obtain ⟨y108, hy108⟩ : ∃ y_ : List (S71), y_ = (t102 ++ [(⟨wrap64 ((t102.length : Int) + 1), 0, a1_1, a1_2, a1_2, 0, 0, a1_3⟩ : S71)]) := ⟨_, rfl⟩
       replace H : ((impl_IsValidSamples.f kj11 y108).bind fun t111 => (if t111 = true then (some (y108, true)) else (some (([] : List (S71)), false)))) = some (r1, r2) := by first | (rw [hy108]; with_reducible exact H) | (have H2_ := (Option.bind_some _ _).symm.trans H; rw [hy108]; with_reducible exact H2_) | (have H2_ := (Option.bind_some _ _).symm.trans H; with_reducible exact H2_) | with_reducible exact H | (rw [hy108]; exact H) | exact H
       have Ny108 := Aside0.mk hy108
       clear hy108
       replace H := Option.bind_eq_some_iff.mp H
       obtain ⟨t111, A250, H⟩ := H
       replace H : (if t111 = true then (some (y108, true)) else (some (([] : List (S71)), false))) = some (r1, r2) := H
       have A25 := Aside0.mk A250
       clear A250
       by_cases c26 : t111 = true
       ·subst c26
        have H1 : (some (y108, true)) = some (r1, r2) := by rw [if_pos rfl] at H; exact H
        clear H
        have H := H1
        clear H1
        simp only [Option.some.injEq, Prod.mk.injEq] at H
        obtain ⟨rfl, rfl⟩ := H
        have hcz27_0 := cz_ BK101.out 0 _ rfl
        have hcz27_1 := cz_ BK101.out 1 _ rfl
        have hcz27_2 := cz_ BK101.out 2 _ rfl
        have hcz27_3 := cz_ BK101.out 3 _ rfl
        have hfz27_0 := blk_frozen BK101.out 0
        have hfz27_1 := blk_frozen BK101.out 1
        have hfz27_2 := blk_frozen BK101.out 2
        have hfz27_3 := blk_frozen BK101.out 3
        obtain ⟨Ao28, co28, eo28⟩ := Kd.R_slice HO_6.out
        subst eo28
        go_wp2_with (first | ((with_reducible refine gate_builtin (b := .append) (xs := #[.tmp 38, .tmp 51]) rfl ?_); (try (refine gate_guard (by rfl) ?_; dsimp only)); at_builtin; refine Kd.R_append k71 (w0 := w) w.heap.size rfl (.tmp 38) (.tmp 51) 47 71 (.agg #[(.int .i64 0), (.int .i64 0), (.int .i64 0), (.int .i64 0), (.int .i64 0), (.int .i64 0), (.int .i64 0), (.string ⟨#[]⟩)]) 72 rfl Try.underlying47 info71 rfl (by decide) (by omega) (.slice Ao28 t102.length co28) t102 (⟨wrap64 ((t102.length : Int) + 1), 0, a1_1, a1_2, a1_2, 0, 0, a1_3⟩ : S71) [.int .i64 (wrap64 ((t102.length : Int) + 1)), .int .i64 0, .int .i64 a1_1, .int .i64 a1_2, .int .i64 a1_2, .int .i64 0, .int .i64 0, .string a1_3] (fun _ => True) (fun _ => False) rfl rfl ?aP (fun _ hk => hk.elim) ?aF ?aO ?aB ?aS ?aL ?_; (case aP => exact k71_mkM _ _ _ (⟨wrap64 ((t102.length : Int) + 1), 0, a1_1, a1_2, a1_2, 0, 0, a1_3⟩ : S71)); (case aB => exact (pH_ HB.out)); (case aF => exact (fun _ _ => trivial)); (case aO => exact (pR_ HO_6.out)); (case aS => exact (below_size (pH_ HB.out))); (case aL => have := LMc24.out; omega); intro v109 w29 ho hb hg hat; rw [← Ny108.out] at ho; have n0_ := Aside0.mk (blk_grown (g := gb101) (o := .cells #[.int .i64 a1_0, .int .i64 a1_1, .int .i64 a1_2, .string a1_3] 61 (0, 0)) (pB_ BK101.out) hg (Kd.R_ne HO_6.out BK101.out (by decide))); have n1_ := Aside0.mk (hb); have n2_ := Aside0.mk (ho); clear BK101; clear HB; clear HO_6; have BK101 := n0_; have HB := n1_; have HO110 := n2_; clear n0_ n1_ n2_; clear ho hb hg hat; obtain ⟨Ao30, co30, eo30⟩ := Kd.R_slice HO110.out; subst eo30) | ((with_reducible refine gate_callee (f := 33) rfl ?_); refine goesL_ (some 137) rfl rfl Try.func33 (by kernel_rfl) rfl #[.slice Ao30 y108.length co30] rfl (by (try simp only [List.map_toArray, List.map_cons, List.map_nil]); first | done | rfl | (simp only [List.length_drop, List.length_take]; rfl)) ?_; (with_reducible refine (impl_IsValidSamples.calls kj11 _ _ y108 true _ ?side1 ?side2 A25.out).mono ?_); (case side1 => repeat (first | exact (Kd.R_reads' HO110.out).2.2 | (with_reducible refine Kd.C_alloc ?_ _) | (with_reducible refine Kd.C_drewN ?_ _) | (with_reducible refine Kd.C_drew ?_))); (case side2 => exact (Kd.R_reads' HO110.out).2.1); rintro e w31 ⟨rfl, hb⟩; refine ⟨_, rfl, ?_⟩; have n0_ := Aside0.mk (Kd.R_below (pR_ HO110.out) hb); have n1_ := Aside0.mk (blk_below (g := gb101) (o := .cells #[.int .i64 a1_0, .int .i64 a1_1, .int .i64 a1_2, .string a1_3] 61 (0, 0)) (pB_ BK101.out) hb); have n2_ := Aside0.mk (below_step (pH_ HB.out) hb); clear HO110; clear BK101; clear HB; have HO110 := n0_; have BK101 := n1_; have HB := n2_; clear n0_ n1_ n2_; (try clear hb); (try clear hb2); (try clear hk); (try clear hi)))
        go_ret2
        exact ⟨_, by first | rfl | (simp [errW_none, errW_some] <;> rfl) | (simp [*, errW_none, errW_some] <;> rfl), by (with_reducible repeat (first | apply Kd.R_alloc | apply Kd.R_drewN | apply Kd.R_drew)); exact HO110.out, by repeat (first | (with_reducible first | exact HB.out | apply below_alloc | apply pw_below_drewN | apply below_drew1 | refine below_set ?_ GE101.out) | exact HB.out)⟩
       replace c26 := Bool.eq_false_iff.mpr c26
       subst c26
       have H1 : (some (([] : List (S71)), false)) = some (r1, r2) := by rw [if_neg (show ¬ (false = true) by decide)] at H; exact H
       clear H
       have H := H1
       clear H1
       simp only [Option.some.injEq, Prod.mk.injEq] at H
       obtain ⟨rfl, rfl⟩ := H
       have hcz32_0 := cz_ BK101.out 0 _ rfl
       have hcz32_1 := cz_ BK101.out 1 _ rfl
       have hcz32_2 := cz_ BK101.out 2 _ rfl
       have hcz32_3 := cz_ BK101.out 3 _ rfl
       have hfz32_0 := blk_frozen BK101.out 0
       have hfz32_1 := blk_frozen BK101.out 1
       have hfz32_2 := blk_frozen BK101.out 2
       have hfz32_3 := blk_frozen BK101.out 3
       obtain ⟨Ao33, co33, eo33⟩ := Kd.R_slice HO_6.out
       subst eo33
       go_wp2_with (first | ((with_reducible refine gate_builtin (b := .append) (xs := #[.tmp 38, .tmp 51]) rfl ?_); (try (refine gate_guard (by rfl) ?_; dsimp only)); at_builtin; refine Kd.R_append k71 (w0 := w) w.heap.size rfl (.tmp 38) (.tmp 51) 47 71 (.agg #[(.int .i64 0), (.int .i64 0), (.int .i64 0), (.int .i64 0), (.int .i64 0), (.int .i64 0), (.int .i64 0), (.string ⟨#[]⟩)]) 72 rfl Try.underlying47 info71 rfl (by decide) (by omega) (.slice Ao33 t102.length co33) t102 (⟨wrap64 ((t102.length : Int) + 1), 0, a1_1, a1_2, a1_2, 0, 0, a1_3⟩ : S71) [.int .i64 (wrap64 ((t102.length : Int) + 1)), .int .i64 0, .int .i64 a1_1, .int .i64 a1_2, .int .i64 a1_2, .int .i64 0, .int .i64 0, .string a1_3] (fun _ => True) (fun _ => False) rfl rfl ?aP (fun _ hk => hk.elim) ?aF ?aO ?aB ?aS ?aL ?_; (case aP => exact k71_mkM _ _ _ (⟨wrap64 ((t102.length : Int) + 1), 0, a1_1, a1_2, a1_2, 0, 0, a1_3⟩ : S71)); (case aB => exact (pH_ HB.out)); (case aF => exact (fun _ _ => trivial)); (case aO => exact (pR_ HO_6.out)); (case aS => exact (below_size (pH_ HB.out))); (case aL => have := LMc24.out; omega); intro v109 w34 ho hb hg hat; rw [← Ny108.out] at ho; have n0_ := Aside0.mk (blk_grown (g := gb101) (o := .cells #[.int .i64 a1_0, .int .i64 a1_1, .int .i64 a1_2, .string a1_3] 61 (0, 0)) (pB_ BK101.out) hg (Kd.R_ne HO_6.out BK101.out (by decide))); have n1_ := Aside0.mk (hb); have n2_ := Aside0.mk (ho); clear BK101; clear HB; clear HO_6; have BK101 := n0_; have HB := n1_; have HO110 := n2_; clear n0_ n1_ n2_; clear ho hb hg hat; obtain ⟨Ao35, co35, eo35⟩ := Kd.R_slice HO110.out; subst eo35) | ((with_reducible refine gate_callee (f := 33) rfl ?_); refine goesL_ (some 137) rfl rfl Try.func33 (by kernel_rfl) rfl #[.slice Ao35 y108.length co35] rfl (by (try simp only [List.map_toArray, List.map_cons, List.map_nil]); first | done | rfl | (simp only [List.length_drop, List.length_take]; rfl)) ?_; (with_reducible refine (impl_IsValidSamples.calls kj11 _ _ y108 false _ ?side1 ?side2 A25.out).mono ?_); (case side1 => repeat (first | exact (Kd.R_reads' HO110.out).2.2 | (with_reducible refine Kd.C_alloc ?_ _) | (with_reducible refine Kd.C_drewN ?_ _) | (with_reducible refine Kd.C_drew ?_))); (case side2 => exact (Kd.R_reads' HO110.out).2.1); rintro e w36 ⟨rfl, hb⟩; refine ⟨_, rfl, ?_⟩; have n0_ := Aside0.mk (Kd.R_below (pR_ HO110.out) hb); have n1_ := Aside0.mk (blk_below (g := gb101) (o := .cells #[.int .i64 a1_0, .int .i64 a1_1, .int .i64 a1_2, .string a1_3] 61 (0, 0)) (pB_ BK101.out) hb); have n2_ := Aside0.mk (below_step (pH_ HB.out) hb); clear HO110; clear BK101; clear HB; have HO110 := n0_; have BK101 := n1_; have HB := n2_; clear n0_ n1_ n2_; (try clear hb); (try clear hb2); (try clear hk); (try clear hi)))
       go_ret2
       exact ⟨_, by first | rfl | (simp [errW_none, errW_some] <;> rfl) | (simp [*, errW_none, errW_some] <;> rfl), by first | exact Kd.R_nil _ _ _ _ _ | exact Kd.N_nil _ _ _ _ _ | exact Kd.V_nil _ _ _ _ _ | exact Kd.Q_nil _ _ _ _ _ | exact Kd.S_nil _ _ _ _ _, by repeat (first | (with_reducible first | exact HB.out | apply below_alloc | apply pw_below_drewN | apply below_drew1 | refine below_set ?_ GE101.out) | exact HB.out)⟩
      rw [if_neg c24] at H
      exact absurd H (by simp)
     rw [if_neg c23] at H
     have c23b0 : (a1_0 == 1) = false := beq_eq_false_iff_ne.mpr c23
     have c23b1 : (a1_0 != 1) = true := bne_iff_ne.mpr c23
     by_cases c37 : a1_0 = 2
     ·rw [if_pos c37] at H
      have c37b0 : (a1_0 == 2) = true := beq_iff_eq.mpr c37
      have c37b1 : (a1_0 != 2) = false := bne_eq_false_iff_eq.mpr c37
      clear c37
      obtain ⟨ji38, hji38⟩ : ∃ j_ : Int, (wrap64 (a1_1 - 1)) = j_ := ⟨_, rfl⟩
      replace H : (if 0 ≤ (ji38) then (if (ji38) < (t102.length : Int) then ((some (t102.set ((ji38) : Int).toNat (⟨(rd_T71 t102 (ji38)).f0, (rd_T71 t102 (ji38)).f1, (rd_T71 t102 (ji38)).f2, (rd_T71 t102 (ji38)).f3, (rd_T71 t102 (ji38)).f4, (rd_T71 t102 (ji38)).f5, (rd_T71 t102 (ji38)).f6, a1_3⟩ : S71) : List (S71))).bind fun y112 => ((impl_IsValidSamples.f kj11 y112).bind fun t113 => (if t113 = true then (some (y112, true)) else (some (([] : List (S71)), false))))) else (none)) else (none)) = some (r1, r2) := by first | (rw [hji38] at H; exact H) | (simp only [hji38] at H ⊢; exact H)
      have hji38w : (IntKind.i64.wrap (a1_1 - 1)) = ji38 := (i64_w _).trans hji38
      by_cases c39 : 0 ≤ (ji38)
      ·rw [if_pos c39] at H
       have c39b0 : decide (0 ≤ (ji38)) = true := decide_eq_true c39
       clear c39
       by_cases c40 : (ji38) < (t102.length : Int)
       ·rw [if_pos c40] at H
        have c40b0 : decide ((ji38) < (t102.length : Int)) = true := decide_eq_true c40
        clear c40
        obtain ⟨y112, hy112⟩ : ∃ y_ : List (S71), y_ = (t102.set ((ji38) : Int).toNat (⟨(rd_T71 t102 (ji38)).f0, (rd_T71 t102 (ji38)).f1, (rd_T71 t102 (ji38)).f2, (rd_T71 t102 (ji38)).f3, (rd_T71 t102 (ji38)).f4, (rd_T71 t102 (ji38)).f5, (rd_T71 t102 (ji38)).f6, a1_3⟩ : S71)) := ⟨_, rfl⟩
        replace H : ((impl_IsValidSamples.f kj11 y112).bind fun t113 => (if t113 = true then (some (y112, true)) else (some (([] : List (S71)), false)))) = some (r1, r2) := by first | (rw [hy112]; with_reducible exact H) | (have H2_ := (Option.bind_some _ _).symm.trans H; rw [hy112]; with_reducible exact H2_) | (have H2_ := (Option.bind_some _ _).symm.trans H; with_reducible exact H2_) | with_reducible exact H | (rw [hy112]; exact H) | exact H
        have Ny112 := Aside0.mk hy112
        clear hy112
        replace H := Option.bind_eq_some_iff.mp H
        obtain ⟨t113, A420, H⟩ := H
        replace H : (if t113 = true then (some (y112, true)) else (some (([] : List (S71)), false))) = some (r1, r2) := H
        have A42 := Aside0.mk A420
        clear A420
        by_cases c43 : t113 = true
        ·subst c43
         have H1 : (some (y112, true)) = some (r1, r2) := by rw [if_pos rfl] at H; exact H
         clear H
         have H := H1
         clear H1
         simp only [Option.some.injEq, Prod.mk.injEq] at H
         obtain ⟨rfl, rfl⟩ := H
         have hcz44_0 := cz_ BK101.out 0 _ rfl
         have hcz44_1 := cz_ BK101.out 1 _ rfl
         have hcz44_2 := cz_ BK101.out 2 _ rfl
         have hcz44_3 := cz_ BK101.out 3 _ rfl
         have hfz44_0 := blk_frozen BK101.out 0
         have hfz44_1 := blk_frozen BK101.out 1
         have hfz44_2 := blk_frozen BK101.out 2
         have hfz44_3 := blk_frozen BK101.out 3
         have p41 : 0 ≤ ((ji38) : Int) := of_decide_eq_true (by first | (with_reducible assumption) | assumption)
         have q41 : ((ji38) : Int) < ((t102.length : Int) : Int) := of_decide_eq_true (by first | (with_reducible assumption) | assumption)
         obtain ⟨go41, co41, eo41, gb41, gl41, cl41, HG41⟩ := Kd.R_form HO_6.out (by omega)
         (first | cases eo41 | (injection eo41 with ea_ en_ ec_; (first | subst ea_ | (injection ea_ with ea_; subst ea_)); subst ec_; clear en_))
         have GB41 := Aside0.mk gb41
         have GG41 := Aside0.mk HG41
         clear gb41 gl41 HG41
         obtain ⟨ce41, hcl41, hM41, hcc41, hfr41⟩ := Kd.R_elem HO_6.out z71 ((ji38) : Int) p41 q41
         obtain rfl := k71_openM hM41
         have hx41_0 : wc.cell? ⟨go41, ((ji38) : Int).toNat * 8, none⟩ = some (.int .i64 ((rd_T71 t102 (ji38)).f0)) := hcc41 0 _ rfl
         have hx41_1 : wc.cell? ⟨go41, ((ji38) : Int).toNat * 8 + 1, none⟩ = some (.int .i64 ((rd_T71 t102 (ji38)).f1)) := hcc41 1 _ rfl
         have hx41_2 : wc.cell? ⟨go41, ((ji38) : Int).toNat * 8 + 2, none⟩ = some (.int .i64 ((rd_T71 t102 (ji38)).f2)) := hcc41 2 _ rfl
         have hx41_3 : wc.cell? ⟨go41, ((ji38) : Int).toNat * 8 + 3, none⟩ = some (.int .i64 ((rd_T71 t102 (ji38)).f3)) := hcc41 3 _ rfl
         have hx41_4 : wc.cell? ⟨go41, ((ji38) : Int).toNat * 8 + 4, none⟩ = some (.int .i64 ((rd_T71 t102 (ji38)).f4)) := hcc41 4 _ rfl
         have hx41_5 : wc.cell? ⟨go41, ((ji38) : Int).toNat * 8 + 5, none⟩ = some (.int .i64 ((rd_T71 t102 (ji38)).f5)) := hcc41 5 _ rfl
         have hx41_6 : wc.cell? ⟨go41, ((ji38) : Int).toNat * 8 + 6, none⟩ = some (.int .i64 ((rd_T71 t102 (ji38)).f6)) := hcc41 6 _ rfl
         have hx41_7 : wc.cell? ⟨go41, ((ji38) : Int).toNat * 8 + 7, none⟩ = some (.string ((rd_T71 t102 (ji38)).f7)) := hcc41 7 _ rfl
         have hf41_0 : wc.frozen? ⟨go41, ((ji38) : Int).toNat * 8, none⟩ = false := hfr41 0
         have hf41_1 : wc.frozen? ⟨go41, ((ji38) : Int).toNat * 8 + 1, none⟩ = false := hfr41 1
         have hf41_2 : wc.frozen? ⟨go41, ((ji38) : Int).toNat * 8 + 2, none⟩ = false := hfr41 2
         have hf41_3 : wc.frozen? ⟨go41, ((ji38) : Int).toNat * 8 + 3, none⟩ = false := hfr41 3
         have hf41_4 : wc.frozen? ⟨go41, ((ji38) : Int).toNat * 8 + 4, none⟩ = false := hfr41 4
         have hf41_5 : wc.frozen? ⟨go41, ((ji38) : Int).toNat * 8 + 5, none⟩ = false := hfr41 5
         have hf41_6 : wc.frozen? ⟨go41, ((ji38) : Int).toNat * 8 + 6, none⟩ = false := hfr41 6
         have hf41_7 : wc.frozen? ⟨go41, ((ji38) : Int).toNat * 8 + 7, none⟩ = false := hfr41 7
         clear hcl41 hcc41 hfr41 hM41
         replace p41 := eq_true p41
         replace q41 := eq_true q41
         have HX45 := Aside0.mk (show Kd.R k71 71 wc w.heap.size (fun _ => True) (.slice (some ⟨go41, 0, none⟩) t102.length co41) t102 from (pR_ HO_6.out))
         obtain ⟨ce45, hcl45, hM45, hcc45, hfr45⟩ := Kd.R_elem HX45.out z71 ((ji38) : Int) (of_decide_eq_true (by first | (with_reducible assumption) | assumption)) (by have h_ : ((ji38) : Int) < ((t102.length : Int) : Int) := of_decide_eq_true (by first | (with_reducible assumption) | assumption); first | exact h_ | (have e_ := (Kd.R_reads' HO_6.out).1; omega) | simpa using h_)
         obtain rfl := k71_openM hM45
         have HP45 := Kd.R_seg HX45.out ((ji38) : Int) (of_decide_eq_true (by first | (with_reducible assumption) | assumption)) (by have h_ : ((ji38) : Int) < ((t102.length : Int) : Int) := of_decide_eq_true (by first | (with_reducible assumption) | assumption); first | exact h_ | (have e_ := (Kd.R_reads' HO_6.out).1; omega) | simpa using h_) (seg := [.string a1_3]) (j := 7) hcl45 hcc45 (show 8 ≤ 8 from by decide) (x' := (⟨(rd_T71 t102 (ji38)).f0, (rd_T71 t102 (ji38)).f1, (rd_T71 t102 (ji38)).f2, (rd_T71 t102 (ji38)).f3, (rd_T71 t102 (ji38)).f4, (rd_T71 t102 (ji38)).f5, (rd_T71 t102 (ji38)).f6, a1_3⟩ : S71)) (k71_mkM _ _ _ (⟨(rd_T71 t102 (ji38)).f0, (rd_T71 t102 (ji38)).f1, (rd_T71 t102 (ji38)).f2, (rd_T71 t102 (ji38)).f3, (rd_T71 t102 (ji38)).f4, (rd_T71 t102 (ji38)).f5, (rd_T71 t102 (ji38)).f6, a1_3⟩ : S71) ) (fun _ hk => hk)
         have hx45_7 := hcc45 7 _ rfl
         (try simp only [show (k71).sz = 8 from rfl, Nat.mul_one, Nat.add_zero] at hx45_7)
         have hf45_7 := hfr45 7
         (try simp only [show (k71).sz = 8 from rfl, Nat.mul_one, Nat.add_zero] at hf45_7)
         clear hcl45 hcc45 hfr45 hM45
         go_wp2_with (first | ((with_reducible refine gate_store (t := 9) (p := 62) rfl ?_); refine store_event (t := 9) (p := 62) (v := ?vo_w46) (w1 := (wc.setCell ⟨go41, ((ji38) : Int).toNat * 8 + 7, none⟩ (.string a1_3))) ?hg ?ho ?hn ?hr ?_; (case ho => rfl); (case hg => rfl); (case hn => rfl); (case hr => first | (go_simp; done) | (go_simp; rfl)); intro w46 hw; have hg : wc.grownBy w46 (some go41) := (by rw [hw]; exact HP45.2); have hp_ : Kd.R k71 71 w46 w.heap.size (fun _ => True) (.slice (some ⟨go41, 0, none⟩) t102.length co41) y112 := (by rw [hw, Ny112.out]; exact HP45.1); clear HP45; have n0_ := Aside0.mk (hp_); have n1_ := Aside0.mk (blk_grown (g := gb101) (o := .cells #[.int .i64 a1_0, .int .i64 a1_1, .int .i64 a1_2, .string a1_3] 61 (0, 0)) (pB_ BK101.out) hg (Kd.R_ne HO_6.out BK101.out (by decide))); have n2_ := Aside0.mk ((by rw [hw]; exact below_set (HB.out) GB41.out : Below w.heap.size w w46)); clear HO_6; clear BK101; clear HB; have HO_6 := n0_; have BK101 := n1_; have HB := n2_; clear n0_ n1_ n2_; clear hg hw hp_) | ((with_reducible refine gate_callee (f := 33) rfl ?_); refine goesL_ (some 137) rfl rfl Try.func33 (by kernel_rfl) rfl #[.slice (some ⟨go41, 0, none⟩) y112.length co41] rfl (by (try simp only [List.map_toArray, List.map_cons, List.map_nil]); first | done | (rw [show y112.length = t102.length from (Kd.R_reads' HO_6.out).1.symm] <;> rfl) | rfl | (simp only [List.length_drop, List.length_take]; rfl)) ?_; (with_reducible refine (impl_IsValidSamples.calls kj11 _ _ y112 true _ ?side1 ?side2 A42.out).mono ?_); (case side1 => repeat (first | exact (Kd.R_reads' HO_6.out).2.2 | (with_reducible refine Kd.C_alloc ?_ _) | (with_reducible refine Kd.C_drewN ?_ _) | (with_reducible refine Kd.C_drew ?_))); (case side2 => rw [show y112.length = t102.length from (Kd.R_reads' HO_6.out).1.symm]; exact (Kd.R_reads' HO_6.out).2.1); rintro e w47 ⟨rfl, hb⟩; refine ⟨_, rfl, ?_⟩; have n0_ := Aside0.mk (Kd.R_below (pR_ HO_6.out) hb); have n1_ := Aside0.mk (blk_below (g := gb101) (o := .cells #[.int .i64 a1_0, .int .i64 a1_1, .int .i64 a1_2, .string a1_3] 61 (0, 0)) (pB_ BK101.out) hb); have n2_ := Aside0.mk (below_step (pH_ HB.out) hb); clear HO_6; clear BK101; clear HB; have HO_6 := n0_; have BK101 := n1_; have HB := n2_; clear n0_ n1_ n2_; (try clear hb); (try clear hb2); (try clear hk); (try clear hi)))
         go_ret2
         exact ⟨_, by first | rfl | (simp [errW_none, errW_some] <;> rfl) | (simp only [← hji38]; first | rfl | (simp [errW_none, errW_some] <;> rfl)) | (simp [*, errW_none, errW_some] <;> rfl), by (with_reducible repeat (first | apply Kd.R_alloc | apply Kd.R_drewN | apply Kd.R_drew)); exact HO_6.out, by repeat (first | (with_reducible first | exact HB.out | apply below_alloc | apply pw_below_drewN | apply below_drew1 | refine below_set ?_ GE101.out) | exact HB.out)⟩
        replace c43 := Bool.eq_false_iff.mpr c43
        subst c43
        have H1 : (some (([] : List (S71)), false)) = some (r1, r2) := by rw [if_neg (show ¬ (false = true) by decide)] at H; exact H
        clear H
        have H := H1
        clear H1
        simp only [Option.some.injEq, Prod.mk.injEq] at H
        obtain ⟨rfl, rfl⟩ := H
        have hcz48_0 := cz_ BK101.out 0 _ rfl
        have hcz48_1 := cz_ BK101.out 1 _ rfl
        have hcz48_2 := cz_ BK101.out 2 _ rfl
        have hcz48_3 := cz_ BK101.out 3 _ rfl
        have hfz48_0 := blk_frozen BK101.out 0
        have hfz48_1 := blk_frozen BK101.out 1
        have hfz48_2 := blk_frozen BK101.out 2
        have hfz48_3 := blk_frozen BK101.out 3
        have p41 : 0 ≤ ((ji38) : Int) := of_decide_eq_true (by first | (with_reducible assumption) | assumption)
        have q41 : ((ji38) : Int) < ((t102.length : Int) : Int) := of_decide_eq_true (by first | (with_reducible assumption) | assumption)
        obtain ⟨go41, co41, eo41, gb41, gl41, cl41, HG41⟩ := Kd.R_form HO_6.out (by omega)
        (first | cases eo41 | (injection eo41 with ea_ en_ ec_; (first | subst ea_ | (injection ea_ with ea_; subst ea_)); subst ec_; clear en_))
        have GB41 := Aside0.mk gb41
        have GG41 := Aside0.mk HG41
        clear gb41 gl41 HG41
        obtain ⟨ce41, hcl41, hM41, hcc41, hfr41⟩ := Kd.R_elem HO_6.out z71 ((ji38) : Int) p41 q41
        obtain rfl := k71_openM hM41
        have hx41_0 : wc.cell? ⟨go41, ((ji38) : Int).toNat * 8, none⟩ = some (.int .i64 ((rd_T71 t102 (ji38)).f0)) := hcc41 0 _ rfl
        have hx41_1 : wc.cell? ⟨go41, ((ji38) : Int).toNat * 8 + 1, none⟩ = some (.int .i64 ((rd_T71 t102 (ji38)).f1)) := hcc41 1 _ rfl
        have hx41_2 : wc.cell? ⟨go41, ((ji38) : Int).toNat * 8 + 2, none⟩ = some (.int .i64 ((rd_T71 t102 (ji38)).f2)) := hcc41 2 _ rfl
        have hx41_3 : wc.cell? ⟨go41, ((ji38) : Int).toNat * 8 + 3, none⟩ = some (.int .i64 ((rd_T71 t102 (ji38)).f3)) := hcc41 3 _ rfl
        have hx41_4 : wc.cell? ⟨go41, ((ji38) : Int).toNat * 8 + 4, none⟩ = some (.int .i64 ((rd_T71 t102 (ji38)).f4)) := hcc41 4 _ rfl
        have hx41_5 : wc.cell? ⟨go41, ((ji38) : Int).toNat * 8 + 5, none⟩ = some (.int .i64 ((rd_T71 t102 (ji38)).f5)) := hcc41 5 _ rfl
        have hx41_6 : wc.cell? ⟨go41, ((ji38) : Int).toNat * 8 + 6, none⟩ = some (.int .i64 ((rd_T71 t102 (ji38)).f6)) := hcc41 6 _ rfl
        have hx41_7 : wc.cell? ⟨go41, ((ji38) : Int).toNat * 8 + 7, none⟩ = some (.string ((rd_T71 t102 (ji38)).f7)) := hcc41 7 _ rfl
        have hf41_0 : wc.frozen? ⟨go41, ((ji38) : Int).toNat * 8, none⟩ = false := hfr41 0
        have hf41_1 : wc.frozen? ⟨go41, ((ji38) : Int).toNat * 8 + 1, none⟩ = false := hfr41 1
        have hf41_2 : wc.frozen? ⟨go41, ((ji38) : Int).toNat * 8 + 2, none⟩ = false := hfr41 2
        have hf41_3 : wc.frozen? ⟨go41, ((ji38) : Int).toNat * 8 + 3, none⟩ = false := hfr41 3
        have hf41_4 : wc.frozen? ⟨go41, ((ji38) : Int).toNat * 8 + 4, none⟩ = false := hfr41 4
        have hf41_5 : wc.frozen? ⟨go41, ((ji38) : Int).toNat * 8 + 5, none⟩ = false := hfr41 5
        have hf41_6 : wc.frozen? ⟨go41, ((ji38) : Int).toNat * 8 + 6, none⟩ = false := hfr41 6
        have hf41_7 : wc.frozen? ⟨go41, ((ji38) : Int).toNat * 8 + 7, none⟩ = false := hfr41 7
        clear hcl41 hcc41 hfr41 hM41
        replace p41 := eq_true p41
        replace q41 := eq_true q41
        have HX49 := Aside0.mk (show Kd.R k71 71 wc w.heap.size (fun _ => True) (.slice (some ⟨go41, 0, none⟩) t102.length co41) t102 from (pR_ HO_6.out))
        obtain ⟨ce49, hcl49, hM49, hcc49, hfr49⟩ := Kd.R_elem HX49.out z71 ((ji38) : Int) (of_decide_eq_true (by first | (with_reducible assumption) | assumption)) (by have h_ : ((ji38) : Int) < ((t102.length : Int) : Int) := of_decide_eq_true (by first | (with_reducible assumption) | assumption); first | exact h_ | (have e_ := (Kd.R_reads' HO_6.out).1; omega) | simpa using h_)
        obtain rfl := k71_openM hM49
        have HP49 := Kd.R_seg HX49.out ((ji38) : Int) (of_decide_eq_true (by first | (with_reducible assumption) | assumption)) (by have h_ : ((ji38) : Int) < ((t102.length : Int) : Int) := of_decide_eq_true (by first | (with_reducible assumption) | assumption); first | exact h_ | (have e_ := (Kd.R_reads' HO_6.out).1; omega) | simpa using h_) (seg := [.string a1_3]) (j := 7) hcl49 hcc49 (show 8 ≤ 8 from by decide) (x' := (⟨(rd_T71 t102 (ji38)).f0, (rd_T71 t102 (ji38)).f1, (rd_T71 t102 (ji38)).f2, (rd_T71 t102 (ji38)).f3, (rd_T71 t102 (ji38)).f4, (rd_T71 t102 (ji38)).f5, (rd_T71 t102 (ji38)).f6, a1_3⟩ : S71)) (k71_mkM _ _ _ (⟨(rd_T71 t102 (ji38)).f0, (rd_T71 t102 (ji38)).f1, (rd_T71 t102 (ji38)).f2, (rd_T71 t102 (ji38)).f3, (rd_T71 t102 (ji38)).f4, (rd_T71 t102 (ji38)).f5, (rd_T71 t102 (ji38)).f6, a1_3⟩ : S71) ) (fun _ hk => hk)
        have hx49_7 := hcc49 7 _ rfl
        (try simp only [show (k71).sz = 8 from rfl, Nat.mul_one, Nat.add_zero] at hx49_7)
        have hf49_7 := hfr49 7
        (try simp only [show (k71).sz = 8 from rfl, Nat.mul_one, Nat.add_zero] at hf49_7)
        clear hcl49 hcc49 hfr49 hM49
        go_wp2_with (first | ((with_reducible refine gate_store (t := 9) (p := 62) rfl ?_); refine store_event (t := 9) (p := 62) (v := ?vo_w50) (w1 := (wc.setCell ⟨go41, ((ji38) : Int).toNat * 8 + 7, none⟩ (.string a1_3))) ?hg ?ho ?hn ?hr ?_; (case ho => rfl); (case hg => rfl); (case hn => rfl); (case hr => first | (go_simp; done) | (go_simp; rfl)); intro w50 hw; have hg : wc.grownBy w50 (some go41) := (by rw [hw]; exact HP49.2); have hp_ : Kd.R k71 71 w50 w.heap.size (fun _ => True) (.slice (some ⟨go41, 0, none⟩) t102.length co41) y112 := (by rw [hw, Ny112.out]; exact HP49.1); clear HP49; have n0_ := Aside0.mk (hp_); have n1_ := Aside0.mk (blk_grown (g := gb101) (o := .cells #[.int .i64 a1_0, .int .i64 a1_1, .int .i64 a1_2, .string a1_3] 61 (0, 0)) (pB_ BK101.out) hg (Kd.R_ne HO_6.out BK101.out (by decide))); have n2_ := Aside0.mk ((by rw [hw]; exact below_set (HB.out) GB41.out : Below w.heap.size w w50)); clear HO_6; clear BK101; clear HB; have HO_6 := n0_; have BK101 := n1_; have HB := n2_; clear n0_ n1_ n2_; clear hg hw hp_) | ((with_reducible refine gate_callee (f := 33) rfl ?_); refine goesL_ (some 137) rfl rfl Try.func33 (by kernel_rfl) rfl #[.slice (some ⟨go41, 0, none⟩) y112.length co41] rfl (by (try simp only [List.map_toArray, List.map_cons, List.map_nil]); first | done | (rw [show y112.length = t102.length from (Kd.R_reads' HO_6.out).1.symm] <;> rfl) | rfl | (simp only [List.length_drop, List.length_take]; rfl)) ?_; (with_reducible refine (impl_IsValidSamples.calls kj11 _ _ y112 false _ ?side1 ?side2 A42.out).mono ?_); (case side1 => repeat (first | exact (Kd.R_reads' HO_6.out).2.2 | (with_reducible refine Kd.C_alloc ?_ _) | (with_reducible refine Kd.C_drewN ?_ _) | (with_reducible refine Kd.C_drew ?_))); (case side2 => rw [show y112.length = t102.length from (Kd.R_reads' HO_6.out).1.symm]; exact (Kd.R_reads' HO_6.out).2.1); rintro e w51 ⟨rfl, hb⟩; refine ⟨_, rfl, ?_⟩; have n0_ := Aside0.mk (Kd.R_below (pR_ HO_6.out) hb); have n1_ := Aside0.mk (blk_below (g := gb101) (o := .cells #[.int .i64 a1_0, .int .i64 a1_1, .int .i64 a1_2, .string a1_3] 61 (0, 0)) (pB_ BK101.out) hb); have n2_ := Aside0.mk (below_step (pH_ HB.out) hb); clear HO_6; clear BK101; clear HB; have HO_6 := n0_; have BK101 := n1_; have HB := n2_; clear n0_ n1_ n2_; (try clear hb); (try clear hb2); (try clear hk); (try clear hi)))
        go_ret2
        exact ⟨_, by first | rfl | (simp [errW_none, errW_some] <;> rfl) | (simp only [← hji38]; first | rfl | (simp [errW_none, errW_some] <;> rfl)) | (simp [*, errW_none, errW_some] <;> rfl), by first | exact Kd.R_nil _ _ _ _ _ | exact Kd.N_nil _ _ _ _ _ | exact Kd.V_nil _ _ _ _ _ | exact Kd.Q_nil _ _ _ _ _ | exact Kd.S_nil _ _ _ _ _, by repeat (first | (with_reducible first | exact HB.out | apply below_alloc | apply pw_below_drewN | apply below_drew1 | refine below_set ?_ GE101.out) | exact HB.out)⟩
       rw [if_neg c40] at H
       exact absurd H (by simp)
      rw [if_neg c39] at H
      exact absurd H (by simp)
     rw [if_neg c37] at H
     have c37b0 : (a1_0 == 2) = false := beq_eq_false_iff_ne.mpr c37
     have c37b1 : (a1_0 != 2) = true := bne_iff_ne.mpr c37
     by_cases c52 : a1_0 = 3
     ·rw [if_pos c52] at H
      have c52b0 : (a1_0 == 3) = true := beq_iff_eq.mpr c52
      have c52b1 : (a1_0 != 3) = false := bne_eq_false_iff_eq.mpr c52
      clear c52
      obtain ⟨ji53, hji53⟩ : ∃ j_ : Int, (wrap64 (a1_1 - 1)) = j_ := ⟨_, rfl⟩
      replace H : (if 0 ≤ (ji53) then (if (ji53) < (t102.length : Int) then ((some (t102.set ((ji53) : Int).toNat (⟨(rd_T71 t102 (ji53)).f0, (rd_T71 t102 (ji53)).f1, (rd_T71 t102 (ji53)).f2, (rd_T71 t102 (ji53)).f3, wrap64 (((rd_T71 t102 (ji53)).f4) - a1_2), (rd_T71 t102 (ji53)).f5, (rd_T71 t102 (ji53)).f6, (rd_T71 t102 (ji53)).f7⟩ : S71) : List (S71))).bind fun y116 => ((some (y116.set ((ji53) : Int).toNat (⟨(rd_T71 y116 (ji53)).f0, (rd_T71 y116 (ji53)).f1, (rd_T71 y116 (ji53)).f2, (rd_T71 y116 (ji53)).f3, (rd_T71 y116 (ji53)).f4, (rd_T71 y116 (ji53)).f5, wrap64 (((rd_T71 y116 (ji53)).f6) + a1_2), (rd_T71 y116 (ji53)).f7⟩ : S71) : List (S71))).bind fun y118 => (if y118.length < 1954687338268 then ((some (y118 ++ [(⟨wrap64 ((t102.length : Int) + 1), a1_1, (rd_T71 y118 (ji53)).f2, a1_2, a1_2, 0, 0, a1_3⟩ : S71)] : List (S71))).bind fun y120 => ((impl_IsValidSamples.f kj11 y120).bind fun t123 => (if t123 = true then (some (y120, true)) else (some (([] : List (S71)), false))))) else (none)))) else (none)) else (none)) = some (r1, r2) := by first | (rw [hji53] at H; exact H) | (simp only [hji53] at H ⊢; exact H)
      have hji53w : (IntKind.i64.wrap (a1_1 - 1)) = ji53 := (i64_w _).trans hji53
      by_cases c54 : 0 ≤ (ji53)
      ·rw [if_pos c54] at H
       have c54b0 : decide (0 ≤ (ji53)) = true := decide_eq_true c54
       clear c54
       by_cases c55 : (ji53) < (t102.length : Int)
       ·rw [if_pos c55] at H
        have c55b0 : decide ((ji53) < (t102.length : Int)) = true := decide_eq_true c55
        clear c55
        obtain ⟨y116, hy116⟩ : ∃ y_ : List (S71), y_ = (t102.set ((ji53) : Int).toNat (⟨(rd_T71 t102 (ji53)).f0, (rd_T71 t102 (ji53)).f1, (rd_T71 t102 (ji53)).f2, (rd_T71 t102 (ji53)).f3, wrap64 (((rd_T71 t102 (ji53)).f4) - a1_2), (rd_T71 t102 (ji53)).f5, (rd_T71 t102 (ji53)).f6, (rd_T71 t102 (ji53)).f7⟩ : S71)) := ⟨_, rfl⟩
        replace H : ((some (y116.set ((ji53) : Int).toNat (⟨(rd_T71 y116 (ji53)).f0, (rd_T71 y116 (ji53)).f1, (rd_T71 y116 (ji53)).f2, (rd_T71 y116 (ji53)).f3, (rd_T71 y116 (ji53)).f4, (rd_T71 y116 (ji53)).f5, wrap64 (((rd_T71 y116 (ji53)).f6) + a1_2), (rd_T71 y116 (ji53)).f7⟩ : S71) : List (S71))).bind fun y118 => (if y118.length < 1954687338268 then ((some (y118 ++ [(⟨wrap64 ((t102.length : Int) + 1), a1_1, (rd_T71 y118 (ji53)).f2, a1_2, a1_2, 0, 0, a1_3⟩ : S71)] : List (S71))).bind fun y120 => ((impl_IsValidSamples.f kj11 y120).bind fun t123 => (if t123 = true then (some (y120, true)) else (some (([] : List (S71)), false))))) else (none))) = some (r1, r2) := by first | (rw [hy116]; with_reducible exact H) | (have H2_ := (Option.bind_some _ _).symm.trans H; rw [hy116]; with_reducible exact H2_) | (have H2_ := (Option.bind_some _ _).symm.trans H; with_reducible exact H2_) | with_reducible exact H | (rw [hy116]; exact H) | exact H
        have Ny116 := Aside0.mk hy116
        clear hy116
        obtain ⟨y118, hy118⟩ : ∃ y_ : List (S71), y_ = (y116.set ((ji53) : Int).toNat (⟨(rd_T71 y116 (ji53)).f0, (rd_T71 y116 (ji53)).f1, (rd_T71 y116 (ji53)).f2, (rd_T71 y116 (ji53)).f3, (rd_T71 y116 (ji53)).f4, (rd_T71 y116 (ji53)).f5, wrap64 (((rd_T71 y116 (ji53)).f6) + a1_2), (rd_T71 y116 (ji53)).f7⟩ : S71)) := ⟨_, rfl⟩
        replace H : (if y118.length < 1954687338268 then ((some (y118 ++ [(⟨wrap64 ((t102.length : Int) + 1), a1_1, (rd_T71 y118 (ji53)).f2, a1_2, a1_2, 0, 0, a1_3⟩ : S71)] : List (S71))).bind fun y120 => ((impl_IsValidSamples.f kj11 y120).bind fun t123 => (if t123 = true then (some (y120, true)) else (some (([] : List (S71)), false))))) else (none)) = some (r1, r2) := by first | (rw [hy118]; with_reducible exact H) | (have H2_ := (Option.bind_some _ _).symm.trans H; rw [hy118]; with_reducible exact H2_) | (have H2_ := (Option.bind_some _ _).symm.trans H; with_reducible exact H2_) | with_reducible exact H | (rw [hy118]; exact H) | exact H
        have Ny118 := Aside0.mk hy118
        clear hy118
        by_cases c58 : y118.length < 1954687338268
        ·rw [if_pos c58] at H
         have LMc58 := Aside0.mk c58
         clear c58
         obtain ⟨y120, hy120⟩ : ∃ y_ : List (S71), y_ = (y118 ++ [(⟨wrap64 ((t102.length : Int) + 1), a1_1, (rd_T71 y118 (ji53)).f2, a1_2, a1_2, 0, 0, a1_3⟩ : S71)]) := ⟨_, rfl⟩
         replace H : ((impl_IsValidSamples.f kj11 y120).bind fun t123 => (if t123 = true then (some (y120, true)) else (some (([] : List (S71)), false)))) = some (r1, r2) := by first | (rw [hy120]; with_reducible exact H) | (have H2_ := (Option.bind_some _ _).symm.trans H; rw [hy120]; with_reducible exact H2_) | (have H2_ := (Option.bind_some _ _).symm.trans H; with_reducible exact H2_) | with_reducible exact H | (rw [hy120]; exact H) | exact H
         have Ny120 := Aside0.mk hy120
         clear hy120
         replace H := Option.bind_eq_some_iff.mp H
         obtain ⟨t123, A590, H⟩ := H
         replace H : (if t123 = true then (some (y120, true)) else (some (([] : List (S71)), false))) = some (r1, r2) := H
         have A59 := Aside0.mk A590
         clear A590
         by_cases c60 : t123 = true
         ·subst c60
          have H1 : (some (y120, true)) = some (r1, r2) := by rw [if_pos rfl] at H; exact H
          clear H
          have H := H1
          clear H1
          simp only [Option.some.injEq, Prod.mk.injEq] at H
          obtain ⟨rfl, rfl⟩ := H
          have hcz61_0 := cz_ BK101.out 0 _ rfl
          have hcz61_1 := cz_ BK101.out 1 _ rfl
          have hcz61_2 := cz_ BK101.out 2 _ rfl
          have hcz61_3 := cz_ BK101.out 3 _ rfl
          have hfz61_0 := blk_frozen BK101.out 0
          have hfz61_1 := blk_frozen BK101.out 1
          have hfz61_2 := blk_frozen BK101.out 2
          have hfz61_3 := blk_frozen BK101.out 3
          obtain ⟨Ao62, co62, eo62⟩ := Kd.R_slice HO_6.out
          subst eo62
          have p114 : 0 ≤ ((ji53) : Int) := of_decide_eq_true (by first | (with_reducible assumption) | assumption)
          have q114 : (ji53) < (t102.length : Int) := of_decide_eq_true (by first | (with_reducible assumption) | assumption)
          obtain ⟨ad114, e114, hx114_0, hx114_1, hx114_2, hx114_3, hx114_4, hx114_5, hx114_6, hx114_7⟩ := at_T71 (Kd.R_reads' HO_6.out).2.2 (ji53) p114 q114
          cases e114
          replace p114 := eq_true p114
          replace q114 := eq_true q114
          try go_wp2
          have n0_ := Aside0.mk (Kd.R_drew HO_6.out)
          have n1_ := Aside0.mk (blk_drew BK101.out)
          have n2_ := Aside0.mk (below_drew1 HB.out)
          clear HO_6
          clear BK101
          clear HB
          have HO_6 := n0_
          have BK101 := n1_
          have HB := n2_
          clear n0_ n1_ n2_
          have p115 : 0 ≤ ((ji53) : Int) := of_decide_eq_true (by first | (with_reducible assumption) | assumption)
          have q115 : (ji53) < (t102.length : Int) := of_decide_eq_true (by first | (with_reducible assumption) | assumption)
          obtain ⟨ad115, e115, hx115_0, hx115_1, hx115_2, hx115_3, hx115_4, hx115_5, hx115_6, hx115_7⟩ := at_T71 (Kd.R_reads' HO_6.out).2.2 (ji53) p115 q115
          obtain rfl : ad114 = ad115 := (by injection e115)
          replace p115 := eq_true p115
          replace q115 := eq_true q115
          have p56 : 0 ≤ ((ji53) : Int) := of_decide_eq_true (by first | (with_reducible assumption) | assumption)
          have q56 : ((ji53) : Int) < ((t102.length : Int) : Int) := of_decide_eq_true (by first | (with_reducible assumption) | assumption)
          obtain ⟨go56, co56, eo56, gb56, gl56, cl56, HG56⟩ := Kd.R_form HO_6.out (by omega)
          (first | cases eo56 | (injection eo56 with ea_ en_ ec_; (first | subst ea_ | (injection ea_ with ea_; subst ea_)); subst ec_; clear en_))
          have GB56 := Aside0.mk gb56
          have GG56 := Aside0.mk HG56
          clear gb56 gl56 HG56
          (first | simp only [add_plain] at hx114_0 | skip)
          (first | simp only [add_plain] at hx114_1 | skip)
          (first | simp only [add_plain] at hx114_2 | skip)
          (first | simp only [add_plain] at hx114_3 | skip)
          (first | simp only [add_plain] at hx114_4 | skip)
          (first | simp only [add_plain] at hx114_5 | skip)
          (first | simp only [add_plain] at hx114_6 | skip)
          (first | simp only [add_plain] at hx114_7 | skip)
          (first | simp only [add_plain] at hx115_0 | skip)
          (first | simp only [add_plain] at hx115_1 | skip)
          (first | simp only [add_plain] at hx115_2 | skip)
          (first | simp only [add_plain] at hx115_3 | skip)
          (first | simp only [add_plain] at hx115_4 | skip)
          (first | simp only [add_plain] at hx115_5 | skip)
          (first | simp only [add_plain] at hx115_6 | skip)
          (first | simp only [add_plain] at hx115_7 | skip)
          obtain ⟨ce56, hcl56, hM56, hcc56, hfr56⟩ := Kd.R_elem HO_6.out z71 ((ji53) : Int) p56 q56
          obtain rfl := k71_openM hM56
          have hx56_0 : World.cell? _ ⟨go56, ((ji53) : Int).toNat * 8, none⟩ = some (.int .i64 ((rd_T71 t102 (ji53)).f0)) := hcc56 0 _ rfl
          have hx56_1 : World.cell? _ ⟨go56, ((ji53) : Int).toNat * 8 + 1, none⟩ = some (.int .i64 ((rd_T71 t102 (ji53)).f1)) := hcc56 1 _ rfl
          have hx56_2 : World.cell? _ ⟨go56, ((ji53) : Int).toNat * 8 + 2, none⟩ = some (.int .i64 ((rd_T71 t102 (ji53)).f2)) := hcc56 2 _ rfl
          have hx56_3 : World.cell? _ ⟨go56, ((ji53) : Int).toNat * 8 + 3, none⟩ = some (.int .i64 ((rd_T71 t102 (ji53)).f3)) := hcc56 3 _ rfl
          have hx56_4 : World.cell? _ ⟨go56, ((ji53) : Int).toNat * 8 + 4, none⟩ = some (.int .i64 ((rd_T71 t102 (ji53)).f4)) := hcc56 4 _ rfl
          have hx56_5 : World.cell? _ ⟨go56, ((ji53) : Int).toNat * 8 + 5, none⟩ = some (.int .i64 ((rd_T71 t102 (ji53)).f5)) := hcc56 5 _ rfl
          have hx56_6 : World.cell? _ ⟨go56, ((ji53) : Int).toNat * 8 + 6, none⟩ = some (.int .i64 ((rd_T71 t102 (ji53)).f6)) := hcc56 6 _ rfl
          have hx56_7 : World.cell? _ ⟨go56, ((ji53) : Int).toNat * 8 + 7, none⟩ = some (.string ((rd_T71 t102 (ji53)).f7)) := hcc56 7 _ rfl
          have hf56_0 : World.frozen? _ ⟨go56, ((ji53) : Int).toNat * 8, none⟩ = false := hfr56 0
          have hf56_1 : World.frozen? _ ⟨go56, ((ji53) : Int).toNat * 8 + 1, none⟩ = false := hfr56 1
          have hf56_2 : World.frozen? _ ⟨go56, ((ji53) : Int).toNat * 8 + 2, none⟩ = false := hfr56 2
          have hf56_3 : World.frozen? _ ⟨go56, ((ji53) : Int).toNat * 8 + 3, none⟩ = false := hfr56 3
          have hf56_4 : World.frozen? _ ⟨go56, ((ji53) : Int).toNat * 8 + 4, none⟩ = false := hfr56 4
          have hf56_5 : World.frozen? _ ⟨go56, ((ji53) : Int).toNat * 8 + 5, none⟩ = false := hfr56 5
          have hf56_6 : World.frozen? _ ⟨go56, ((ji53) : Int).toNat * 8 + 6, none⟩ = false := hfr56 6
          have hf56_7 : World.frozen? _ ⟨go56, ((ji53) : Int).toNat * 8 + 7, none⟩ = false := hfr56 7
          clear hcl56 hcc56 hfr56 hM56
          replace p56 := eq_true p56
          replace q56 := eq_true q56
          obtain ⟨ce64, hcl64, hM64, hcc64, hfr64⟩ := Kd.R_elem HO_6.out z71 ((ji53) : Int) (of_decide_eq_true (by first | (with_reducible assumption) | assumption)) (by have h_ : ((ji53) : Int) < ((t102.length : Int) : Int) := of_decide_eq_true (by first | (with_reducible assumption) | assumption); first | exact h_ | (have e_ := (Kd.R_reads' HO_6.out).1; omega) | simpa using h_)
          obtain rfl := k71_openM hM64
          have HP64 := (Kd.R_seg HO_6.out ((ji53) : Int) (of_decide_eq_true (by first | (with_reducible assumption) | assumption)) (by have h_ : ((ji53) : Int) < ((t102.length : Int) : Int) := of_decide_eq_true (by first | (with_reducible assumption) | assumption); first | exact h_ | (have e_ := (Kd.R_reads' HO_6.out).1; omega) | simpa using h_) (seg := [.int .i64 (wrap64 (((rd_T71 t102 (ji53)).f4) - a1_2))]) (j := 4) hcl64 hcc64 (show 5 ≤ 8 from by decide) (x' := (⟨(rd_T71 t102 (ji53)).f0, (rd_T71 t102 (ji53)).f1, (rd_T71 t102 (ji53)).f2, (rd_T71 t102 (ji53)).f3, wrap64 (((rd_T71 t102 (ji53)).f4) - a1_2), (rd_T71 t102 (ji53)).f5, (rd_T71 t102 (ji53)).f6, (rd_T71 t102 (ji53)).f7⟩ : S71)) (k71_mkM _ _ _ (⟨(rd_T71 t102 (ji53)).f0, (rd_T71 t102 (ji53)).f1, (rd_T71 t102 (ji53)).f2, (rd_T71 t102 (ji53)).f3, wrap64 (((rd_T71 t102 (ji53)).f4) - a1_2), (rd_T71 t102 (ji53)).f5, (rd_T71 t102 (ji53)).f6, (rd_T71 t102 (ji53)).f7⟩ : S71) ) (fun _ hk => hk)).1
          rw [← Ny116.out] at HP64
          have HQ64 := Aside0.mk HP64
          clear hcl64 hcc64 hfr64 hM64 HP64
          refine start_ (n := 10) (S := fun w' => w'.cell? ⟨gb101, 0, none⟩ = some (.int .i64 a1_0) ∧ w'.cell? ⟨gb101, 1, none⟩ = some (.int .i64 a1_1) ∧ w'.cell? ⟨gb101, 2, none⟩ = some (.int .i64 a1_2) ∧ w'.cell? ⟨gb101, 3, none⟩ = some (.string a1_3) ∧ w'.cell? ⟨go56, (((ji53)).toNat * 8), none⟩ = some (.int .i64 ((rd_T71 t102 (ji53)).f0)) ∧ w'.cell? ⟨go56, (((ji53)).toNat * 8) + 1, none⟩ = some (.int .i64 ((rd_T71 t102 (ji53)).f1)) ∧ w'.cell? ⟨go56, (((ji53)).toNat * 8) + 2, none⟩ = some (.int .i64 ((rd_T71 t102 (ji53)).f2)) ∧ w'.cell? ⟨go56, (((ji53)).toNat * 8) + 3, none⟩ = some (.int .i64 ((rd_T71 t102 (ji53)).f3)) ∧ w'.cell? ⟨go56, (((ji53)).toNat * 8) + 4, none⟩ = some (.int .i64 ((rd_T71 t102 (ji53)).f4)) ∧ w'.cell? ⟨go56, (((ji53)).toNat * 8) + 5, none⟩ = some (.int .i64 ((rd_T71 t102 (ji53)).f5)) ∧ w'.cell? ⟨go56, (((ji53)).toNat * 8) + 6, none⟩ = some (.int .i64 ((rd_T71 t102 (ji53)).f6)) ∧ w'.cell? ⟨go56, (((ji53)).toNat * 8) + 7, none⟩ = some (.string ((rd_T71 t102 (ji53)).f7))) (ds := [9]) #[false, false, false, false, false, false, false, false, false, false] (by kernel_rfl) rfl rfl ⟨(blk_cell BK101.out 0).trans rfl, (blk_cell BK101.out 1).trans rfl, (blk_cell BK101.out 2).trans rfl, (blk_cell BK101.out 3).trans rfl, hx115_0, hx115_1, hx115_2, hx115_3, hx115_4, hx115_5, hx115_6, hx115_7⟩ (fun hHeld => ?_); refine with_tabW impl_apply.tab14 impl_apply.bits14 (fun HT_ HW_ => ?_)
          generalize wc.drew = w63 at HO_6 BK101 HB GG56 HQ64 hf56_0 hf56_1 hf56_2 hf56_3 hf56_4 hf56_5 hf56_6 hf56_7 hx114_0 hx114_1 hx114_2 hx114_3 hx114_4 hx114_5 hx114_6 hx114_7 hx115_0 hx115_1 hx115_2 hx115_3 hx115_4 hx115_5 hx115_6 hx115_7 hx56_0 hx56_1 hx56_2 hx56_3 hx56_4 hx56_5 hx56_6 hx56_7 hHeld ⊢
          refine pure_ (i := 0) (N := some 70) (v := ?_) (a' := ?_) #[true, false, false, false, false, false, false, false, false, false] rfl rfl (any_of HT_.out (by kernel_rfl)) (fun _ _ _ h => h) (Or.inl ⟨by rfl, ?_⟩) ?_ ?_
          rotate_left
          ·intro w'
           go_simp
           with_reducible rfl
          rotate_left
          ·simp only [Act.put, List.setIfInBounds_toArray, List.set_cons_zero, List.set_cons_succ, i64_w, i32_w]
           rfl
          refine pure_ (i := 1) (N := some 71) (v := ?_) (a' := ?_) #[true, true, false, false, false, false, false, false, false, false] rfl rfl (any_of HT_.out (by kernel_rfl)) (fun _ _ _ h => h) (Or.inl ⟨by rfl, ?_⟩) ?_ ?_
          rotate_left
          ·intro w'
           go_simp
           with_reducible rfl
          rotate_left
          ·simp only [Act.put, List.setIfInBounds_toArray, List.set_cons_zero, List.set_cons_succ, i64_w, i32_w]
           rfl
          refine pure_ (i := 2) (N := some 72) (v := ?_) (a' := ?_) #[true, true, true, false, false, false, false, false, false, false] rfl rfl (any_of HT_.out (by kernel_rfl)) (fun _ _ _ h => h) (Or.inl ⟨by rfl, ?_⟩) ?_ ?_
          rotate_left
          ·intro w'
           go_simp
           with_reducible rfl
          rotate_left
          ·simp only [Act.put, List.setIfInBounds_toArray, List.set_cons_zero, List.set_cons_succ, i64_w, i32_w]
           rfl
          refine pure_ (i := 4) (N := some 74) (v := ?_) (a' := ?_) #[true, true, true, false, true, false, false, false, false, false] rfl rfl (any_of HT_.out (by kernel_rfl)) (fun _ _ _ h => h) (Or.inl ⟨by rfl, ?_⟩) ?_ ?_
          rotate_left
          ·intro w'
           go_simp
           with_reducible rfl
          rotate_left
          ·simp only [Act.put, List.setIfInBounds_toArray, List.set_cons_zero, List.set_cons_succ, i64_w, i32_w]
           rfl
          refine take_ (i := 3) (N := some 73) (v := ?_) (a' := ?_) #[true, true, true, true, true, false, false, false, false, false] rfl rfl (take_ofW HT_.out HW_.out (by kernel_rfl)) (fun _ _ _ h => h) (Or.inl ⟨by rfl, ?_⟩) hHeld ?_ ?_
          rotate_left
          ·rintro w' ⟨s0, s1, s2, s3, s4, s5, s6, s7, s8, s9, s10, s11⟩
           go_simp
           with_reducible rfl
          rotate_left
          ·simp only [Act.put, List.setIfInBounds_toArray, List.set_cons_zero, List.set_cons_succ, i64_w, i32_w]
           rfl
          refine take_ (i := 5) (N := some 75) (v := ?_) (a' := ?_) #[true, true, true, true, true, true, false, false, false, false] rfl rfl (take_ofW HT_.out HW_.out (by kernel_rfl)) (fun _ _ _ h => h) (Or.inl ⟨by rfl, ?_⟩) hHeld ?_ ?_
          rotate_left
          ·rintro w' ⟨s0, s1, s2, s3, s4, s5, s6, s7, s8, s9, s10, s11⟩
           go_simp
           with_reducible rfl
          rotate_left
          ·simp only [Act.put, List.setIfInBounds_toArray, List.set_cons_zero, List.set_cons_succ, i64_w, i32_w]
           rfl
          refine pure_ (i := 6) (N := some 76) (v := ?_) (a' := ?_) #[true, true, true, true, true, true, true, false, false, false] rfl rfl (any_of HT_.out (by kernel_rfl)) (fun _ _ _ h => h) (Or.inl ⟨by rfl, ?_⟩) ?_ ?_
          rotate_left
          ·intro w'
           go_simp
           with_reducible rfl
          rotate_left
          ·simp only [Act.put, List.setIfInBounds_toArray, List.set_cons_zero, List.set_cons_succ, i64_w, i32_w]
           rfl
          refine pure_ (i := 7) (N := some 77) (v := ?_) (a' := ?_) #[true, true, true, true, true, true, true, true, false, false] rfl rfl (any_of HT_.out (by kernel_rfl)) (fun _ _ _ h => h) (Or.inl ⟨by rfl, ?_⟩) ?_ ?_
          rotate_left
          ·intro w'
           go_simp
           with_reducible rfl
          rotate_left
          ·simp only [Act.put, List.setIfInBounds_toArray, List.set_cons_zero, List.set_cons_succ, i64_w, i32_w]
           rfl
          refine pure_ (i := 8) (N := some 78) (v := ?_) (a' := ?_) #[true, true, true, true, true, true, true, true, true, false] rfl rfl (any_of HT_.out (by kernel_rfl)) (fun _ _ _ h => h) (Or.inl ⟨by rfl, ?_⟩) ?_ ?_
          rotate_left
          ·intro w'
           go_simp
           with_reducible rfl
          rotate_left
          ·simp only [Act.put, List.setIfInBounds_toArray, List.set_cons_zero, List.set_cons_succ, i64_w, i32_w]
           rfl
          refine last_ (i := 9) (N := none) #[true, true, true, true, true, true, true, true, true, true] rfl rfl (one_of HT_.out (by kernel_rfl)) (by decide) (fun K hK => ?_)
          refine skip_ (w1 := ?_) (by rfl) rfl ?_ ?_
          rotate_left
          ·go_simp
           rfl
          refine hK.out _ _ ?_
          clear hK K
          refine done_ (done_of HT_.out (by kernel_rfl)) ?_
          try go_wp2
          have n0_ : Aside0 (Kd.R k71 71 (w63.setCell ⟨go56, ((ji53) : Int).toNat * 8 + 4, none⟩ (.int .i64 (wrap64 (((rd_T71 t102 (ji53)).f4) - a1_2)))) w.heap.size (fun _ => True) (.slice (some ⟨go56, 0, none⟩) t102.length co62) y116) := ⟨by (with_reducible repeat (first | apply Kd.R_alloc | apply Kd.R_drewN | apply Kd.R_drew)); exact HQ64.out⟩
          have n1_ : Aside0 ((w63.setCell ⟨go56, ((ji53) : Int).toNat * 8 + 4, none⟩ (.int .i64 (wrap64 (((rd_T71 t102 (ji53)).f4) - a1_2)))).heap[gb101]? = some (.cells #[.int .i64 a1_0, .int .i64 a1_1, .int .i64 a1_2, .string a1_3] 61 (0, 0))) := ⟨by (with_reducible repeat (first | refine blk_drewN ?_ _ | refine blk_drew ?_ | refine blk_alloc ?_ _)); refine blk_far ?_ (by have h_ := Kd.R_ne HO_6.out BK101.out (by decide); intro e_; exact h_ (by rw [e_]; rfl)) _; (with_reducible repeat (first | refine blk_drewN ?_ _ | refine blk_drew ?_ | refine blk_alloc ?_ _)); exact BK101.out⟩
          have n2_ : Aside0 (Below w.heap.size w (w63.setCell ⟨go56, ((ji53) : Int).toNat * 8 + 4, none⟩ (.int .i64 (wrap64 (((rd_T71 t102 (ji53)).f4) - a1_2))))) := ⟨by repeat (first | (with_reducible first | exact HB.out | apply below_alloc | apply pw_below_drewN | apply below_drew1 | refine below_set ?_ GB56.out | refine below_set ?_ GE101.out) | exact HB.out)⟩
          (try clear HO_6)
          (try clear BK101)
          (try clear HB)
          generalize (w63.setCell ⟨go56, ((ji53) : Int).toNat * 8 + 4, none⟩ (.int .i64 (wrap64 (((rd_T71 t102 (ji53)).f4) - a1_2)))) = w65 at n0_ n1_ n2_ ⊢
          have HO_6 := n0_
          have BK101 := n1_
          have HB := n2_
          clear n0_ n1_ n2_
          have n0_ := Aside0.mk (Kd.R_drew HO_6.out)
          have n1_ := Aside0.mk (blk_drew BK101.out)
          have n2_ := Aside0.mk (below_drew1 HB.out)
          clear HO_6
          clear BK101
          clear HB
          have HO_6 := n0_
          have BK101 := n1_
          have HB := n2_
          clear n0_ n1_ n2_
          have p117 : 0 ≤ ((ji53) : Int) := of_decide_eq_true (by first | (with_reducible assumption) | assumption)
          have q117 : (ji53) < (y116.length : Int) := (by have h_ : ((ji53) : Int) < ((t102.length : Int) : Int) := of_decide_eq_true (by first | (with_reducible assumption) | assumption); first | (have e_ := (Kd.R_reads' HO_6.out).1; omega) | simpa only [Ny116.out, List.length_set] using h_)
          have ql117 : (((ji53) : Int) < ((t102.length : Int) : Int)) = True := eq_true (of_decide_eq_true (by first | (with_reducible assumption) | assumption))
          obtain ⟨ad117, e117, hx117_0, hx117_1, hx117_2, hx117_3, hx117_4, hx117_5, hx117_6, hx117_7⟩ := at_T71 (Kd.R_reads' HO_6.out).2.2 (ji53) p117 q117
          obtain rfl : (⟨go56, 0, none⟩ : Addr) = ad117 := (by injection e117)
          (first | simp only [add_plain] at hx117_0 | simp only [add_at] at hx117_0 | simp only [Addr.add, Nat.zero_add] at hx117_0 | skip)
          (first | simp only [add_plain] at hx117_1 | simp only [add_at] at hx117_1 | simp only [Addr.add, Nat.zero_add] at hx117_1 | skip)
          (first | simp only [add_plain] at hx117_2 | simp only [add_at] at hx117_2 | simp only [Addr.add, Nat.zero_add] at hx117_2 | skip)
          (first | simp only [add_plain] at hx117_3 | simp only [add_at] at hx117_3 | simp only [Addr.add, Nat.zero_add] at hx117_3 | skip)
          (first | simp only [add_plain] at hx117_4 | simp only [add_at] at hx117_4 | simp only [Addr.add, Nat.zero_add] at hx117_4 | skip)
          (first | simp only [add_plain] at hx117_5 | simp only [add_at] at hx117_5 | simp only [Addr.add, Nat.zero_add] at hx117_5 | skip)
          (first | simp only [add_plain] at hx117_6 | simp only [add_at] at hx117_6 | simp only [Addr.add, Nat.zero_add] at hx117_6 | skip)
          (first | simp only [add_plain] at hx117_7 | simp only [add_at] at hx117_7 | simp only [Addr.add, Nat.zero_add] at hx117_7 | skip)
          replace p117 := eq_true p117
          replace q117 := eq_true q117
          have p57 : 0 ≤ ((ji53) : Int) := of_decide_eq_true (by first | (with_reducible assumption) | assumption)
          have q57 : ((ji53) : Int) < ((t102.length : Int) : Int) := of_decide_eq_true (by first | (with_reducible assumption) | assumption)
          obtain ⟨ce57, hcl57, hM57, hcc57, hfr57⟩ := Kd.R_elem HO_6.out z71 ((ji53) : Int) p57 q57
          obtain rfl := k71_openM hM57
          have hx57_0 : World.cell? _ ⟨go56, ((ji53) : Int).toNat * 8, none⟩ = some (.int .i64 ((rd_T71 y116 (ji53)).f0)) := hcc57 0 _ rfl
          have hx57_1 : World.cell? _ ⟨go56, ((ji53) : Int).toNat * 8 + 1, none⟩ = some (.int .i64 ((rd_T71 y116 (ji53)).f1)) := hcc57 1 _ rfl
          have hx57_2 : World.cell? _ ⟨go56, ((ji53) : Int).toNat * 8 + 2, none⟩ = some (.int .i64 ((rd_T71 y116 (ji53)).f2)) := hcc57 2 _ rfl
          have hx57_3 : World.cell? _ ⟨go56, ((ji53) : Int).toNat * 8 + 3, none⟩ = some (.int .i64 ((rd_T71 y116 (ji53)).f3)) := hcc57 3 _ rfl
          have hx57_4 : World.cell? _ ⟨go56, ((ji53) : Int).toNat * 8 + 4, none⟩ = some (.int .i64 ((rd_T71 y116 (ji53)).f4)) := hcc57 4 _ rfl
          have hx57_5 : World.cell? _ ⟨go56, ((ji53) : Int).toNat * 8 + 5, none⟩ = some (.int .i64 ((rd_T71 y116 (ji53)).f5)) := hcc57 5 _ rfl
          have hx57_6 : World.cell? _ ⟨go56, ((ji53) : Int).toNat * 8 + 6, none⟩ = some (.int .i64 ((rd_T71 y116 (ji53)).f6)) := hcc57 6 _ rfl
          have hx57_7 : World.cell? _ ⟨go56, ((ji53) : Int).toNat * 8 + 7, none⟩ = some (.string ((rd_T71 y116 (ji53)).f7)) := hcc57 7 _ rfl
          have hf57_0 : World.frozen? _ ⟨go56, ((ji53) : Int).toNat * 8, none⟩ = false := hfr57 0
          have hf57_1 : World.frozen? _ ⟨go56, ((ji53) : Int).toNat * 8 + 1, none⟩ = false := hfr57 1
          have hf57_2 : World.frozen? _ ⟨go56, ((ji53) : Int).toNat * 8 + 2, none⟩ = false := hfr57 2
          have hf57_3 : World.frozen? _ ⟨go56, ((ji53) : Int).toNat * 8 + 3, none⟩ = false := hfr57 3
          have hf57_4 : World.frozen? _ ⟨go56, ((ji53) : Int).toNat * 8 + 4, none⟩ = false := hfr57 4
          have hf57_5 : World.frozen? _ ⟨go56, ((ji53) : Int).toNat * 8 + 5, none⟩ = false := hfr57 5
          have hf57_6 : World.frozen? _ ⟨go56, ((ji53) : Int).toNat * 8 + 6, none⟩ = false := hfr57 6
          have hf57_7 : World.frozen? _ ⟨go56, ((ji53) : Int).toNat * 8 + 7, none⟩ = false := hfr57 7
          clear hcl57 hcc57 hfr57 hM57
          replace p57 := eq_true p57
          replace q57 := eq_true q57
          obtain ⟨ce67, hcl67, hM67, hcc67, hfr67⟩ := Kd.R_elem HO_6.out z71 ((ji53) : Int) (of_decide_eq_true (by first | (with_reducible assumption) | assumption)) (by have h_ : ((ji53) : Int) < ((t102.length : Int) : Int) := of_decide_eq_true (by first | (with_reducible assumption) | assumption); first | exact h_ | (have e_ := (Kd.R_reads' HO_6.out).1; omega) | simpa using h_)
          obtain rfl := k71_openM hM67
          have HP67 := (Kd.R_seg HO_6.out ((ji53) : Int) (of_decide_eq_true (by first | (with_reducible assumption) | assumption)) (by have h_ : ((ji53) : Int) < ((t102.length : Int) : Int) := of_decide_eq_true (by first | (with_reducible assumption) | assumption); first | exact h_ | (have e_ := (Kd.R_reads' HO_6.out).1; omega) | simpa using h_) (seg := [.int .i64 (wrap64 (((rd_T71 y116 (ji53)).f6) + a1_2))]) (j := 6) hcl67 hcc67 (show 7 ≤ 8 from by decide) (x' := (⟨(rd_T71 y116 (ji53)).f0, (rd_T71 y116 (ji53)).f1, (rd_T71 y116 (ji53)).f2, (rd_T71 y116 (ji53)).f3, (rd_T71 y116 (ji53)).f4, (rd_T71 y116 (ji53)).f5, wrap64 (((rd_T71 y116 (ji53)).f6) + a1_2), (rd_T71 y116 (ji53)).f7⟩ : S71)) (k71_mkM _ _ _ (⟨(rd_T71 y116 (ji53)).f0, (rd_T71 y116 (ji53)).f1, (rd_T71 y116 (ji53)).f2, (rd_T71 y116 (ji53)).f3, (rd_T71 y116 (ji53)).f4, (rd_T71 y116 (ji53)).f5, wrap64 (((rd_T71 y116 (ji53)).f6) + a1_2), (rd_T71 y116 (ji53)).f7⟩ : S71) ) (fun _ hk => hk)).1
          rw [← Ny118.out] at HP67
          have HQ67 := Aside0.mk HP67
          clear hcl67 hcc67 hfr67 hM67 HP67
          refine start_ (n := 10) (S := fun w' => w'.cell? ⟨gb101, 0, none⟩ = some (.int .i64 a1_0) ∧ w'.cell? ⟨gb101, 1, none⟩ = some (.int .i64 a1_1) ∧ w'.cell? ⟨gb101, 2, none⟩ = some (.int .i64 a1_2) ∧ w'.cell? ⟨gb101, 3, none⟩ = some (.string a1_3) ∧ w'.cell? ⟨go56, ((ji53)).toNat * 8, none⟩ = some (.int .i64 ((rd_T71 y116 (ji53)).f0)) ∧ w'.cell? ⟨go56, ((ji53)).toNat * 8 + 1, none⟩ = some (.int .i64 ((rd_T71 y116 (ji53)).f1)) ∧ w'.cell? ⟨go56, ((ji53)).toNat * 8 + 2, none⟩ = some (.int .i64 ((rd_T71 y116 (ji53)).f2)) ∧ w'.cell? ⟨go56, ((ji53)).toNat * 8 + 3, none⟩ = some (.int .i64 ((rd_T71 y116 (ji53)).f3)) ∧ w'.cell? ⟨go56, ((ji53)).toNat * 8 + 4, none⟩ = some (.int .i64 ((rd_T71 y116 (ji53)).f4)) ∧ w'.cell? ⟨go56, ((ji53)).toNat * 8 + 5, none⟩ = some (.int .i64 ((rd_T71 y116 (ji53)).f5)) ∧ w'.cell? ⟨go56, ((ji53)).toNat * 8 + 6, none⟩ = some (.int .i64 ((rd_T71 y116 (ji53)).f6)) ∧ w'.cell? ⟨go56, ((ji53)).toNat * 8 + 7, none⟩ = some (.string ((rd_T71 y116 (ji53)).f7))) (ds := [9]) #[false, false, false, false, false, false, false, false, false, false] (by kernel_rfl) rfl rfl ⟨(blk_cell BK101.out 0).trans rfl, (blk_cell BK101.out 1).trans rfl, (blk_cell BK101.out 2).trans rfl, (blk_cell BK101.out 3).trans rfl, hx117_0, hx117_1, hx117_2, hx117_3, hx117_4, hx117_5, hx117_6, hx117_7⟩ (fun hHeld => ?_); refine with_tabW impl_apply.tab15 impl_apply.bits15 (fun HT_ HW_ => ?_)
          generalize w65.drew = w66 at HO_6 BK101 HB HQ64 HQ67 hf57_0 hf57_1 hf57_2 hf57_3 hf57_4 hf57_5 hf57_6 hf57_7 hx117_0 hx117_1 hx117_2 hx117_3 hx117_4 hx117_5 hx117_6 hx117_7 hx57_0 hx57_1 hx57_2 hx57_3 hx57_4 hx57_5 hx57_6 hx57_7 hHeld ⊢
          refine pure_ (i := 0) (N := some 79) (v := ?_) (a' := ?_) #[true, false, false, false, false, false, false, false, false, false] rfl rfl (any_of HT_.out (by kernel_rfl)) (fun _ _ _ h => h) (Or.inl ⟨by rfl, ?_⟩) ?_ ?_
          rotate_left
          ·intro w'
           go_simp
           with_reducible rfl
          rotate_left
          ·simp only [Act.put, List.setIfInBounds_toArray, List.set_cons_zero, List.set_cons_succ, i64_w, i32_w]
           rfl
          refine pure_ (i := 1) (N := some 80) (v := ?_) (a' := ?_) #[true, true, false, false, false, false, false, false, false, false] rfl rfl (any_of HT_.out (by kernel_rfl)) (fun _ _ _ h => h) (Or.inl ⟨by rfl, ?_⟩) ?_ ?_
          rotate_left
          ·intro w'
           go_simp
           with_reducible rfl
          rotate_left
          ·simp only [Act.put, List.setIfInBounds_toArray, List.set_cons_zero, List.set_cons_succ, i64_w, i32_w]
           rfl
          refine pure_ (i := 2) (N := some 81) (v := ?_) (a' := ?_) #[true, true, true, false, false, false, false, false, false, false] rfl rfl (any_of HT_.out (by kernel_rfl)) (fun _ _ _ h => h) (Or.inl ⟨by rfl, ?_⟩) ?_ ?_
          rotate_left
          ·intro w'
           go_simp
           with_reducible rfl
          rotate_left
          ·simp only [Act.put, List.setIfInBounds_toArray, List.set_cons_zero, List.set_cons_succ, i64_w, i32_w]
           rfl
          refine pure_ (i := 4) (N := some 83) (v := ?_) (a' := ?_) #[true, true, true, false, true, false, false, false, false, false] rfl rfl (any_of HT_.out (by kernel_rfl)) (fun _ _ _ h => h) (Or.inl ⟨by rfl, ?_⟩) ?_ ?_
          rotate_left
          ·intro w'
           go_simp
           with_reducible rfl
          rotate_left
          ·simp only [Act.put, List.setIfInBounds_toArray, List.set_cons_zero, List.set_cons_succ, i64_w, i32_w]
           rfl
          refine take_ (i := 3) (N := some 82) (v := ?_) (a' := ?_) #[true, true, true, true, true, false, false, false, false, false] rfl rfl (take_ofW HT_.out HW_.out (by kernel_rfl)) (fun _ _ _ h => h) (Or.inl ⟨by rfl, ?_⟩) hHeld ?_ ?_
          rotate_left
          ·rintro w' ⟨s0, s1, s2, s3, s4, s5, s6, s7, s8, s9, s10, s11⟩
           go_simp
           with_reducible rfl
          rotate_left
          ·simp only [Act.put, List.setIfInBounds_toArray, List.set_cons_zero, List.set_cons_succ, i64_w, i32_w]
           rfl
          refine take_ (i := 5) (N := some 84) (v := ?_) (a' := ?_) #[true, true, true, true, true, true, false, false, false, false] rfl rfl (take_ofW HT_.out HW_.out (by kernel_rfl)) (fun _ _ _ h => h) (Or.inl ⟨by rfl, ?_⟩) hHeld ?_ ?_
          rotate_left
          ·rintro w' ⟨s0, s1, s2, s3, s4, s5, s6, s7, s8, s9, s10, s11⟩
           go_simp
           with_reducible rfl
          rotate_left
          ·simp only [Act.put, List.setIfInBounds_toArray, List.set_cons_zero, List.set_cons_succ, i64_w, i32_w]
           rfl
          refine pure_ (i := 6) (N := some 85) (v := ?_) (a' := ?_) #[true, true, true, true, true, true, true, false, false, false] rfl rfl (any_of HT_.out (by kernel_rfl)) (fun _ _ _ h => h) (Or.inl ⟨by rfl, ?_⟩) ?_ ?_
          rotate_left
          ·intro w'
           go_simp
           with_reducible rfl
          rotate_left
          ·simp only [Act.put, List.setIfInBounds_toArray, List.set_cons_zero, List.set_cons_succ, i64_w, i32_w]
           rfl
          refine pure_ (i := 7) (N := some 86) (v := ?_) (a' := ?_) #[true, true, true, true, true, true, true, true, false, false] rfl rfl (any_of HT_.out (by kernel_rfl)) (fun _ _ _ h => h) (Or.inl ⟨by rfl, ?_⟩) ?_ ?_
          rotate_left
          ·intro w'
           go_simp
           with_reducible rfl
          rotate_left
          ·simp only [Act.put, List.setIfInBounds_toArray, List.set_cons_zero, List.set_cons_succ, i64_w, i32_w]
           rfl
          refine pure_ (i := 8) (N := some 87) (v := ?_) (a' := ?_) #[true, true, true, true, true, true, true, true, true, false] rfl rfl (any_of HT_.out (by kernel_rfl)) (fun _ _ _ h => h) (Or.inl ⟨by rfl, ?_⟩) ?_ ?_
          rotate_left
          ·intro w'
           go_simp
           with_reducible rfl
          rotate_left
          ·simp only [Act.put, List.setIfInBounds_toArray, List.set_cons_zero, List.set_cons_succ, i64_w, i32_w]
           rfl
          refine last_ (i := 9) (N := none) #[true, true, true, true, true, true, true, true, true, true] rfl rfl (one_of HT_.out (by kernel_rfl)) (by decide) (fun K hK => ?_)
          refine skip_ (w1 := ?_) (by rfl) rfl ?_ ?_
          rotate_left
          ·go_simp
           rfl
          refine hK.out _ _ ?_
          clear hK K
          refine done_ (done_of HT_.out (by kernel_rfl)) ?_
          try go_wp2
          have n0_ : Aside0 (Kd.R k71 71 (w66.setCell ⟨go56, ((ji53) : Int).toNat * 8 + 6, none⟩ (.int .i64 (wrap64 (((rd_T71 y116 (ji53)).f6) + a1_2)))) w.heap.size (fun _ => True) (.slice (some ⟨go56, 0, none⟩) t102.length co62) y118) := ⟨by (with_reducible repeat (first | apply Kd.R_alloc | apply Kd.R_drewN | apply Kd.R_drew)); exact HQ67.out⟩
          have n1_ : Aside0 ((w66.setCell ⟨go56, ((ji53) : Int).toNat * 8 + 6, none⟩ (.int .i64 (wrap64 (((rd_T71 y116 (ji53)).f6) + a1_2)))).heap[gb101]? = some (.cells #[.int .i64 a1_0, .int .i64 a1_1, .int .i64 a1_2, .string a1_3] 61 (0, 0))) := ⟨by (with_reducible repeat (first | refine blk_drewN ?_ _ | refine blk_drew ?_ | refine blk_alloc ?_ _)); refine blk_far ?_ (by have h_ := Kd.R_ne HO_6.out BK101.out (by decide); intro e_; exact h_ (by rw [e_]; rfl)) _; (with_reducible repeat (first | refine blk_drewN ?_ _ | refine blk_drew ?_ | refine blk_alloc ?_ _)); exact BK101.out⟩
          have n2_ : Aside0 (Below w.heap.size w (w66.setCell ⟨go56, ((ji53) : Int).toNat * 8 + 6, none⟩ (.int .i64 (wrap64 (((rd_T71 y116 (ji53)).f6) + a1_2))))) := ⟨by repeat (first | (with_reducible first | exact HB.out | apply below_alloc | apply pw_below_drewN | apply below_drew1 | refine below_set ?_ GB56.out | refine below_set ?_ GE101.out) | exact HB.out)⟩
          (try clear HO_6)
          (try clear BK101)
          (try clear HB)
          generalize (w66.setCell ⟨go56, ((ji53) : Int).toNat * 8 + 6, none⟩ (.int .i64 (wrap64 (((rd_T71 y116 (ji53)).f6) + a1_2)))) = w68 at n0_ n1_ n2_ ⊢
          have HO_6 := n0_
          have BK101 := n1_
          have HB := n2_
          clear n0_ n1_ n2_
          have n0_ := Aside0.mk (Kd.R_drew HO_6.out)
          have n1_ := Aside0.mk (blk_drew BK101.out)
          have n2_ := Aside0.mk (below_drew1 HB.out)
          clear HO_6
          clear BK101
          clear HB
          have HO_6 := n0_
          have BK101 := n1_
          have HB := n2_
          clear n0_ n1_ n2_
          have p119 : 0 ≤ ((ji53) : Int) := of_decide_eq_true (by first | (with_reducible assumption) | assumption)
          have q119 : (ji53) < (y118.length : Int) := (by have h_ : ((ji53) : Int) < ((t102.length : Int) : Int) := of_decide_eq_true (by first | (with_reducible assumption) | assumption); first | (have e_ := (Kd.R_reads' HO_6.out).1; omega) | simpa only [Ny116.out, Ny118.out, List.length_set] using h_)
          have ql119 : (((ji53) : Int) < ((t102.length : Int) : Int)) = True := eq_true (of_decide_eq_true (by first | (with_reducible assumption) | assumption))
          obtain ⟨ad119, e119, hx119_0, hx119_1, hx119_2, hx119_3, hx119_4, hx119_5, hx119_6, hx119_7⟩ := at_T71 (Kd.R_reads' HO_6.out).2.2 (ji53) p119 q119
          obtain rfl : (⟨go56, 0, none⟩ : Addr) = ad119 := (by injection e119)
          (first | simp only [add_plain] at hx119_0 | simp only [add_at] at hx119_0 | simp only [Addr.add, Nat.zero_add] at hx119_0 | skip)
          (first | simp only [add_plain] at hx119_1 | simp only [add_at] at hx119_1 | simp only [Addr.add, Nat.zero_add] at hx119_1 | skip)
          (first | simp only [add_plain] at hx119_2 | simp only [add_at] at hx119_2 | simp only [Addr.add, Nat.zero_add] at hx119_2 | skip)
          (first | simp only [add_plain] at hx119_3 | simp only [add_at] at hx119_3 | simp only [Addr.add, Nat.zero_add] at hx119_3 | skip)
          (first | simp only [add_plain] at hx119_4 | simp only [add_at] at hx119_4 | simp only [Addr.add, Nat.zero_add] at hx119_4 | skip)
          (first | simp only [add_plain] at hx119_5 | simp only [add_at] at hx119_5 | simp only [Addr.add, Nat.zero_add] at hx119_5 | skip)
          (first | simp only [add_plain] at hx119_6 | simp only [add_at] at hx119_6 | simp only [Addr.add, Nat.zero_add] at hx119_6 | skip)
          (first | simp only [add_plain] at hx119_7 | simp only [add_at] at hx119_7 | simp only [Addr.add, Nat.zero_add] at hx119_7 | skip)
          replace p119 := eq_true p119
          replace q119 := eq_true q119
          refine start_ (n := 20) (S := fun w' => w'.cell? ⟨gb101, 0, none⟩ = some (.int .i64 a1_0) ∧ w'.cell? ⟨gb101, 1, none⟩ = some (.int .i64 a1_1) ∧ w'.cell? ⟨gb101, 2, none⟩ = some (.int .i64 a1_2) ∧ w'.cell? ⟨gb101, 3, none⟩ = some (.string a1_3) ∧ w'.cell? ⟨go56, ((ji53)).toNat * 8, none⟩ = some (.int .i64 ((rd_T71 y118 (ji53)).f0)) ∧ w'.cell? ⟨go56, ((ji53)).toNat * 8 + 1, none⟩ = some (.int .i64 ((rd_T71 y118 (ji53)).f1)) ∧ w'.cell? ⟨go56, ((ji53)).toNat * 8 + 2, none⟩ = some (.int .i64 ((rd_T71 y118 (ji53)).f2)) ∧ w'.cell? ⟨go56, ((ji53)).toNat * 8 + 3, none⟩ = some (.int .i64 ((rd_T71 y118 (ji53)).f3)) ∧ w'.cell? ⟨go56, ((ji53)).toNat * 8 + 4, none⟩ = some (.int .i64 ((rd_T71 y118 (ji53)).f4)) ∧ w'.cell? ⟨go56, ((ji53)).toNat * 8 + 5, none⟩ = some (.int .i64 ((rd_T71 y118 (ji53)).f5)) ∧ w'.cell? ⟨go56, ((ji53)).toNat * 8 + 6, none⟩ = some (.int .i64 ((rd_T71 y118 (ji53)).f6)) ∧ w'.cell? ⟨go56, ((ji53)).toNat * 8 + 7, none⟩ = some (.string ((rd_T71 y118 (ji53)).f7))) (ds := [17, 18]) #[false, false, false, false, false, false, false, false, false, false, false, false, false, false, false, false, false, false, false, false] (by kernel_rfl) rfl rfl ⟨(blk_cell BK101.out 0).trans rfl, (blk_cell BK101.out 1).trans rfl, (blk_cell BK101.out 2).trans rfl, (blk_cell BK101.out 3).trans rfl, hx119_0, hx119_1, hx119_2, hx119_3, hx119_4, hx119_5, hx119_6, hx119_7⟩ (fun hHeld => ?_); refine with_tabW impl_apply.tab16 impl_apply.bits16 (fun HT_ HW_ => ?_)
          generalize w68.drew = w69 at HO_6 BK101 HB HQ67 hx119_0 hx119_1 hx119_2 hx119_3 hx119_4 hx119_5 hx119_6 hx119_7 hHeld ⊢
          refine pure_ (i := 0) (N := some 88) (v := ?_) (a' := ?_) #[true, false, false, false, false, false, false, false, false, false, false, false, false, false, false, false, false, false, false, false] rfl rfl (any_of HT_.out (by kernel_rfl)) (fun _ _ _ h => h) (Or.inl ⟨by rfl, ?_⟩) ?_ ?_
          rotate_left
          ·intro w'
           go_simp
           with_reducible rfl
          rotate_left
          ·simp only [Act.put, List.setIfInBounds_toArray, List.set_cons_zero, List.set_cons_succ, i64_w, i32_w]
           rfl
          refine pure_ (i := 1) (N := some 89) (v := ?_) (a' := ?_) #[true, true, false, false, false, false, false, false, false, false, false, false, false, false, false, false, false, false, false, false] rfl rfl (any_of HT_.out (by kernel_rfl)) (fun _ _ _ h => h) (Or.inl ⟨by rfl, ?_⟩) ?_ ?_
          rotate_left
          ·intro w'
           go_simp
           with_reducible rfl
          rotate_left
          ·simp only [Act.put, List.setIfInBounds_toArray, List.set_cons_zero, List.set_cons_succ, i64_w, i32_w]
           rfl
          refine pure_ (i := 2) (N := some 90) (v := ?_) (a' := ?_) #[true, true, true, false, false, false, false, false, false, false, false, false, false, false, false, false, false, false, false, false] rfl rfl (any_of HT_.out (by kernel_rfl)) (fun _ _ _ h => h) (Or.inl ⟨by rfl, ?_⟩) ?_ ?_
          rotate_left
          ·intro w'
           go_simp
           with_reducible rfl
          rotate_left
          ·simp only [Act.put, List.setIfInBounds_toArray, List.set_cons_zero, List.set_cons_succ, i64_w, i32_w]
           rfl
          refine pure_ (i := 3) (N := some 91) (v := ?_) (a' := ?_) #[true, true, true, true, false, false, false, false, false, false, false, false, false, false, false, false, false, false, false, false] rfl rfl (any_of HT_.out (by kernel_rfl)) (fun _ _ _ h => h) (Or.inl ⟨by rfl, ?_⟩) ?_ ?_
          rotate_left
          ·intro w'
           go_simp
           with_reducible rfl
          rotate_left
          ·simp only [Act.put, List.setIfInBounds_toArray, List.set_cons_zero, List.set_cons_succ, i64_w, i32_w]
           rfl
          refine pure_ (i := 4) (N := some 92) (v := ?_) (a' := ?_) #[true, true, true, true, true, false, false, false, false, false, false, false, false, false, false, false, false, false, false, false] rfl rfl (any_of HT_.out (by kernel_rfl)) (fun _ _ _ h => h) (Or.inl ⟨by rfl, ?_⟩) ?_ ?_
          rotate_left
          ·intro w'
           go_simp
           with_reducible rfl
          rotate_left
          ·simp only [Act.put, List.setIfInBounds_toArray, List.set_cons_zero, List.set_cons_succ, i64_w, i32_w]
           rfl
          refine pure_ (i := 6) (N := some 94) (v := ?_) (a' := ?_) #[true, true, true, true, true, false, true, false, false, false, false, false, false, false, false, false, false, false, false, false] rfl rfl (any_of HT_.out (by kernel_rfl)) (fun _ _ _ h => h) (Or.inl ⟨by rfl, ?_⟩) ?_ ?_
          rotate_left
          ·intro w'
           go_simp
           with_reducible rfl
          rotate_left
          ·simp only [Act.put, List.setIfInBounds_toArray, List.set_cons_zero, List.set_cons_succ, i64_w, i32_w]
           rfl
          refine pure_ (i := 7) (N := some 95) (v := ?_) (a' := ?_) #[true, true, true, true, true, false, true, true, false, false, false, false, false, false, false, false, false, false, false, false] rfl rfl (any_of HT_.out (by kernel_rfl)) (fun _ _ _ h => h) (Or.inl ⟨by rfl, ?_⟩) ?_ ?_
          rotate_left
          ·intro w'
           go_simp
           with_reducible rfl
          rotate_left
          ·simp only [Act.put, List.setIfInBounds_toArray, List.set_cons_zero, List.set_cons_succ, i64_w, i32_w]
           rfl
          refine pure_ (i := 8) (N := some 96) (v := ?_) (a' := ?_) #[true, true, true, true, true, false, true, true, true, false, false, false, false, false, false, false, false, false, false, false] rfl rfl (any_of HT_.out (by kernel_rfl)) (fun _ _ _ h => h) (Or.inl ⟨by rfl, ?_⟩) ?_ ?_
          rotate_left
          ·intro w'
           go_simp
           with_reducible rfl
          rotate_left
          ·simp only [Act.put, List.setIfInBounds_toArray, List.set_cons_zero, List.set_cons_succ, i64_w, i32_w]
           rfl
          refine pure_ (i := 10) (N := some 98) (v := ?_) (a' := ?_) #[true, true, true, true, true, false, true, true, true, false, true, false, false, false, false, false, false, false, false, false] rfl rfl (any_of HT_.out (by kernel_rfl)) (fun _ _ _ h => h) (Or.inl ⟨by rfl, ?_⟩) ?_ ?_
          rotate_left
          ·intro w'
           go_simp
           with_reducible rfl
          rotate_left
          ·simp only [Act.put, List.setIfInBounds_toArray, List.set_cons_zero, List.set_cons_succ, i64_w, i32_w]
           rfl
          refine pure_ (i := 12) (N := some 100) (v := ?_) (a' := ?_) #[true, true, true, true, true, false, true, true, true, false, true, false, true, false, false, false, false, false, false, false] rfl rfl (any_of HT_.out (by kernel_rfl)) (fun _ _ _ h => h) (Or.inl ⟨by rfl, ?_⟩) ?_ ?_
          rotate_left
          ·intro w'
           go_simp
           with_reducible rfl
          rotate_left
          ·simp only [Act.put, List.setIfInBounds_toArray, List.set_cons_zero, List.set_cons_succ, i64_w, i32_w]
           rfl
          refine pure_ (i := 14) (N := some 102) (v := ?_) (a' := ?_) #[true, true, true, true, true, false, true, true, true, false, true, false, true, false, true, false, false, false, false, false] rfl rfl (any_of HT_.out (by kernel_rfl)) (fun _ _ _ h => h) (Or.inl ⟨by rfl, ?_⟩) ?_ ?_
          rotate_left
          ·intro w'
           go_simp
           with_reducible rfl
          rotate_left
          ·simp only [Act.put, List.setIfInBounds_toArray, List.set_cons_zero, List.set_cons_succ, i64_w, i32_w]
           rfl
          refine take_ (i := 5) (N := some 93) (v := ?_) (a' := ?_) #[true, true, true, true, true, true, true, true, true, false, true, false, true, false, true, false, false, false, false, false] rfl rfl (take_ofW HT_.out HW_.out (by kernel_rfl)) (fun _ _ _ h => h) (Or.inl ⟨by rfl, ?_⟩) hHeld ?_ ?_
          rotate_left
          ·rintro w' ⟨s0, s1, s2, s3, s4, s5, s6, s7, s8, s9, s10, s11⟩
           go_simp
           with_reducible rfl
          rotate_left
          ·simp only [Act.put, List.setIfInBounds_toArray, List.set_cons_zero, List.set_cons_succ, i64_w, i32_w]
           rfl
          refine take_ (i := 9) (N := some 97) (v := ?_) (a' := ?_) #[true, true, true, true, true, true, true, true, true, true, true, false, true, false, true, false, false, false, false, false] rfl rfl (take_ofW HT_.out HW_.out (by kernel_rfl)) (fun _ _ _ h => h) (Or.inl ⟨by rfl, ?_⟩) hHeld ?_ ?_
          rotate_left
          ·rintro w' ⟨s0, s1, s2, s3, s4, s5, s6, s7, s8, s9, s10, s11⟩
           go_simp
           with_reducible rfl
          rotate_left
          ·simp only [Act.put, List.setIfInBounds_toArray, List.set_cons_zero, List.set_cons_succ, i64_w, i32_w]
           rfl
          refine take_ (i := 11) (N := some 99) (v := ?_) (a' := ?_) #[true, true, true, true, true, true, true, true, true, true, true, true, true, false, true, false, false, false, false, false] rfl rfl (take_ofW HT_.out HW_.out (by kernel_rfl)) (fun _ _ _ h => h) (Or.inl ⟨by rfl, ?_⟩) hHeld ?_ ?_
          rotate_left
          ·rintro w' ⟨s0, s1, s2, s3, s4, s5, s6, s7, s8, s9, s10, s11⟩
           go_simp
           with_reducible rfl
          rotate_left
          ·simp only [Act.put, List.setIfInBounds_toArray, List.set_cons_zero, List.set_cons_succ, i64_w, i32_w]
           rfl
          refine take_ (i := 13) (N := some 101) (v := ?_) (a' := ?_) #[true, true, true, true, true, true, true, true, true, true, true, true, true, true, true, false, false, false, false, false] rfl rfl (take_ofW HT_.out HW_.out (by kernel_rfl)) (fun _ _ _ h => h) (Or.inl ⟨by rfl, ?_⟩) hHeld ?_ ?_
          rotate_left
          ·rintro w' ⟨s0, s1, s2, s3, s4, s5, s6, s7, s8, s9, s10, s11⟩
           go_simp
           with_reducible rfl
          rotate_left
          ·simp only [Act.put, List.setIfInBounds_toArray, List.set_cons_zero, List.set_cons_succ, i64_w, i32_w]
           rfl
          refine take_ (i := 15) (N := some 103) (v := ?_) (a' := ?_) #[true, true, true, true, true, true, true, true, true, true, true, true, true, true, true, true, false, false, false, false] rfl rfl (take_ofW HT_.out HW_.out (by kernel_rfl)) (fun _ _ _ h => h) (Or.inl ⟨by rfl, ?_⟩) hHeld ?_ ?_
          rotate_left
          ·rintro w' ⟨s0, s1, s2, s3, s4, s5, s6, s7, s8, s9, s10, s11⟩
           go_simp
           with_reducible rfl
          rotate_left
          ·simp only [Act.put, List.setIfInBounds_toArray, List.set_cons_zero, List.set_cons_succ, i64_w, i32_w]
           rfl
          refine pure_ (i := 16) (N := some 104) (v := ?_) (a' := ?_) #[true, true, true, true, true, true, true, true, true, true, true, true, true, true, true, true, true, false, false, false] rfl rfl (any_of HT_.out (by kernel_rfl)) (fun _ _ _ h => h) (Or.inl ⟨by rfl, ?_⟩) ?_ ?_
          rotate_left
          ·intro w'
           go_simp
           with_reducible rfl
          rotate_left
          ·simp only [Act.put, List.setIfInBounds_toArray, List.set_cons_zero, List.set_cons_succ, i64_w, i32_w]
           rfl
          refine last_ (i := 17) (N := some 105) #[true, true, true, true, true, true, true, true, true, true, true, true, true, true, true, true, true, true, false, false] rfl rfl (one_of HT_.out (by kernel_rfl)) (by decide) (fun K hK => ?_)
          refine value_ (w1 := ?_) (v := ?_) (by rfl) rfl ?_ ?_
          rotate_left 2
          ·go_simp
           constructor
           ·rfl
           rfl
          refine hK.out _ _ ?_
          clear hK K
          refine norm_ (a' := ?_) ?_ ?_
          rotate_left
          ·show Act.put _ (some 105) _ = _
           simp only [Act.put, List.setIfInBounds_toArray, List.set_cons_zero, List.set_cons_succ, i64_w, i32_w]
           rfl
          refine last_ (i := 18) (N := some 106) #[true, true, true, true, true, true, true, true, true, true, true, true, true, true, true, true, true, true, true, false] rfl rfl (one_of HT_.out (by kernel_rfl)) (by decide) (fun K hK => ?_)
          refine Kd.R_append_step k71 (w0 := w) w.heap.size (by rfl) (.tmp 88) (.tmp 105) 47 71 (.agg #[(.int .i64 0), (.int .i64 0), (.int .i64 0), (.int .i64 0), (.int .i64 0), (.int .i64 0), (.int .i64 0), (.string ⟨#[]⟩)]) 72 rfl Try.underlying47 info71 rfl (by decide) (by omega) (.slice (some ⟨go56, 0, none⟩) t102.length co62) y118 (⟨wrap64 ((t102.length : Int) + 1), a1_1, (rd_T71 y118 (ji53)).f2, a1_2, a1_2, 0, 0, a1_3⟩ : S71) [.int .i64 (wrap64 ((t102.length : Int) + 1)), .int .i64 a1_1, .int .i64 ((rd_T71 y118 (ji53)).f2), .int .i64 a1_2, .int .i64 a1_2, .int .i64 0, .int .i64 0, .string a1_3] (fun _ => True) (fun _ => False) rfl rfl ?aP (fun _ hk => hk.elim) ?aF ?aO ?aB ?aS ?aL ?_
          (case aP => exact k71_mkM _ _ _ (⟨wrap64 ((t102.length : Int) + 1), a1_1, (rd_T71 y118 (ji53)).f2, a1_2, a1_2, 0, 0, a1_3⟩ : S71))
          (case aB => exact (pH_ HB.out))
          (case aF => exact (fun _ _ => trivial))
          (case aO => exact (pR_ HO_6.out))
          (case aS => exact (below_size (pH_ HB.out)))
          (case aL => have := LMc58.out; omega)
          intro v121 w70 ho hb hg hat
          rw [← Ny120.out] at ho
          have n0_ := Aside0.mk (blk_grown (g := gb101) (o := .cells #[.int .i64 a1_0, .int .i64 a1_1, .int .i64 a1_2, .string a1_3] 61 (0, 0)) (pB_ BK101.out) hg (Kd.R_ne HO_6.out BK101.out (by decide)))
          have n1_ := Aside0.mk (hb)
          have n2_ := Aside0.mk (ho)
          clear BK101
          clear HB
          clear HO_6
          have BK101 := n0_
          have HB := n1_
          have HO122 := n2_
          clear n0_ n1_ n2_
          clear ho hb hg hat
          refine hK.out _ _ ?_
          clear hK K
          refine norm_ (a' := ?_) ?_ ?_
          rotate_left
          ·show Act.put _ (some 106) _ = _
           simp only [Act.put, List.setIfInBounds_toArray, List.set_cons_zero, List.set_cons_succ, i64_w, i32_w]
           rfl
          refine pure_ (i := 19) (N := some 6) (v := ?_) (a' := ?_) #[true, true, true, true, true, true, true, true, true, true, true, true, true, true, true, true, true, true, true, true] rfl rfl (any_of HT_.out (by kernel_rfl)) (fun _ _ _ h => h) (Or.inl ⟨by rfl, ?_⟩) ?_ ?_
          rotate_left
          ·intro w'
           go_simp
           with_reducible rfl
          rotate_left
          ·simp only [Act.put, List.setIfInBounds_toArray, List.set_cons_zero, List.set_cons_succ, i64_w, i32_w]
           rfl
          refine done_ (done_of HT_.out (by kernel_rfl)) ?_
          obtain ⟨Ao71, co71, eo71⟩ := Kd.R_slice HO122.out
          subst eo71
          try go_wp2_with (first | ((with_reducible refine gate_callee (f := 33) rfl ?_); refine goesL_ (some 137) rfl rfl Try.func33 (by kernel_rfl) rfl #[.slice Ao71 y120.length co71] rfl (by (try simp only [List.map_toArray, List.map_cons, List.map_nil]); first | done | rfl | (simp only [List.length_drop, List.length_take]; rfl)) ?_; (with_reducible refine (impl_IsValidSamples.calls kj11 _ _ y120 true _ ?side1 ?side2 A59.out).mono ?_); (case side1 => repeat (first | exact (Kd.R_reads' HO122.out).2.2 | (with_reducible refine Kd.C_alloc ?_ _) | (with_reducible refine Kd.C_drewN ?_ _) | (with_reducible refine Kd.C_drew ?_))); (case side2 => exact (Kd.R_reads' HO122.out).2.1); rintro e w72 ⟨rfl, hb⟩; refine ⟨_, rfl, ?_⟩; have n0_ := Aside0.mk (Kd.R_below (pR_ HO122.out) hb); have n1_ := Aside0.mk (blk_below (g := gb101) (o := .cells #[.int .i64 a1_0, .int .i64 a1_1, .int .i64 a1_2, .string a1_3] 61 (0, 0)) (pB_ BK101.out) hb); have n2_ := Aside0.mk (below_step (pH_ HB.out) hb); clear HO122; clear BK101; clear HB; have HO122 := n0_; have BK101 := n1_; have HB := n2_; clear n0_ n1_ n2_; (try clear hb); (try clear hb2); (try clear hk); (try clear hi)))
          go_ret2
          exact ⟨_, by first | rfl | (simp [errW_none, errW_some] <;> rfl) | (simp only [← hji53]; first | rfl | (simp [errW_none, errW_some] <;> rfl)) | (simp [*, errW_none, errW_some] <;> rfl), by (with_reducible repeat (first | apply Kd.R_alloc | apply Kd.R_drewN | apply Kd.R_drew)); exact HO122.out, by repeat (first | (with_reducible first | exact HB.out | apply below_alloc | apply pw_below_drewN | apply below_drew1 | refine below_set ?_ GE101.out) | exact HB.out)⟩
         replace c60 := Bool.eq_false_iff.mpr c60
         subst c60
         have H1 : (some (([] : List (S71)), false)) = some (r1, r2) := by rw [if_neg (show ¬ (false = true) by decide)] at H; exact H
         clear H
         have H := H1
         clear H1
         simp only [Option.some.injEq, Prod.mk.injEq] at H
         obtain ⟨rfl, rfl⟩ := H
         have hcz73_0 := cz_ BK101.out 0 _ rfl
         have hcz73_1 := cz_ BK101.out 1 _ rfl
         have hcz73_2 := cz_ BK101.out 2 _ rfl
         have hcz73_3 := cz_ BK101.out 3 _ rfl
         have hfz73_0 := blk_frozen BK101.out 0
         have hfz73_1 := blk_frozen BK101.out 1
         have hfz73_2 := blk_frozen BK101.out 2
         have hfz73_3 := blk_frozen BK101.out 3
         obtain ⟨Ao74, co74, eo74⟩ := Kd.R_slice HO_6.out
         subst eo74
         have p114 : 0 ≤ ((ji53) : Int) := of_decide_eq_true (by first | (with_reducible assumption) | assumption)
         have q114 : (ji53) < (t102.length : Int) := of_decide_eq_true (by first | (with_reducible assumption) | assumption)
         obtain ⟨ad114, e114, hx114_0, hx114_1, hx114_2, hx114_3, hx114_4, hx114_5, hx114_6, hx114_7⟩ := at_T71 (Kd.R_reads' HO_6.out).2.2 (ji53) p114 q114
         cases e114
         replace p114 := eq_true p114
         replace q114 := eq_true q114
         try go_wp2
         have n0_ := Aside0.mk (Kd.R_drew HO_6.out)
         have n1_ := Aside0.mk (blk_drew BK101.out)
         have n2_ := Aside0.mk (below_drew1 HB.out)
         clear HO_6
         clear BK101
         clear HB
         have HO_6 := n0_
         have BK101 := n1_
         have HB := n2_
         clear n0_ n1_ n2_
         have p115 : 0 ≤ ((ji53) : Int) := of_decide_eq_true (by first | (with_reducible assumption) | assumption)
         have q115 : (ji53) < (t102.length : Int) := of_decide_eq_true (by first | (with_reducible assumption) | assumption)
         obtain ⟨ad115, e115, hx115_0, hx115_1, hx115_2, hx115_3, hx115_4, hx115_5, hx115_6, hx115_7⟩ := at_T71 (Kd.R_reads' HO_6.out).2.2 (ji53) p115 q115
         obtain rfl : ad114 = ad115 := (by injection e115)
         replace p115 := eq_true p115
         replace q115 := eq_true q115
         have p56 : 0 ≤ ((ji53) : Int) := of_decide_eq_true (by first | (with_reducible assumption) | assumption)
         have q56 : ((ji53) : Int) < ((t102.length : Int) : Int) := of_decide_eq_true (by first | (with_reducible assumption) | assumption)
         obtain ⟨go56, co56, eo56, gb56, gl56, cl56, HG56⟩ := Kd.R_form HO_6.out (by omega)
         (first | cases eo56 | (injection eo56 with ea_ en_ ec_; (first | subst ea_ | (injection ea_ with ea_; subst ea_)); subst ec_; clear en_))
         have GB56 := Aside0.mk gb56
         have GG56 := Aside0.mk HG56
         clear gb56 gl56 HG56
         (first | simp only [add_plain] at hx114_0 | skip)
         (first | simp only [add_plain] at hx114_1 | skip)
         (first | simp only [add_plain] at hx114_2 | skip)
         (first | simp only [add_plain] at hx114_3 | skip)
         (first | simp only [add_plain] at hx114_4 | skip)
         (first | simp only [add_plain] at hx114_5 | skip)
         (first | simp only [add_plain] at hx114_6 | skip)
         (first | simp only [add_plain] at hx114_7 | skip)
         (first | simp only [add_plain] at hx115_0 | skip)
         (first | simp only [add_plain] at hx115_1 | skip)
         (first | simp only [add_plain] at hx115_2 | skip)
         (first | simp only [add_plain] at hx115_3 | skip)
         (first | simp only [add_plain] at hx115_4 | skip)
         (first | simp only [add_plain] at hx115_5 | skip)
         (first | simp only [add_plain] at hx115_6 | skip)
         (first | simp only [add_plain] at hx115_7 | skip)
         obtain ⟨ce56, hcl56, hM56, hcc56, hfr56⟩ := Kd.R_elem HO_6.out z71 ((ji53) : Int) p56 q56
         obtain rfl := k71_openM hM56
         have hx56_0 : World.cell? _ ⟨go56, ((ji53) : Int).toNat * 8, none⟩ = some (.int .i64 ((rd_T71 t102 (ji53)).f0)) := hcc56 0 _ rfl
         have hx56_1 : World.cell? _ ⟨go56, ((ji53) : Int).toNat * 8 + 1, none⟩ = some (.int .i64 ((rd_T71 t102 (ji53)).f1)) := hcc56 1 _ rfl
         have hx56_2 : World.cell? _ ⟨go56, ((ji53) : Int).toNat * 8 + 2, none⟩ = some (.int .i64 ((rd_T71 t102 (ji53)).f2)) := hcc56 2 _ rfl
         have hx56_3 : World.cell? _ ⟨go56, ((ji53) : Int).toNat * 8 + 3, none⟩ = some (.int .i64 ((rd_T71 t102 (ji53)).f3)) := hcc56 3 _ rfl
         have hx56_4 : World.cell? _ ⟨go56, ((ji53) : Int).toNat * 8 + 4, none⟩ = some (.int .i64 ((rd_T71 t102 (ji53)).f4)) := hcc56 4 _ rfl
         have hx56_5 : World.cell? _ ⟨go56, ((ji53) : Int).toNat * 8 + 5, none⟩ = some (.int .i64 ((rd_T71 t102 (ji53)).f5)) := hcc56 5 _ rfl
         have hx56_6 : World.cell? _ ⟨go56, ((ji53) : Int).toNat * 8 + 6, none⟩ = some (.int .i64 ((rd_T71 t102 (ji53)).f6)) := hcc56 6 _ rfl
         have hx56_7 : World.cell? _ ⟨go56, ((ji53) : Int).toNat * 8 + 7, none⟩ = some (.string ((rd_T71 t102 (ji53)).f7)) := hcc56 7 _ rfl
         have hf56_0 : World.frozen? _ ⟨go56, ((ji53) : Int).toNat * 8, none⟩ = false := hfr56 0
         have hf56_1 : World.frozen? _ ⟨go56, ((ji53) : Int).toNat * 8 + 1, none⟩ = false := hfr56 1
         have hf56_2 : World.frozen? _ ⟨go56, ((ji53) : Int).toNat * 8 + 2, none⟩ = false := hfr56 2
         have hf56_3 : World.frozen? _ ⟨go56, ((ji53) : Int).toNat * 8 + 3, none⟩ = false := hfr56 3
         have hf56_4 : World.frozen? _ ⟨go56, ((ji53) : Int).toNat * 8 + 4, none⟩ = false := hfr56 4
         have hf56_5 : World.frozen? _ ⟨go56, ((ji53) : Int).toNat * 8 + 5, none⟩ = false := hfr56 5
         have hf56_6 : World.frozen? _ ⟨go56, ((ji53) : Int).toNat * 8 + 6, none⟩ = false := hfr56 6
         have hf56_7 : World.frozen? _ ⟨go56, ((ji53) : Int).toNat * 8 + 7, none⟩ = false := hfr56 7
         clear hcl56 hcc56 hfr56 hM56
         replace p56 := eq_true p56
         replace q56 := eq_true q56
         obtain ⟨ce76, hcl76, hM76, hcc76, hfr76⟩ := Kd.R_elem HO_6.out z71 ((ji53) : Int) (of_decide_eq_true (by first | (with_reducible assumption) | assumption)) (by have h_ : ((ji53) : Int) < ((t102.length : Int) : Int) := of_decide_eq_true (by first | (with_reducible assumption) | assumption); first | exact h_ | (have e_ := (Kd.R_reads' HO_6.out).1; omega) | simpa using h_)
         obtain rfl := k71_openM hM76
         have HP76 := (Kd.R_seg HO_6.out ((ji53) : Int) (of_decide_eq_true (by first | (with_reducible assumption) | assumption)) (by have h_ : ((ji53) : Int) < ((t102.length : Int) : Int) := of_decide_eq_true (by first | (with_reducible assumption) | assumption); first | exact h_ | (have e_ := (Kd.R_reads' HO_6.out).1; omega) | simpa using h_) (seg := [.int .i64 (wrap64 (((rd_T71 t102 (ji53)).f4) - a1_2))]) (j := 4) hcl76 hcc76 (show 5 ≤ 8 from by decide) (x' := (⟨(rd_T71 t102 (ji53)).f0, (rd_T71 t102 (ji53)).f1, (rd_T71 t102 (ji53)).f2, (rd_T71 t102 (ji53)).f3, wrap64 (((rd_T71 t102 (ji53)).f4) - a1_2), (rd_T71 t102 (ji53)).f5, (rd_T71 t102 (ji53)).f6, (rd_T71 t102 (ji53)).f7⟩ : S71)) (k71_mkM _ _ _ (⟨(rd_T71 t102 (ji53)).f0, (rd_T71 t102 (ji53)).f1, (rd_T71 t102 (ji53)).f2, (rd_T71 t102 (ji53)).f3, wrap64 (((rd_T71 t102 (ji53)).f4) - a1_2), (rd_T71 t102 (ji53)).f5, (rd_T71 t102 (ji53)).f6, (rd_T71 t102 (ji53)).f7⟩ : S71) ) (fun _ hk => hk)).1
         rw [← Ny116.out] at HP76
         have HQ76 := Aside0.mk HP76
         clear hcl76 hcc76 hfr76 hM76 HP76
         refine start_ (n := 10) (S := fun w' => w'.cell? ⟨gb101, 0, none⟩ = some (.int .i64 a1_0) ∧ w'.cell? ⟨gb101, 1, none⟩ = some (.int .i64 a1_1) ∧ w'.cell? ⟨gb101, 2, none⟩ = some (.int .i64 a1_2) ∧ w'.cell? ⟨gb101, 3, none⟩ = some (.string a1_3) ∧ w'.cell? ⟨go56, (((ji53)).toNat * 8), none⟩ = some (.int .i64 ((rd_T71 t102 (ji53)).f0)) ∧ w'.cell? ⟨go56, (((ji53)).toNat * 8) + 1, none⟩ = some (.int .i64 ((rd_T71 t102 (ji53)).f1)) ∧ w'.cell? ⟨go56, (((ji53)).toNat * 8) + 2, none⟩ = some (.int .i64 ((rd_T71 t102 (ji53)).f2)) ∧ w'.cell? ⟨go56, (((ji53)).toNat * 8) + 3, none⟩ = some (.int .i64 ((rd_T71 t102 (ji53)).f3)) ∧ w'.cell? ⟨go56, (((ji53)).toNat * 8) + 4, none⟩ = some (.int .i64 ((rd_T71 t102 (ji53)).f4)) ∧ w'.cell? ⟨go56, (((ji53)).toNat * 8) + 5, none⟩ = some (.int .i64 ((rd_T71 t102 (ji53)).f5)) ∧ w'.cell? ⟨go56, (((ji53)).toNat * 8) + 6, none⟩ = some (.int .i64 ((rd_T71 t102 (ji53)).f6)) ∧ w'.cell? ⟨go56, (((ji53)).toNat * 8) + 7, none⟩ = some (.string ((rd_T71 t102 (ji53)).f7))) (ds := [9]) #[false, false, false, false, false, false, false, false, false, false] (by kernel_rfl) rfl rfl ⟨(blk_cell BK101.out 0).trans rfl, (blk_cell BK101.out 1).trans rfl, (blk_cell BK101.out 2).trans rfl, (blk_cell BK101.out 3).trans rfl, hx115_0, hx115_1, hx115_2, hx115_3, hx115_4, hx115_5, hx115_6, hx115_7⟩ (fun hHeld => ?_); refine with_tabW impl_apply.tab14 impl_apply.bits14 (fun HT_ HW_ => ?_)
         generalize wc.drew = w75 at HO_6 BK101 HB GG56 HQ76 hf56_0 hf56_1 hf56_2 hf56_3 hf56_4 hf56_5 hf56_6 hf56_7 hx114_0 hx114_1 hx114_2 hx114_3 hx114_4 hx114_5 hx114_6 hx114_7 hx115_0 hx115_1 hx115_2 hx115_3 hx115_4 hx115_5 hx115_6 hx115_7 hx56_0 hx56_1 hx56_2 hx56_3 hx56_4 hx56_5 hx56_6 hx56_7 hHeld ⊢
         refine pure_ (i := 0) (N := some 70) (v := ?_) (a' := ?_) #[true, false, false, false, false, false, false, false, false, false] rfl rfl (any_of HT_.out (by kernel_rfl)) (fun _ _ _ h => h) (Or.inl ⟨by rfl, ?_⟩) ?_ ?_
         rotate_left
         ·intro w'
          go_simp
          with_reducible rfl
         rotate_left
         ·simp only [Act.put, List.setIfInBounds_toArray, List.set_cons_zero, List.set_cons_succ, i64_w, i32_w]
          rfl
         refine pure_ (i := 1) (N := some 71) (v := ?_) (a' := ?_) #[true, true, false, false, false, false, false, false, false, false] rfl rfl (any_of HT_.out (by kernel_rfl)) (fun _ _ _ h => h) (Or.inl ⟨by rfl, ?_⟩) ?_ ?_
         rotate_left
         ·intro w'
          go_simp
          with_reducible rfl
         rotate_left
         ·simp only [Act.put, List.setIfInBounds_toArray, List.set_cons_zero, List.set_cons_succ, i64_w, i32_w]
          rfl
         refine pure_ (i := 2) (N := some 72) (v := ?_) (a' := ?_) #[true, true, true, false, false, false, false, false, false, false] rfl rfl (any_of HT_.out (by kernel_rfl)) (fun _ _ _ h => h) (Or.inl ⟨by rfl, ?_⟩) ?_ ?_
         rotate_left
         ·intro w'
          go_simp
          with_reducible rfl
         rotate_left
         ·simp only [Act.put, List.setIfInBounds_toArray, List.set_cons_zero, List.set_cons_succ, i64_w, i32_w]
          rfl
         refine pure_ (i := 4) (N := some 74) (v := ?_) (a' := ?_) #[true, true, true, false, true, false, false, false, false, false] rfl rfl (any_of HT_.out (by kernel_rfl)) (fun _ _ _ h => h) (Or.inl ⟨by rfl, ?_⟩) ?_ ?_
         rotate_left
         ·intro w'
          go_simp
          with_reducible rfl
         rotate_left
         ·simp only [Act.put, List.setIfInBounds_toArray, List.set_cons_zero, List.set_cons_succ, i64_w, i32_w]
          rfl
         refine take_ (i := 3) (N := some 73) (v := ?_) (a' := ?_) #[true, true, true, true, true, false, false, false, false, false] rfl rfl (take_ofW HT_.out HW_.out (by kernel_rfl)) (fun _ _ _ h => h) (Or.inl ⟨by rfl, ?_⟩) hHeld ?_ ?_
         rotate_left
         ·rintro w' ⟨s0, s1, s2, s3, s4, s5, s6, s7, s8, s9, s10, s11⟩
          go_simp
          with_reducible rfl
         rotate_left
         ·simp only [Act.put, List.setIfInBounds_toArray, List.set_cons_zero, List.set_cons_succ, i64_w, i32_w]
          rfl
         refine take_ (i := 5) (N := some 75) (v := ?_) (a' := ?_) #[true, true, true, true, true, true, false, false, false, false] rfl rfl (take_ofW HT_.out HW_.out (by kernel_rfl)) (fun _ _ _ h => h) (Or.inl ⟨by rfl, ?_⟩) hHeld ?_ ?_
         rotate_left
         ·rintro w' ⟨s0, s1, s2, s3, s4, s5, s6, s7, s8, s9, s10, s11⟩
          go_simp
          with_reducible rfl
         rotate_left
         ·simp only [Act.put, List.setIfInBounds_toArray, List.set_cons_zero, List.set_cons_succ, i64_w, i32_w]
          rfl
         refine pure_ (i := 6) (N := some 76) (v := ?_) (a' := ?_) #[true, true, true, true, true, true, true, false, false, false] rfl rfl (any_of HT_.out (by kernel_rfl)) (fun _ _ _ h => h) (Or.inl ⟨by rfl, ?_⟩) ?_ ?_
         rotate_left
         ·intro w'
          go_simp
          with_reducible rfl
         rotate_left
         ·simp only [Act.put, List.setIfInBounds_toArray, List.set_cons_zero, List.set_cons_succ, i64_w, i32_w]
          rfl
         refine pure_ (i := 7) (N := some 77) (v := ?_) (a' := ?_) #[true, true, true, true, true, true, true, true, false, false] rfl rfl (any_of HT_.out (by kernel_rfl)) (fun _ _ _ h => h) (Or.inl ⟨by rfl, ?_⟩) ?_ ?_
         rotate_left
         ·intro w'
          go_simp
          with_reducible rfl
         rotate_left
         ·simp only [Act.put, List.setIfInBounds_toArray, List.set_cons_zero, List.set_cons_succ, i64_w, i32_w]
          rfl
         refine pure_ (i := 8) (N := some 78) (v := ?_) (a' := ?_) #[true, true, true, true, true, true, true, true, true, false] rfl rfl (any_of HT_.out (by kernel_rfl)) (fun _ _ _ h => h) (Or.inl ⟨by rfl, ?_⟩) ?_ ?_
         rotate_left
         ·intro w'
          go_simp
          with_reducible rfl
         rotate_left
         ·simp only [Act.put, List.setIfInBounds_toArray, List.set_cons_zero, List.set_cons_succ, i64_w, i32_w]
          rfl
         refine last_ (i := 9) (N := none) #[true, true, true, true, true, true, true, true, true, true] rfl rfl (one_of HT_.out (by kernel_rfl)) (by decide) (fun K hK => ?_)
         refine skip_ (w1 := ?_) (by rfl) rfl ?_ ?_
         rotate_left
         ·go_simp
          rfl
         refine hK.out _ _ ?_
         clear hK K
         refine done_ (done_of HT_.out (by kernel_rfl)) ?_
         try go_wp2
         have n0_ : Aside0 (Kd.R k71 71 (w75.setCell ⟨go56, ((ji53) : Int).toNat * 8 + 4, none⟩ (.int .i64 (wrap64 (((rd_T71 t102 (ji53)).f4) - a1_2)))) w.heap.size (fun _ => True) (.slice (some ⟨go56, 0, none⟩) t102.length co74) y116) := ⟨by (with_reducible repeat (first | apply Kd.R_alloc | apply Kd.R_drewN | apply Kd.R_drew)); exact HQ76.out⟩
         have n1_ : Aside0 ((w75.setCell ⟨go56, ((ji53) : Int).toNat * 8 + 4, none⟩ (.int .i64 (wrap64 (((rd_T71 t102 (ji53)).f4) - a1_2)))).heap[gb101]? = some (.cells #[.int .i64 a1_0, .int .i64 a1_1, .int .i64 a1_2, .string a1_3] 61 (0, 0))) := ⟨by (with_reducible repeat (first | refine blk_drewN ?_ _ | refine blk_drew ?_ | refine blk_alloc ?_ _)); refine blk_far ?_ (by have h_ := Kd.R_ne HO_6.out BK101.out (by decide); intro e_; exact h_ (by rw [e_]; rfl)) _; (with_reducible repeat (first | refine blk_drewN ?_ _ | refine blk_drew ?_ | refine blk_alloc ?_ _)); exact BK101.out⟩
         have n2_ : Aside0 (Below w.heap.size w (w75.setCell ⟨go56, ((ji53) : Int).toNat * 8 + 4, none⟩ (.int .i64 (wrap64 (((rd_T71 t102 (ji53)).f4) - a1_2))))) := ⟨by repeat (first | (with_reducible first | exact HB.out | apply below_alloc | apply pw_below_drewN | apply below_drew1 | refine below_set ?_ GB56.out | refine below_set ?_ GE101.out) | exact HB.out)⟩
         (try clear HO_6)
         (try clear BK101)
         (try clear HB)
         generalize (w75.setCell ⟨go56, ((ji53) : Int).toNat * 8 + 4, none⟩ (.int .i64 (wrap64 (((rd_T71 t102 (ji53)).f4) - a1_2)))) = w77 at n0_ n1_ n2_ ⊢
         have HO_6 := n0_
         have BK101 := n1_
         have HB := n2_
         clear n0_ n1_ n2_
         have n0_ := Aside0.mk (Kd.R_drew HO_6.out)
         have n1_ := Aside0.mk (blk_drew BK101.out)
         have n2_ := Aside0.mk (below_drew1 HB.out)
         clear HO_6
         clear BK101
         clear HB
         have HO_6 := n0_
         have BK101 := n1_
         have HB := n2_
         clear n0_ n1_ n2_
         have p117 : 0 ≤ ((ji53) : Int) := of_decide_eq_true (by first | (with_reducible assumption) | assumption)
         have q117 : (ji53) < (y116.length : Int) := (by have h_ : ((ji53) : Int) < ((t102.length : Int) : Int) := of_decide_eq_true (by first | (with_reducible assumption) | assumption); first | (have e_ := (Kd.R_reads' HO_6.out).1; omega) | simpa only [Ny116.out, List.length_set] using h_)
         have ql117 : (((ji53) : Int) < ((t102.length : Int) : Int)) = True := eq_true (of_decide_eq_true (by first | (with_reducible assumption) | assumption))
         obtain ⟨ad117, e117, hx117_0, hx117_1, hx117_2, hx117_3, hx117_4, hx117_5, hx117_6, hx117_7⟩ := at_T71 (Kd.R_reads' HO_6.out).2.2 (ji53) p117 q117
         obtain rfl : (⟨go56, 0, none⟩ : Addr) = ad117 := (by injection e117)
         (first | simp only [add_plain] at hx117_0 | simp only [add_at] at hx117_0 | simp only [Addr.add, Nat.zero_add] at hx117_0 | skip)
         (first | simp only [add_plain] at hx117_1 | simp only [add_at] at hx117_1 | simp only [Addr.add, Nat.zero_add] at hx117_1 | skip)
         (first | simp only [add_plain] at hx117_2 | simp only [add_at] at hx117_2 | simp only [Addr.add, Nat.zero_add] at hx117_2 | skip)
         (first | simp only [add_plain] at hx117_3 | simp only [add_at] at hx117_3 | simp only [Addr.add, Nat.zero_add] at hx117_3 | skip)
         (first | simp only [add_plain] at hx117_4 | simp only [add_at] at hx117_4 | simp only [Addr.add, Nat.zero_add] at hx117_4 | skip)
         (first | simp only [add_plain] at hx117_5 | simp only [add_at] at hx117_5 | simp only [Addr.add, Nat.zero_add] at hx117_5 | skip)
         (first | simp only [add_plain] at hx117_6 | simp only [add_at] at hx117_6 | simp only [Addr.add, Nat.zero_add] at hx117_6 | skip)
         (first | simp only [add_plain] at hx117_7 | simp only [add_at] at hx117_7 | simp only [Addr.add, Nat.zero_add] at hx117_7 | skip)
         replace p117 := eq_true p117
         replace q117 := eq_true q117
         have p57 : 0 ≤ ((ji53) : Int) := of_decide_eq_true (by first | (with_reducible assumption) | assumption)
         have q57 : ((ji53) : Int) < ((t102.length : Int) : Int) := of_decide_eq_true (by first | (with_reducible assumption) | assumption)
         obtain ⟨ce57, hcl57, hM57, hcc57, hfr57⟩ := Kd.R_elem HO_6.out z71 ((ji53) : Int) p57 q57
         obtain rfl := k71_openM hM57
         have hx57_0 : World.cell? _ ⟨go56, ((ji53) : Int).toNat * 8, none⟩ = some (.int .i64 ((rd_T71 y116 (ji53)).f0)) := hcc57 0 _ rfl
         have hx57_1 : World.cell? _ ⟨go56, ((ji53) : Int).toNat * 8 + 1, none⟩ = some (.int .i64 ((rd_T71 y116 (ji53)).f1)) := hcc57 1 _ rfl
         have hx57_2 : World.cell? _ ⟨go56, ((ji53) : Int).toNat * 8 + 2, none⟩ = some (.int .i64 ((rd_T71 y116 (ji53)).f2)) := hcc57 2 _ rfl
         have hx57_3 : World.cell? _ ⟨go56, ((ji53) : Int).toNat * 8 + 3, none⟩ = some (.int .i64 ((rd_T71 y116 (ji53)).f3)) := hcc57 3 _ rfl
         have hx57_4 : World.cell? _ ⟨go56, ((ji53) : Int).toNat * 8 + 4, none⟩ = some (.int .i64 ((rd_T71 y116 (ji53)).f4)) := hcc57 4 _ rfl
         have hx57_5 : World.cell? _ ⟨go56, ((ji53) : Int).toNat * 8 + 5, none⟩ = some (.int .i64 ((rd_T71 y116 (ji53)).f5)) := hcc57 5 _ rfl
         have hx57_6 : World.cell? _ ⟨go56, ((ji53) : Int).toNat * 8 + 6, none⟩ = some (.int .i64 ((rd_T71 y116 (ji53)).f6)) := hcc57 6 _ rfl
         have hx57_7 : World.cell? _ ⟨go56, ((ji53) : Int).toNat * 8 + 7, none⟩ = some (.string ((rd_T71 y116 (ji53)).f7)) := hcc57 7 _ rfl
         have hf57_0 : World.frozen? _ ⟨go56, ((ji53) : Int).toNat * 8, none⟩ = false := hfr57 0
         have hf57_1 : World.frozen? _ ⟨go56, ((ji53) : Int).toNat * 8 + 1, none⟩ = false := hfr57 1
         have hf57_2 : World.frozen? _ ⟨go56, ((ji53) : Int).toNat * 8 + 2, none⟩ = false := hfr57 2
         have hf57_3 : World.frozen? _ ⟨go56, ((ji53) : Int).toNat * 8 + 3, none⟩ = false := hfr57 3
         have hf57_4 : World.frozen? _ ⟨go56, ((ji53) : Int).toNat * 8 + 4, none⟩ = false := hfr57 4
         have hf57_5 : World.frozen? _ ⟨go56, ((ji53) : Int).toNat * 8 + 5, none⟩ = false := hfr57 5
         have hf57_6 : World.frozen? _ ⟨go56, ((ji53) : Int).toNat * 8 + 6, none⟩ = false := hfr57 6
         have hf57_7 : World.frozen? _ ⟨go56, ((ji53) : Int).toNat * 8 + 7, none⟩ = false := hfr57 7
         clear hcl57 hcc57 hfr57 hM57
         replace p57 := eq_true p57
         replace q57 := eq_true q57
         obtain ⟨ce79, hcl79, hM79, hcc79, hfr79⟩ := Kd.R_elem HO_6.out z71 ((ji53) : Int) (of_decide_eq_true (by first | (with_reducible assumption) | assumption)) (by have h_ : ((ji53) : Int) < ((t102.length : Int) : Int) := of_decide_eq_true (by first | (with_reducible assumption) | assumption); first | exact h_ | (have e_ := (Kd.R_reads' HO_6.out).1; omega) | simpa using h_)
         obtain rfl := k71_openM hM79
         have HP79 := (Kd.R_seg HO_6.out ((ji53) : Int) (of_decide_eq_true (by first | (with_reducible assumption) | assumption)) (by have h_ : ((ji53) : Int) < ((t102.length : Int) : Int) := of_decide_eq_true (by first | (with_reducible assumption) | assumption); first | exact h_ | (have e_ := (Kd.R_reads' HO_6.out).1; omega) | simpa using h_) (seg := [.int .i64 (wrap64 (((rd_T71 y116 (ji53)).f6) + a1_2))]) (j := 6) hcl79 hcc79 (show 7 ≤ 8 from by decide) (x' := (⟨(rd_T71 y116 (ji53)).f0, (rd_T71 y116 (ji53)).f1, (rd_T71 y116 (ji53)).f2, (rd_T71 y116 (ji53)).f3, (rd_T71 y116 (ji53)).f4, (rd_T71 y116 (ji53)).f5, wrap64 (((rd_T71 y116 (ji53)).f6) + a1_2), (rd_T71 y116 (ji53)).f7⟩ : S71)) (k71_mkM _ _ _ (⟨(rd_T71 y116 (ji53)).f0, (rd_T71 y116 (ji53)).f1, (rd_T71 y116 (ji53)).f2, (rd_T71 y116 (ji53)).f3, (rd_T71 y116 (ji53)).f4, (rd_T71 y116 (ji53)).f5, wrap64 (((rd_T71 y116 (ji53)).f6) + a1_2), (rd_T71 y116 (ji53)).f7⟩ : S71) ) (fun _ hk => hk)).1
         rw [← Ny118.out] at HP79
         have HQ79 := Aside0.mk HP79
         clear hcl79 hcc79 hfr79 hM79 HP79
         refine start_ (n := 10) (S := fun w' => w'.cell? ⟨gb101, 0, none⟩ = some (.int .i64 a1_0) ∧ w'.cell? ⟨gb101, 1, none⟩ = some (.int .i64 a1_1) ∧ w'.cell? ⟨gb101, 2, none⟩ = some (.int .i64 a1_2) ∧ w'.cell? ⟨gb101, 3, none⟩ = some (.string a1_3) ∧ w'.cell? ⟨go56, ((ji53)).toNat * 8, none⟩ = some (.int .i64 ((rd_T71 y116 (ji53)).f0)) ∧ w'.cell? ⟨go56, ((ji53)).toNat * 8 + 1, none⟩ = some (.int .i64 ((rd_T71 y116 (ji53)).f1)) ∧ w'.cell? ⟨go56, ((ji53)).toNat * 8 + 2, none⟩ = some (.int .i64 ((rd_T71 y116 (ji53)).f2)) ∧ w'.cell? ⟨go56, ((ji53)).toNat * 8 + 3, none⟩ = some (.int .i64 ((rd_T71 y116 (ji53)).f3)) ∧ w'.cell? ⟨go56, ((ji53)).toNat * 8 + 4, none⟩ = some (.int .i64 ((rd_T71 y116 (ji53)).f4)) ∧ w'.cell? ⟨go56, ((ji53)).toNat * 8 + 5, none⟩ = some (.int .i64 ((rd_T71 y116 (ji53)).f5)) ∧ w'.cell? ⟨go56, ((ji53)).toNat * 8 + 6, none⟩ = some (.int .i64 ((rd_T71 y116 (ji53)).f6)) ∧ w'.cell? ⟨go56, ((ji53)).toNat * 8 + 7, none⟩ = some (.string ((rd_T71 y116 (ji53)).f7))) (ds := [9]) #[false, false, false, false, false, false, false, false, false, false] (by kernel_rfl) rfl rfl ⟨(blk_cell BK101.out 0).trans rfl, (blk_cell BK101.out 1).trans rfl, (blk_cell BK101.out 2).trans rfl, (blk_cell BK101.out 3).trans rfl, hx117_0, hx117_1, hx117_2, hx117_3, hx117_4, hx117_5, hx117_6, hx117_7⟩ (fun hHeld => ?_); refine with_tabW impl_apply.tab15 impl_apply.bits15 (fun HT_ HW_ => ?_)
         generalize w77.drew = w78 at HO_6 BK101 HB HQ76 HQ79 hf57_0 hf57_1 hf57_2 hf57_3 hf57_4 hf57_5 hf57_6 hf57_7 hx117_0 hx117_1 hx117_2 hx117_3 hx117_4 hx117_5 hx117_6 hx117_7 hx57_0 hx57_1 hx57_2 hx57_3 hx57_4 hx57_5 hx57_6 hx57_7 hHeld ⊢
         refine pure_ (i := 0) (N := some 79) (v := ?_) (a' := ?_) #[true, false, false, false, false, false, false, false, false, false] rfl rfl (any_of HT_.out (by kernel_rfl)) (fun _ _ _ h => h) (Or.inl ⟨by rfl, ?_⟩) ?_ ?_
         rotate_left
         ·intro w'
          go_simp
          with_reducible rfl
         rotate_left
         ·simp only [Act.put, List.setIfInBounds_toArray, List.set_cons_zero, List.set_cons_succ, i64_w, i32_w]
          rfl
         refine pure_ (i := 1) (N := some 80) (v := ?_) (a' := ?_) #[true, true, false, false, false, false, false, false, false, false] rfl rfl (any_of HT_.out (by kernel_rfl)) (fun _ _ _ h => h) (Or.inl ⟨by rfl, ?_⟩) ?_ ?_
         rotate_left
         ·intro w'
          go_simp
          with_reducible rfl
         rotate_left
         ·simp only [Act.put, List.setIfInBounds_toArray, List.set_cons_zero, List.set_cons_succ, i64_w, i32_w]
          rfl
         refine pure_ (i := 2) (N := some 81) (v := ?_) (a' := ?_) #[true, true, true, false, false, false, false, false, false, false] rfl rfl (any_of HT_.out (by kernel_rfl)) (fun _ _ _ h => h) (Or.inl ⟨by rfl, ?_⟩) ?_ ?_
         rotate_left
         ·intro w'
          go_simp
          with_reducible rfl
         rotate_left
         ·simp only [Act.put, List.setIfInBounds_toArray, List.set_cons_zero, List.set_cons_succ, i64_w, i32_w]
          rfl
         refine pure_ (i := 4) (N := some 83) (v := ?_) (a' := ?_) #[true, true, true, false, true, false, false, false, false, false] rfl rfl (any_of HT_.out (by kernel_rfl)) (fun _ _ _ h => h) (Or.inl ⟨by rfl, ?_⟩) ?_ ?_
         rotate_left
         ·intro w'
          go_simp
          with_reducible rfl
         rotate_left
         ·simp only [Act.put, List.setIfInBounds_toArray, List.set_cons_zero, List.set_cons_succ, i64_w, i32_w]
          rfl
         refine take_ (i := 3) (N := some 82) (v := ?_) (a' := ?_) #[true, true, true, true, true, false, false, false, false, false] rfl rfl (take_ofW HT_.out HW_.out (by kernel_rfl)) (fun _ _ _ h => h) (Or.inl ⟨by rfl, ?_⟩) hHeld ?_ ?_
         rotate_left
         ·rintro w' ⟨s0, s1, s2, s3, s4, s5, s6, s7, s8, s9, s10, s11⟩
          go_simp
          with_reducible rfl
         rotate_left
         ·simp only [Act.put, List.setIfInBounds_toArray, List.set_cons_zero, List.set_cons_succ, i64_w, i32_w]
          rfl
         refine take_ (i := 5) (N := some 84) (v := ?_) (a' := ?_) #[true, true, true, true, true, true, false, false, false, false] rfl rfl (take_ofW HT_.out HW_.out (by kernel_rfl)) (fun _ _ _ h => h) (Or.inl ⟨by rfl, ?_⟩) hHeld ?_ ?_
         rotate_left
         ·rintro w' ⟨s0, s1, s2, s3, s4, s5, s6, s7, s8, s9, s10, s11⟩
          go_simp
          with_reducible rfl
         rotate_left
         ·simp only [Act.put, List.setIfInBounds_toArray, List.set_cons_zero, List.set_cons_succ, i64_w, i32_w]
          rfl
         refine pure_ (i := 6) (N := some 85) (v := ?_) (a' := ?_) #[true, true, true, true, true, true, true, false, false, false] rfl rfl (any_of HT_.out (by kernel_rfl)) (fun _ _ _ h => h) (Or.inl ⟨by rfl, ?_⟩) ?_ ?_
         rotate_left
         ·intro w'
          go_simp
          with_reducible rfl
         rotate_left
         ·simp only [Act.put, List.setIfInBounds_toArray, List.set_cons_zero, List.set_cons_succ, i64_w, i32_w]
          rfl
         refine pure_ (i := 7) (N := some 86) (v := ?_) (a' := ?_) #[true, true, true, true, true, true, true, true, false, false] rfl rfl (any_of HT_.out (by kernel_rfl)) (fun _ _ _ h => h) (Or.inl ⟨by rfl, ?_⟩) ?_ ?_
         rotate_left
         ·intro w'
          go_simp
          with_reducible rfl
         rotate_left
         ·simp only [Act.put, List.setIfInBounds_toArray, List.set_cons_zero, List.set_cons_succ, i64_w, i32_w]
          rfl
         refine pure_ (i := 8) (N := some 87) (v := ?_) (a' := ?_) #[true, true, true, true, true, true, true, true, true, false] rfl rfl (any_of HT_.out (by kernel_rfl)) (fun _ _ _ h => h) (Or.inl ⟨by rfl, ?_⟩) ?_ ?_
         rotate_left
         ·intro w'
          go_simp
          with_reducible rfl
         rotate_left
         ·simp only [Act.put, List.setIfInBounds_toArray, List.set_cons_zero, List.set_cons_succ, i64_w, i32_w]
          rfl
         refine last_ (i := 9) (N := none) #[true, true, true, true, true, true, true, true, true, true] rfl rfl (one_of HT_.out (by kernel_rfl)) (by decide) (fun K hK => ?_)
         refine skip_ (w1 := ?_) (by rfl) rfl ?_ ?_
         rotate_left
         ·go_simp
          rfl
         refine hK.out _ _ ?_
         clear hK K
         refine done_ (done_of HT_.out (by kernel_rfl)) ?_
         try go_wp2
         have n0_ : Aside0 (Kd.R k71 71 (w78.setCell ⟨go56, ((ji53) : Int).toNat * 8 + 6, none⟩ (.int .i64 (wrap64 (((rd_T71 y116 (ji53)).f6) + a1_2)))) w.heap.size (fun _ => True) (.slice (some ⟨go56, 0, none⟩) t102.length co74) y118) := ⟨by (with_reducible repeat (first | apply Kd.R_alloc | apply Kd.R_drewN | apply Kd.R_drew)); exact HQ79.out⟩
         have n1_ : Aside0 ((w78.setCell ⟨go56, ((ji53) : Int).toNat * 8 + 6, none⟩ (.int .i64 (wrap64 (((rd_T71 y116 (ji53)).f6) + a1_2)))).heap[gb101]? = some (.cells #[.int .i64 a1_0, .int .i64 a1_1, .int .i64 a1_2, .string a1_3] 61 (0, 0))) := ⟨by (with_reducible repeat (first | refine blk_drewN ?_ _ | refine blk_drew ?_ | refine blk_alloc ?_ _)); refine blk_far ?_ (by have h_ := Kd.R_ne HO_6.out BK101.out (by decide); intro e_; exact h_ (by rw [e_]; rfl)) _; (with_reducible repeat (first | refine blk_drewN ?_ _ | refine blk_drew ?_ | refine blk_alloc ?_ _)); exact BK101.out⟩
         have n2_ : Aside0 (Below w.heap.size w (w78.setCell ⟨go56, ((ji53) : Int).toNat * 8 + 6, none⟩ (.int .i64 (wrap64 (((rd_T71 y116 (ji53)).f6) + a1_2))))) := ⟨by repeat (first | (with_reducible first | exact HB.out | apply below_alloc | apply pw_below_drewN | apply below_drew1 | refine below_set ?_ GB56.out | refine below_set ?_ GE101.out) | exact HB.out)⟩
         (try clear HO_6)
         (try clear BK101)
         (try clear HB)
         generalize (w78.setCell ⟨go56, ((ji53) : Int).toNat * 8 + 6, none⟩ (.int .i64 (wrap64 (((rd_T71 y116 (ji53)).f6) + a1_2)))) = w80 at n0_ n1_ n2_ ⊢
         have HO_6 := n0_
         have BK101 := n1_
         have HB := n2_
         clear n0_ n1_ n2_
         have n0_ := Aside0.mk (Kd.R_drew HO_6.out)
         have n1_ := Aside0.mk (blk_drew BK101.out)
         have n2_ := Aside0.mk (below_drew1 HB.out)
         clear HO_6
         clear BK101
         clear HB
         have HO_6 := n0_
         have BK101 := n1_
         have HB := n2_
         clear n0_ n1_ n2_
         have p119 : 0 ≤ ((ji53) : Int) := of_decide_eq_true (by first | (with_reducible assumption) | assumption)
         have q119 : (ji53) < (y118.length : Int) := (by have h_ : ((ji53) : Int) < ((t102.length : Int) : Int) := of_decide_eq_true (by first | (with_reducible assumption) | assumption); first | (have e_ := (Kd.R_reads' HO_6.out).1; omega) | simpa only [Ny116.out, Ny118.out, List.length_set] using h_)
         have ql119 : (((ji53) : Int) < ((t102.length : Int) : Int)) = True := eq_true (of_decide_eq_true (by first | (with_reducible assumption) | assumption))
         obtain ⟨ad119, e119, hx119_0, hx119_1, hx119_2, hx119_3, hx119_4, hx119_5, hx119_6, hx119_7⟩ := at_T71 (Kd.R_reads' HO_6.out).2.2 (ji53) p119 q119
         obtain rfl : (⟨go56, 0, none⟩ : Addr) = ad119 := (by injection e119)
         (first | simp only [add_plain] at hx119_0 | simp only [add_at] at hx119_0 | simp only [Addr.add, Nat.zero_add] at hx119_0 | skip)
         (first | simp only [add_plain] at hx119_1 | simp only [add_at] at hx119_1 | simp only [Addr.add, Nat.zero_add] at hx119_1 | skip)
         (first | simp only [add_plain] at hx119_2 | simp only [add_at] at hx119_2 | simp only [Addr.add, Nat.zero_add] at hx119_2 | skip)
         (first | simp only [add_plain] at hx119_3 | simp only [add_at] at hx119_3 | simp only [Addr.add, Nat.zero_add] at hx119_3 | skip)
         (first | simp only [add_plain] at hx119_4 | simp only [add_at] at hx119_4 | simp only [Addr.add, Nat.zero_add] at hx119_4 | skip)
         (first | simp only [add_plain] at hx119_5 | simp only [add_at] at hx119_5 | simp only [Addr.add, Nat.zero_add] at hx119_5 | skip)
         (first | simp only [add_plain] at hx119_6 | simp only [add_at] at hx119_6 | simp only [Addr.add, Nat.zero_add] at hx119_6 | skip)
         (first | simp only [add_plain] at hx119_7 | simp only [add_at] at hx119_7 | simp only [Addr.add, Nat.zero_add] at hx119_7 | skip)
         replace p119 := eq_true p119
         replace q119 := eq_true q119
         refine start_ (n := 20) (S := fun w' => w'.cell? ⟨gb101, 0, none⟩ = some (.int .i64 a1_0) ∧ w'.cell? ⟨gb101, 1, none⟩ = some (.int .i64 a1_1) ∧ w'.cell? ⟨gb101, 2, none⟩ = some (.int .i64 a1_2) ∧ w'.cell? ⟨gb101, 3, none⟩ = some (.string a1_3) ∧ w'.cell? ⟨go56, ((ji53)).toNat * 8, none⟩ = some (.int .i64 ((rd_T71 y118 (ji53)).f0)) ∧ w'.cell? ⟨go56, ((ji53)).toNat * 8 + 1, none⟩ = some (.int .i64 ((rd_T71 y118 (ji53)).f1)) ∧ w'.cell? ⟨go56, ((ji53)).toNat * 8 + 2, none⟩ = some (.int .i64 ((rd_T71 y118 (ji53)).f2)) ∧ w'.cell? ⟨go56, ((ji53)).toNat * 8 + 3, none⟩ = some (.int .i64 ((rd_T71 y118 (ji53)).f3)) ∧ w'.cell? ⟨go56, ((ji53)).toNat * 8 + 4, none⟩ = some (.int .i64 ((rd_T71 y118 (ji53)).f4)) ∧ w'.cell? ⟨go56, ((ji53)).toNat * 8 + 5, none⟩ = some (.int .i64 ((rd_T71 y118 (ji53)).f5)) ∧ w'.cell? ⟨go56, ((ji53)).toNat * 8 + 6, none⟩ = some (.int .i64 ((rd_T71 y118 (ji53)).f6)) ∧ w'.cell? ⟨go56, ((ji53)).toNat * 8 + 7, none⟩ = some (.string ((rd_T71 y118 (ji53)).f7))) (ds := [17, 18]) #[false, false, false, false, false, false, false, false, false, false, false, false, false, false, false, false, false, false, false, false] (by kernel_rfl) rfl rfl ⟨(blk_cell BK101.out 0).trans rfl, (blk_cell BK101.out 1).trans rfl, (blk_cell BK101.out 2).trans rfl, (blk_cell BK101.out 3).trans rfl, hx119_0, hx119_1, hx119_2, hx119_3, hx119_4, hx119_5, hx119_6, hx119_7⟩ (fun hHeld => ?_); refine with_tabW impl_apply.tab16 impl_apply.bits16 (fun HT_ HW_ => ?_)
         generalize w80.drew = w81 at HO_6 BK101 HB HQ79 hx119_0 hx119_1 hx119_2 hx119_3 hx119_4 hx119_5 hx119_6 hx119_7 hHeld ⊢
         refine pure_ (i := 0) (N := some 88) (v := ?_) (a' := ?_) #[true, false, false, false, false, false, false, false, false, false, false, false, false, false, false, false, false, false, false, false] rfl rfl (any_of HT_.out (by kernel_rfl)) (fun _ _ _ h => h) (Or.inl ⟨by rfl, ?_⟩) ?_ ?_
         rotate_left
         ·intro w'
          go_simp
          with_reducible rfl
         rotate_left
         ·simp only [Act.put, List.setIfInBounds_toArray, List.set_cons_zero, List.set_cons_succ, i64_w, i32_w]
          rfl
         refine pure_ (i := 1) (N := some 89) (v := ?_) (a' := ?_) #[true, true, false, false, false, false, false, false, false, false, false, false, false, false, false, false, false, false, false, false] rfl rfl (any_of HT_.out (by kernel_rfl)) (fun _ _ _ h => h) (Or.inl ⟨by rfl, ?_⟩) ?_ ?_
         rotate_left
         ·intro w'
          go_simp
          with_reducible rfl
         rotate_left
         ·simp only [Act.put, List.setIfInBounds_toArray, List.set_cons_zero, List.set_cons_succ, i64_w, i32_w]
          rfl
         refine pure_ (i := 2) (N := some 90) (v := ?_) (a' := ?_) #[true, true, true, false, false, false, false, false, false, false, false, false, false, false, false, false, false, false, false, false] rfl rfl (any_of HT_.out (by kernel_rfl)) (fun _ _ _ h => h) (Or.inl ⟨by rfl, ?_⟩) ?_ ?_
         rotate_left
         ·intro w'
          go_simp
          with_reducible rfl
         rotate_left
         ·simp only [Act.put, List.setIfInBounds_toArray, List.set_cons_zero, List.set_cons_succ, i64_w, i32_w]
          rfl
         refine pure_ (i := 3) (N := some 91) (v := ?_) (a' := ?_) #[true, true, true, true, false, false, false, false, false, false, false, false, false, false, false, false, false, false, false, false] rfl rfl (any_of HT_.out (by kernel_rfl)) (fun _ _ _ h => h) (Or.inl ⟨by rfl, ?_⟩) ?_ ?_
         rotate_left
         ·intro w'
          go_simp
          with_reducible rfl
         rotate_left
         ·simp only [Act.put, List.setIfInBounds_toArray, List.set_cons_zero, List.set_cons_succ, i64_w, i32_w]
          rfl
         refine pure_ (i := 4) (N := some 92) (v := ?_) (a' := ?_) #[true, true, true, true, true, false, false, false, false, false, false, false, false, false, false, false, false, false, false, false] rfl rfl (any_of HT_.out (by kernel_rfl)) (fun _ _ _ h => h) (Or.inl ⟨by rfl, ?_⟩) ?_ ?_
         rotate_left
         ·intro w'
          go_simp
          with_reducible rfl
         rotate_left
         ·simp only [Act.put, List.setIfInBounds_toArray, List.set_cons_zero, List.set_cons_succ, i64_w, i32_w]
          rfl
         refine pure_ (i := 6) (N := some 94) (v := ?_) (a' := ?_) #[true, true, true, true, true, false, true, false, false, false, false, false, false, false, false, false, false, false, false, false] rfl rfl (any_of HT_.out (by kernel_rfl)) (fun _ _ _ h => h) (Or.inl ⟨by rfl, ?_⟩) ?_ ?_
         rotate_left
         ·intro w'
          go_simp
          with_reducible rfl
         rotate_left
         ·simp only [Act.put, List.setIfInBounds_toArray, List.set_cons_zero, List.set_cons_succ, i64_w, i32_w]
          rfl
         refine pure_ (i := 7) (N := some 95) (v := ?_) (a' := ?_) #[true, true, true, true, true, false, true, true, false, false, false, false, false, false, false, false, false, false, false, false] rfl rfl (any_of HT_.out (by kernel_rfl)) (fun _ _ _ h => h) (Or.inl ⟨by rfl, ?_⟩) ?_ ?_
         rotate_left
         ·intro w'
          go_simp
          with_reducible rfl
         rotate_left
         ·simp only [Act.put, List.setIfInBounds_toArray, List.set_cons_zero, List.set_cons_succ, i64_w, i32_w]
          rfl
         refine pure_ (i := 8) (N := some 96) (v := ?_) (a' := ?_) #[true, true, true, true, true, false, true, true, true, false, false, false, false, false, false, false, false, false, false, false] rfl rfl (any_of HT_.out (by kernel_rfl)) (fun _ _ _ h => h) (Or.inl ⟨by rfl, ?_⟩) ?_ ?_
         rotate_left
         ·intro w'
          go_simp
          with_reducible rfl
         rotate_left
         ·simp only [Act.put, List.setIfInBounds_toArray, List.set_cons_zero, List.set_cons_succ, i64_w, i32_w]
          rfl
         refine pure_ (i := 10) (N := some 98) (v := ?_) (a' := ?_) #[true, true, true, true, true, false, true, true, true, false, true, false, false, false, false, false, false, false, false, false] rfl rfl (any_of HT_.out (by kernel_rfl)) (fun _ _ _ h => h) (Or.inl ⟨by rfl, ?_⟩) ?_ ?_
         rotate_left
         ·intro w'
          go_simp
          with_reducible rfl
         rotate_left
         ·simp only [Act.put, List.setIfInBounds_toArray, List.set_cons_zero, List.set_cons_succ, i64_w, i32_w]
          rfl
         refine pure_ (i := 12) (N := some 100) (v := ?_) (a' := ?_) #[true, true, true, true, true, false, true, true, true, false, true, false, true, false, false, false, false, false, false, false] rfl rfl (any_of HT_.out (by kernel_rfl)) (fun _ _ _ h => h) (Or.inl ⟨by rfl, ?_⟩) ?_ ?_
         rotate_left
         ·intro w'
          go_simp
          with_reducible rfl
         rotate_left
         ·simp only [Act.put, List.setIfInBounds_toArray, List.set_cons_zero, List.set_cons_succ, i64_w, i32_w]
          rfl
         refine pure_ (i := 14) (N := some 102) (v := ?_) (a' := ?_) #[true, true, true, true, true, false, true, true, true, false, true, false, true, false, true, false, false, false, false, false] rfl rfl (any_of HT_.out (by kernel_rfl)) (fun _ _ _ h => h) (Or.inl ⟨by rfl, ?_⟩) ?_ ?_
         rotate_left
         ·intro w'
          go_simp
          with_reducible rfl
         rotate_left
         ·simp only [Act.put, List.setIfInBounds_toArray, List.set_cons_zero, List.set_cons_succ, i64_w, i32_w]
          rfl
         refine take_ (i := 5) (N := some 93) (v := ?_) (a' := ?_) #[true, true, true, true, true, true, true, true, true, false, true, false, true, false, true, false, false, false, false, false] rfl rfl (take_ofW HT_.out HW_.out (by kernel_rfl)) (fun _ _ _ h => h) (Or.inl ⟨by rfl, ?_⟩) hHeld ?_ ?_
         rotate_left
         ·rintro w' ⟨s0, s1, s2, s3, s4, s5, s6, s7, s8, s9, s10, s11⟩
          go_simp
          with_reducible rfl
         rotate_left
         ·simp only [Act.put, List.setIfInBounds_toArray, List.set_cons_zero, List.set_cons_succ, i64_w, i32_w]
          rfl
         refine take_ (i := 9) (N := some 97) (v := ?_) (a' := ?_) #[true, true, true, true, true, true, true, true, true, true, true, false, true, false, true, false, false, false, false, false] rfl rfl (take_ofW HT_.out HW_.out (by kernel_rfl)) (fun _ _ _ h => h) (Or.inl ⟨by rfl, ?_⟩) hHeld ?_ ?_
         rotate_left
         ·rintro w' ⟨s0, s1, s2, s3, s4, s5, s6, s7, s8, s9, s10, s11⟩
          go_simp
          with_reducible rfl
         rotate_left
         ·simp only [Act.put, List.setIfInBounds_toArray, List.set_cons_zero, List.set_cons_succ, i64_w, i32_w]
          rfl
         refine take_ (i := 11) (N := some 99) (v := ?_) (a' := ?_) #[true, true, true, true, true, true, true, true, true, true, true, true, true, false, true, false, false, false, false, false] rfl rfl (take_ofW HT_.out HW_.out (by kernel_rfl)) (fun _ _ _ h => h) (Or.inl ⟨by rfl, ?_⟩) hHeld ?_ ?_
         rotate_left
         ·rintro w' ⟨s0, s1, s2, s3, s4, s5, s6, s7, s8, s9, s10, s11⟩
          go_simp
          with_reducible rfl
         rotate_left
         ·simp only [Act.put, List.setIfInBounds_toArray, List.set_cons_zero, List.set_cons_succ, i64_w, i32_w]
          rfl
         refine take_ (i := 13) (N := some 101) (v := ?_) (a' := ?_) #[true, true, true, true, true, true, true, true, true, true, true, true, true, true, true, false, false, false, false, false] rfl rfl (take_ofW HT_.out HW_.out (by kernel_rfl)) (fun _ _ _ h => h) (Or.inl ⟨by rfl, ?_⟩) hHeld ?_ ?_
         rotate_left
         ·rintro w' ⟨s0, s1, s2, s3, s4, s5, s6, s7, s8, s9, s10, s11⟩
          go_simp
          with_reducible rfl
         rotate_left
         ·simp only [Act.put, List.setIfInBounds_toArray, List.set_cons_zero, List.set_cons_succ, i64_w, i32_w]
          rfl
         refine take_ (i := 15) (N := some 103) (v := ?_) (a' := ?_) #[true, true, true, true, true, true, true, true, true, true, true, true, true, true, true, true, false, false, false, false] rfl rfl (take_ofW HT_.out HW_.out (by kernel_rfl)) (fun _ _ _ h => h) (Or.inl ⟨by rfl, ?_⟩) hHeld ?_ ?_
         rotate_left
         ·rintro w' ⟨s0, s1, s2, s3, s4, s5, s6, s7, s8, s9, s10, s11⟩
          go_simp
          with_reducible rfl
         rotate_left
         ·simp only [Act.put, List.setIfInBounds_toArray, List.set_cons_zero, List.set_cons_succ, i64_w, i32_w]
          rfl
         refine pure_ (i := 16) (N := some 104) (v := ?_) (a' := ?_) #[true, true, true, true, true, true, true, true, true, true, true, true, true, true, true, true, true, false, false, false] rfl rfl (any_of HT_.out (by kernel_rfl)) (fun _ _ _ h => h) (Or.inl ⟨by rfl, ?_⟩) ?_ ?_
         rotate_left
         ·intro w'
          go_simp
          with_reducible rfl
         rotate_left
         ·simp only [Act.put, List.setIfInBounds_toArray, List.set_cons_zero, List.set_cons_succ, i64_w, i32_w]
          rfl
         refine last_ (i := 17) (N := some 105) #[true, true, true, true, true, true, true, true, true, true, true, true, true, true, true, true, true, true, false, false] rfl rfl (one_of HT_.out (by kernel_rfl)) (by decide) (fun K hK => ?_)
         refine value_ (w1 := ?_) (v := ?_) (by rfl) rfl ?_ ?_
         rotate_left 2
         ·go_simp
          constructor
          ·rfl
          rfl
         refine hK.out _ _ ?_
         clear hK K
         refine norm_ (a' := ?_) ?_ ?_
         rotate_left
         ·show Act.put _ (some 105) _ = _
          simp only [Act.put, List.setIfInBounds_toArray, List.set_cons_zero, List.set_cons_succ, i64_w, i32_w]
          rfl
         refine last_ (i := 18) (N := some 106) #[true, true, true, true, true, true, true, true, true, true, true, true, true, true, true, true, true, true, true, false] rfl rfl (one_of HT_.out (by kernel_rfl)) (by decide) (fun K hK => ?_)
         refine Kd.R_append_step k71 (w0 := w) w.heap.size (by rfl) (.tmp 88) (.tmp 105) 47 71 (.agg #[(.int .i64 0), (.int .i64 0), (.int .i64 0), (.int .i64 0), (.int .i64 0), (.int .i64 0), (.int .i64 0), (.string ⟨#[]⟩)]) 72 rfl Try.underlying47 info71 rfl (by decide) (by omega) (.slice (some ⟨go56, 0, none⟩) t102.length co74) y118 (⟨wrap64 ((t102.length : Int) + 1), a1_1, (rd_T71 y118 (ji53)).f2, a1_2, a1_2, 0, 0, a1_3⟩ : S71) [.int .i64 (wrap64 ((t102.length : Int) + 1)), .int .i64 a1_1, .int .i64 ((rd_T71 y118 (ji53)).f2), .int .i64 a1_2, .int .i64 a1_2, .int .i64 0, .int .i64 0, .string a1_3] (fun _ => True) (fun _ => False) rfl rfl ?aP (fun _ hk => hk.elim) ?aF ?aO ?aB ?aS ?aL ?_
         (case aP => exact k71_mkM _ _ _ (⟨wrap64 ((t102.length : Int) + 1), a1_1, (rd_T71 y118 (ji53)).f2, a1_2, a1_2, 0, 0, a1_3⟩ : S71))
         (case aB => exact (pH_ HB.out))
         (case aF => exact (fun _ _ => trivial))
         (case aO => exact (pR_ HO_6.out))
         (case aS => exact (below_size (pH_ HB.out)))
         (case aL => have := LMc58.out; omega)
         intro v121 w82 ho hb hg hat
         rw [← Ny120.out] at ho
         have n0_ := Aside0.mk (blk_grown (g := gb101) (o := .cells #[.int .i64 a1_0, .int .i64 a1_1, .int .i64 a1_2, .string a1_3] 61 (0, 0)) (pB_ BK101.out) hg (Kd.R_ne HO_6.out BK101.out (by decide)))
         have n1_ := Aside0.mk (hb)
         have n2_ := Aside0.mk (ho)
         clear BK101
         clear HB
         clear HO_6
         have BK101 := n0_
         have HB := n1_
         have HO122 := n2_
         clear n0_ n1_ n2_
         clear ho hb hg hat
         refine hK.out _ _ ?_
         clear hK K
         refine norm_ (a' := ?_) ?_ ?_
         rotate_left
         ·show Act.put _ (some 106) _ = _
          simp only [Act.put, List.setIfInBounds_toArray, List.set_cons_zero, List.set_cons_succ, i64_w, i32_w]
          rfl
         refine pure_ (i := 19) (N := some 6) (v := ?_) (a' := ?_) #[true, true, true, true, true, true, true, true, true, true, true, true, true, true, true, true, true, true, true, true] rfl rfl (any_of HT_.out (by kernel_rfl)) (fun _ _ _ h => h) (Or.inl ⟨by rfl, ?_⟩) ?_ ?_
         rotate_left
         ·intro w'
          go_simp
          with_reducible rfl
         rotate_left
         ·simp only [Act.put, List.setIfInBounds_toArray, List.set_cons_zero, List.set_cons_succ, i64_w, i32_w]
          rfl
         refine done_ (done_of HT_.out (by kernel_rfl)) ?_
         obtain ⟨Ao83, co83, eo83⟩ := Kd.R_slice HO122.out
         subst eo83
         try go_wp2_with (first | ((with_reducible refine gate_callee (f := 33) rfl ?_); refine goesL_ (some 137) rfl rfl Try.func33 (by kernel_rfl) rfl #[.slice Ao83 y120.length co83] rfl (by (try simp only [List.map_toArray, List.map_cons, List.map_nil]); first | done | rfl | (simp only [List.length_drop, List.length_take]; rfl)) ?_; (with_reducible refine (impl_IsValidSamples.calls kj11 _ _ y120 false _ ?side1 ?side2 A59.out).mono ?_); (case side1 => repeat (first | exact (Kd.R_reads' HO122.out).2.2 | (with_reducible refine Kd.C_alloc ?_ _) | (with_reducible refine Kd.C_drewN ?_ _) | (with_reducible refine Kd.C_drew ?_))); (case side2 => exact (Kd.R_reads' HO122.out).2.1); rintro e w84 ⟨rfl, hb⟩; refine ⟨_, rfl, ?_⟩; have n0_ := Aside0.mk (Kd.R_below (pR_ HO122.out) hb); have n1_ := Aside0.mk (blk_below (g := gb101) (o := .cells #[.int .i64 a1_0, .int .i64 a1_1, .int .i64 a1_2, .string a1_3] 61 (0, 0)) (pB_ BK101.out) hb); have n2_ := Aside0.mk (below_step (pH_ HB.out) hb); clear HO122; clear BK101; clear HB; have HO122 := n0_; have BK101 := n1_; have HB := n2_; clear n0_ n1_ n2_; (try clear hb); (try clear hb2); (try clear hk); (try clear hi)))
         go_ret2
         exact ⟨_, by first | rfl | (simp [errW_none, errW_some] <;> rfl) | (simp only [← hji53]; first | rfl | (simp [errW_none, errW_some] <;> rfl)) | (simp [*, errW_none, errW_some] <;> rfl), by first | exact Kd.R_nil _ _ _ _ _ | exact Kd.N_nil _ _ _ _ _ | exact Kd.V_nil _ _ _ _ _ | exact Kd.Q_nil _ _ _ _ _ | exact Kd.S_nil _ _ _ _ _, by repeat (first | (with_reducible first | exact HB.out | apply below_alloc | apply pw_below_drewN | apply below_drew1 | refine below_set ?_ GE101.out) | exact HB.out)⟩
        rw [if_neg c58] at H
        exact absurd H (by simp)
       rw [if_neg c55] at H
       exact absurd H (by simp)
      rw [if_neg c54] at H
      exact absurd H (by simp)
     rw [if_neg c52] at H
     have c52b0 : (a1_0 == 3) = false := beq_eq_false_iff_ne.mpr c52
     have c52b1 : (a1_0 != 3) = true := bne_iff_ne.mpr c52
     by_cases c85 : a1_0 = 4
     ·rw [if_pos c85] at H
      have c85b0 : (a1_0 == 4) = true := beq_iff_eq.mpr c85
      have c85b1 : (a1_0 != 4) = false := bne_eq_false_iff_eq.mpr c85
      clear c85
      by_cases c86 : a1_3.toList = ([] : List UInt8)
      ·rw [if_pos c86] at H
       have c86b0 : (a1_3.toList == ([] : List UInt8)) = true := beq_iff_eq.mpr c86
       have c86b1 : (a1_3.toList != ([] : List UInt8)) = false := bne_eq_false_iff_eq.mpr c86
       clear c86
       obtain ⟨ji87, hji87⟩ : ∃ j_ : Int, (wrap64 (a1_1 - 1)) = j_ := ⟨_, rfl⟩
       replace H : (if 0 ≤ (ji87) then (if (ji87) < (t102.length : Int) then ((some (t102.set ((ji87) : Int).toNat (⟨(rd_T71 t102 (ji87)).f0, (rd_T71 t102 (ji87)).f1, (rd_T71 t102 (ji87)).f2, (rd_T71 t102 (ji87)).f3, wrap64 (((rd_T71 t102 (ji87)).f4) - a1_2), (rd_T71 t102 (ji87)).f5, (rd_T71 t102 (ji87)).f6, (rd_T71 t102 (ji87)).f7⟩ : S71) : List (S71))).bind fun y125 => ((some (y125.set ((ji87) : Int).toNat (⟨(rd_T71 y125 (ji87)).f0, (rd_T71 y125 (ji87)).f1, (rd_T71 y125 (ji87)).f2, (rd_T71 y125 (ji87)).f3, (rd_T71 y125 (ji87)).f4, wrap64 (((rd_T71 y125 (ji87)).f5) + a1_2), (rd_T71 y125 (ji87)).f6, (rd_T71 y125 (ji87)).f7⟩ : S71) : List (S71))).bind fun y127 => ((impl_IsValidSamples.f kj11 y127).bind fun t128 => (if t128 = true then (some (y127, true)) else (some (([] : List (S71)), false)))))) else (none)) else (none)) = some (r1, r2) := by first | (rw [hji87] at H; exact H) | (simp only [hji87] at H ⊢; exact H)
       have hji87w : (IntKind.i64.wrap (a1_1 - 1)) = ji87 := (i64_w _).trans hji87
       by_cases c88 : 0 ≤ (ji87)
       ·rw [if_pos c88] at H
        have c88b0 : decide (0 ≤ (ji87)) = true := decide_eq_true c88
        clear c88
        by_cases c89 : (ji87) < (t102.length : Int)
        ·rw [if_pos c89] at H
         have c89b0 : decide ((ji87) < (t102.length : Int)) = true := decide_eq_true c89
         clear c89
         obtain ⟨y125, hy125⟩ : ∃ y_ : List (S71), y_ = (t102.set ((ji87) : Int).toNat (⟨(rd_T71 t102 (ji87)).f0, (rd_T71 t102 (ji87)).f1, (rd_T71 t102 (ji87)).f2, (rd_T71 t102 (ji87)).f3, wrap64 (((rd_T71 t102 (ji87)).f4) - a1_2), (rd_T71 t102 (ji87)).f5, (rd_T71 t102 (ji87)).f6, (rd_T71 t102 (ji87)).f7⟩ : S71)) := ⟨_, rfl⟩
         replace H : ((some (y125.set ((ji87) : Int).toNat (⟨(rd_T71 y125 (ji87)).f0, (rd_T71 y125 (ji87)).f1, (rd_T71 y125 (ji87)).f2, (rd_T71 y125 (ji87)).f3, (rd_T71 y125 (ji87)).f4, wrap64 (((rd_T71 y125 (ji87)).f5) + a1_2), (rd_T71 y125 (ji87)).f6, (rd_T71 y125 (ji87)).f7⟩ : S71) : List (S71))).bind fun y127 => ((impl_IsValidSamples.f kj11 y127).bind fun t128 => (if t128 = true then (some (y127, true)) else (some (([] : List (S71)), false))))) = some (r1, r2) := by first | (rw [hy125]; with_reducible exact H) | (have H2_ := (Option.bind_some _ _).symm.trans H; rw [hy125]; with_reducible exact H2_) | (have H2_ := (Option.bind_some _ _).symm.trans H; with_reducible exact H2_) | with_reducible exact H | (rw [hy125]; exact H) | exact H
         have Ny125 := Aside0.mk hy125
         clear hy125
         obtain ⟨y127, hy127⟩ : ∃ y_ : List (S71), y_ = (y125.set ((ji87) : Int).toNat (⟨(rd_T71 y125 (ji87)).f0, (rd_T71 y125 (ji87)).f1, (rd_T71 y125 (ji87)).f2, (rd_T71 y125 (ji87)).f3, (rd_T71 y125 (ji87)).f4, wrap64 (((rd_T71 y125 (ji87)).f5) + a1_2), (rd_T71 y125 (ji87)).f6, (rd_T71 y125 (ji87)).f7⟩ : S71)) := ⟨_, rfl⟩
         replace H : ((impl_IsValidSamples.f kj11 y127).bind fun t128 => (if t128 = true then (some (y127, true)) else (some (([] : List (S71)), false)))) = some (r1, r2) := by first | (rw [hy127]; with_reducible exact H) | (have H2_ := (Option.bind_some _ _).symm.trans H; rw [hy127]; with_reducible exact H2_) | (have H2_ := (Option.bind_some _ _).symm.trans H; with_reducible exact H2_) | with_reducible exact H | (rw [hy127]; exact H) | exact H
         have Ny127 := Aside0.mk hy127
         clear hy127
         replace H := Option.bind_eq_some_iff.mp H
         obtain ⟨t128, A920, H⟩ := H
         replace H : (if t128 = true then (some (y127, true)) else (some (([] : List (S71)), false))) = some (r1, r2) := H
         have A92 := Aside0.mk A920
         clear A920
         by_cases c93 : t128 = true
         ·subst c93
          have H1 : (some (y127, true)) = some (r1, r2) := by rw [if_pos rfl] at H; exact H
          clear H
          have H := H1
          clear H1
          simp only [Option.some.injEq, Prod.mk.injEq] at H
          obtain ⟨rfl, rfl⟩ := H
          have hcz94_0 := cz_ BK101.out 0 _ rfl
          have hcz94_1 := cz_ BK101.out 1 _ rfl
          have hcz94_2 := cz_ BK101.out 2 _ rfl
          have hcz94_3 := cz_ BK101.out 3 _ rfl
          have hfz94_0 := blk_frozen BK101.out 0
          have hfz94_1 := blk_frozen BK101.out 1
          have hfz94_2 := blk_frozen BK101.out 2
          have hfz94_3 := blk_frozen BK101.out 3
          try go_wp2
          have n0_ := Aside0.mk (Kd.R_drew HO_6.out)
          have n1_ := Aside0.mk (blk_drew BK101.out)
          have n2_ := Aside0.mk (below_drew1 HB.out)
          clear HO_6
          clear BK101
          clear HB
          have HO_6 := n0_
          have BK101 := n1_
          have HB := n2_
          clear n0_ n1_ n2_
          obtain ⟨Ao96, co96, eo96⟩ := Kd.R_slice HO_6.out
          (first | subst eo96 | (injection eo96 with f1_ f2_ f3_; have f4_ := f1_.symm; have f5_ := f3_.symm; clear f1_ f2_ f3_; subst f4_; subst f5_))
          have p124 : 0 ≤ ((ji87) : Int) := of_decide_eq_true (by first | (with_reducible assumption) | assumption)
          have q124 : (ji87) < (t102.length : Int) := of_decide_eq_true (by first | (with_reducible assumption) | assumption)
          obtain ⟨ad124, e124, hx124_0, hx124_1, hx124_2, hx124_3, hx124_4, hx124_5, hx124_6, hx124_7⟩ := at_T71 (Kd.R_reads' HO_6.out).2.2 (ji87) p124 q124
          cases e124
          replace p124 := eq_true p124
          replace q124 := eq_true q124
          have p90 : 0 ≤ ((ji87) : Int) := of_decide_eq_true (by first | (with_reducible assumption) | assumption)
          have q90 : ((ji87) : Int) < ((t102.length : Int) : Int) := of_decide_eq_true (by first | (with_reducible assumption) | assumption)
          obtain ⟨go90, co90, eo90, gb90, gl90, cl90, HG90⟩ := Kd.R_form HO_6.out (by omega)
          (first | cases eo90 | (injection eo90 with ea_ en_ ec_; (first | subst ea_ | (injection ea_ with ea_; subst ea_)); subst ec_; clear en_))
          have GB90 := Aside0.mk gb90
          have GG90 := Aside0.mk HG90
          clear gb90 gl90 HG90
          (first | simp only [add_plain] at hx124_0 | skip)
          (first | simp only [add_plain] at hx124_1 | skip)
          (first | simp only [add_plain] at hx124_2 | skip)
          (first | simp only [add_plain] at hx124_3 | skip)
          (first | simp only [add_plain] at hx124_4 | skip)
          (first | simp only [add_plain] at hx124_5 | skip)
          (first | simp only [add_plain] at hx124_6 | skip)
          (first | simp only [add_plain] at hx124_7 | skip)
          obtain ⟨ce90, hcl90, hM90, hcc90, hfr90⟩ := Kd.R_elem HO_6.out z71 ((ji87) : Int) p90 q90
          obtain rfl := k71_openM hM90
          have hx90_0 : World.cell? _ ⟨go90, ((ji87) : Int).toNat * 8, none⟩ = some (.int .i64 ((rd_T71 t102 (ji87)).f0)) := hcc90 0 _ rfl
          have hx90_1 : World.cell? _ ⟨go90, ((ji87) : Int).toNat * 8 + 1, none⟩ = some (.int .i64 ((rd_T71 t102 (ji87)).f1)) := hcc90 1 _ rfl
          have hx90_2 : World.cell? _ ⟨go90, ((ji87) : Int).toNat * 8 + 2, none⟩ = some (.int .i64 ((rd_T71 t102 (ji87)).f2)) := hcc90 2 _ rfl
          have hx90_3 : World.cell? _ ⟨go90, ((ji87) : Int).toNat * 8 + 3, none⟩ = some (.int .i64 ((rd_T71 t102 (ji87)).f3)) := hcc90 3 _ rfl
          have hx90_4 : World.cell? _ ⟨go90, ((ji87) : Int).toNat * 8 + 4, none⟩ = some (.int .i64 ((rd_T71 t102 (ji87)).f4)) := hcc90 4 _ rfl
          have hx90_5 : World.cell? _ ⟨go90, ((ji87) : Int).toNat * 8 + 5, none⟩ = some (.int .i64 ((rd_T71 t102 (ji87)).f5)) := hcc90 5 _ rfl
          have hx90_6 : World.cell? _ ⟨go90, ((ji87) : Int).toNat * 8 + 6, none⟩ = some (.int .i64 ((rd_T71 t102 (ji87)).f6)) := hcc90 6 _ rfl
          have hx90_7 : World.cell? _ ⟨go90, ((ji87) : Int).toNat * 8 + 7, none⟩ = some (.string ((rd_T71 t102 (ji87)).f7)) := hcc90 7 _ rfl
          have hf90_0 : World.frozen? _ ⟨go90, ((ji87) : Int).toNat * 8, none⟩ = false := hfr90 0
          have hf90_1 : World.frozen? _ ⟨go90, ((ji87) : Int).toNat * 8 + 1, none⟩ = false := hfr90 1
          have hf90_2 : World.frozen? _ ⟨go90, ((ji87) : Int).toNat * 8 + 2, none⟩ = false := hfr90 2
          have hf90_3 : World.frozen? _ ⟨go90, ((ji87) : Int).toNat * 8 + 3, none⟩ = false := hfr90 3
          have hf90_4 : World.frozen? _ ⟨go90, ((ji87) : Int).toNat * 8 + 4, none⟩ = false := hfr90 4
          have hf90_5 : World.frozen? _ ⟨go90, ((ji87) : Int).toNat * 8 + 5, none⟩ = false := hfr90 5
          have hf90_6 : World.frozen? _ ⟨go90, ((ji87) : Int).toNat * 8 + 6, none⟩ = false := hfr90 6
          have hf90_7 : World.frozen? _ ⟨go90, ((ji87) : Int).toNat * 8 + 7, none⟩ = false := hfr90 7
          clear hcl90 hcc90 hfr90 hM90
          replace p90 := eq_true p90
          replace q90 := eq_true q90
          obtain ⟨ce97, hcl97, hM97, hcc97, hfr97⟩ := Kd.R_elem HO_6.out z71 ((ji87) : Int) (of_decide_eq_true (by first | (with_reducible assumption) | assumption)) (by have h_ : ((ji87) : Int) < ((t102.length : Int) : Int) := of_decide_eq_true (by first | (with_reducible assumption) | assumption); first | exact h_ | (have e_ := (Kd.R_reads' HO_6.out).1; omega) | simpa using h_)
          obtain rfl := k71_openM hM97
          have HP97 := (Kd.R_seg HO_6.out ((ji87) : Int) (of_decide_eq_true (by first | (with_reducible assumption) | assumption)) (by have h_ : ((ji87) : Int) < ((t102.length : Int) : Int) := of_decide_eq_true (by first | (with_reducible assumption) | assumption); first | exact h_ | (have e_ := (Kd.R_reads' HO_6.out).1; omega) | simpa using h_) (seg := [.int .i64 (wrap64 (((rd_T71 t102 (ji87)).f4) - a1_2))]) (j := 4) hcl97 hcc97 (show 5 ≤ 8 from by decide) (x' := (⟨(rd_T71 t102 (ji87)).f0, (rd_T71 t102 (ji87)).f1, (rd_T71 t102 (ji87)).f2, (rd_T71 t102 (ji87)).f3, wrap64 (((rd_T71 t102 (ji87)).f4) - a1_2), (rd_T71 t102 (ji87)).f5, (rd_T71 t102 (ji87)).f6, (rd_T71 t102 (ji87)).f7⟩ : S71)) (k71_mkM _ _ _ (⟨(rd_T71 t102 (ji87)).f0, (rd_T71 t102 (ji87)).f1, (rd_T71 t102 (ji87)).f2, (rd_T71 t102 (ji87)).f3, wrap64 (((rd_T71 t102 (ji87)).f4) - a1_2), (rd_T71 t102 (ji87)).f5, (rd_T71 t102 (ji87)).f6, (rd_T71 t102 (ji87)).f7⟩ : S71) ) (fun _ hk => hk)).1
          rw [← Ny125.out] at HP97
          have HQ97 := Aside0.mk HP97
          clear hcl97 hcc97 hfr97 hM97 HP97
          refine start_ (n := 13) (S := fun w' => w'.cell? ⟨gb101, 0, none⟩ = some (.int .i64 a1_0) ∧ w'.cell? ⟨gb101, 1, none⟩ = some (.int .i64 a1_1) ∧ w'.cell? ⟨gb101, 2, none⟩ = some (.int .i64 a1_2) ∧ w'.cell? ⟨gb101, 3, none⟩ = some (.string a1_3) ∧ w'.cell? ⟨go90, (((ji87)).toNat * 8), none⟩ = some (.int .i64 ((rd_T71 t102 (ji87)).f0)) ∧ w'.cell? ⟨go90, (((ji87)).toNat * 8) + 1, none⟩ = some (.int .i64 ((rd_T71 t102 (ji87)).f1)) ∧ w'.cell? ⟨go90, (((ji87)).toNat * 8) + 2, none⟩ = some (.int .i64 ((rd_T71 t102 (ji87)).f2)) ∧ w'.cell? ⟨go90, (((ji87)).toNat * 8) + 3, none⟩ = some (.int .i64 ((rd_T71 t102 (ji87)).f3)) ∧ w'.cell? ⟨go90, (((ji87)).toNat * 8) + 4, none⟩ = some (.int .i64 ((rd_T71 t102 (ji87)).f4)) ∧ w'.cell? ⟨go90, (((ji87)).toNat * 8) + 5, none⟩ = some (.int .i64 ((rd_T71 t102 (ji87)).f5)) ∧ w'.cell? ⟨go90, (((ji87)).toNat * 8) + 6, none⟩ = some (.int .i64 ((rd_T71 t102 (ji87)).f6)) ∧ w'.cell? ⟨go90, (((ji87)).toNat * 8) + 7, none⟩ = some (.string ((rd_T71 t102 (ji87)).f7))) (ds := [12]) #[false, false, false, false, false, false, false, false, false, false, false, false, false] (by kernel_rfl) rfl rfl ⟨(blk_cell BK101.out 0).trans rfl, (blk_cell BK101.out 1).trans rfl, (blk_cell BK101.out 2).trans rfl, (blk_cell BK101.out 3).trans rfl, hx124_0, hx124_1, hx124_2, hx124_3, hx124_4, hx124_5, hx124_6, hx124_7⟩ (fun hHeld => ?_); refine with_tabW impl_apply.tab20 impl_apply.bits20 (fun HT_ HW_ => ?_)
          generalize wc.drew = w95 at HO_6 BK101 HB GG90 HQ97 hf90_0 hf90_1 hf90_2 hf90_3 hf90_4 hf90_5 hf90_6 hf90_7 hx124_0 hx124_1 hx124_2 hx124_3 hx124_4 hx124_5 hx124_6 hx124_7 hx90_0 hx90_1 hx90_2 hx90_3 hx90_4 hx90_5 hx90_6 hx90_7 hHeld ⊢
          refine pure_ (i := 0) (N := some 112) (v := ?_) (a' := ?_) #[true, false, false, false, false, false, false, false, false, false, false, false, false] rfl rfl (any_of HT_.out (by kernel_rfl)) (fun _ _ _ h => h) (Or.inl ⟨by rfl, ?_⟩) ?_ ?_
          rotate_left
          ·intro w'
           go_simp
           with_reducible rfl
          rotate_left
          ·simp only [Act.put, List.setIfInBounds_toArray, List.set_cons_zero, List.set_cons_succ, i64_w, i32_w]
           rfl
          refine pure_ (i := 1) (N := some 113) (v := ?_) (a' := ?_) #[true, true, false, false, false, false, false, false, false, false, false, false, false] rfl rfl (any_of HT_.out (by kernel_rfl)) (fun _ _ _ h => h) (Or.inl ⟨by rfl, ?_⟩) ?_ ?_
          rotate_left
          ·intro w'
           go_simp
           with_reducible rfl
          rotate_left
          ·simp only [Act.put, List.setIfInBounds_toArray, List.set_cons_zero, List.set_cons_succ, i64_w, i32_w]
           rfl
          refine pure_ (i := 7) (N := some 119) (v := ?_) (a' := ?_) #[true, true, false, false, false, false, false, true, false, false, false, false, false] rfl rfl (any_of HT_.out (by kernel_rfl)) (fun _ _ _ h => h) (Or.inl ⟨by rfl, ?_⟩) ?_ ?_
          rotate_left
          ·intro w'
           go_simp
           with_reducible rfl
          rotate_left
          ·simp only [Act.put, List.setIfInBounds_toArray, List.set_cons_zero, List.set_cons_succ, i64_w, i32_w]
           rfl
          refine take_ (i := 2) (N := some 114) (v := ?_) (a' := ?_) #[true, true, true, false, false, false, false, true, false, false, false, false, false] rfl rfl (take_ofW HT_.out HW_.out (by kernel_rfl)) (fun _ _ _ h => h) (Or.inl ⟨by rfl, ?_⟩) hHeld ?_ ?_
          rotate_left
          ·rintro w' ⟨s0, s1, s2, s3, s4, s5, s6, s7, s8, s9, s10, s11⟩
           go_simp
           with_reducible rfl
          rotate_left
          ·simp only [Act.put, List.setIfInBounds_toArray, List.set_cons_zero, List.set_cons_succ, i64_w, i32_w]
           rfl
          refine pure_ (i := 3) (N := some 115) (v := ?_) (a' := ?_) #[true, true, true, true, false, false, false, true, false, false, false, false, false] rfl rfl (any_of HT_.out (by kernel_rfl)) (fun _ _ _ h => h) (Or.inl ⟨by rfl, ?_⟩) ?_ ?_
          rotate_left
          ·intro w'
           go_simp
           with_reducible rfl
          rotate_left
          ·simp only [Act.put, List.setIfInBounds_toArray, List.set_cons_zero, List.set_cons_succ, i64_w, i32_w]
           rfl
          refine pure_ (i := 4) (N := some 116) (v := ?_) (a' := ?_) #[true, true, true, true, true, false, false, true, false, false, false, false, false] rfl rfl (any_of HT_.out (by kernel_rfl)) (fun _ _ _ h => h) (Or.inl ⟨by rfl, ?_⟩) ?_ ?_
          rotate_left
          ·intro w'
           go_simp
           with_reducible rfl
          rotate_left
          ·simp only [Act.put, List.setIfInBounds_toArray, List.set_cons_zero, List.set_cons_succ, i64_w, i32_w]
           rfl
          refine pure_ (i := 5) (N := some 117) (v := ?_) (a' := ?_) #[true, true, true, true, true, true, false, true, false, false, false, false, false] rfl rfl (any_of HT_.out (by kernel_rfl)) (fun _ _ _ h => h) (Or.inl ⟨by rfl, ?_⟩) ?_ ?_
          rotate_left
          ·intro w'
           go_simp
           with_reducible rfl
          rotate_left
          ·simp only [Act.put, List.setIfInBounds_toArray, List.set_cons_zero, List.set_cons_succ, i64_w, i32_w]
           rfl
          refine take_ (i := 6) (N := some 118) (v := ?_) (a' := ?_) #[true, true, true, true, true, true, true, true, false, false, false, false, false] rfl rfl (take_ofW HT_.out HW_.out (by kernel_rfl)) (fun _ _ _ h => h) (Or.inl ⟨by rfl, ?_⟩) hHeld ?_ ?_
          rotate_left
          ·rintro w' ⟨s0, s1, s2, s3, s4, s5, s6, s7, s8, s9, s10, s11⟩
           go_simp
           with_reducible rfl
          rotate_left
          ·simp only [Act.put, List.setIfInBounds_toArray, List.set_cons_zero, List.set_cons_succ, i64_w, i32_w]
           rfl
          refine take_ (i := 8) (N := some 120) (v := ?_) (a' := ?_) #[true, true, true, true, true, true, true, true, true, false, false, false, false] rfl rfl (take_ofW HT_.out HW_.out (by kernel_rfl)) (fun _ _ _ h => h) (Or.inl ⟨by rfl, ?_⟩) hHeld ?_ ?_
          rotate_left
          ·rintro w' ⟨s0, s1, s2, s3, s4, s5, s6, s7, s8, s9, s10, s11⟩
           go_simp
           with_reducible rfl
          rotate_left
          ·simp only [Act.put, List.setIfInBounds_toArray, List.set_cons_zero, List.set_cons_succ, i64_w, i32_w]
           rfl
          refine pure_ (i := 9) (N := some 121) (v := ?_) (a' := ?_) #[true, true, true, true, true, true, true, true, true, true, false, false, false] rfl rfl (any_of HT_.out (by kernel_rfl)) (fun _ _ _ h => h) (Or.inl ⟨by rfl, ?_⟩) ?_ ?_
          rotate_left
          ·intro w'
           go_simp
           with_reducible rfl
          rotate_left
          ·simp only [Act.put, List.setIfInBounds_toArray, List.set_cons_zero, List.set_cons_succ, i64_w, i32_w]
           rfl
          refine pure_ (i := 10) (N := some 122) (v := ?_) (a' := ?_) #[true, true, true, true, true, true, true, true, true, true, true, false, false] rfl rfl (any_of HT_.out (by kernel_rfl)) (fun _ _ _ h => h) (Or.inl ⟨by rfl, ?_⟩) ?_ ?_
          rotate_left
          ·intro w'
           go_simp
           with_reducible rfl
          rotate_left
          ·simp only [Act.put, List.setIfInBounds_toArray, List.set_cons_zero, List.set_cons_succ, i64_w, i32_w]
           rfl
          refine pure_ (i := 11) (N := some 123) (v := ?_) (a' := ?_) #[true, true, true, true, true, true, true, true, true, true, true, true, false] rfl rfl (any_of HT_.out (by kernel_rfl)) (fun _ _ _ h => h) (Or.inl ⟨by rfl, ?_⟩) ?_ ?_
          rotate_left
          ·intro w'
           go_simp
           with_reducible rfl
          rotate_left
          ·simp only [Act.put, List.setIfInBounds_toArray, List.set_cons_zero, List.set_cons_succ, i64_w, i32_w]
           rfl
          refine last_ (i := 12) (N := none) #[true, true, true, true, true, true, true, true, true, true, true, true, true] rfl rfl (one_of HT_.out (by kernel_rfl)) (by decide) (fun K hK => ?_)
          refine skip_ (w1 := ?_) (by rfl) rfl ?_ ?_
          rotate_left
          ·go_simp
           rfl
          refine hK.out _ _ ?_
          clear hK K
          refine done_ (done_of HT_.out (by kernel_rfl)) ?_
          try go_wp2
          have n0_ : Aside0 (Kd.R k71 71 (w95.setCell ⟨go90, ((ji87) : Int).toNat * 8 + 4, none⟩ (.int .i64 (wrap64 (((rd_T71 t102 (ji87)).f4) - a1_2)))) w.heap.size (fun _ => True) (.slice (some ⟨go90, 0, none⟩) t102.length co96) y125) := ⟨by (with_reducible repeat (first | apply Kd.R_alloc | apply Kd.R_drewN | apply Kd.R_drew)); exact HQ97.out⟩
          have n1_ : Aside0 ((w95.setCell ⟨go90, ((ji87) : Int).toNat * 8 + 4, none⟩ (.int .i64 (wrap64 (((rd_T71 t102 (ji87)).f4) - a1_2)))).heap[gb101]? = some (.cells #[.int .i64 a1_0, .int .i64 a1_1, .int .i64 a1_2, .string a1_3] 61 (0, 0))) := ⟨by (with_reducible repeat (first | refine blk_drewN ?_ _ | refine blk_drew ?_ | refine blk_alloc ?_ _)); refine blk_far ?_ (by have h_ := Kd.R_ne HO_6.out BK101.out (by decide); intro e_; exact h_ (by rw [e_]; rfl)) _; (with_reducible repeat (first | refine blk_drewN ?_ _ | refine blk_drew ?_ | refine blk_alloc ?_ _)); exact BK101.out⟩
          have n2_ : Aside0 (Below w.heap.size w (w95.setCell ⟨go90, ((ji87) : Int).toNat * 8 + 4, none⟩ (.int .i64 (wrap64 (((rd_T71 t102 (ji87)).f4) - a1_2))))) := ⟨by repeat (first | (with_reducible first | exact HB.out | apply below_alloc | apply pw_below_drewN | apply below_drew1 | refine below_set ?_ GB90.out | refine below_set ?_ GE101.out) | exact HB.out)⟩
          (try clear HO_6)
          (try clear BK101)
          (try clear HB)
          generalize (w95.setCell ⟨go90, ((ji87) : Int).toNat * 8 + 4, none⟩ (.int .i64 (wrap64 (((rd_T71 t102 (ji87)).f4) - a1_2)))) = w98 at n0_ n1_ n2_ ⊢
          have HO_6 := n0_
          have BK101 := n1_
          have HB := n2_
          clear n0_ n1_ n2_
          have n0_ := Aside0.mk (Kd.R_drew HO_6.out)
          have n1_ := Aside0.mk (blk_drew BK101.out)
          have n2_ := Aside0.mk (below_drew1 HB.out)
          clear HO_6
          clear BK101
          clear HB
          have HO_6 := n0_
          have BK101 := n1_
          have HB := n2_
          clear n0_ n1_ n2_
          have p126 : 0 ≤ ((ji87) : Int) := of_decide_eq_true (by first | (with_reducible assumption) | assumption)
          have q126 : (ji87) < (y125.length : Int) := (by have h_ : ((ji87) : Int) < ((t102.length : Int) : Int) := of_decide_eq_true (by first | (with_reducible assumption) | assumption); first | (have e_ := (Kd.R_reads' HO_6.out).1; omega) | simpa only [Ny125.out, List.length_set] using h_)
          have ql126 : (((ji87) : Int) < ((t102.length : Int) : Int)) = True := eq_true (of_decide_eq_true (by first | (with_reducible assumption) | assumption))
          obtain ⟨ad126, e126, hx126_0, hx126_1, hx126_2, hx126_3, hx126_4, hx126_5, hx126_6, hx126_7⟩ := at_T71 (Kd.R_reads' HO_6.out).2.2 (ji87) p126 q126
          obtain rfl : (⟨go90, 0, none⟩ : Addr) = ad126 := (by injection e126)
          (first | simp only [add_plain] at hx126_0 | simp only [add_at] at hx126_0 | simp only [Addr.add, Nat.zero_add] at hx126_0 | skip)
          (first | simp only [add_plain] at hx126_1 | simp only [add_at] at hx126_1 | simp only [Addr.add, Nat.zero_add] at hx126_1 | skip)
          (first | simp only [add_plain] at hx126_2 | simp only [add_at] at hx126_2 | simp only [Addr.add, Nat.zero_add] at hx126_2 | skip)
          (first | simp only [add_plain] at hx126_3 | simp only [add_at] at hx126_3 | simp only [Addr.add, Nat.zero_add] at hx126_3 | skip)
          (first | simp only [add_plain] at hx126_4 | simp only [add_at] at hx126_4 | simp only [Addr.add, Nat.zero_add] at hx126_4 | skip)
          (first | simp only [add_plain] at hx126_5 | simp only [add_at] at hx126_5 | simp only [Addr.add, Nat.zero_add] at hx126_5 | skip)
          (first | simp only [add_plain] at hx126_6 | simp only [add_at] at hx126_6 | simp only [Addr.add, Nat.zero_add] at hx126_6 | skip)
          (first | simp only [add_plain] at hx126_7 | simp only [add_at] at hx126_7 | simp only [Addr.add, Nat.zero_add] at hx126_7 | skip)
          replace p126 := eq_true p126
          replace q126 := eq_true q126
          have p91 : 0 ≤ ((ji87) : Int) := of_decide_eq_true (by first | (with_reducible assumption) | assumption)
          have q91 : ((ji87) : Int) < ((t102.length : Int) : Int) := of_decide_eq_true (by first | (with_reducible assumption) | assumption)
          obtain ⟨ce91, hcl91, hM91, hcc91, hfr91⟩ := Kd.R_elem HO_6.out z71 ((ji87) : Int) p91 q91
          obtain rfl := k71_openM hM91
          have hx91_0 : World.cell? _ ⟨go90, ((ji87) : Int).toNat * 8, none⟩ = some (.int .i64 ((rd_T71 y125 (ji87)).f0)) := hcc91 0 _ rfl
          have hx91_1 : World.cell? _ ⟨go90, ((ji87) : Int).toNat * 8 + 1, none⟩ = some (.int .i64 ((rd_T71 y125 (ji87)).f1)) := hcc91 1 _ rfl
          have hx91_2 : World.cell? _ ⟨go90, ((ji87) : Int).toNat * 8 + 2, none⟩ = some (.int .i64 ((rd_T71 y125 (ji87)).f2)) := hcc91 2 _ rfl
          have hx91_3 : World.cell? _ ⟨go90, ((ji87) : Int).toNat * 8 + 3, none⟩ = some (.int .i64 ((rd_T71 y125 (ji87)).f3)) := hcc91 3 _ rfl
          have hx91_4 : World.cell? _ ⟨go90, ((ji87) : Int).toNat * 8 + 4, none⟩ = some (.int .i64 ((rd_T71 y125 (ji87)).f4)) := hcc91 4 _ rfl
          have hx91_5 : World.cell? _ ⟨go90, ((ji87) : Int).toNat * 8 + 5, none⟩ = some (.int .i64 ((rd_T71 y125 (ji87)).f5)) := hcc91 5 _ rfl
          have hx91_6 : World.cell? _ ⟨go90, ((ji87) : Int).toNat * 8 + 6, none⟩ = some (.int .i64 ((rd_T71 y125 (ji87)).f6)) := hcc91 6 _ rfl
          have hx91_7 : World.cell? _ ⟨go90, ((ji87) : Int).toNat * 8 + 7, none⟩ = some (.string ((rd_T71 y125 (ji87)).f7)) := hcc91 7 _ rfl
          have hf91_0 : World.frozen? _ ⟨go90, ((ji87) : Int).toNat * 8, none⟩ = false := hfr91 0
          have hf91_1 : World.frozen? _ ⟨go90, ((ji87) : Int).toNat * 8 + 1, none⟩ = false := hfr91 1
          have hf91_2 : World.frozen? _ ⟨go90, ((ji87) : Int).toNat * 8 + 2, none⟩ = false := hfr91 2
          have hf91_3 : World.frozen? _ ⟨go90, ((ji87) : Int).toNat * 8 + 3, none⟩ = false := hfr91 3
          have hf91_4 : World.frozen? _ ⟨go90, ((ji87) : Int).toNat * 8 + 4, none⟩ = false := hfr91 4
          have hf91_5 : World.frozen? _ ⟨go90, ((ji87) : Int).toNat * 8 + 5, none⟩ = false := hfr91 5
          have hf91_6 : World.frozen? _ ⟨go90, ((ji87) : Int).toNat * 8 + 6, none⟩ = false := hfr91 6
          have hf91_7 : World.frozen? _ ⟨go90, ((ji87) : Int).toNat * 8 + 7, none⟩ = false := hfr91 7
          clear hcl91 hcc91 hfr91 hM91
          replace p91 := eq_true p91
          replace q91 := eq_true q91
          obtain ⟨ce100, hcl100, hM100, hcc100, hfr100⟩ := Kd.R_elem HO_6.out z71 ((ji87) : Int) (of_decide_eq_true (by first | (with_reducible assumption) | assumption)) (by have h_ : ((ji87) : Int) < ((t102.length : Int) : Int) := of_decide_eq_true (by first | (with_reducible assumption) | assumption); first | exact h_ | (have e_ := (Kd.R_reads' HO_6.out).1; omega) | simpa using h_)
          obtain rfl := k71_openM hM100
          have HP100 := (Kd.R_seg HO_6.out ((ji87) : Int) (of_decide_eq_true (by first | (with_reducible assumption) | assumption)) (by have h_ : ((ji87) : Int) < ((t102.length : Int) : Int) := of_decide_eq_true (by first | (with_reducible assumption) | assumption); first | exact h_ | (have e_ := (Kd.R_reads' HO_6.out).1; omega) | simpa using h_) (seg := [.int .i64 (wrap64 (((rd_T71 y125 (ji87)).f5) + a1_2))]) (j := 5) hcl100 hcc100 (show 6 ≤ 8 from by decide) (x' := (⟨(rd_T71 y125 (ji87)).f0, (rd_T71 y125 (ji87)).f1, (rd_T71 y125 (ji87)).f2, (rd_T71 y125 (ji87)).f3, (rd_T71 y125 (ji87)).f4, wrap64 (((rd_T71 y125 (ji87)).f5) + a1_2), (rd_T71 y125 (ji87)).f6, (rd_T71 y125 (ji87)).f7⟩ : S71)) (k71_mkM _ _ _ (⟨(rd_T71 y125 (ji87)).f0, (rd_T71 y125 (ji87)).f1, (rd_T71 y125 (ji87)).f2, (rd_T71 y125 (ji87)).f3, (rd_T71 y125 (ji87)).f4, wrap64 (((rd_T71 y125 (ji87)).f5) + a1_2), (rd_T71 y125 (ji87)).f6, (rd_T71 y125 (ji87)).f7⟩ : S71) ) (fun _ hk => hk)).1
          rw [← Ny127.out] at HP100
          have HQ100 := Aside0.mk HP100
          clear hcl100 hcc100 hfr100 hM100 HP100
          refine start_ (n := 13) (S := fun w' => w'.cell? ⟨gb101, 0, none⟩ = some (.int .i64 a1_0) ∧ w'.cell? ⟨gb101, 1, none⟩ = some (.int .i64 a1_1) ∧ w'.cell? ⟨gb101, 2, none⟩ = some (.int .i64 a1_2) ∧ w'.cell? ⟨gb101, 3, none⟩ = some (.string a1_3) ∧ w'.cell? ⟨go90, ((ji87)).toNat * 8, none⟩ = some (.int .i64 ((rd_T71 y125 (ji87)).f0)) ∧ w'.cell? ⟨go90, ((ji87)).toNat * 8 + 1, none⟩ = some (.int .i64 ((rd_T71 y125 (ji87)).f1)) ∧ w'.cell? ⟨go90, ((ji87)).toNat * 8 + 2, none⟩ = some (.int .i64 ((rd_T71 y125 (ji87)).f2)) ∧ w'.cell? ⟨go90, ((ji87)).toNat * 8 + 3, none⟩ = some (.int .i64 ((rd_T71 y125 (ji87)).f3)) ∧ w'.cell? ⟨go90, ((ji87)).toNat * 8 + 4, none⟩ = some (.int .i64 ((rd_T71 y125 (ji87)).f4)) ∧ w'.cell? ⟨go90, ((ji87)).toNat * 8 + 5, none⟩ = some (.int .i64 ((rd_T71 y125 (ji87)).f5)) ∧ w'.cell? ⟨go90, ((ji87)).toNat * 8 + 6, none⟩ = some (.int .i64 ((rd_T71 y125 (ji87)).f6)) ∧ w'.cell? ⟨go90, ((ji87)).toNat * 8 + 7, none⟩ = some (.string ((rd_T71 y125 (ji87)).f7))) (ds := [12]) #[false, false, false, false, false, false, false, false, false, false, false, false, false] (by kernel_rfl) rfl rfl ⟨(blk_cell BK101.out 0).trans rfl, (blk_cell BK101.out 1).trans rfl, (blk_cell BK101.out 2).trans rfl, (blk_cell BK101.out 3).trans rfl, hx126_0, hx126_1, hx126_2, hx126_3, hx126_4, hx126_5, hx126_6, hx126_7⟩ (fun hHeld => ?_); refine with_tabW impl_apply.tab21 impl_apply.bits21 (fun HT_ HW_ => ?_)
          generalize w98.drew = w99 at HO_6 BK101 HB HQ100 HQ97 hf91_0 hf91_1 hf91_2 hf91_3 hf91_4 hf91_5 hf91_6 hf91_7 hx126_0 hx126_1 hx126_2 hx126_3 hx126_4 hx126_5 hx126_6 hx126_7 hx91_0 hx91_1 hx91_2 hx91_3 hx91_4 hx91_5 hx91_6 hx91_7 hHeld ⊢
          refine pure_ (i := 0) (N := some 124) (v := ?_) (a' := ?_) #[true, false, false, false, false, false, false, false, false, false, false, false, false] rfl rfl (any_of HT_.out (by kernel_rfl)) (fun _ _ _ h => h) (Or.inl ⟨by rfl, ?_⟩) ?_ ?_
          rotate_left
          ·intro w'
           go_simp
           with_reducible rfl
          rotate_left
          ·simp only [Act.put, List.setIfInBounds_toArray, List.set_cons_zero, List.set_cons_succ, i64_w, i32_w]
           rfl
          refine pure_ (i := 1) (N := some 125) (v := ?_) (a' := ?_) #[true, true, false, false, false, false, false, false, false, false, false, false, false] rfl rfl (any_of HT_.out (by kernel_rfl)) (fun _ _ _ h => h) (Or.inl ⟨by rfl, ?_⟩) ?_ ?_
          rotate_left
          ·intro w'
           go_simp
           with_reducible rfl
          rotate_left
          ·simp only [Act.put, List.setIfInBounds_toArray, List.set_cons_zero, List.set_cons_succ, i64_w, i32_w]
           rfl
          refine pure_ (i := 7) (N := some 131) (v := ?_) (a' := ?_) #[true, true, false, false, false, false, false, true, false, false, false, false, false] rfl rfl (any_of HT_.out (by kernel_rfl)) (fun _ _ _ h => h) (Or.inl ⟨by rfl, ?_⟩) ?_ ?_
          rotate_left
          ·intro w'
           go_simp
           with_reducible rfl
          rotate_left
          ·simp only [Act.put, List.setIfInBounds_toArray, List.set_cons_zero, List.set_cons_succ, i64_w, i32_w]
           rfl
          refine take_ (i := 2) (N := some 126) (v := ?_) (a' := ?_) #[true, true, true, false, false, false, false, true, false, false, false, false, false] rfl rfl (take_ofW HT_.out HW_.out (by kernel_rfl)) (fun _ _ _ h => h) (Or.inl ⟨by rfl, ?_⟩) hHeld ?_ ?_
          rotate_left
          ·rintro w' ⟨s0, s1, s2, s3, s4, s5, s6, s7, s8, s9, s10, s11⟩
           go_simp
           with_reducible rfl
          rotate_left
          ·simp only [Act.put, List.setIfInBounds_toArray, List.set_cons_zero, List.set_cons_succ, i64_w, i32_w]
           rfl
          refine pure_ (i := 3) (N := some 127) (v := ?_) (a' := ?_) #[true, true, true, true, false, false, false, true, false, false, false, false, false] rfl rfl (any_of HT_.out (by kernel_rfl)) (fun _ _ _ h => h) (Or.inl ⟨by rfl, ?_⟩) ?_ ?_
          rotate_left
          ·intro w'
           go_simp
           with_reducible rfl
          rotate_left
          ·simp only [Act.put, List.setIfInBounds_toArray, List.set_cons_zero, List.set_cons_succ, i64_w, i32_w]
           rfl
          refine pure_ (i := 4) (N := some 128) (v := ?_) (a' := ?_) #[true, true, true, true, true, false, false, true, false, false, false, false, false] rfl rfl (any_of HT_.out (by kernel_rfl)) (fun _ _ _ h => h) (Or.inl ⟨by rfl, ?_⟩) ?_ ?_
          rotate_left
          ·intro w'
           go_simp
           with_reducible rfl
          rotate_left
          ·simp only [Act.put, List.setIfInBounds_toArray, List.set_cons_zero, List.set_cons_succ, i64_w, i32_w]
           rfl
          refine pure_ (i := 5) (N := some 129) (v := ?_) (a' := ?_) #[true, true, true, true, true, true, false, true, false, false, false, false, false] rfl rfl (any_of HT_.out (by kernel_rfl)) (fun _ _ _ h => h) (Or.inl ⟨by rfl, ?_⟩) ?_ ?_
          rotate_left
          ·intro w'
           go_simp
           with_reducible rfl
          rotate_left
          ·simp only [Act.put, List.setIfInBounds_toArray, List.set_cons_zero, List.set_cons_succ, i64_w, i32_w]
           rfl
          refine take_ (i := 6) (N := some 130) (v := ?_) (a' := ?_) #[true, true, true, true, true, true, true, true, false, false, false, false, false] rfl rfl (take_ofW HT_.out HW_.out (by kernel_rfl)) (fun _ _ _ h => h) (Or.inl ⟨by rfl, ?_⟩) hHeld ?_ ?_
          rotate_left
          ·rintro w' ⟨s0, s1, s2, s3, s4, s5, s6, s7, s8, s9, s10, s11⟩
           go_simp
           with_reducible rfl
          rotate_left
          ·simp only [Act.put, List.setIfInBounds_toArray, List.set_cons_zero, List.set_cons_succ, i64_w, i32_w]
           rfl
          refine take_ (i := 8) (N := some 132) (v := ?_) (a' := ?_) #[true, true, true, true, true, true, true, true, true, false, false, false, false] rfl rfl (take_ofW HT_.out HW_.out (by kernel_rfl)) (fun _ _ _ h => h) (Or.inl ⟨by rfl, ?_⟩) hHeld ?_ ?_
          rotate_left
          ·rintro w' ⟨s0, s1, s2, s3, s4, s5, s6, s7, s8, s9, s10, s11⟩
           go_simp
           with_reducible rfl
          rotate_left
          ·simp only [Act.put, List.setIfInBounds_toArray, List.set_cons_zero, List.set_cons_succ, i64_w, i32_w]
           rfl
          refine pure_ (i := 9) (N := some 133) (v := ?_) (a' := ?_) #[true, true, true, true, true, true, true, true, true, true, false, false, false] rfl rfl (any_of HT_.out (by kernel_rfl)) (fun _ _ _ h => h) (Or.inl ⟨by rfl, ?_⟩) ?_ ?_
          rotate_left
          ·intro w'
           go_simp
           with_reducible rfl
          rotate_left
          ·simp only [Act.put, List.setIfInBounds_toArray, List.set_cons_zero, List.set_cons_succ, i64_w, i32_w]
           rfl
          refine pure_ (i := 10) (N := some 134) (v := ?_) (a' := ?_) #[true, true, true, true, true, true, true, true, true, true, true, false, false] rfl rfl (any_of HT_.out (by kernel_rfl)) (fun _ _ _ h => h) (Or.inl ⟨by rfl, ?_⟩) ?_ ?_
          rotate_left
          ·intro w'
           go_simp
           with_reducible rfl
          rotate_left
          ·simp only [Act.put, List.setIfInBounds_toArray, List.set_cons_zero, List.set_cons_succ, i64_w, i32_w]
           rfl
          refine pure_ (i := 11) (N := some 135) (v := ?_) (a' := ?_) #[true, true, true, true, true, true, true, true, true, true, true, true, false] rfl rfl (any_of HT_.out (by kernel_rfl)) (fun _ _ _ h => h) (Or.inl ⟨by rfl, ?_⟩) ?_ ?_
          rotate_left
          ·intro w'
           go_simp
           with_reducible rfl
          rotate_left
          ·simp only [Act.put, List.setIfInBounds_toArray, List.set_cons_zero, List.set_cons_succ, i64_w, i32_w]
           rfl
          refine last_ (i := 12) (N := none) #[true, true, true, true, true, true, true, true, true, true, true, true, true] rfl rfl (one_of HT_.out (by kernel_rfl)) (by decide) (fun K hK => ?_)
          refine skip_ (w1 := ?_) (by rfl) rfl ?_ ?_
          rotate_left
          ·go_simp
           rfl
          refine hK.out _ _ ?_
          clear hK K
          refine done_ (done_of HT_.out (by kernel_rfl)) ?_
          try go_wp2_with (first | ((with_reducible refine gate_callee (f := 33) rfl ?_); refine goesL_ (some 137) rfl rfl Try.func33 (by kernel_rfl) rfl #[.slice (some ⟨go90, 0, none⟩) y127.length co96] rfl (by (try simp only [List.map_toArray, List.map_cons, List.map_nil]); first | done | (rw [show y127.length = t102.length from (Kd.R_reads' HQ100.out).1.symm] <;> rfl) | rfl | (simp only [List.length_drop, List.length_take]; rfl)) ?_; (with_reducible refine (impl_IsValidSamples.calls kj11 _ _ y127 true _ ?side1 ?side2 A92.out).mono ?_); (case side1 => refine (Kd.R_reads' (e := 71) (base := w.heap.size) (ok := fun k_ => True) (n := t102.length) (c := co96) ?_).2.2; exact (pR_ HQ100.out)); (case side2 => rw [show y127.length = t102.length from (Kd.R_reads' HQ100.out).1.symm]; exact (Kd.R_reads' HO_6.out).2.1); rintro e w101 ⟨rfl, hb⟩; refine ⟨_, rfl, ?_⟩; have n0_ := Aside0.mk (Kd.R_below (pR_ HQ100.out) hb); have n1_ := Aside0.mk (blk_below (g := gb101) (o := .cells #[.int .i64 a1_0, .int .i64 a1_1, .int .i64 a1_2, .string a1_3] 61 (0, 0)) (by (with_reducible repeat (first | refine blk_drewN ?_ _ | refine blk_drew ?_ | refine blk_alloc ?_ _)); refine blk_far ?_ (by have h_ := Kd.R_ne HO_6.out BK101.out (by decide); intro e_; exact h_ (by rw [e_]; rfl)) _; (with_reducible repeat (first | refine blk_drewN ?_ _ | refine blk_drew ?_ | refine blk_alloc ?_ _)); exact BK101.out) hb); have n2_ := Aside0.mk (below_step (pH_ HB.out) hb); clear HO_6; clear BK101; clear HB; have HO_6 := n0_; have BK101 := n1_; have HB := n2_; clear n0_ n1_ n2_; (try clear hb); (try clear hb2); (try clear hk); (try clear hi)))
          go_ret2
          exact ⟨_, by first | rfl | (simp [errW_none, errW_some] <;> rfl) | (simp only [← hji87]; first | rfl | (simp [errW_none, errW_some] <;> rfl)) | (simp [*, errW_none, errW_some] <;> rfl), by (with_reducible repeat (first | apply Kd.R_alloc | apply Kd.R_drewN | apply Kd.R_drew)); exact HO_6.out, by repeat (first | (with_reducible first | exact HB.out | apply below_alloc | apply pw_below_drewN | apply below_drew1 | refine below_set ?_ GE101.out) | exact HB.out)⟩
         replace c93 := Bool.eq_false_iff.mpr c93
         subst c93
         have H1 : (some (([] : List (S71)), false)) = some (r1, r2) := by rw [if_neg (show ¬ (false = true) by decide)] at H; exact H
         clear H
         have H := H1
         clear H1
         simp only [Option.some.injEq, Prod.mk.injEq] at H
         obtain ⟨rfl, rfl⟩ := H
         have hcz102_0 := cz_ BK101.out 0 _ rfl
         have hcz102_1 := cz_ BK101.out 1 _ rfl
         have hcz102_2 := cz_ BK101.out 2 _ rfl
         have hcz102_3 := cz_ BK101.out 3 _ rfl
         have hfz102_0 := blk_frozen BK101.out 0
         have hfz102_1 := blk_frozen BK101.out 1
         have hfz102_2 := blk_frozen BK101.out 2
         have hfz102_3 := blk_frozen BK101.out 3
         try go_wp2
         have n0_ := Aside0.mk (Kd.R_drew HO_6.out)
         have n1_ := Aside0.mk (blk_drew BK101.out)
         have n2_ := Aside0.mk (below_drew1 HB.out)
         clear HO_6
         clear BK101
         clear HB
         have HO_6 := n0_
         have BK101 := n1_
         have HB := n2_
         clear n0_ n1_ n2_
         obtain ⟨Ao104, co104, eo104⟩ := Kd.R_slice HO_6.out
         (first | subst eo104 | (injection eo104 with f1_ f2_ f3_; have f4_ := f1_.symm; have f5_ := f3_.symm; clear f1_ f2_ f3_; subst f4_; subst f5_))
         have p124 : 0 ≤ ((ji87) : Int) := of_decide_eq_true (by first | (with_reducible assumption) | assumption)
         have q124 : (ji87) < (t102.length : Int) := of_decide_eq_true (by first | (with_reducible assumption) | assumption)
         obtain ⟨ad124, e124, hx124_0, hx124_1, hx124_2, hx124_3, hx124_4, hx124_5, hx124_6, hx124_7⟩ := at_T71 (Kd.R_reads' HO_6.out).2.2 (ji87) p124 q124
         cases e124
         replace p124 := eq_true p124
         replace q124 := eq_true q124
         have p90 : 0 ≤ ((ji87) : Int) := of_decide_eq_true (by first | (with_reducible assumption) | assumption)
         have q90 : ((ji87) : Int) < ((t102.length : Int) : Int) := of_decide_eq_true (by first | (with_reducible assumption) | assumption)
         obtain ⟨go90, co90, eo90, gb90, gl90, cl90, HG90⟩ := Kd.R_form HO_6.out (by omega)
         (first | cases eo90 | (injection eo90 with ea_ en_ ec_; (first | subst ea_ | (injection ea_ with ea_; subst ea_)); subst ec_; clear en_))
         have GB90 := Aside0.mk gb90
         have GG90 := Aside0.mk HG90
         clear gb90 gl90 HG90
         (first | simp only [add_plain] at hx124_0 | skip)
         (first | simp only [add_plain] at hx124_1 | skip)
         (first | simp only [add_plain] at hx124_2 | skip)
         (first | simp only [add_plain] at hx124_3 | skip)
         (first | simp only [add_plain] at hx124_4 | skip)
         (first | simp only [add_plain] at hx124_5 | skip)
         (first | simp only [add_plain] at hx124_6 | skip)
         (first | simp only [add_plain] at hx124_7 | skip)
         obtain ⟨ce90, hcl90, hM90, hcc90, hfr90⟩ := Kd.R_elem HO_6.out z71 ((ji87) : Int) p90 q90
         obtain rfl := k71_openM hM90
         have hx90_0 : World.cell? _ ⟨go90, ((ji87) : Int).toNat * 8, none⟩ = some (.int .i64 ((rd_T71 t102 (ji87)).f0)) := hcc90 0 _ rfl
         have hx90_1 : World.cell? _ ⟨go90, ((ji87) : Int).toNat * 8 + 1, none⟩ = some (.int .i64 ((rd_T71 t102 (ji87)).f1)) := hcc90 1 _ rfl
         have hx90_2 : World.cell? _ ⟨go90, ((ji87) : Int).toNat * 8 + 2, none⟩ = some (.int .i64 ((rd_T71 t102 (ji87)).f2)) := hcc90 2 _ rfl
         have hx90_3 : World.cell? _ ⟨go90, ((ji87) : Int).toNat * 8 + 3, none⟩ = some (.int .i64 ((rd_T71 t102 (ji87)).f3)) := hcc90 3 _ rfl
         have hx90_4 : World.cell? _ ⟨go90, ((ji87) : Int).toNat * 8 + 4, none⟩ = some (.int .i64 ((rd_T71 t102 (ji87)).f4)) := hcc90 4 _ rfl
         have hx90_5 : World.cell? _ ⟨go90, ((ji87) : Int).toNat * 8 + 5, none⟩ = some (.int .i64 ((rd_T71 t102 (ji87)).f5)) := hcc90 5 _ rfl
         have hx90_6 : World.cell? _ ⟨go90, ((ji87) : Int).toNat * 8 + 6, none⟩ = some (.int .i64 ((rd_T71 t102 (ji87)).f6)) := hcc90 6 _ rfl
         have hx90_7 : World.cell? _ ⟨go90, ((ji87) : Int).toNat * 8 + 7, none⟩ = some (.string ((rd_T71 t102 (ji87)).f7)) := hcc90 7 _ rfl
         have hf90_0 : World.frozen? _ ⟨go90, ((ji87) : Int).toNat * 8, none⟩ = false := hfr90 0
         have hf90_1 : World.frozen? _ ⟨go90, ((ji87) : Int).toNat * 8 + 1, none⟩ = false := hfr90 1
         have hf90_2 : World.frozen? _ ⟨go90, ((ji87) : Int).toNat * 8 + 2, none⟩ = false := hfr90 2
         have hf90_3 : World.frozen? _ ⟨go90, ((ji87) : Int).toNat * 8 + 3, none⟩ = false := hfr90 3
         have hf90_4 : World.frozen? _ ⟨go90, ((ji87) : Int).toNat * 8 + 4, none⟩ = false := hfr90 4
         have hf90_5 : World.frozen? _ ⟨go90, ((ji87) : Int).toNat * 8 + 5, none⟩ = false := hfr90 5
         have hf90_6 : World.frozen? _ ⟨go90, ((ji87) : Int).toNat * 8 + 6, none⟩ = false := hfr90 6
         have hf90_7 : World.frozen? _ ⟨go90, ((ji87) : Int).toNat * 8 + 7, none⟩ = false := hfr90 7
         clear hcl90 hcc90 hfr90 hM90
         replace p90 := eq_true p90
         replace q90 := eq_true q90
         obtain ⟨ce105, hcl105, hM105, hcc105, hfr105⟩ := Kd.R_elem HO_6.out z71 ((ji87) : Int) (of_decide_eq_true (by first | (with_reducible assumption) | assumption)) (by have h_ : ((ji87) : Int) < ((t102.length : Int) : Int) := of_decide_eq_true (by first | (with_reducible assumption) | assumption); first | exact h_ | (have e_ := (Kd.R_reads' HO_6.out).1; omega) | simpa using h_)
         obtain rfl := k71_openM hM105
         have HP105 := (Kd.R_seg HO_6.out ((ji87) : Int) (of_decide_eq_true (by first | (with_reducible assumption) | assumption)) (by have h_ : ((ji87) : Int) < ((t102.length : Int) : Int) := of_decide_eq_true (by first | (with_reducible assumption) | assumption); first | exact h_ | (have e_ := (Kd.R_reads' HO_6.out).1; omega) | simpa using h_) (seg := [.int .i64 (wrap64 (((rd_T71 t102 (ji87)).f4) - a1_2))]) (j := 4) hcl105 hcc105 (show 5 ≤ 8 from by decide) (x' := (⟨(rd_T71 t102 (ji87)).f0, (rd_T71 t102 (ji87)).f1, (rd_T71 t102 (ji87)).f2, (rd_T71 t102 (ji87)).f3, wrap64 (((rd_T71 t102 (ji87)).f4) - a1_2), (rd_T71 t102 (ji87)).f5, (rd_T71 t102 (ji87)).f6, (rd_T71 t102 (ji87)).f7⟩ : S71)) (k71_mkM _ _ _ (⟨(rd_T71 t102 (ji87)).f0, (rd_T71 t102 (ji87)).f1, (rd_T71 t102 (ji87)).f2, (rd_T71 t102 (ji87)).f3, wrap64 (((rd_T71 t102 (ji87)).f4) - a1_2), (rd_T71 t102 (ji87)).f5, (rd_T71 t102 (ji87)).f6, (rd_T71 t102 (ji87)).f7⟩ : S71) ) (fun _ hk => hk)).1
         rw [← Ny125.out] at HP105
         have HQ105 := Aside0.mk HP105
         clear hcl105 hcc105 hfr105 hM105 HP105
         refine start_ (n := 13) (S := fun w' => w'.cell? ⟨gb101, 0, none⟩ = some (.int .i64 a1_0) ∧ w'.cell? ⟨gb101, 1, none⟩ = some (.int .i64 a1_1) ∧ w'.cell? ⟨gb101, 2, none⟩ = some (.int .i64 a1_2) ∧ w'.cell? ⟨gb101, 3, none⟩ = some (.string a1_3) ∧ w'.cell? ⟨go90, (((ji87)).toNat * 8), none⟩ = some (.int .i64 ((rd_T71 t102 (ji87)).f0)) ∧ w'.cell? ⟨go90, (((ji87)).toNat * 8) + 1, none⟩ = some (.int .i64 ((rd_T71 t102 (ji87)).f1)) ∧ w'.cell? ⟨go90, (((ji87)).toNat * 8) + 2, none⟩ = some (.int .i64 ((rd_T71 t102 (ji87)).f2)) ∧ w'.cell? ⟨go90, (((ji87)).toNat * 8) + 3, none⟩ = some (.int .i64 ((rd_T71 t102 (ji87)).f3)) ∧ w'.cell? ⟨go90, (((ji87)).toNat * 8) + 4, none⟩ = some (.int .i64 ((rd_T71 t102 (ji87)).f4)) ∧ w'.cell? ⟨go90, (((ji87)).toNat * 8) + 5, none⟩ = some (.int .i64 ((rd_T71 t102 (ji87)).f5)) ∧ w'.cell? ⟨go90, (((ji87)).toNat * 8) + 6, none⟩ = some (.int .i64 ((rd_T71 t102 (ji87)).f6)) ∧ w'.cell? ⟨go90, (((ji87)).toNat * 8) + 7, none⟩ = some (.string ((rd_T71 t102 (ji87)).f7))) (ds := [12]) #[false, false, false, false, false, false, false, false, false, false, false, false, false] (by kernel_rfl) rfl rfl ⟨(blk_cell BK101.out 0).trans rfl, (blk_cell BK101.out 1).trans rfl, (blk_cell BK101.out 2).trans rfl, (blk_cell BK101.out 3).trans rfl, hx124_0, hx124_1, hx124_2, hx124_3, hx124_4, hx124_5, hx124_6, hx124_7⟩ (fun hHeld => ?_); refine with_tabW impl_apply.tab20 impl_apply.bits20 (fun HT_ HW_ => ?_)
         generalize wc.drew = w103 at HO_6 BK101 HB GG90 HQ105 hf90_0 hf90_1 hf90_2 hf90_3 hf90_4 hf90_5 hf90_6 hf90_7 hx124_0 hx124_1 hx124_2 hx124_3 hx124_4 hx124_5 hx124_6 hx124_7 hx90_0 hx90_1 hx90_2 hx90_3 hx90_4 hx90_5 hx90_6 hx90_7 hHeld ⊢
         refine pure_ (i := 0) (N := some 112) (v := ?_) (a' := ?_) #[true, false, false, false, false, false, false, false, false, false, false, false, false] rfl rfl (any_of HT_.out (by kernel_rfl)) (fun _ _ _ h => h) (Or.inl ⟨by rfl, ?_⟩) ?_ ?_
         rotate_left
         ·intro w'
          go_simp
          with_reducible rfl
         rotate_left
         ·simp only [Act.put, List.setIfInBounds_toArray, List.set_cons_zero, List.set_cons_succ, i64_w, i32_w]
          rfl
         refine pure_ (i := 1) (N := some 113) (v := ?_) (a' := ?_) #[true, true, false, false, false, false, false, false, false, false, false, false, false] rfl rfl (any_of HT_.out (by kernel_rfl)) (fun _ _ _ h => h) (Or.inl ⟨by rfl, ?_⟩) ?_ ?_
         rotate_left
         ·intro w'
          go_simp
          with_reducible rfl
         rotate_left
         ·simp only [Act.put, List.setIfInBounds_toArray, List.set_cons_zero, List.set_cons_succ, i64_w, i32_w]
          rfl
         refine pure_ (i := 7) (N := some 119) (v := ?_) (a' := ?_) #[true, true, false, false, false, false, false, true, false, false, false, false, false] rfl rfl (any_of HT_.out (by kernel_rfl)) (fun _ _ _ h => h) (Or.inl ⟨by rfl, ?_⟩) ?_ ?_
         rotate_left
         ·intro w'
          go_simp
          with_reducible rfl
         rotate_left
         ·simp only [Act.put, List.setIfInBounds_toArray, List.set_cons_zero, List.set_cons_succ, i64_w, i32_w]
          rfl
         refine take_ (i := 2) (N := some 114) (v := ?_) (a' := ?_) #[true, true, true, false, false, false, false, true, false, false, false, false, false] rfl rfl (take_ofW HT_.out HW_.out (by kernel_rfl)) (fun _ _ _ h => h) (Or.inl ⟨by rfl, ?_⟩) hHeld ?_ ?_
         rotate_left
         ·rintro w' ⟨s0, s1, s2, s3, s4, s5, s6, s7, s8, s9, s10, s11⟩
          go_simp
          with_reducible rfl
         rotate_left
         ·simp only [Act.put, List.setIfInBounds_toArray, List.set_cons_zero, List.set_cons_succ, i64_w, i32_w]
          rfl
         refine pure_ (i := 3) (N := some 115) (v := ?_) (a' := ?_) #[true, true, true, true, false, false, false, true, false, false, false, false, false] rfl rfl (any_of HT_.out (by kernel_rfl)) (fun _ _ _ h => h) (Or.inl ⟨by rfl, ?_⟩) ?_ ?_
         rotate_left
         ·intro w'
          go_simp
          with_reducible rfl
         rotate_left
         ·simp only [Act.put, List.setIfInBounds_toArray, List.set_cons_zero, List.set_cons_succ, i64_w, i32_w]
          rfl
         refine pure_ (i := 4) (N := some 116) (v := ?_) (a' := ?_) #[true, true, true, true, true, false, false, true, false, false, false, false, false] rfl rfl (any_of HT_.out (by kernel_rfl)) (fun _ _ _ h => h) (Or.inl ⟨by rfl, ?_⟩) ?_ ?_
         rotate_left
         ·intro w'
          go_simp
          with_reducible rfl
         rotate_left
         ·simp only [Act.put, List.setIfInBounds_toArray, List.set_cons_zero, List.set_cons_succ, i64_w, i32_w]
          rfl
         refine pure_ (i := 5) (N := some 117) (v := ?_) (a' := ?_) #[true, true, true, true, true, true, false, true, false, false, false, false, false] rfl rfl (any_of HT_.out (by kernel_rfl)) (fun _ _ _ h => h) (Or.inl ⟨by rfl, ?_⟩) ?_ ?_
         rotate_left
         ·intro w'
          go_simp
          with_reducible rfl
         rotate_left
         ·simp only [Act.put, List.setIfInBounds_toArray, List.set_cons_zero, List.set_cons_succ, i64_w, i32_w]
          rfl
         refine take_ (i := 6) (N := some 118) (v := ?_) (a' := ?_) #[true, true, true, true, true, true, true, true, false, false, false, false, false] rfl rfl (take_ofW HT_.out HW_.out (by kernel_rfl)) (fun _ _ _ h => h) (Or.inl ⟨by rfl, ?_⟩) hHeld ?_ ?_
         rotate_left
         ·rintro w' ⟨s0, s1, s2, s3, s4, s5, s6, s7, s8, s9, s10, s11⟩
          go_simp
          with_reducible rfl
         rotate_left
         ·simp only [Act.put, List.setIfInBounds_toArray, List.set_cons_zero, List.set_cons_succ, i64_w, i32_w]
          rfl
         refine take_ (i := 8) (N := some 120) (v := ?_) (a' := ?_) #[true, true, true, true, true, true, true, true, true, false, false, false, false] rfl rfl (take_ofW HT_.out HW_.out (by kernel_rfl)) (fun _ _ _ h => h) (Or.inl ⟨by rfl, ?_⟩) hHeld ?_ ?_
         rotate_left
         ·rintro w' ⟨s0, s1, s2, s3, s4, s5, s6, s7, s8, s9, s10, s11⟩
          go_simp
          with_reducible rfl
         rotate_left
         ·simp only [Act.put, List.setIfInBounds_toArray, List.set_cons_zero, List.set_cons_succ, i64_w, i32_w]
          rfl
         refine pure_ (i := 9) (N := some 121) (v := ?_) (a' := ?_) #[true, true, true, true, true, true, true, true, true, true, false, false, false] rfl rfl (any_of HT_.out (by kernel_rfl)) (fun _ _ _ h => h) (Or.inl ⟨by rfl, ?_⟩) ?_ ?_
         rotate_left
         ·intro w'
          go_simp
          with_reducible rfl
         rotate_left
         ·simp only [Act.put, List.setIfInBounds_toArray, List.set_cons_zero, List.set_cons_succ, i64_w, i32_w]
          rfl
         refine pure_ (i := 10) (N := some 122) (v := ?_) (a' := ?_) #[true, true, true, true, true, true, true, true, true, true, true, false, false] rfl rfl (any_of HT_.out (by kernel_rfl)) (fun _ _ _ h => h) (Or.inl ⟨by rfl, ?_⟩) ?_ ?_
         rotate_left
         ·intro w'
          go_simp
          with_reducible rfl
         rotate_left
         ·simp only [Act.put, List.setIfInBounds_toArray, List.set_cons_zero, List.set_cons_succ, i64_w, i32_w]
          rfl
         refine pure_ (i := 11) (N := some 123) (v := ?_) (a' := ?_) #[true, true, true, true, true, true, true, true, true, true, true, true, false] rfl rfl (any_of HT_.out (by kernel_rfl)) (fun _ _ _ h => h) (Or.inl ⟨by rfl, ?_⟩) ?_ ?_
         rotate_left
         ·intro w'
          go_simp
          with_reducible rfl
         rotate_left
         ·simp only [Act.put, List.setIfInBounds_toArray, List.set_cons_zero, List.set_cons_succ, i64_w, i32_w]
          rfl
         refine last_ (i := 12) (N := none) #[true, true, true, true, true, true, true, true, true, true, true, true, true] rfl rfl (one_of HT_.out (by kernel_rfl)) (by decide) (fun K hK => ?_)
         refine skip_ (w1 := ?_) (by rfl) rfl ?_ ?_
         rotate_left
         ·go_simp
          rfl
         refine hK.out _ _ ?_
         clear hK K
         refine done_ (done_of HT_.out (by kernel_rfl)) ?_
         try go_wp2
         have n0_ : Aside0 (Kd.R k71 71 (w103.setCell ⟨go90, ((ji87) : Int).toNat * 8 + 4, none⟩ (.int .i64 (wrap64 (((rd_T71 t102 (ji87)).f4) - a1_2)))) w.heap.size (fun _ => True) (.slice (some ⟨go90, 0, none⟩) t102.length co104) y125) := ⟨by (with_reducible repeat (first | apply Kd.R_alloc | apply Kd.R_drewN | apply Kd.R_drew)); exact HQ105.out⟩
         have n1_ : Aside0 ((w103.setCell ⟨go90, ((ji87) : Int).toNat * 8 + 4, none⟩ (.int .i64 (wrap64 (((rd_T71 t102 (ji87)).f4) - a1_2)))).heap[gb101]? = some (.cells #[.int .i64 a1_0, .int .i64 a1_1, .int .i64 a1_2, .string a1_3] 61 (0, 0))) := ⟨by (with_reducible repeat (first | refine blk_drewN ?_ _ | refine blk_drew ?_ | refine blk_alloc ?_ _)); refine blk_far ?_ (by have h_ := Kd.R_ne HO_6.out BK101.out (by decide); intro e_; exact h_ (by rw [e_]; rfl)) _; (with_reducible repeat (first | refine blk_drewN ?_ _ | refine blk_drew ?_ | refine blk_alloc ?_ _)); exact BK101.out⟩
         have n2_ : Aside0 (Below w.heap.size w (w103.setCell ⟨go90, ((ji87) : Int).toNat * 8 + 4, none⟩ (.int .i64 (wrap64 (((rd_T71 t102 (ji87)).f4) - a1_2))))) := ⟨by repeat (first | (with_reducible first | exact HB.out | apply below_alloc | apply pw_below_drewN | apply below_drew1 | refine below_set ?_ GB90.out | refine below_set ?_ GE101.out) | exact HB.out)⟩
         (try clear HO_6)
         (try clear BK101)
         (try clear HB)
         generalize (w103.setCell ⟨go90, ((ji87) : Int).toNat * 8 + 4, none⟩ (.int .i64 (wrap64 (((rd_T71 t102 (ji87)).f4) - a1_2)))) = w106 at n0_ n1_ n2_ ⊢
         have HO_6 := n0_
         have BK101 := n1_
         have HB := n2_
         clear n0_ n1_ n2_
         have n0_ := Aside0.mk (Kd.R_drew HO_6.out)
         have n1_ := Aside0.mk (blk_drew BK101.out)
         have n2_ := Aside0.mk (below_drew1 HB.out)
         clear HO_6
         clear BK101
         clear HB
         have HO_6 := n0_
         have BK101 := n1_
         have HB := n2_
         clear n0_ n1_ n2_
         have p126 : 0 ≤ ((ji87) : Int) := of_decide_eq_true (by first | (with_reducible assumption) | assumption)
         have q126 : (ji87) < (y125.length : Int) := (by have h_ : ((ji87) : Int) < ((t102.length : Int) : Int) := of_decide_eq_true (by first | (with_reducible assumption) | assumption); first | (have e_ := (Kd.R_reads' HO_6.out).1; omega) | simpa only [Ny125.out, List.length_set] using h_)
         have ql126 : (((ji87) : Int) < ((t102.length : Int) : Int)) = True := eq_true (of_decide_eq_true (by first | (with_reducible assumption) | assumption))
         obtain ⟨ad126, e126, hx126_0, hx126_1, hx126_2, hx126_3, hx126_4, hx126_5, hx126_6, hx126_7⟩ := at_T71 (Kd.R_reads' HO_6.out).2.2 (ji87) p126 q126
         obtain rfl : (⟨go90, 0, none⟩ : Addr) = ad126 := (by injection e126)
         (first | simp only [add_plain] at hx126_0 | simp only [add_at] at hx126_0 | simp only [Addr.add, Nat.zero_add] at hx126_0 | skip)
         (first | simp only [add_plain] at hx126_1 | simp only [add_at] at hx126_1 | simp only [Addr.add, Nat.zero_add] at hx126_1 | skip)
         (first | simp only [add_plain] at hx126_2 | simp only [add_at] at hx126_2 | simp only [Addr.add, Nat.zero_add] at hx126_2 | skip)
         (first | simp only [add_plain] at hx126_3 | simp only [add_at] at hx126_3 | simp only [Addr.add, Nat.zero_add] at hx126_3 | skip)
         (first | simp only [add_plain] at hx126_4 | simp only [add_at] at hx126_4 | simp only [Addr.add, Nat.zero_add] at hx126_4 | skip)
         (first | simp only [add_plain] at hx126_5 | simp only [add_at] at hx126_5 | simp only [Addr.add, Nat.zero_add] at hx126_5 | skip)
         (first | simp only [add_plain] at hx126_6 | simp only [add_at] at hx126_6 | simp only [Addr.add, Nat.zero_add] at hx126_6 | skip)
         (first | simp only [add_plain] at hx126_7 | simp only [add_at] at hx126_7 | simp only [Addr.add, Nat.zero_add] at hx126_7 | skip)
         replace p126 := eq_true p126
         replace q126 := eq_true q126
         have p91 : 0 ≤ ((ji87) : Int) := of_decide_eq_true (by first | (with_reducible assumption) | assumption)
         have q91 : ((ji87) : Int) < ((t102.length : Int) : Int) := of_decide_eq_true (by first | (with_reducible assumption) | assumption)
         obtain ⟨ce91, hcl91, hM91, hcc91, hfr91⟩ := Kd.R_elem HO_6.out z71 ((ji87) : Int) p91 q91
         obtain rfl := k71_openM hM91
         have hx91_0 : World.cell? _ ⟨go90, ((ji87) : Int).toNat * 8, none⟩ = some (.int .i64 ((rd_T71 y125 (ji87)).f0)) := hcc91 0 _ rfl
         have hx91_1 : World.cell? _ ⟨go90, ((ji87) : Int).toNat * 8 + 1, none⟩ = some (.int .i64 ((rd_T71 y125 (ji87)).f1)) := hcc91 1 _ rfl
         have hx91_2 : World.cell? _ ⟨go90, ((ji87) : Int).toNat * 8 + 2, none⟩ = some (.int .i64 ((rd_T71 y125 (ji87)).f2)) := hcc91 2 _ rfl
         have hx91_3 : World.cell? _ ⟨go90, ((ji87) : Int).toNat * 8 + 3, none⟩ = some (.int .i64 ((rd_T71 y125 (ji87)).f3)) := hcc91 3 _ rfl
         have hx91_4 : World.cell? _ ⟨go90, ((ji87) : Int).toNat * 8 + 4, none⟩ = some (.int .i64 ((rd_T71 y125 (ji87)).f4)) := hcc91 4 _ rfl
         have hx91_5 : World.cell? _ ⟨go90, ((ji87) : Int).toNat * 8 + 5, none⟩ = some (.int .i64 ((rd_T71 y125 (ji87)).f5)) := hcc91 5 _ rfl
         have hx91_6 : World.cell? _ ⟨go90, ((ji87) : Int).toNat * 8 + 6, none⟩ = some (.int .i64 ((rd_T71 y125 (ji87)).f6)) := hcc91 6 _ rfl
         have hx91_7 : World.cell? _ ⟨go90, ((ji87) : Int).toNat * 8 + 7, none⟩ = some (.string ((rd_T71 y125 (ji87)).f7)) := hcc91 7 _ rfl
         have hf91_0 : World.frozen? _ ⟨go90, ((ji87) : Int).toNat * 8, none⟩ = false := hfr91 0
         have hf91_1 : World.frozen? _ ⟨go90, ((ji87) : Int).toNat * 8 + 1, none⟩ = false := hfr91 1
         have hf91_2 : World.frozen? _ ⟨go90, ((ji87) : Int).toNat * 8 + 2, none⟩ = false := hfr91 2
         have hf91_3 : World.frozen? _ ⟨go90, ((ji87) : Int).toNat * 8 + 3, none⟩ = false := hfr91 3
         have hf91_4 : World.frozen? _ ⟨go90, ((ji87) : Int).toNat * 8 + 4, none⟩ = false := hfr91 4
         have hf91_5 : World.frozen? _ ⟨go90, ((ji87) : Int).toNat * 8 + 5, none⟩ = false := hfr91 5
         have hf91_6 : World.frozen? _ ⟨go90, ((ji87) : Int).toNat * 8 + 6, none⟩ = false := hfr91 6
         have hf91_7 : World.frozen? _ ⟨go90, ((ji87) : Int).toNat * 8 + 7, none⟩ = false := hfr91 7
         clear hcl91 hcc91 hfr91 hM91
         replace p91 := eq_true p91
         replace q91 := eq_true q91
         obtain ⟨ce108, hcl108, hM108, hcc108, hfr108⟩ := Kd.R_elem HO_6.out z71 ((ji87) : Int) (of_decide_eq_true (by first | (with_reducible assumption) | assumption)) (by have h_ : ((ji87) : Int) < ((t102.length : Int) : Int) := of_decide_eq_true (by first | (with_reducible assumption) | assumption); first | exact h_ | (have e_ := (Kd.R_reads' HO_6.out).1; omega) | simpa using h_)
         obtain rfl := k71_openM hM108
         have HP108 := (Kd.R_seg HO_6.out ((ji87) : Int) (of_decide_eq_true (by first | (with_reducible assumption) | assumption)) (by have h_ : ((ji87) : Int) < ((t102.length : Int) : Int) := of_decide_eq_true (by first | (with_reducible assumption) | assumption); first | exact h_ | (have e_ := (Kd.R_reads' HO_6.out).1; omega) | simpa using h_) (seg := [.int .i64 (wrap64 (((rd_T71 y125 (ji87)).f5) + a1_2))]) (j := 5) hcl108 hcc108 (show 6 ≤ 8 from by decide) (x' := (⟨(rd_T71 y125 (ji87)).f0, (rd_T71 y125 (ji87)).f1, (rd_T71 y125 (ji87)).f2, (rd_T71 y125 (ji87)).f3, (rd_T71 y125 (ji87)).f4, wrap64 (((rd_T71 y125 (ji87)).f5) + a1_2), (rd_T71 y125 (ji87)).f6, (rd_T71 y125 (ji87)).f7⟩ : S71)) (k71_mkM _ _ _ (⟨(rd_T71 y125 (ji87)).f0, (rd_T71 y125 (ji87)).f1, (rd_T71 y125 (ji87)).f2, (rd_T71 y125 (ji87)).f3, (rd_T71 y125 (ji87)).f4, wrap64 (((rd_T71 y125 (ji87)).f5) + a1_2), (rd_T71 y125 (ji87)).f6, (rd_T71 y125 (ji87)).f7⟩ : S71) ) (fun _ hk => hk)).1
         rw [← Ny127.out] at HP108
         have HQ108 := Aside0.mk HP108
         clear hcl108 hcc108 hfr108 hM108 HP108
         refine start_ (n := 13) (S := fun w' => w'.cell? ⟨gb101, 0, none⟩ = some (.int .i64 a1_0) ∧ w'.cell? ⟨gb101, 1, none⟩ = some (.int .i64 a1_1) ∧ w'.cell? ⟨gb101, 2, none⟩ = some (.int .i64 a1_2) ∧ w'.cell? ⟨gb101, 3, none⟩ = some (.string a1_3) ∧ w'.cell? ⟨go90, ((ji87)).toNat * 8, none⟩ = some (.int .i64 ((rd_T71 y125 (ji87)).f0)) ∧ w'.cell? ⟨go90, ((ji87)).toNat * 8 + 1, none⟩ = some (.int .i64 ((rd_T71 y125 (ji87)).f1)) ∧ w'.cell? ⟨go90, ((ji87)).toNat * 8 + 2, none⟩ = some (.int .i64 ((rd_T71 y125 (ji87)).f2)) ∧ w'.cell? ⟨go90, ((ji87)).toNat * 8 + 3, none⟩ = some (.int .i64 ((rd_T71 y125 (ji87)).f3)) ∧ w'.cell? ⟨go90, ((ji87)).toNat * 8 + 4, none⟩ = some (.int .i64 ((rd_T71 y125 (ji87)).f4)) ∧ w'.cell? ⟨go90, ((ji87)).toNat * 8 + 5, none⟩ = some (.int .i64 ((rd_T71 y125 (ji87)).f5)) ∧ w'.cell? ⟨go90, ((ji87)).toNat * 8 + 6, none⟩ = some (.int .i64 ((rd_T71 y125 (ji87)).f6)) ∧ w'.cell? ⟨go90, ((ji87)).toNat * 8 + 7, none⟩ = some (.string ((rd_T71 y125 (ji87)).f7))) (ds := [12]) #[false, false, false, false, false, false, false, false, false, false, false, false, false] (by kernel_rfl) rfl rfl ⟨(blk_cell BK101.out 0).trans rfl, (blk_cell BK101.out 1).trans rfl, (blk_cell BK101.out 2).trans rfl, (blk_cell BK101.out 3).trans rfl, hx126_0, hx126_1, hx126_2, hx126_3, hx126_4, hx126_5, hx126_6, hx126_7⟩ (fun hHeld => ?_); refine with_tabW impl_apply.tab21 impl_apply.bits21 (fun HT_ HW_ => ?_)
         generalize w106.drew = w107 at HO_6 BK101 HB HQ105 HQ108 hf91_0 hf91_1 hf91_2 hf91_3 hf91_4 hf91_5 hf91_6 hf91_7 hx126_0 hx126_1 hx126_2 hx126_3 hx126_4 hx126_5 hx126_6 hx126_7 hx91_0 hx91_1 hx91_2 hx91_3 hx91_4 hx91_5 hx91_6 hx91_7 hHeld ⊢
         refine pure_ (i := 0) (N := some 124) (v := ?_) (a' := ?_) #[true, false, false, false, false, false, false, false, false, false, false, false, false] rfl rfl (any_of HT_.out (by kernel_rfl)) (fun _ _ _ h => h) (Or.inl ⟨by rfl, ?_⟩) ?_ ?_
         rotate_left
         ·intro w'
          go_simp
          with_reducible rfl
         rotate_left
         ·simp only [Act.put, List.setIfInBounds_toArray, List.set_cons_zero, List.set_cons_succ, i64_w, i32_w]
          rfl
         refine pure_ (i := 1) (N := some 125) (v := ?_) (a' := ?_) #[true, true, false, false, false, false, false, false, false, false, false, false, false] rfl rfl (any_of HT_.out (by kernel_rfl)) (fun _ _ _ h => h) (Or.inl ⟨by rfl, ?_⟩) ?_ ?_
         rotate_left
         ·intro w'
          go_simp
          with_reducible rfl
         rotate_left
         ·simp only [Act.put, List.setIfInBounds_toArray, List.set_cons_zero, List.set_cons_succ, i64_w, i32_w]
          rfl
         refine pure_ (i := 7) (N := some 131) (v := ?_) (a' := ?_) #[true, true, false, false, false, false, false, true, false, false, false, false, false] rfl rfl (any_of HT_.out (by kernel_rfl)) (fun _ _ _ h => h) (Or.inl ⟨by rfl, ?_⟩) ?_ ?_
         rotate_left
         ·intro w'
          go_simp
          with_reducible rfl
         rotate_left
         ·simp only [Act.put, List.setIfInBounds_toArray, List.set_cons_zero, List.set_cons_succ, i64_w, i32_w]
          rfl
         refine take_ (i := 2) (N := some 126) (v := ?_) (a' := ?_) #[true, true, true, false, false, false, false, true, false, false, false, false, false] rfl rfl (take_ofW HT_.out HW_.out (by kernel_rfl)) (fun _ _ _ h => h) (Or.inl ⟨by rfl, ?_⟩) hHeld ?_ ?_
         rotate_left
         ·rintro w' ⟨s0, s1, s2, s3, s4, s5, s6, s7, s8, s9, s10, s11⟩
          go_simp
          with_reducible rfl
         rotate_left
         ·simp only [Act.put, List.setIfInBounds_toArray, List.set_cons_zero, List.set_cons_succ, i64_w, i32_w]
          rfl
         refine pure_ (i := 3) (N := some 127) (v := ?_) (a' := ?_) #[true, true, true, true, false, false, false, true, false, false, false, false, false] rfl rfl (any_of HT_.out (by kernel_rfl)) (fun _ _ _ h => h) (Or.inl ⟨by rfl, ?_⟩) ?_ ?_
         rotate_left
         ·intro w'
          go_simp
          with_reducible rfl
         rotate_left
         ·simp only [Act.put, List.setIfInBounds_toArray, List.set_cons_zero, List.set_cons_succ, i64_w, i32_w]
          rfl
         refine pure_ (i := 4) (N := some 128) (v := ?_) (a' := ?_) #[true, true, true, true, true, false, false, true, false, false, false, false, false] rfl rfl (any_of HT_.out (by kernel_rfl)) (fun _ _ _ h => h) (Or.inl ⟨by rfl, ?_⟩) ?_ ?_
         rotate_left
         ·intro w'
          go_simp
          with_reducible rfl
         rotate_left
         ·simp only [Act.put, List.setIfInBounds_toArray, List.set_cons_zero, List.set_cons_succ, i64_w, i32_w]
          rfl
         refine pure_ (i := 5) (N := some 129) (v := ?_) (a' := ?_) #[true, true, true, true, true, true, false, true, false, false, false, false, false] rfl rfl (any_of HT_.out (by kernel_rfl)) (fun _ _ _ h => h) (Or.inl ⟨by rfl, ?_⟩) ?_ ?_
         rotate_left
         ·intro w'
          go_simp
          with_reducible rfl
         rotate_left
         ·simp only [Act.put, List.setIfInBounds_toArray, List.set_cons_zero, List.set_cons_succ, i64_w, i32_w]
          rfl
         refine take_ (i := 6) (N := some 130) (v := ?_) (a' := ?_) #[true, true, true, true, true, true, true, true, false, false, false, false, false] rfl rfl (take_ofW HT_.out HW_.out (by kernel_rfl)) (fun _ _ _ h => h) (Or.inl ⟨by rfl, ?_⟩) hHeld ?_ ?_
         rotate_left
         ·rintro w' ⟨s0, s1, s2, s3, s4, s5, s6, s7, s8, s9, s10, s11⟩
          go_simp
          with_reducible rfl
         rotate_left
         ·simp only [Act.put, List.setIfInBounds_toArray, List.set_cons_zero, List.set_cons_succ, i64_w, i32_w]
          rfl
         refine take_ (i := 8) (N := some 132) (v := ?_) (a' := ?_) #[true, true, true, true, true, true, true, true, true, false, false, false, false] rfl rfl (take_ofW HT_.out HW_.out (by kernel_rfl)) (fun _ _ _ h => h) (Or.inl ⟨by rfl, ?_⟩) hHeld ?_ ?_
         rotate_left
         ·rintro w' ⟨s0, s1, s2, s3, s4, s5, s6, s7, s8, s9, s10, s11⟩
          go_simp
          with_reducible rfl
         rotate_left
         ·simp only [Act.put, List.setIfInBounds_toArray, List.set_cons_zero, List.set_cons_succ, i64_w, i32_w]
          rfl
         refine pure_ (i := 9) (N := some 133) (v := ?_) (a' := ?_) #[true, true, true, true, true, true, true, true, true, true, false, false, false] rfl rfl (any_of HT_.out (by kernel_rfl)) (fun _ _ _ h => h) (Or.inl ⟨by rfl, ?_⟩) ?_ ?_
         rotate_left
         ·intro w'
          go_simp
          with_reducible rfl
         rotate_left
         ·simp only [Act.put, List.setIfInBounds_toArray, List.set_cons_zero, List.set_cons_succ, i64_w, i32_w]
          rfl
         refine pure_ (i := 10) (N := some 134) (v := ?_) (a' := ?_) #[true, true, true, true, true, true, true, true, true, true, true, false, false] rfl rfl (any_of HT_.out (by kernel_rfl)) (fun _ _ _ h => h) (Or.inl ⟨by rfl, ?_⟩) ?_ ?_
         rotate_left
         ·intro w'
          go_simp
          with_reducible rfl
         rotate_left
         ·simp only [Act.put, List.setIfInBounds_toArray, List.set_cons_zero, List.set_cons_succ, i64_w, i32_w]
          rfl
         refine pure_ (i := 11) (N := some 135) (v := ?_) (a' := ?_) #[true, true, true, true, true, true, true, true, true, true, true, true, false] rfl rfl (any_of HT_.out (by kernel_rfl)) (fun _ _ _ h => h) (Or.inl ⟨by rfl, ?_⟩) ?_ ?_
         rotate_left
         ·intro w'
          go_simp
          with_reducible rfl
         rotate_left
         ·simp only [Act.put, List.setIfInBounds_toArray, List.set_cons_zero, List.set_cons_succ, i64_w, i32_w]
          rfl
         refine last_ (i := 12) (N := none) #[true, true, true, true, true, true, true, true, true, true, true, true, true] rfl rfl (one_of HT_.out (by kernel_rfl)) (by decide) (fun K hK => ?_)
         refine skip_ (w1 := ?_) (by rfl) rfl ?_ ?_
         rotate_left
         ·go_simp
          rfl
         refine hK.out _ _ ?_
         clear hK K
         refine done_ (done_of HT_.out (by kernel_rfl)) ?_
         try go_wp2_with (first | ((with_reducible refine gate_callee (f := 33) rfl ?_); refine goesL_ (some 137) rfl rfl Try.func33 (by kernel_rfl) rfl #[.slice (some ⟨go90, 0, none⟩) y127.length co104] rfl (by (try simp only [List.map_toArray, List.map_cons, List.map_nil]); first | done | (rw [show y127.length = t102.length from (Kd.R_reads' HQ108.out).1.symm] <;> rfl) | rfl | (simp only [List.length_drop, List.length_take]; rfl)) ?_; (with_reducible refine (impl_IsValidSamples.calls kj11 _ _ y127 false _ ?side1 ?side2 A92.out).mono ?_); (case side1 => refine (Kd.R_reads' (e := 71) (base := w.heap.size) (ok := fun k_ => True) (n := t102.length) (c := co104) ?_).2.2; exact (pR_ HQ108.out)); (case side2 => rw [show y127.length = t102.length from (Kd.R_reads' HQ108.out).1.symm]; exact (Kd.R_reads' HO_6.out).2.1); rintro e w109 ⟨rfl, hb⟩; refine ⟨_, rfl, ?_⟩; have n0_ := Aside0.mk (Kd.R_below (pR_ HQ108.out) hb); have n1_ := Aside0.mk (blk_below (g := gb101) (o := .cells #[.int .i64 a1_0, .int .i64 a1_1, .int .i64 a1_2, .string a1_3] 61 (0, 0)) (by (with_reducible repeat (first | refine blk_drewN ?_ _ | refine blk_drew ?_ | refine blk_alloc ?_ _)); refine blk_far ?_ (by have h_ := Kd.R_ne HO_6.out BK101.out (by decide); intro e_; exact h_ (by rw [e_]; rfl)) _; (with_reducible repeat (first | refine blk_drewN ?_ _ | refine blk_drew ?_ | refine blk_alloc ?_ _)); exact BK101.out) hb); have n2_ := Aside0.mk (below_step (pH_ HB.out) hb); clear HO_6; clear BK101; clear HB; have HO_6 := n0_; have BK101 := n1_; have HB := n2_; clear n0_ n1_ n2_; (try clear hb); (try clear hb2); (try clear hk); (try clear hi)))
         go_ret2
         exact ⟨_, by first | rfl | (simp [errW_none, errW_some] <;> rfl) | (simp only [← hji87]; first | rfl | (simp [errW_none, errW_some] <;> rfl)) | (simp [*, errW_none, errW_some] <;> rfl), by first | exact Kd.R_nil _ _ _ _ _ | exact Kd.N_nil _ _ _ _ _ | exact Kd.V_nil _ _ _ _ _ | exact Kd.Q_nil _ _ _ _ _ | exact Kd.S_nil _ _ _ _ _, by repeat (first | (with_reducible first | exact HB.out | apply below_alloc | apply pw_below_drewN | apply below_drew1 | refine below_set ?_ GE101.out) | exact HB.out)⟩
        rw [if_neg c89] at H
        exact absurd H (by simp)
       rw [if_neg c88] at H
       exact absurd H (by simp)
      rw [if_neg c86] at H
      have c86b0 : (a1_3.toList == ([] : List UInt8)) = false := beq_eq_false_iff_ne.mpr c86
      have c86b1 : (a1_3.toList != ([] : List UInt8)) = true := bne_iff_ne.mpr c86
      simp only [Option.some.injEq, Prod.mk.injEq] at H
      obtain ⟨rfl, rfl⟩ := H
      have hcz110_0 := cz_ BK101.out 0 _ rfl
      have hcz110_1 := cz_ BK101.out 1 _ rfl
      have hcz110_2 := cz_ BK101.out 2 _ rfl
      have hcz110_3 := cz_ BK101.out 3 _ rfl
      have hfz110_0 := blk_frozen BK101.out 0
      have hfz110_1 := blk_frozen BK101.out 1
      have hfz110_2 := blk_frozen BK101.out 2
      have hfz110_3 := blk_frozen BK101.out 3
      go_wp2
      go_ret2
      exact ⟨_, by first | rfl | (simp [errW_none, errW_some] <;> rfl) | (simp [*, errW_none, errW_some] <;> rfl), by first | exact Kd.R_nil _ _ _ _ _ | exact Kd.N_nil _ _ _ _ _ | exact Kd.V_nil _ _ _ _ _ | exact Kd.Q_nil _ _ _ _ _ | exact Kd.S_nil _ _ _ _ _, by repeat (first | (with_reducible first | exact HB.out | apply below_alloc | apply pw_below_drewN | apply below_drew1 | refine below_set ?_ GE101.out) | exact HB.out)⟩
     rw [if_neg c85] at H
     have c85b0 : (a1_0 == 4) = false := beq_eq_false_iff_ne.mpr c85
     have c85b1 : (a1_0 != 4) = true := bne_iff_ne.mpr c85
     simp only [Option.some.injEq, Prod.mk.injEq] at H
     obtain ⟨rfl, rfl⟩ := H
     have hcz111_0 := cz_ BK101.out 0 _ rfl
     have hcz111_1 := cz_ BK101.out 1 _ rfl
     have hcz111_2 := cz_ BK101.out 2 _ rfl
     have hcz111_3 := cz_ BK101.out 3 _ rfl
     have hfz111_0 := blk_frozen BK101.out 0
     have hfz111_1 := blk_frozen BK101.out 1
     have hfz111_2 := blk_frozen BK101.out 2
     have hfz111_3 := blk_frozen BK101.out 3
     go_wp2
     go_ret2
     exact ⟨_, by first | rfl | (simp [errW_none, errW_some] <;> rfl) | (simp [*, errW_none, errW_some] <;> rfl), by first | exact Kd.R_nil _ _ _ _ _ | exact Kd.N_nil _ _ _ _ _ | exact Kd.V_nil _ _ _ _ _ | exact Kd.Q_nil _ _ _ _ _ | exact Kd.S_nil _ _ _ _ _, by repeat (first | (with_reducible first | exact HB.out | apply below_alloc | apply pw_below_drewN | apply below_drew1 | refine below_set ?_ GE101.out) | exact HB.out)⟩
end
section
/-! ### impl_ApplyStep: function 51 -/
def impl_ApplyStep.f (k : Nat) (l0 : List (S71)) (a1_0 : Int) (a1_1 : Int) (a1_2 : Int) (a1_3 : ByteArray) : Option ((List (S71)) × Bool) := (impl_IsValidSamples.f k l0).bind fun t102 => (if t102 = true then ((impl_apply.f k l0 a1_0 a1_1 a1_2 a1_3).bind fun bt103 => (some (bt103.1, bt103.2))) else (some (([] : List (S71)), false)))
theorem impl_ApplyStep.mono : ∀ a0 a1 a2 a3 a4 k, LeO (impl_ApplyStep.f k a0 a1 a2 a3 a4) (impl_ApplyStep.f (k + 1) a0 a1 a2 a3 a4) := by
 intro a0 a1 a2 a3 a4 k
 unfold impl_ApplyStep.f
 repeat' first
   | (with_reducible exact impl_IsValidSamples.mono _ _)
   | (with_reducible exact impl_apply.mono _ _ _ _ _ _)
   | (with_reducible exact LeO.refl _)
   | (with_reducible exact LeO.none _)
   | (with_reducible refine LeO.ite ?_ ?_)
   | (with_reducible refine LeO.bind ?_ (fun _ => ?_))
   | exact impl_IsValidSamples.mono _ _
   | exact impl_apply.mono _ _ _ _ _ _
   | exact LeO.none _
   | refine LeO.ite ?_ ?_
   | refine LeO.bind ?_ (fun _ => ?_)
set_option maxHeartbeats 8000000 in
set_option maxRecDepth 100000 in
theorem impl_ApplyStep.calls (k : Nat) (A0 : Option Addr) (c0 : Nat) (l0 : List (S71)) (a1_0 : Int) (a1_1 : Int) (a1_2 : Int) (a1_3 : ByteArray) (r1 : List (S71)) (r2 : Bool) (w : World) (hr0 : Kd.C k71 w A0 l0.length l0) (hc0 : l0.length ≤ c0) (h : impl_ApplyStep.f k l0 a1_0 a1_1 a1_2 a1_3 = some (r1, r2)) :
  Calls Try.prog 51 #[.slice A0 l0.length c0, .agg #[.int .i64 a1_0, .int .i64 a1_1, .int .i64 a1_2, .string a1_3]] w fun e w' => ∃ v0_ : Value, e = .returned (.tuple #[v0_, .bool r2]) ∧ Kd.R k71 71 w' w.heap.size (fun _ => True) v0_ r1 ∧ Below w.heap.size w w' := by
 have hu61 := Try.underlying61
 have HR0 := Aside0.mk hr0
 have HC0 := Aside0.mk hc0
 clear hr0 hc0
 have HB := Aside0.mk (Below.refl w.heap.size w)
 have H : ((impl_IsValidSamples.f k l0).bind fun t102 => (if t102 = true then ((impl_apply.f k l0 a1_0 a1_1 a1_2 a1_3).bind fun bt103 => (some (bt103.1, bt103.2))) else (some (([] : List (S71)), false)))) = some (r1, r2) := h
 clear h
 replace H := Option.bind_eq_some_iff.mp H
 obtain ⟨t102, A30, H⟩ := H
 replace H : (if t102 = true then ((impl_apply.f k l0 a1_0 a1_1 a1_2 a1_3).bind fun bt103 => (some (bt103.1, bt103.2))) else (some (([] : List (S71)), false))) = some (r1, r2) := H
 have A3 := Aside0.mk A30
 clear A30
 by_cases c4 : t102 = true
 ·subst c4
  have H1 : ((impl_apply.f k l0 a1_0 a1_1 a1_2 a1_3).bind fun bt103 => (some (bt103.1, bt103.2))) = some (r1, r2) := by rw [if_pos rfl] at H; exact H
  clear H
  have H := H1
  clear H1
  replace H := Option.bind_eq_some_iff.mp H
  obtain ⟨⟨t103, t106⟩, A50, H⟩ := H
  replace H : (some (t103, t106)) = some (r1, r2) := H
  have A5 := Aside0.mk A50
  clear A50
  simp only [Option.some.injEq, Prod.mk.injEq] at H
  obtain ⟨rfl, rfl⟩ := H
  go_enter Try.func51, Try.ntmps51
  go_wp2_with (first | ((with_reducible refine gate_dst (N := 3) rfl ?_); refine box_event ?hg (N := 3) ?hd (cs := #[.int .i64 a1_0, .int .i64 a1_1, .int .i64 a1_2, .string a1_3]) (t := 61) ?hr ?_; (case hd => rfl); (case hg => rfl); (case hr => first | (go_simp; done) | (go_simp; rfl)); intro gb101 hg w6 hbox hb; have n0_ := Aside0.mk (below_step (pH_ HB.out) hb); have n1_ := Aside0.mk (hbox); have n2_ := Aside0.mk ((by rw [hg]; exact (below_size (pH_ HB.out)) : w.heap.size ≤ gb101)); have n3_ := Aside0.mk ((by rw [hg]; exact (below_size (pH_ HB.out)) : w.heap.size ≤ gb101)); clear HB; have HB := n0_; have BK101 := n1_; have GW101 := n2_; have GE101 := n3_; clear n0_ n1_ n2_ n3_; clear hb hbox hg) | ((with_reducible refine gate_callee (f := 33) rfl ?_); refine goesL_ (some 7) rfl rfl Try.func33 (by kernel_rfl) rfl #[.slice A0 l0.length c0] rfl (by (try simp only [List.map_toArray, List.map_cons, List.map_nil]); first | done | rfl | (simp only [List.length_drop, List.length_take]; rfl)) ?_; (with_reducible refine (impl_IsValidSamples.calls k _ _ l0 true _ ?side1 ?side2 A3.out).mono ?_); (case side1 => repeat (first | exact (Kd.C_below HR0.out HB.out) | (with_reducible refine Kd.C_alloc ?_ _) | (with_reducible refine Kd.C_drewN ?_ _) | (with_reducible refine Kd.C_drew ?_))); (case side2 => exact HC0.out); rintro e w7 ⟨rfl, hb⟩; refine ⟨_, rfl, ?_⟩; have n0_ := Aside0.mk (blk_below (g := gb101) (o := .cells #[.int .i64 a1_0, .int .i64 a1_1, .int .i64 a1_2, .string a1_3] 61 (0, 0)) (pB_ BK101.out) hb); have n1_ := Aside0.mk (below_step (pH_ HB.out) hb); clear BK101; clear HB; have BK101 := n0_; have HB := n1_; clear n0_ n1_; (try clear hb); (try clear hb2); (try clear hk); (try clear hi); have hcz8_0 := cz_ BK101.out 0 _ rfl; have hcz8_1 := cz_ BK101.out 1 _ rfl; have hcz8_2 := cz_ BK101.out 2 _ rfl; have hcz8_3 := cz_ BK101.out 3 _ rfl; have hfz8_0 := blk_frozen BK101.out 0; have hfz8_1 := blk_frozen BK101.out 1; have hfz8_2 := blk_frozen BK101.out 2; have hfz8_3 := blk_frozen BK101.out 3) | ((with_reducible refine gate_callee (f := 101) rfl ?_); refine goesL_ (some 11) rfl rfl Try.func101 (by kernel_rfl) rfl #[.slice A0 l0.length c0, .agg #[.int .i64 a1_0, .int .i64 a1_1, .int .i64 a1_2, .string a1_3]] rfl (by (try simp only [List.map_toArray, List.map_cons, List.map_nil]); first | done | rfl | (simp only [List.length_drop, List.length_take]; rfl)) ?_; (with_reducible refine (impl_apply.calls k _ _ l0 a1_0 a1_1 a1_2 a1_3 t103 t106 _ ?side1 ?side2 A5.out).mono ?_); (case side1 => repeat (first | exact (Kd.C_below HR0.out HB.out) | (with_reducible refine Kd.C_alloc ?_ _) | (with_reducible refine Kd.C_drewN ?_ _) | (with_reducible refine Kd.C_drew ?_))); (case side2 => exact HC0.out); rintro e w9 ⟨v104, rfl, ho0, hb⟩; refine ⟨_, rfl, ?_⟩; have n0_ := Aside0.mk (Kd.R_lower ho0 (below_size (pH_ HB.out))); have n1_ := Aside0.mk (blk_below (g := gb101) (o := .cells #[.int .i64 a1_0, .int .i64 a1_1, .int .i64 a1_2, .string a1_3] 61 (0, 0)) (pB_ BK101.out) hb); have n2_ := Aside0.mk (below_step (pH_ HB.out) hb); clear BK101; clear HB; have HO105 := n0_; have BK101 := n1_; have HB := n2_; clear n0_ n1_ n2_; (try clear hb); (try clear hb2); (try clear hk); (try clear hi); (try clear ho0)))
  go_ret2
  exact ⟨_, by first | rfl | (simp [errW_none, errW_some] <;> rfl) | (simp [*, errW_none, errW_some] <;> rfl), by (with_reducible repeat (first | apply Kd.R_alloc | apply Kd.R_drewN | apply Kd.R_drew)); exact HO105.out, by repeat (first | (with_reducible first | exact HB.out | apply below_alloc | apply pw_below_drewN | apply below_drew1 | refine below_set ?_ GE101.out) | exact HB.out)⟩
 replace c4 := Bool.eq_false_iff.mpr c4
 subst c4
 have H1 : (some (([] : List (S71)), false)) = some (r1, r2) := by rw [if_neg (show ¬ (false = true) by decide)] at H; exact H
 clear H
 have H := H1
 clear H1
 simp only [Option.some.injEq, Prod.mk.injEq] at H
 obtain ⟨rfl, rfl⟩ := H
 go_enter Try.func51, Try.ntmps51
 go_wp2_with (first | ((with_reducible refine gate_dst (N := 3) rfl ?_); refine box_event ?hg (N := 3) ?hd (cs := #[.int .i64 a1_0, .int .i64 a1_1, .int .i64 a1_2, .string a1_3]) (t := 61) ?hr ?_; (case hd => rfl); (case hg => rfl); (case hr => first | (go_simp; done) | (go_simp; rfl)); intro gb101 hg w10 hbox hb; have n0_ := Aside0.mk (below_step (pH_ HB.out) hb); have n1_ := Aside0.mk (hbox); have n2_ := Aside0.mk ((by rw [hg]; exact (below_size (pH_ HB.out)) : w.heap.size ≤ gb101)); have n3_ := Aside0.mk ((by rw [hg]; exact (below_size (pH_ HB.out)) : w.heap.size ≤ gb101)); clear HB; have HB := n0_; have BK101 := n1_; have GW101 := n2_; have GE101 := n3_; clear n0_ n1_ n2_ n3_; clear hb hbox hg) | ((with_reducible refine gate_callee (f := 33) rfl ?_); refine goesL_ (some 7) rfl rfl Try.func33 (by kernel_rfl) rfl #[.slice A0 l0.length c0] rfl (by (try simp only [List.map_toArray, List.map_cons, List.map_nil]); first | done | rfl | (simp only [List.length_drop, List.length_take]; rfl)) ?_; (with_reducible refine (impl_IsValidSamples.calls k _ _ l0 false _ ?side1 ?side2 A3.out).mono ?_); (case side1 => repeat (first | exact (Kd.C_below HR0.out HB.out) | (with_reducible refine Kd.C_alloc ?_ _) | (with_reducible refine Kd.C_drewN ?_ _) | (with_reducible refine Kd.C_drew ?_))); (case side2 => exact HC0.out); rintro e w11 ⟨rfl, hb⟩; refine ⟨_, rfl, ?_⟩; have n0_ := Aside0.mk (blk_below (g := gb101) (o := .cells #[.int .i64 a1_0, .int .i64 a1_1, .int .i64 a1_2, .string a1_3] 61 (0, 0)) (pB_ BK101.out) hb); have n1_ := Aside0.mk (below_step (pH_ HB.out) hb); clear BK101; clear HB; have BK101 := n0_; have HB := n1_; clear n0_ n1_; (try clear hb); (try clear hb2); (try clear hk); (try clear hi)))
 go_ret2
 exact ⟨_, by first | rfl | (simp [errW_none, errW_some] <;> rfl) | (simp [*, errW_none, errW_some] <;> rfl), by first | exact Kd.R_nil _ _ _ _ _ | exact Kd.N_nil _ _ _ _ _ | exact Kd.V_nil _ _ _ _ _ | exact Kd.Q_nil _ _ _ _ _ | exact Kd.S_nil _ _ _ _ _, by repeat (first | (with_reducible first | exact HB.out | apply below_alloc | apply pw_below_drewN | apply below_drew1 | refine below_set ?_ GE101.out) | exact HB.out)⟩
end
section
/-! ### spec_l1In: function 70 -/
def spec_l1In.f (a0 : Int) (a1 : Int) (a2 : Int) : Option (Bool) := if a0 ≥ a1 then (some (decide (a0 ≤ a2))) else (some false)
set_option maxHeartbeats 8000000 in
set_option maxRecDepth 100000 in
theorem spec_l1In.calls (a0 : Int) (a1 : Int) (a2 : Int) (r : Bool) (w : World) (h : spec_l1In.f a0 a1 a2 = some r) :
  Calls Try.prog 70 #[.int .i64 a0, .int .i64 a1, .int .i64 a2] w fun e w' => e = .returned (.bool r) ∧ Drawn0 w w' := by
 have H : (if a0 ≥ a1 then (some (decide (a0 ≤ a2))) else (some false)) = some r := h
 clear h
 by_cases c4 : a0 ≥ a1
 ·rw [if_pos c4] at H
  have c4b0 : decide (a1 ≤ a0) = true := decide_eq_true c4
  clear c4
  obtain rfl := Option.some.inj H
  go_enter Try.func70, Try.ntmps70
  go_wp2
  go_ret
  exact ⟨by first | rfl | (simp; done) | (simp [*]; done) | (simp [beq_nil_, bne_nil_]; done), by repeat (first | exact Drawn0.refl _ | apply Drawn0.step)⟩
 rw [if_neg c4] at H
 have c4b0 : decide (a1 ≤ a0) = false := decide_eq_false c4
 clear c4
 obtain rfl := Option.some.inj H
 go_enter Try.func70, Try.ntmps70
 go_wp2
 go_ret
 exact ⟨by first | rfl | (simp; done) | (simp [*]; done) | (simp [beq_nil_, bne_nil_]; done), by repeat (first | exact Drawn0.refl _ | apply Drawn0.step)⟩
end
section
/-! ### spec_l20Given: function 90 -/
def spec_l20Given.l0 : Nat → List (S71) → Int → Int → Int → Option (Int)
 | 0, _, _, _, _ => none
 | k + 1, x0, x1, x5, x6 => if x6 < (x0.length : Int) then (if 0 ≤ x6 then (if ((rd_T71 x0 x6).f1) = x1 then (spec_l20Given.l0 k x0 x1 (wrap64 (x5 + ((rd_T71 x0 x6).f3))) (wrap64 (x6 + 1))) else (spec_l20Given.l0 k x0 x1 x5 (wrap64 (x6 + 1)))) else (none)) else (some x5)
def spec_l20Given.f (k : Nat) (l0 : List (S71)) (a1 : Int) : Option (Int) := spec_l20Given.l0 k l0 a1 0 0
theorem spec_l20Given.mono_l : ∀ k, (∀ y0 y1 y2 y3, LeO (spec_l20Given.l0 k y0 y1 y2 y3) (spec_l20Given.l0 (k + 1) y0 y1 y2 y3))
 | 0 => fun _ _ _ _ r h => by simp [spec_l20Given.l0] at h
 | k + 1 => by
  have ih0 := spec_l20Given.mono_l k
  ·intro y0 y1 y2 y3
   unfold spec_l20Given.l0
   repeat' first
   | (with_reducible exact ih0 _ _ _ _)
   | (with_reducible exact LeO.refl _)
   | (with_reducible exact LeO.none _)
   | (with_reducible refine LeO.ite ?_ ?_)
   | (with_reducible refine LeO.bind ?_ (fun _ => ?_))
   | exact ih0 _ _ _ _
   | exact LeO.none _
   | refine LeO.ite ?_ ?_
   | refine LeO.bind ?_ (fun _ => ?_)
theorem spec_l20Given.mono : ∀ a0 a1 k, LeO (spec_l20Given.f k a0 a1) (spec_l20Given.f (k + 1) a0 a1) := by
 intro a0 a1 k
 have ih0 := spec_l20Given.mono_l k
 unfold spec_l20Given.f
 repeat' first
   | (with_reducible exact ih0 _ _ _ _)
   | (with_reducible exact LeO.refl _)
   | (with_reducible exact LeO.none _)
   | (with_reducible refine LeO.ite ?_ ?_)
   | (with_reducible refine LeO.bind ?_ (fun _ => ?_))
   | exact ih0 _ _ _ _
   | exact LeO.none _
   | refine LeO.ite ?_ ?_
   | refine LeO.bind ?_ (fun _ => ?_)
set_option maxHeartbeats 8000000 in
set_option maxRecDepth 100000 in
theorem spec_l20Given.calls (k : Nat) (A0 : Option Addr) (c0 : Nat) (l0 : List (S71)) (a1 : Int) (r : Int) (w : World) (hr0 : Kd.C k71 w A0 l0.length l0) (hc0 : l0.length ≤ c0) (h : spec_l20Given.f k l0 a1 = some r) :
  Calls Try.prog 90 #[.slice A0 l0.length c0, .int .i64 a1] w fun e w' => e = .returned (.int .i64 r) ∧ Drawn0 w w' := by
 have HR0 := Aside0.mk hr0
 have HC0 := Aside0.mk hc0
 clear hr0 hc0
 have H : (spec_l20Given.l0 k l0 a1 0 0) = some r := h
 clear h
 have H' := Aside0.mk H
 clear H
 go_enter Try.func90, Try.ntmps90
 go_wp2
 go_loopg [5, 6] k (fun kq v5 v6 w' => ∃ (x5_1 : Int) (x6_1 : Int), v5 = .int .i64 x5_1 ∧ v6 = .int .i64 x6_1 ∧ Aside0 (spec_l20Given.l0 kq l0 a1 x5_1 x6_1 = some r) ∧ Aside0 (kq ≤ k) ∧ Drawn0 w w')
 case atStart => exact ⟨(0), (0), (by first | rfl | (simp; done) | (simp [*]; done) | (simp [beq_nil_, bne_nil_]; done)), (by first | rfl | (simp; done) | (simp [*]; done) | (simp [beq_nil_, bne_nil_]; done)), H', ⟨Nat.le_refl _⟩, by repeat (first | exact Drawn0.refl _ | apply Drawn0.step)⟩
 case round =>
  clear H'
  try clear p2
  obtain ⟨x5_1, x6_1, rfl, rfl, HA, HK1, ⟨m1, rfl⟩⟩ := hrel
  cases gk with
  | zero => exact absurd HA.out (by simp [spec_l20Given.l0])
  | succ k1 =>
   have H := HA.out
   clear HA
   simp only [spec_l20Given.l0] at H
   by_cases c3 : x6_1 < (l0.length : Int)
   ·rw [if_pos c3] at H
    have c3b0 : decide (x6_1 < (l0.length : Int)) = true := decide_eq_true c3
    clear c3
    by_cases c4 : 0 ≤ x6_1
    ·rw [if_pos c4] at H
     have c4b0 : decide (0 ≤ x6_1) = true := decide_eq_true c4
     clear c4
     by_cases c5 : ((rd_T71 l0 x6_1).f1) = a1
     ·rw [if_pos c5] at H
      have c5b0 : (((rd_T71 l0 x6_1).f1) == a1) = true := beq_iff_eq.mpr c5
      have c5b1 : (((rd_T71 l0 x6_1).f1) != a1) = false := bne_eq_false_iff_eq.mpr c5
      clear c5
      have H' := Aside0.mk H
      clear H
      have p101 : 0 ≤ (x6_1 : Int) := of_decide_eq_true (by first | (with_reducible assumption) | assumption)
      have q101 : x6_1 < (l0.length : Int) := of_decide_eq_true (by first | (with_reducible assumption) | assumption)
      obtain ⟨ad101, e101, hx101_0, hx101_1, hx101_2, hx101_3, hx101_4, hx101_5, hx101_6, hx101_7⟩ := at_T71 HR0.out x6_1 p101 q101
      cases e101
      replace p101 := eq_true p101
      replace q101 := eq_true q101
      have p102 : 0 ≤ (x6_1 : Int) := of_decide_eq_true (by first | (with_reducible assumption) | assumption)
      have q102 : x6_1 < (l0.length : Int) := of_decide_eq_true (by first | (with_reducible assumption) | assumption)
      obtain ⟨ad102, e102, hx102_0, hx102_1, hx102_2, hx102_3, hx102_4, hx102_5, hx102_6, hx102_7⟩ := at_T71 HR0.out x6_1 p102 q102
      obtain rfl : ad101 = ad102 := (by injection e102)
      replace p102 := eq_true p102
      replace q102 := eq_true q102
      go_wp2
      go_roundg k1
      case measure => have := HK1.out; omega
      case rel => exact ⟨(wrap64 (x5_1 + ((rd_T71 l0 x6_1).f3))), (wrap64 (x6_1 + 1)), (by first | rfl | (simp; done) | (simp [*]; done) | (simp [beq_nil_, bne_nil_]; done)), (by first | rfl | (simp; done) | (simp [*]; done) | (simp [beq_nil_, bne_nil_]; done)), H', ⟨by have := HK1.out; omega⟩, by repeat (first | exact Drawn0.refl _ | apply Drawn0.step)⟩
     rw [if_neg c5] at H
     have c5b0 : (((rd_T71 l0 x6_1).f1) == a1) = false := beq_eq_false_iff_ne.mpr c5
     have c5b1 : (((rd_T71 l0 x6_1).f1) != a1) = true := bne_iff_ne.mpr c5
     have H' := Aside0.mk H
     clear H
     have p101 : 0 ≤ (x6_1 : Int) := of_decide_eq_true (by first | (with_reducible assumption) | assumption)
     have q101 : x6_1 < (l0.length : Int) := of_decide_eq_true (by first | (with_reducible assumption) | assumption)
     obtain ⟨ad101, e101, hx101_0, hx101_1, hx101_2, hx101_3, hx101_4, hx101_5, hx101_6, hx101_7⟩ := at_T71 HR0.out x6_1 p101 q101
     cases e101
     replace p101 := eq_true p101
     replace q101 := eq_true q101
     go_wp2
     go_roundg k1
     case measure => have := HK1.out; omega
     case rel => exact ⟨(x5_1), (wrap64 (x6_1 + 1)), (by first | rfl | (simp; done) | (simp [*]; done) | (simp [beq_nil_, bne_nil_]; done)), (by first | rfl | (simp; done) | (simp [*]; done) | (simp [beq_nil_, bne_nil_]; done)), H', ⟨by have := HK1.out; omega⟩, by repeat (first | exact Drawn0.refl _ | apply Drawn0.step)⟩
    rw [if_neg c4] at H
    exact absurd H (by simp)
   rw [if_neg c3] at H
   have c3b0 : decide (x6_1 < (l0.length : Int)) = false := decide_eq_false c3
   clear c3
   obtain rfl := Option.some.inj H
   go_wp2
   go_ret
   exact ⟨by first | rfl | (simp; done) | (simp [*]; done) | (simp [beq_nil_, bne_nil_]; done), by repeat (first | exact Drawn0.refl _ | apply Drawn0.step)⟩
end
section
/-! ### spec_l7Name: function 117 -/
mutual
def spec_l7Name.j0 : Nat → ByteArray → Bool → Option (Bool)
 | 0, _, _ => none
 | k + 1, x0, x17 => if x17 = true then (some false) else (spec_l7Name.l0 k x0 0)
def spec_l7Name.l0 : Nat → ByteArray → Int → Option (Bool)
 | 0, _, _ => none
 | k + 1, x0, x3 => if x3 < (x0.size : Int) then (if 0 ≤ x3 then (if (bt x0 x3) < 97 then (if (bt x0 x3) < 48 then (some false) else (if (bt x0 x3) > 57 then (some false) else (spec_l7Name.l0 k x0 (wrap64 (x3 + 1))))) else (if (bt x0 x3) > 122 then (if (bt x0 x3) < 48 then (some false) else (if (bt x0 x3) > 57 then (some false) else (spec_l7Name.l0 k x0 (wrap64 (x3 + 1))))) else (spec_l7Name.l0 k x0 (wrap64 (x3 + 1))))) else (none)) else (some true)
end
def spec_l7Name.f (k : Nat) (a0 : ByteArray) : Option (Bool) := (spec_l1In.f (a0.size : Int) 1 8).bind fun t101 => (if t101 = true then (if 0 < (a0.size : Int) then (if (bt a0 0) < 97 then (spec_l7Name.j0 k a0 true) else (spec_l7Name.j0 k a0 (decide ((bt a0 0) > 122)))) else (none)) else (spec_l7Name.j0 k a0 true))
theorem spec_l7Name.mono_l : ∀ k, (∀ y0 y1, LeO (spec_l7Name.j0 k y0 y1) (spec_l7Name.j0 (k + 1) y0 y1)) ∧ (∀ y0 y1, LeO (spec_l7Name.l0 k y0 y1) (spec_l7Name.l0 (k + 1) y0 y1))
 | 0 => ⟨fun _ _ r h => by simp [spec_l7Name.j0] at h, fun _ _ r h => by simp [spec_l7Name.l0] at h⟩
 | k + 1 => by
  obtain ⟨ih0, ih1⟩ := spec_l7Name.mono_l k
  refine ⟨?_, ?_⟩
  ·intro y0 y1
   unfold spec_l7Name.j0
   repeat' first
   | (with_reducible exact ih0 _ _)
   | (with_reducible exact ih1 _ _)
   | (with_reducible exact LeO.refl _)
   | (with_reducible exact LeO.none _)
   | (with_reducible refine LeO.ite ?_ ?_)
   | (with_reducible refine LeO.bind ?_ (fun _ => ?_))
   | exact ih0 _ _
   | exact ih1 _ _
   | exact LeO.none _
   | refine LeO.ite ?_ ?_
   | refine LeO.bind ?_ (fun _ => ?_)
  intro y0 y1
  unfold spec_l7Name.l0
  repeat' first
  | (with_reducible exact ih0 _ _)
  | (with_reducible exact ih1 _ _)
  | (with_reducible exact LeO.refl _)
  | (with_reducible exact LeO.none _)
  | (with_reducible refine LeO.ite ?_ ?_)
  | (with_reducible refine LeO.bind ?_ (fun _ => ?_))
  | exact ih0 _ _
  | exact ih1 _ _
  | exact LeO.none _
  | refine LeO.ite ?_ ?_
  | refine LeO.bind ?_ (fun _ => ?_)
theorem spec_l7Name.mono : ∀ a0 k, LeO (spec_l7Name.f k a0) (spec_l7Name.f (k + 1) a0) := by
 intro a0 k
 obtain ⟨ih0, ih1⟩ := spec_l7Name.mono_l k
 unfold spec_l7Name.f
 repeat' first
   | (with_reducible exact ih0 _ _)
   | (with_reducible exact ih1 _ _)
   | (with_reducible exact LeO.refl _)
   | (with_reducible exact LeO.none _)
   | (with_reducible refine LeO.ite ?_ ?_)
   | (with_reducible refine LeO.bind ?_ (fun _ => ?_))
   | exact ih0 _ _
   | exact ih1 _ _
   | exact LeO.none _
   | refine LeO.ite ?_ ?_
   | refine LeO.bind ?_ (fun _ => ?_)
set_option maxHeartbeats 8000000 in
set_option maxRecDepth 100000 in
theorem spec_l7Name.calls (k : Nat) (a0 : ByteArray) (r : Bool) (w : World) (h : spec_l7Name.f k a0 = some r) :
  Calls Try.prog 117 #[.string a0] w fun e w' => e = .returned (.bool r) ∧ Drawn0 w w' := by
 have H : ((spec_l1In.f (a0.size : Int) 1 8).bind fun t101 => (if t101 = true then (if 0 < (a0.size : Int) then (if (bt a0 0) < 97 then (spec_l7Name.j0 k a0 true) else (spec_l7Name.j0 k a0 (decide ((bt a0 0) > 122)))) else (none)) else (spec_l7Name.j0 k a0 true))) = some r := h
 clear h
 have HC2 := Aside0.mk H
 clear H
 go_enter Try.func117, Try.ntmps117
 go_upto_region 1 with (fail)
 go_cut [17] (fun v17 wc => ∃ (kq : Nat) (x17_1 : Bool), v17 = .bool x17_1 ∧ Aside0 (spec_l7Name.j0 kq a0 x17_1 = some r) ∧ Aside0 (kq ≤ k) ∧ Drawn0 w wc)
 case first =>
  have H := HC2.out
  clear HC2
  replace H := Option.bind_eq_some_iff.mp H
  obtain ⟨t101, A30, H⟩ := H
  replace H : (if t101 = true then (if 0 < (a0.size : Int) then (if (bt a0 0) < 97 then (spec_l7Name.j0 k a0 true) else (spec_l7Name.j0 k a0 (decide ((bt a0 0) > 122)))) else (none)) else (spec_l7Name.j0 k a0 true)) = some r := H
  have A3 := Aside0.mk A30
  clear A30
  by_cases c4 : t101 = true
  ·subst c4
   have H1 : (if 0 < (a0.size : Int) then (if (bt a0 0) < 97 then (spec_l7Name.j0 k a0 true) else (spec_l7Name.j0 k a0 (decide ((bt a0 0) > 122)))) else (none)) = some r := by rw [if_pos rfl] at H; exact H
   clear H
   have H := H1
   clear H1
   by_cases c5 : 0 < (a0.size : Int)
   ·rw [if_pos c5] at H
    have c5b0 : decide (0 < (a0.size : Int)) = true := decide_eq_true c5
    have c5b1 : decide (0 < a0.size) = true := decide_eq_true (by omega)
    clear c5
    (first | rw [c5b0] | (simp only [i64_w, i32_w]; rw [c5b0]) | skip)
    by_cases c7 : (bt a0 0) < 97
    ·rw [if_pos c7] at H
     have c7b0 : decide ((bt a0 0) < 97) = true := decide_eq_true c7
     clear c7
     have H' := Aside0.mk H
     clear H
     go_wp2_with (first | ((with_reducible refine gate_callee (f := 70) rfl ?_); refine goesL_ (some 6) rfl rfl Try.func70 (by kernel_rfl) rfl #[.int .i64 (a0.size : Int), .int .i64 1, .int .i64 8] rfl (by (try simp only [List.map_toArray, List.map_cons, List.map_nil]); first | done | rfl | (simp only [List.length_drop, List.length_take]; rfl)) ?_; (with_reducible refine (spec_l1In.calls (a0.size : Int) 1 8 true _ A3.out).mono ?_); rintro e w' ⟨rfl, ⟨nd, rfl⟩⟩; refine ⟨_, rfl, ?_⟩; have p6 : 0 ≤ (0 : Int) := (by omega); have q6 : 0 < a0.size := (by have : (0 : Int) < (a0.size : Int) := of_decide_eq_true (by first | (with_reducible assumption) | assumption); omega); have hx6 : ∀ h : 0 < a0.size, ((a0[0]'h).toNat : Int) = bt a0 0 := bt_at a0 0; clear p6; have qi6 : (0 < (a0.size : Int)) = True := eq_true (of_decide_eq_true (by first | (with_reducible assumption) | assumption)); replace q6 := eq_true q6))
     go_meet
     case rel => exact ⟨_, (true), (by first | rfl | (simp; done) | (simp [*]; done) | (simp [beq_nil_, bne_nil_]; done)), H', ⟨by first | omega | exact Nat.le_refl _⟩, by repeat (first | exact Drawn0.refl _ | apply Drawn0.step)⟩
    rw [if_neg c7] at H
    have c7b0 : decide ((bt a0 0) < 97) = false := decide_eq_false c7
    clear c7
    have H' := Aside0.mk H
    clear H
    go_wp2_with (first | ((with_reducible refine gate_callee (f := 70) rfl ?_); refine goesL_ (some 6) rfl rfl Try.func70 (by kernel_rfl) rfl #[.int .i64 (a0.size : Int), .int .i64 1, .int .i64 8] rfl (by (try simp only [List.map_toArray, List.map_cons, List.map_nil]); first | done | rfl | (simp only [List.length_drop, List.length_take]; rfl)) ?_; (with_reducible refine (spec_l1In.calls (a0.size : Int) 1 8 true _ A3.out).mono ?_); rintro e w' ⟨rfl, ⟨nd, rfl⟩⟩; refine ⟨_, rfl, ?_⟩; have p6 : 0 ≤ (0 : Int) := (by omega); have q6 : 0 < a0.size := (by have : (0 : Int) < (a0.size : Int) := of_decide_eq_true (by first | (with_reducible assumption) | assumption); omega); have hx6 : ∀ h : 0 < a0.size, ((a0[0]'h).toNat : Int) = bt a0 0 := bt_at a0 0; clear p6; have qi6 : (0 < (a0.size : Int)) = True := eq_true (of_decide_eq_true (by first | (with_reducible assumption) | assumption)); replace q6 := eq_true q6; have p8 : 0 ≤ (0 : Int) := (by omega); have q8 : 0 < a0.size := (by have : (0 : Int) < (a0.size : Int) := of_decide_eq_true (by first | (with_reducible assumption) | assumption); omega); have hx8 : ∀ h : 0 < a0.size, ((a0[0]'h).toNat : Int) = bt a0 0 := bt_at a0 0; clear p8; have qi8 : (0 < (a0.size : Int)) = True := eq_true (of_decide_eq_true (by first | (with_reducible assumption) | assumption)); replace q8 := eq_true q8))
    go_meet
    case rel => exact ⟨_, (decide ((bt a0 0) > 122)), (by first | rfl | (simp; done) | (simp [*]; done) | (simp [beq_nil_, bne_nil_]; done)), H', ⟨by first | omega | exact Nat.le_refl _⟩, by repeat (first | exact Drawn0.refl _ | apply Drawn0.step)⟩
   rw [if_neg c5] at H
   exact absurd H (by simp)
  replace c4 := Bool.eq_false_iff.mpr c4
  subst c4
  have H1 : (spec_l7Name.j0 k a0 true) = some r := by rw [if_neg (show ¬ (false = true) by decide)] at H; exact H
  clear H
  have H := H1
  clear H1
  have H' := Aside0.mk H
  clear H
  go_wp2_with (first | ((with_reducible refine gate_callee (f := 70) rfl ?_); refine goesL_ (some 6) rfl rfl Try.func70 (by kernel_rfl) rfl #[.int .i64 (a0.size : Int), .int .i64 1, .int .i64 8] rfl (by (try simp only [List.map_toArray, List.map_cons, List.map_nil]); first | done | rfl | (simp only [List.length_drop, List.length_take]; rfl)) ?_; (with_reducible refine (spec_l1In.calls (a0.size : Int) 1 8 false _ A3.out).mono ?_); rintro e w' ⟨rfl, ⟨nd, rfl⟩⟩; refine ⟨_, rfl, ?_⟩))
  go_meet
  case rel => exact ⟨_, (true), (by first | rfl | (simp; done) | (simp [*]; done) | (simp [beq_nil_, bne_nil_]; done)), H', ⟨by first | omega | exact Nat.le_refl _⟩, by repeat (first | exact Drawn0.refl _ | apply Drawn0.step)⟩
 case rest =>
  clear HC2
  try clear c1
  try clear p2
  try clear c4
  try clear c5
  try clear c5b0
  try clear c5b1
  try clear p6
  try clear q6
  try clear hx6
  try clear qi6
  try clear c7
  try clear c7b0
  try clear p8
  try clear q8
  try clear hx8
  try clear qi8
  try clear p6
  try clear p8
  try clear q6
  try clear q8
  obtain ⟨kq, x17_1, rfl, HA, HJ1, ⟨mc1, rfl⟩⟩ := hcut
  cases kq with
  | zero => exact absurd HA.out (by simp [spec_l7Name.j0])
  | succ kj1 =>
   have H := HA.out
   clear HA
   simp only [spec_l7Name.j0] at H
   by_cases c9 : x17_1 = true
   ·subst c9
    have H1 : (some false) = some r := by rw [if_pos rfl] at H; exact H
    clear H
    have H := H1
    clear H1
    obtain rfl := Option.some.inj H
    go_wp2
    go_ret
    exact ⟨by first | rfl | (simp; done) | (simp [*]; done) | (simp [beq_nil_, bne_nil_]; done), by repeat (first | exact Drawn0.refl _ | apply Drawn0.step)⟩
   replace c9 := Bool.eq_false_iff.mpr c9
   subst c9
   have H1 : (spec_l7Name.l0 kj1 a0 0) = some r := by rw [if_neg (show ¬ (false = true) by decide)] at H; exact H
   clear H
   have H := H1
   clear H1
   have H' := Aside0.mk H
   clear H
   go_wp2
   go_loopg [3] kj1 (fun kq v3 w' => ∃ (x3_2 : Int), v3 = .int .i64 x3_2 ∧ Aside0 (spec_l7Name.l0 kq a0 x3_2 = some r) ∧ Aside0 (kq ≤ kj1) ∧ Drawn0 w w')
   case atStart => exact ⟨(0), (by first | rfl | (simp; done) | (simp [*]; done) | (simp [beq_nil_, bne_nil_]; done)), H', ⟨Nat.le_refl _⟩, by repeat (first | exact Drawn0.refl _ | apply Drawn0.step)⟩
   case round =>
    clear H'
    try clear c1
    try clear p2
    try clear c4
    try clear c5
    try clear c5b0
    try clear c5b1
    try clear p6
    try clear q6
    try clear hx6
    try clear qi6
    try clear c7
    try clear c7b0
    try clear p8
    try clear q8
    try clear hx8
    try clear qi8
    try clear c9
    try clear p2
    try clear p6
    try clear p8
    try clear q6
    try clear q8
    obtain ⟨x3_2, rfl, HA, HK2, ⟨m2, rfl⟩⟩ := hrel
    cases gk with
    | zero => exact absurd HA.out (by simp [spec_l7Name.l0])
    | succ k2 =>
     have H := HA.out
     clear HA
     simp only [spec_l7Name.l0] at H
     by_cases c10 : x3_2 < (a0.size : Int)
     ·rw [if_pos c10] at H
      have c10b0 : decide (x3_2 < (a0.size : Int)) = true := decide_eq_true c10
      clear c10
      by_cases c11 : 0 ≤ x3_2
      ·rw [if_pos c11] at H
       have c11b0 : decide (0 ≤ x3_2) = true := decide_eq_true c11
       clear c11
       by_cases c13 : (bt a0 x3_2) < 97
       ·rw [if_pos c13] at H
        have c13b0 : decide ((bt a0 x3_2) < 97) = true := decide_eq_true c13
        clear c13
        by_cases c15 : (bt a0 x3_2) < 48
        ·rw [if_pos c15] at H
         have c15b0 : decide ((bt a0 x3_2) < 48) = true := decide_eq_true c15
         clear c15
         obtain rfl := Option.some.inj H
         have p12 : 0 ≤ (x3_2 : Int) := of_decide_eq_true (by first | (with_reducible assumption) | assumption)
         have q12 : x3_2 < (a0.size : Int) := of_decide_eq_true (by first | (with_reducible assumption) | assumption)
         have hx12 := bt_at a0 x3_2
         replace p12 := eq_true p12
         replace q12 := eq_true q12
         have p14 : 0 ≤ (x3_2 : Int) := of_decide_eq_true (by first | (with_reducible assumption) | assumption)
         have q14 : x3_2 < (a0.size : Int) := of_decide_eq_true (by first | (with_reducible assumption) | assumption)
         have hx14 := bt_at a0 x3_2
         replace p14 := eq_true p14
         replace q14 := eq_true q14
         go_wp2
         go_ret
         exact ⟨by first | rfl | (simp; done) | (simp [*]; done) | (simp [beq_nil_, bne_nil_]; done), by repeat (first | exact Drawn0.refl _ | apply Drawn0.step)⟩
        rw [if_neg c15] at H
        have c15b0 : decide ((bt a0 x3_2) < 48) = false := decide_eq_false c15
        clear c15
        by_cases c17 : (bt a0 x3_2) > 57
        ·rw [if_pos c17] at H
         have c17b0 : decide (57 < (bt a0 x3_2)) = true := decide_eq_true c17
         clear c17
         obtain rfl := Option.some.inj H
         have p12 : 0 ≤ (x3_2 : Int) := of_decide_eq_true (by first | (with_reducible assumption) | assumption)
         have q12 : x3_2 < (a0.size : Int) := of_decide_eq_true (by first | (with_reducible assumption) | assumption)
         have hx12 := bt_at a0 x3_2
         replace p12 := eq_true p12
         replace q12 := eq_true q12
         have p14 : 0 ≤ (x3_2 : Int) := of_decide_eq_true (by first | (with_reducible assumption) | assumption)
         have q14 : x3_2 < (a0.size : Int) := of_decide_eq_true (by first | (with_reducible assumption) | assumption)
         have hx14 := bt_at a0 x3_2
         replace p14 := eq_true p14
         replace q14 := eq_true q14
         have p16 : 0 ≤ (x3_2 : Int) := of_decide_eq_true (by first | (with_reducible assumption) | assumption)
         have q16 : x3_2 < (a0.size : Int) := of_decide_eq_true (by first | (with_reducible assumption) | assumption)
         have hx16 := bt_at a0 x3_2
         replace p16 := eq_true p16
         replace q16 := eq_true q16
         go_wp2
         go_ret
         exact ⟨by first | rfl | (simp; done) | (simp [*]; done) | (simp [beq_nil_, bne_nil_]; done), by repeat (first | exact Drawn0.refl _ | apply Drawn0.step)⟩
        rw [if_neg c17] at H
        have c17b0 : decide (57 < (bt a0 x3_2)) = false := decide_eq_false c17
        clear c17
        have H' := Aside0.mk H
        clear H
        have p12 : 0 ≤ (x3_2 : Int) := of_decide_eq_true (by first | (with_reducible assumption) | assumption)
        have q12 : x3_2 < (a0.size : Int) := of_decide_eq_true (by first | (with_reducible assumption) | assumption)
        have hx12 := bt_at a0 x3_2
        replace p12 := eq_true p12
        replace q12 := eq_true q12
        have p14 : 0 ≤ (x3_2 : Int) := of_decide_eq_true (by first | (with_reducible assumption) | assumption)
        have q14 : x3_2 < (a0.size : Int) := of_decide_eq_true (by first | (with_reducible assumption) | assumption)
        have hx14 := bt_at a0 x3_2
        replace p14 := eq_true p14
        replace q14 := eq_true q14
        have p16 : 0 ≤ (x3_2 : Int) := of_decide_eq_true (by first | (with_reducible assumption) | assumption)
        have q16 : x3_2 < (a0.size : Int) := of_decide_eq_true (by first | (with_reducible assumption) | assumption)
        have hx16 := bt_at a0 x3_2
        replace p16 := eq_true p16
        replace q16 := eq_true q16
        go_wp2
        go_roundg k2
        case measure => have := HJ1.out; have := HK2.out; omega
        case rel => exact ⟨(wrap64 (x3_2 + 1)), (by first | rfl | (simp; done) | (simp [*]; done) | (simp [beq_nil_, bne_nil_]; done)), H', ⟨by have := HJ1.out; have := HK2.out; omega⟩, by repeat (first | exact Drawn0.refl _ | apply Drawn0.step)⟩
       rw [if_neg c13] at H
       have c13b0 : decide ((bt a0 x3_2) < 97) = false := decide_eq_false c13
       clear c13
       by_cases c19 : (bt a0 x3_2) > 122
       ·rw [if_pos c19] at H
        have c19b0 : decide (122 < (bt a0 x3_2)) = true := decide_eq_true c19
        clear c19
        by_cases c21 : (bt a0 x3_2) < 48
        ·rw [if_pos c21] at H
         have c21b0 : decide ((bt a0 x3_2) < 48) = true := decide_eq_true c21
         clear c21
         obtain rfl := Option.some.inj H
         have p12 : 0 ≤ (x3_2 : Int) := of_decide_eq_true (by first | (with_reducible assumption) | assumption)
         have q12 : x3_2 < (a0.size : Int) := of_decide_eq_true (by first | (with_reducible assumption) | assumption)
         have hx12 := bt_at a0 x3_2
         replace p12 := eq_true p12
         replace q12 := eq_true q12
         have p18 : 0 ≤ (x3_2 : Int) := of_decide_eq_true (by first | (with_reducible assumption) | assumption)
         have q18 : x3_2 < (a0.size : Int) := of_decide_eq_true (by first | (with_reducible assumption) | assumption)
         have hx18 := bt_at a0 x3_2
         replace p18 := eq_true p18
         replace q18 := eq_true q18
         have p20 : 0 ≤ (x3_2 : Int) := of_decide_eq_true (by first | (with_reducible assumption) | assumption)
         have q20 : x3_2 < (a0.size : Int) := of_decide_eq_true (by first | (with_reducible assumption) | assumption)
         have hx20 := bt_at a0 x3_2
         replace p20 := eq_true p20
         replace q20 := eq_true q20
         go_wp2
         go_ret
         exact ⟨by first | rfl | (simp; done) | (simp [*]; done) | (simp [beq_nil_, bne_nil_]; done), by repeat (first | exact Drawn0.refl _ | apply Drawn0.step)⟩
        rw [if_neg c21] at H
        have c21b0 : decide ((bt a0 x3_2) < 48) = false := decide_eq_false c21
        clear c21
        by_cases c23 : (bt a0 x3_2) > 57
        ·rw [if_pos c23] at H
         have c23b0 : decide (57 < (bt a0 x3_2)) = true := decide_eq_true c23
         clear c23
         obtain rfl := Option.some.inj H
         have p12 : 0 ≤ (x3_2 : Int) := of_decide_eq_true (by first | (with_reducible assumption) | assumption)
         have q12 : x3_2 < (a0.size : Int) := of_decide_eq_true (by first | (with_reducible assumption) | assumption)
         have hx12 := bt_at a0 x3_2
         replace p12 := eq_true p12
         replace q12 := eq_true q12
         have p18 : 0 ≤ (x3_2 : Int) := of_decide_eq_true (by first | (with_reducible assumption) | assumption)
         have q18 : x3_2 < (a0.size : Int) := of_decide_eq_true (by first | (with_reducible assumption) | assumption)
         have hx18 := bt_at a0 x3_2
         replace p18 := eq_true p18
         replace q18 := eq_true q18
         have p20 : 0 ≤ (x3_2 : Int) := of_decide_eq_true (by first | (with_reducible assumption) | assumption)
         have q20 : x3_2 < (a0.size : Int) := of_decide_eq_true (by first | (with_reducible assumption) | assumption)
         have hx20 := bt_at a0 x3_2
         replace p20 := eq_true p20
         replace q20 := eq_true q20
         have p22 : 0 ≤ (x3_2 : Int) := of_decide_eq_true (by first | (with_reducible assumption) | assumption)
         have q22 : x3_2 < (a0.size : Int) := of_decide_eq_true (by first | (with_reducible assumption) | assumption)
         have hx22 := bt_at a0 x3_2
         replace p22 := eq_true p22
         replace q22 := eq_true q22
         go_wp2
         go_ret
         exact ⟨by first | rfl | (simp; done) | (simp [*]; done) | (simp [beq_nil_, bne_nil_]; done), by repeat (first | exact Drawn0.refl _ | apply Drawn0.step)⟩
        rw [if_neg c23] at H
        have c23b0 : decide (57 < (bt a0 x3_2)) = false := decide_eq_false c23
        clear c23
        have H' := Aside0.mk H
        clear H
        have p12 : 0 ≤ (x3_2 : Int) := of_decide_eq_true (by first | (with_reducible assumption) | assumption)
        have q12 : x3_2 < (a0.size : Int) := of_decide_eq_true (by first | (with_reducible assumption) | assumption)
        have hx12 := bt_at a0 x3_2
        replace p12 := eq_true p12
        replace q12 := eq_true q12
        have p18 : 0 ≤ (x3_2 : Int) := of_decide_eq_true (by first | (with_reducible assumption) | assumption)
        have q18 : x3_2 < (a0.size : Int) := of_decide_eq_true (by first | (with_reducible assumption) | assumption)
        have hx18 := bt_at a0 x3_2
        replace p18 := eq_true p18
        replace q18 := eq_true q18
        have p20 : 0 ≤ (x3_2 : Int) := of_decide_eq_true (by first | (with_reducible assumption) | assumption)
        have q20 : x3_2 < (a0.size : Int) := of_decide_eq_true (by first | (with_reducible assumption) | assumption)
        have hx20 := bt_at a0 x3_2
        replace p20 := eq_true p20
        replace q20 := eq_true q20
        have p22 : 0 ≤ (x3_2 : Int) := of_decide_eq_true (by first | (with_reducible assumption) | assumption)
        have q22 : x3_2 < (a0.size : Int) := of_decide_eq_true (by first | (with_reducible assumption) | assumption)
        have hx22 := bt_at a0 x3_2
        replace p22 := eq_true p22
        replace q22 := eq_true q22
        go_wp2
        go_roundg k2
        case measure => have := HJ1.out; have := HK2.out; omega
        case rel => exact ⟨(wrap64 (x3_2 + 1)), (by first | rfl | (simp; done) | (simp [*]; done) | (simp [beq_nil_, bne_nil_]; done)), H', ⟨by have := HJ1.out; have := HK2.out; omega⟩, by repeat (first | exact Drawn0.refl _ | apply Drawn0.step)⟩
       rw [if_neg c19] at H
       have c19b0 : decide (122 < (bt a0 x3_2)) = false := decide_eq_false c19
       clear c19
       have H' := Aside0.mk H
       clear H
       have p12 : 0 ≤ (x3_2 : Int) := of_decide_eq_true (by first | (with_reducible assumption) | assumption)
       have q12 : x3_2 < (a0.size : Int) := of_decide_eq_true (by first | (with_reducible assumption) | assumption)
       have hx12 := bt_at a0 x3_2
       replace p12 := eq_true p12
       replace q12 := eq_true q12
       have p18 : 0 ≤ (x3_2 : Int) := of_decide_eq_true (by first | (with_reducible assumption) | assumption)
       have q18 : x3_2 < (a0.size : Int) := of_decide_eq_true (by first | (with_reducible assumption) | assumption)
       have hx18 := bt_at a0 x3_2
       replace p18 := eq_true p18
       replace q18 := eq_true q18
       go_wp2
       go_roundg k2
       case measure => have := HJ1.out; have := HK2.out; omega
       case rel => exact ⟨(wrap64 (x3_2 + 1)), (by first | rfl | (simp; done) | (simp [*]; done) | (simp [beq_nil_, bne_nil_]; done)), H', ⟨by have := HJ1.out; have := HK2.out; omega⟩, by repeat (first | exact Drawn0.refl _ | apply Drawn0.step)⟩
      rw [if_neg c11] at H
      exact absurd H (by simp)
     rw [if_neg c10] at H
     have c10b0 : decide (x3_2 < (a0.size : Int)) = false := decide_eq_false c10
     clear c10
     obtain rfl := Option.some.inj H
     go_wp2
     go_ret
     exact ⟨by first | rfl | (simp; done) | (simp [*]; done) | (simp [beq_nil_, bne_nil_]; done), by repeat (first | exact Drawn0.refl _ | apply Drawn0.step)⟩
end
end Go.Proofs.Ytlphkfkcfomlbaa.Q
