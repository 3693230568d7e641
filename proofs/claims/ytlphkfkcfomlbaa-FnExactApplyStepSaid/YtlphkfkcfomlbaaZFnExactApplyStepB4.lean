-- Written by a program of this session's for this claim. Lean checks it.
import Derived.Test.YtlphkfkcfomlbaaZFnExactApplyStepQx0
import Derived.Test.YtlphkfkcfomlbaaZFnExactApplyStepB3
namespace Go.Proofs.Ytlphkfkcfomlbaa.Q
open Go.RowKit Go.Proofs.YtlphkfkcfomlbaaW.PrintWords Go.Proofs.YtlphkfkcfomlbaaW.PrintLast Go.Proofs.YtlphkfkcfomlbaaW.PrintMore
attribute [local go_sem] max2_int min2_int max_two min_two max_three min_three max_four min_four   -- for this text's walks alone
set_option linter.unusedVariables false
set_option linter.unusedSimpArgs false
section
/-! ### spec_l20Sample: function 112 -/
def spec_l20Sample.j0 : Nat → List (S71) → Bool → Int → Int → Int → Int → Int → Int → Int → ByteArray → Option (Bool)
 | 0, _, _, _, _, _, _, _, _, _, _ => none
 | k + 1, x0, x54, x103000, x103001, x103002, x103003, x103004, x103005, x103006, x103007 => if x54 = true then (some false) else (if x103004 > x103003 then (some false) else (if x103005 > x103003 then (some false) else (if (wrap64 ((wrap64 (x103004 + x103005)) + x103006)) = x103003 then (if x103001 = 0 then ((spec_l20Given.f k x0 x103000).bind fun t107 => (some (x103006 == t107))) else (if 0 ≤ (wrap64 (x103001 - 1)) then (if (wrap64 (x103001 - 1)) < (x0.length : Int) then (if ((rd_T71 x0 (wrap64 (x103001 - 1))).f2) = x103002 then ((spec_l20Given.f k x0 x103000).bind fun t109 => (some (x103006 == t109))) else (some false)) else (none)) else (none))) else (some false))))
def spec_l20Sample.f (k : Nat) (l0 : List (S71)) (a1 : Int) : Option (Bool) := if 0 ≤ a1 then (if a1 < (l0.length : Int) then (if ((rd_T71 l0 a1).f0) = (wrap64 (a1 + 1)) then ((spec_l1In.f ((rd_T71 l0 a1).f1) 0 a1).bind fun t103 => (if t103 = true then ((spec_l1In.f ((rd_T71 l0 a1).f2) 1 999).bind fun t104 => (if t104 = true then ((spec_l1In.f ((rd_T71 l0 a1).f3) 1 500).bind fun t105 => (if t105 = true then (if ((rd_T71 l0 a1).f4) < 0 then (spec_l20Sample.j0 k l0 true ((rd_T71 l0 a1).f0) ((rd_T71 l0 a1).f1) ((rd_T71 l0 a1).f2) ((rd_T71 l0 a1).f3) ((rd_T71 l0 a1).f4) ((rd_T71 l0 a1).f5) ((rd_T71 l0 a1).f6) ((rd_T71 l0 a1).f7)) else (if ((rd_T71 l0 a1).f5) < 0 then (spec_l20Sample.j0 k l0 true ((rd_T71 l0 a1).f0) ((rd_T71 l0 a1).f1) ((rd_T71 l0 a1).f2) ((rd_T71 l0 a1).f3) ((rd_T71 l0 a1).f4) ((rd_T71 l0 a1).f5) ((rd_T71 l0 a1).f6) ((rd_T71 l0 a1).f7)) else (if ((rd_T71 l0 a1).f6) < 0 then (spec_l20Sample.j0 k l0 true ((rd_T71 l0 a1).f0) ((rd_T71 l0 a1).f1) ((rd_T71 l0 a1).f2) ((rd_T71 l0 a1).f3) ((rd_T71 l0 a1).f4) ((rd_T71 l0 a1).f5) ((rd_T71 l0 a1).f6) ((rd_T71 l0 a1).f7)) else ((spec_l7Name.f k ((rd_T71 l0 a1).f7)).bind fun t106 => (spec_l20Sample.j0 k l0 (!t106) ((rd_T71 l0 a1).f0) ((rd_T71 l0 a1).f1) ((rd_T71 l0 a1).f2) ((rd_T71 l0 a1).f3) ((rd_T71 l0 a1).f4) ((rd_T71 l0 a1).f5) ((rd_T71 l0 a1).f6) ((rd_T71 l0 a1).f7)))))) else (spec_l20Sample.j0 k l0 true ((rd_T71 l0 a1).f0) ((rd_T71 l0 a1).f1) ((rd_T71 l0 a1).f2) ((rd_T71 l0 a1).f3) ((rd_T71 l0 a1).f4) ((rd_T71 l0 a1).f5) ((rd_T71 l0 a1).f6) ((rd_T71 l0 a1).f7)))) else (spec_l20Sample.j0 k l0 true ((rd_T71 l0 a1).f0) ((rd_T71 l0 a1).f1) ((rd_T71 l0 a1).f2) ((rd_T71 l0 a1).f3) ((rd_T71 l0 a1).f4) ((rd_T71 l0 a1).f5) ((rd_T71 l0 a1).f6) ((rd_T71 l0 a1).f7)))) else (spec_l20Sample.j0 k l0 true ((rd_T71 l0 a1).f0) ((rd_T71 l0 a1).f1) ((rd_T71 l0 a1).f2) ((rd_T71 l0 a1).f3) ((rd_T71 l0 a1).f4) ((rd_T71 l0 a1).f5) ((rd_T71 l0 a1).f6) ((rd_T71 l0 a1).f7)))) else (spec_l20Sample.j0 k l0 true ((rd_T71 l0 a1).f0) ((rd_T71 l0 a1).f1) ((rd_T71 l0 a1).f2) ((rd_T71 l0 a1).f3) ((rd_T71 l0 a1).f4) ((rd_T71 l0 a1).f5) ((rd_T71 l0 a1).f6) ((rd_T71 l0 a1).f7))) else (none)) else (none)
theorem spec_l20Sample.mono_l : ∀ k, (∀ y0 y1 y2 y3 y4 y5 y6 y7 y8 y9, LeO (spec_l20Sample.j0 k y0 y1 y2 y3 y4 y5 y6 y7 y8 y9) (spec_l20Sample.j0 (k + 1) y0 y1 y2 y3 y4 y5 y6 y7 y8 y9))
 | 0 => fun _ _ _ _ _ _ _ _ _ _ r h => by simp [spec_l20Sample.j0] at h
 | k + 1 => by
  have ih0 := spec_l20Sample.mono_l k
  ·intro y0 y1 y2 y3 y4 y5 y6 y7 y8 y9
   unfold spec_l20Sample.j0
   repeat' first
   | (with_reducible exact ih0 _ _ _ _ _ _ _ _ _ _)
   | (with_reducible exact spec_l20Given.mono _ _ _)
   | (with_reducible exact spec_l7Name.mono _ _)
   | (with_reducible exact LeO.refl _)
   | (with_reducible exact LeO.none _)
   | (with_reducible refine LeO.ite ?_ ?_)
   | (with_reducible refine LeO.bind ?_ (fun _ => ?_))
   | exact ih0 _ _ _ _ _ _ _ _ _ _
   | exact spec_l20Given.mono _ _ _
   | exact spec_l7Name.mono _ _
   | exact LeO.none _
   | refine LeO.ite ?_ ?_
   | refine LeO.bind ?_ (fun _ => ?_)
theorem spec_l20Sample.mono : ∀ a0 a1 k, LeO (spec_l20Sample.f k a0 a1) (spec_l20Sample.f (k + 1) a0 a1) := by
 intro a0 a1 k
 have ih0 := spec_l20Sample.mono_l k
 unfold spec_l20Sample.f
 repeat' first
   | (with_reducible exact ih0 _ _ _ _ _ _ _ _ _ _)
   | (with_reducible exact spec_l20Given.mono _ _ _)
   | (with_reducible exact spec_l7Name.mono _ _)
   | (with_reducible exact LeO.refl _)
   | (with_reducible exact LeO.none _)
   | (with_reducible refine LeO.ite ?_ ?_)
   | (with_reducible refine LeO.bind ?_ (fun _ => ?_))
   | exact ih0 _ _ _ _ _ _ _ _ _ _
   | exact spec_l20Given.mono _ _ _
   | exact spec_l7Name.mono _ _
   | exact LeO.none _
   | refine LeO.ite ?_ ?_
   | refine LeO.bind ?_ (fun _ => ?_)
set_option maxHeartbeats 8000000 in
set_option maxRecDepth 100000 in
theorem spec_l20Sample.calls (k : Nat) (A0 : Option Addr) (c0 : Nat) (l0 : List (S71)) (a1 : Int) (r : Bool) (w : World) (hr0 : Kd.C k71 w A0 l0.length l0) (hc0 : l0.length ≤ c0) (h : spec_l20Sample.f k l0 a1 = some r) :
  Calls Try.prog 112 #[.slice A0 l0.length c0, .int .i64 a1] w fun e w' => e = .returned (.bool r) ∧ Below w.heap.size w w' := by
 have hu71 := Try.underlying71
 have HR0 := Aside0.mk hr0
 have HC0 := Aside0.mk hc0
 clear hr0 hc0
 have HB := Aside0.mk (Below.refl w.heap.size w)
 have H : (if 0 ≤ a1 then (if a1 < (l0.length : Int) then (if ((rd_T71 l0 a1).f0) = (wrap64 (a1 + 1)) then ((spec_l1In.f ((rd_T71 l0 a1).f1) 0 a1).bind fun t103 => (if t103 = true then ((spec_l1In.f ((rd_T71 l0 a1).f2) 1 999).bind fun t104 => (if t104 = true then ((spec_l1In.f ((rd_T71 l0 a1).f3) 1 500).bind fun t105 => (if t105 = true then (if ((rd_T71 l0 a1).f4) < 0 then (spec_l20Sample.j0 k l0 true ((rd_T71 l0 a1).f0) ((rd_T71 l0 a1).f1) ((rd_T71 l0 a1).f2) ((rd_T71 l0 a1).f3) ((rd_T71 l0 a1).f4) ((rd_T71 l0 a1).f5) ((rd_T71 l0 a1).f6) ((rd_T71 l0 a1).f7)) else (if ((rd_T71 l0 a1).f5) < 0 then (spec_l20Sample.j0 k l0 true ((rd_T71 l0 a1).f0) ((rd_T71 l0 a1).f1) ((rd_T71 l0 a1).f2) ((rd_T71 l0 a1).f3) ((rd_T71 l0 a1).f4) ((rd_T71 l0 a1).f5) ((rd_T71 l0 a1).f6) ((rd_T71 l0 a1).f7)) else (if ((rd_T71 l0 a1).f6) < 0 then (spec_l20Sample.j0 k l0 true ((rd_T71 l0 a1).f0) ((rd_T71 l0 a1).f1) ((rd_T71 l0 a1).f2) ((rd_T71 l0 a1).f3) ((rd_T71 l0 a1).f4) ((rd_T71 l0 a1).f5) ((rd_T71 l0 a1).f6) ((rd_T71 l0 a1).f7)) else ((spec_l7Name.f k ((rd_T71 l0 a1).f7)).bind fun t106 => (spec_l20Sample.j0 k l0 (!t106) ((rd_T71 l0 a1).f0) ((rd_T71 l0 a1).f1) ((rd_T71 l0 a1).f2) ((rd_T71 l0 a1).f3) ((rd_T71 l0 a1).f4) ((rd_T71 l0 a1).f5) ((rd_T71 l0 a1).f6) ((rd_T71 l0 a1).f7)))))) else (spec_l20Sample.j0 k l0 true ((rd_T71 l0 a1).f0) ((rd_T71 l0 a1).f1) ((rd_T71 l0 a1).f2) ((rd_T71 l0 a1).f3) ((rd_T71 l0 a1).f4) ((rd_T71 l0 a1).f5) ((rd_T71 l0 a1).f6) ((rd_T71 l0 a1).f7)))) else (spec_l20Sample.j0 k l0 true ((rd_T71 l0 a1).f0) ((rd_T71 l0 a1).f1) ((rd_T71 l0 a1).f2) ((rd_T71 l0 a1).f3) ((rd_T71 l0 a1).f4) ((rd_T71 l0 a1).f5) ((rd_T71 l0 a1).f6) ((rd_T71 l0 a1).f7)))) else (spec_l20Sample.j0 k l0 true ((rd_T71 l0 a1).f0) ((rd_T71 l0 a1).f1) ((rd_T71 l0 a1).f2) ((rd_T71 l0 a1).f3) ((rd_T71 l0 a1).f4) ((rd_T71 l0 a1).f5) ((rd_T71 l0 a1).f6) ((rd_T71 l0 a1).f7)))) else (spec_l20Sample.j0 k l0 true ((rd_T71 l0 a1).f0) ((rd_T71 l0 a1).f1) ((rd_T71 l0 a1).f2) ((rd_T71 l0 a1).f3) ((rd_T71 l0 a1).f4) ((rd_T71 l0 a1).f5) ((rd_T71 l0 a1).f6) ((rd_T71 l0 a1).f7))) else (none)) else (none)) = some r := h
 clear h
 by_cases c3 : 0 ≤ a1
 ·rw [if_pos c3] at H
  have c3b0 : decide (0 ≤ a1) = true := decide_eq_true c3
  clear c3
  by_cases c4 : a1 < (l0.length : Int)
  ·rw [if_pos c4] at H
   have c4b0 : decide (a1 < (l0.length : Int)) = true := decide_eq_true c4
   clear c4
   have HC5 := Aside0.mk H
   clear H
   have p101 : 0 ≤ (a1 : Int) := of_decide_eq_true (by first | (with_reducible assumption) | assumption)
   have q101 : a1 < (l0.length : Int) := of_decide_eq_true (by first | (with_reducible assumption) | assumption)
   obtain ⟨ad101, e101, hx101_0, hx101_1, hx101_2, hx101_3, hx101_4, hx101_5, hx101_6, hx101_7⟩ := at_T71 HR0.out a1 p101 q101
   cases e101
   replace p101 := eq_true p101
   replace q101 := eq_true q101
   go_enter Try.func112, Try.ntmps112
   go_upto_region 2 with (first | ((with_reducible refine gate_dst (N := 5) rfl ?_); refine box_event ?hg (N := 5) ?hd (cs := #[.int .i64 0, .int .i64 0, .int .i64 0, .int .i64 0, .int .i64 0, .int .i64 0, .int .i64 0, .string (⟨#[]⟩ : ByteArray)]) (t := 71) ?hr ?_; (case hd => rfl); (case hg => rfl); (case hr => first | (go_simp; done) | (go_simp; rfl)); intro gb102 hg w6 hbox hb; have n0_ := Aside0.mk (below_step (pH_ HB.out) hb); have n1_ := Aside0.mk (hbox); have n2_ := Aside0.mk ((by rw [hg]; exact (below_size (pH_ HB.out)) : w.heap.size ≤ gb102)); have n3_ := Aside0.mk ((by rw [hg]; exact (below_size (pH_ HB.out)) : w.heap.size ≤ gb102)); clear HB; have HB := n0_; have BK102 := n1_; have GW102 := n2_; have GE102 := n3_; clear n0_ n1_ n2_ n3_; clear hb hbox hg; have hcz7_0 := cz_ BK102.out 0 _ rfl; have hcz7_1 := cz_ BK102.out 1 _ rfl; have hcz7_2 := cz_ BK102.out 2 _ rfl; have hcz7_3 := cz_ BK102.out 3 _ rfl; have hcz7_4 := cz_ BK102.out 4 _ rfl; have hcz7_5 := cz_ BK102.out 5 _ rfl; have hcz7_6 := cz_ BK102.out 6 _ rfl; have hcz7_7 := cz_ BK102.out 7 _ rfl; have hfz7_0 := blk_frozen BK102.out 0; have hfz7_1 := blk_frozen BK102.out 1; have hfz7_2 := blk_frozen BK102.out 2; have hfz7_3 := blk_frozen BK102.out 3; have hfz7_4 := blk_frozen BK102.out 4; have hfz7_5 := blk_frozen BK102.out 5; have hfz7_6 := blk_frozen BK102.out 6; have hfz7_7 := blk_frozen BK102.out 7))
   repeat (go_quiet (first | ((with_reducible refine gate_dst (N := 5) rfl ?_); refine box_event ?hg (N := 5) ?hd (cs := #[.int .i64 0, .int .i64 0, .int .i64 0, .int .i64 0, .int .i64 0, .int .i64 0, .int .i64 0, .string (⟨#[]⟩ : ByteArray)]) (t := 71) ?hr ?_; (case hd => rfl); (case hg => rfl); (case hr => first | (go_simp; done) | (go_simp; rfl)); intro gb102 hg w6 hbox hb; have n0_ := Aside0.mk (below_step (pH_ HB.out) hb); have n1_ := Aside0.mk (hbox); have n2_ := Aside0.mk ((by rw [hg]; exact (below_size (pH_ HB.out)) : w.heap.size ≤ gb102)); have n3_ := Aside0.mk ((by rw [hg]; exact (below_size (pH_ HB.out)) : w.heap.size ≤ gb102)); clear HB; have HB := n0_; have BK102 := n1_; have GW102 := n2_; have GE102 := n3_; clear n0_ n1_ n2_ n3_; clear hb hbox hg; have hcz7_0 := cz_ BK102.out 0 _ rfl; have hcz7_1 := cz_ BK102.out 1 _ rfl; have hcz7_2 := cz_ BK102.out 2 _ rfl; have hcz7_3 := cz_ BK102.out 3 _ rfl; have hcz7_4 := cz_ BK102.out 4 _ rfl; have hcz7_5 := cz_ BK102.out 5 _ rfl; have hcz7_6 := cz_ BK102.out 6 _ rfl; have hcz7_7 := cz_ BK102.out 7 _ rfl; have hfz7_0 := blk_frozen BK102.out 0; have hfz7_1 := blk_frozen BK102.out 1; have hfz7_2 := blk_frozen BK102.out 2; have hfz7_3 := blk_frozen BK102.out 3; have hfz7_4 := blk_frozen BK102.out 4; have hfz7_5 := blk_frozen BK102.out 5; have hfz7_6 := blk_frozen BK102.out 6; have hfz7_7 := blk_frozen BK102.out 7)); go_upto_region 2 with (first | ((with_reducible refine gate_dst (N := 5) rfl ?_); refine box_event ?hg (N := 5) ?hd (cs := #[.int .i64 0, .int .i64 0, .int .i64 0, .int .i64 0, .int .i64 0, .int .i64 0, .int .i64 0, .string (⟨#[]⟩ : ByteArray)]) (t := 71) ?hr ?_; (case hd => rfl); (case hg => rfl); (case hr => first | (go_simp; done) | (go_simp; rfl)); intro gb102 hg w6 hbox hb; have n0_ := Aside0.mk (below_step (pH_ HB.out) hb); have n1_ := Aside0.mk (hbox); have n2_ := Aside0.mk ((by rw [hg]; exact (below_size (pH_ HB.out)) : w.heap.size ≤ gb102)); have n3_ := Aside0.mk ((by rw [hg]; exact (below_size (pH_ HB.out)) : w.heap.size ≤ gb102)); clear HB; have HB := n0_; have BK102 := n1_; have GW102 := n2_; have GE102 := n3_; clear n0_ n1_ n2_ n3_; clear hb hbox hg; have hcz7_0 := cz_ BK102.out 0 _ rfl; have hcz7_1 := cz_ BK102.out 1 _ rfl; have hcz7_2 := cz_ BK102.out 2 _ rfl; have hcz7_3 := cz_ BK102.out 3 _ rfl; have hcz7_4 := cz_ BK102.out 4 _ rfl; have hcz7_5 := cz_ BK102.out 5 _ rfl; have hcz7_6 := cz_ BK102.out 6 _ rfl; have hcz7_7 := cz_ BK102.out 7 _ rfl; have hfz7_0 := blk_frozen BK102.out 0; have hfz7_1 := blk_frozen BK102.out 1; have hfz7_2 := blk_frozen BK102.out 2; have hfz7_3 := blk_frozen BK102.out 3; have hfz7_4 := blk_frozen BK102.out 4; have hfz7_5 := blk_frozen BK102.out 5; have hfz7_6 := blk_frozen BK102.out 6; have hfz7_7 := blk_frozen BK102.out 7)))
   (try simp only [Act.put, List.setIfInBounds_toArray, List.set_cons_zero, List.set_cons_succ])
   go_cut [54] (fun v54 wc => ∃ (kq : Nat) (x54_4 : Bool), v54 = .bool x54_4 ∧ Aside0 (spec_l20Sample.j0 kq l0 x54_4 ((rd_T71 l0 a1).f0) ((rd_T71 l0 a1).f1) ((rd_T71 l0 a1).f2) ((rd_T71 l0 a1).f3) ((rd_T71 l0 a1).f4) ((rd_T71 l0 a1).f5) ((rd_T71 l0 a1).f6) ((rd_T71 l0 a1).f7) = some r) ∧ Aside0 (kq ≤ k) ∧ Aside0 (wc.heap[gb102]? = some (.cells #[.int .i64 ((rd_T71 l0 a1).f0), .int .i64 ((rd_T71 l0 a1).f1), .int .i64 ((rd_T71 l0 a1).f2), .int .i64 ((rd_T71 l0 a1).f3), .int .i64 ((rd_T71 l0 a1).f4), .int .i64 ((rd_T71 l0 a1).f5), .int .i64 ((rd_T71 l0 a1).f6), .string ((rd_T71 l0 a1).f7)] 71 (0, 0))) ∧ Aside0 (Below w.heap.size w wc))
   case first =>
    have H := HC5.out
    clear HC5
    by_cases c8 : ((rd_T71 l0 a1).f0) = (wrap64 (a1 + 1))
    ·rw [if_pos c8] at H
     have c8b0 : (((rd_T71 l0 a1).f0) == (wrap64 (a1 + 1))) = true := beq_iff_eq.mpr c8
     have c8b1 : (((rd_T71 l0 a1).f0) != (wrap64 (a1 + 1))) = false := bne_eq_false_iff_eq.mpr c8
     clear c8
     (first | rw [c8b0] | (simp only [i64_w, i32_w]; rw [c8b0]) | skip)
     replace H := Option.bind_eq_some_iff.mp H
     obtain ⟨t103, A90, H⟩ := H
     replace H : (if t103 = true then ((spec_l1In.f ((rd_T71 l0 a1).f2) 1 999).bind fun t104 => (if t104 = true then ((spec_l1In.f ((rd_T71 l0 a1).f3) 1 500).bind fun t105 => (if t105 = true then (if ((rd_T71 l0 a1).f4) < 0 then (spec_l20Sample.j0 k l0 true ((rd_T71 l0 a1).f0) ((rd_T71 l0 a1).f1) ((rd_T71 l0 a1).f2) ((rd_T71 l0 a1).f3) ((rd_T71 l0 a1).f4) ((rd_T71 l0 a1).f5) ((rd_T71 l0 a1).f6) ((rd_T71 l0 a1).f7)) else (if ((rd_T71 l0 a1).f5) < 0 then (spec_l20Sample.j0 k l0 true ((rd_T71 l0 a1).f0) ((rd_T71 l0 a1).f1) ((rd_T71 l0 a1).f2) ((rd_T71 l0 a1).f3) ((rd_T71 l0 a1).f4) ((rd_T71 l0 a1).f5) ((rd_T71 l0 a1).f6) ((rd_T71 l0 a1).f7)) else (if ((rd_T71 l0 a1).f6) < 0 then (spec_l20Sample.j0 k l0 true ((rd_T71 l0 a1).f0) ((rd_T71 l0 a1).f1) ((rd_T71 l0 a1).f2) ((rd_T71 l0 a1).f3) ((rd_T71 l0 a1).f4) ((rd_T71 l0 a1).f5) ((rd_T71 l0 a1).f6) ((rd_T71 l0 a1).f7)) else ((spec_l7Name.f k ((rd_T71 l0 a1).f7)).bind fun t106 => (spec_l20Sample.j0 k l0 (!t106) ((rd_T71 l0 a1).f0) ((rd_T71 l0 a1).f1) ((rd_T71 l0 a1).f2) ((rd_T71 l0 a1).f3) ((rd_T71 l0 a1).f4) ((rd_T71 l0 a1).f5) ((rd_T71 l0 a1).f6) ((rd_T71 l0 a1).f7)))))) else (spec_l20Sample.j0 k l0 true ((rd_T71 l0 a1).f0) ((rd_T71 l0 a1).f1) ((rd_T71 l0 a1).f2) ((rd_T71 l0 a1).f3) ((rd_T71 l0 a1).f4) ((rd_T71 l0 a1).f5) ((rd_T71 l0 a1).f6) ((rd_T71 l0 a1).f7)))) else (spec_l20Sample.j0 k l0 true ((rd_T71 l0 a1).f0) ((rd_T71 l0 a1).f1) ((rd_T71 l0 a1).f2) ((rd_T71 l0 a1).f3) ((rd_T71 l0 a1).f4) ((rd_T71 l0 a1).f5) ((rd_T71 l0 a1).f6) ((rd_T71 l0 a1).f7)))) else (spec_l20Sample.j0 k l0 true ((rd_T71 l0 a1).f0) ((rd_T71 l0 a1).f1) ((rd_T71 l0 a1).f2) ((rd_T71 l0 a1).f3) ((rd_T71 l0 a1).f4) ((rd_T71 l0 a1).f5) ((rd_T71 l0 a1).f6) ((rd_T71 l0 a1).f7))) = some r := H
     have A9 := Aside0.mk A90
     clear A90
     by_cases c10 : t103 = true
     ·subst c10
      have H1 : ((spec_l1In.f ((rd_T71 l0 a1).f2) 1 999).bind fun t104 => (if t104 = true then ((spec_l1In.f ((rd_T71 l0 a1).f3) 1 500).bind fun t105 => (if t105 = true then (if ((rd_T71 l0 a1).f4) < 0 then (spec_l20Sample.j0 k l0 true ((rd_T71 l0 a1).f0) ((rd_T71 l0 a1).f1) ((rd_T71 l0 a1).f2) ((rd_T71 l0 a1).f3) ((rd_T71 l0 a1).f4) ((rd_T71 l0 a1).f5) ((rd_T71 l0 a1).f6) ((rd_T71 l0 a1).f7)) else (if ((rd_T71 l0 a1).f5) < 0 then (spec_l20Sample.j0 k l0 true ((rd_T71 l0 a1).f0) ((rd_T71 l0 a1).f1) ((rd_T71 l0 a1).f2) ((rd_T71 l0 a1).f3) ((rd_T71 l0 a1).f4) ((rd_T71 l0 a1).f5) ((rd_T71 l0 a1).f6) ((rd_T71 l0 a1).f7)) else (if ((rd_T71 l0 a1).f6) < 0 then (spec_l20Sample.j0 k l0 true ((rd_T71 l0 a1).f0) ((rd_T71 l0 a1).f1) ((rd_T71 l0 a1).f2) ((rd_T71 l0 a1).f3) ((rd_T71 l0 a1).f4) ((rd_T71 l0 a1).f5) ((rd_T71 l0 a1).f6) ((rd_T71 l0 a1).f7)) else ((spec_l7Name.f k ((rd_T71 l0 a1).f7)).bind fun t106 => (spec_l20Sample.j0 k l0 (!t106) ((rd_T71 l0 a1).f0) ((rd_T71 l0 a1).f1) ((rd_T71 l0 a1).f2) ((rd_T71 l0 a1).f3) ((rd_T71 l0 a1).f4) ((rd_T71 l0 a1).f5) ((rd_T71 l0 a1).f6) ((rd_T71 l0 a1).f7)))))) else (spec_l20Sample.j0 k l0 true ((rd_T71 l0 a1).f0) ((rd_T71 l0 a1).f1) ((rd_T71 l0 a1).f2) ((rd_T71 l0 a1).f3) ((rd_T71 l0 a1).f4) ((rd_T71 l0 a1).f5) ((rd_T71 l0 a1).f6) ((rd_T71 l0 a1).f7)))) else (spec_l20Sample.j0 k l0 true ((rd_T71 l0 a1).f0) ((rd_T71 l0 a1).f1) ((rd_T71 l0 a1).f2) ((rd_T71 l0 a1).f3) ((rd_T71 l0 a1).f4) ((rd_T71 l0 a1).f5) ((rd_T71 l0 a1).f6) ((rd_T71 l0 a1).f7)))) = some r := by rw [if_pos rfl] at H; exact H
      clear H
      have H := H1
      clear H1
      replace H := Option.bind_eq_some_iff.mp H
      obtain ⟨t104, A110, H⟩ := H
      replace H : (if t104 = true then ((spec_l1In.f ((rd_T71 l0 a1).f3) 1 500).bind fun t105 => (if t105 = true then (if ((rd_T71 l0 a1).f4) < 0 then (spec_l20Sample.j0 k l0 true ((rd_T71 l0 a1).f0) ((rd_T71 l0 a1).f1) ((rd_T71 l0 a1).f2) ((rd_T71 l0 a1).f3) ((rd_T71 l0 a1).f4) ((rd_T71 l0 a1).f5) ((rd_T71 l0 a1).f6) ((rd_T71 l0 a1).f7)) else (if ((rd_T71 l0 a1).f5) < 0 then (spec_l20Sample.j0 k l0 true ((rd_T71 l0 a1).f0) ((rd_T71 l0 a1).f1) ((rd_T71 l0 a1).f2) ((rd_T71 l0 a1).f3) ((rd_T71 l0 a1).f4) ((rd_T71 l0 a1).f5) ((rd_T71 l0 a1).f6) ((rd_T71 l0 a1).f7)) else (if ((rd_T71 l0 a1).f6) < 0 then (spec_l20Sample.j0 k l0 true ((rd_T71 l0 a1).f0) ((rd_T71 l0 a1).f1) ((rd_T71 l0 a1).f2) ((rd_T71 l0 a1).f3) ((rd_T71 l0 a1).f4) ((rd_T71 l0 a1).f5) ((rd_T71 l0 a1).f6) ((rd_T71 l0 a1).f7)) else ((spec_l7Name.f k ((rd_T71 l0 a1).f7)).bind fun t106 => (spec_l20Sample.j0 k l0 (!t106) ((rd_T71 l0 a1).f0) ((rd_T71 l0 a1).f1) ((rd_T71 l0 a1).f2) ((rd_T71 l0 a1).f3) ((rd_T71 l0 a1).f4) ((rd_T71 l0 a1).f5) ((rd_T71 l0 a1).f6) ((rd_T71 l0 a1).f7)))))) else (spec_l20Sample.j0 k l0 true ((rd_T71 l0 a1).f0) ((rd_T71 l0 a1).f1) ((rd_T71 l0 a1).f2) ((rd_T71 l0 a1).f3) ((rd_T71 l0 a1).f4) ((rd_T71 l0 a1).f5) ((rd_T71 l0 a1).f6) ((rd_T71 l0 a1).f7)))) else (spec_l20Sample.j0 k l0 true ((rd_T71 l0 a1).f0) ((rd_T71 l0 a1).f1) ((rd_T71 l0 a1).f2) ((rd_T71 l0 a1).f3) ((rd_T71 l0 a1).f4) ((rd_T71 l0 a1).f5) ((rd_T71 l0 a1).f6) ((rd_T71 l0 a1).f7))) = some r := H
      have A11 := Aside0.mk A110
      clear A110
      by_cases c12 : t104 = true
      ·subst c12
       have H1 : ((spec_l1In.f ((rd_T71 l0 a1).f3) 1 500).bind fun t105 => (if t105 = true then (if ((rd_T71 l0 a1).f4) < 0 then (spec_l20Sample.j0 k l0 true ((rd_T71 l0 a1).f0) ((rd_T71 l0 a1).f1) ((rd_T71 l0 a1).f2) ((rd_T71 l0 a1).f3) ((rd_T71 l0 a1).f4) ((rd_T71 l0 a1).f5) ((rd_T71 l0 a1).f6) ((rd_T71 l0 a1).f7)) else (if ((rd_T71 l0 a1).f5) < 0 then (spec_l20Sample.j0 k l0 true ((rd_T71 l0 a1).f0) ((rd_T71 l0 a1).f1) ((rd_T71 l0 a1).f2) ((rd_T71 l0 a1).f3) ((rd_T71 l0 a1).f4) ((rd_T71 l0 a1).f5) ((rd_T71 l0 a1).f6) ((rd_T71 l0 a1).f7)) else (if ((rd_T71 l0 a1).f6) < 0 then (spec_l20Sample.j0 k l0 true ((rd_T71 l0 a1).f0) ((rd_T71 l0 a1).f1) ((rd_T71 l0 a1).f2) ((rd_T71 l0 a1).f3) ((rd_T71 l0 a1).f4) ((rd_T71 l0 a1).f5) ((rd_T71 l0 a1).f6) ((rd_T71 l0 a1).f7)) else ((spec_l7Name.f k ((rd_T71 l0 a1).f7)).bind fun t106 => (spec_l20Sample.j0 k l0 (!t106) ((rd_T71 l0 a1).f0) ((rd_T71 l0 a1).f1) ((rd_T71 l0 a1).f2) ((rd_T71 l0 a1).f3) ((rd_T71 l0 a1).f4) ((rd_T71 l0 a1).f5) ((rd_T71 l0 a1).f6) ((rd_T71 l0 a1).f7)))))) else (spec_l20Sample.j0 k l0 true ((rd_T71 l0 a1).f0) ((rd_T71 l0 a1).f1) ((rd_T71 l0 a1).f2) ((rd_T71 l0 a1).f3) ((rd_T71 l0 a1).f4) ((rd_T71 l0 a1).f5) ((rd_T71 l0 a1).f6) ((rd_T71 l0 a1).f7)))) = some r := by rw [if_pos rfl] at H; exact H
       clear H
       have H := H1
       clear H1
       replace H := Option.bind_eq_some_iff.mp H
       obtain ⟨t105, A130, H⟩ := H
       replace H : (if t105 = true then (if ((rd_T71 l0 a1).f4) < 0 then (spec_l20Sample.j0 k l0 true ((rd_T71 l0 a1).f0) ((rd_T71 l0 a1).f1) ((rd_T71 l0 a1).f2) ((rd_T71 l0 a1).f3) ((rd_T71 l0 a1).f4) ((rd_T71 l0 a1).f5) ((rd_T71 l0 a1).f6) ((rd_T71 l0 a1).f7)) else (if ((rd_T71 l0 a1).f5) < 0 then (spec_l20Sample.j0 k l0 true ((rd_T71 l0 a1).f0) ((rd_T71 l0 a1).f1) ((rd_T71 l0 a1).f2) ((rd_T71 l0 a1).f3) ((rd_T71 l0 a1).f4) ((rd_T71 l0 a1).f5) ((rd_T71 l0 a1).f6) ((rd_T71 l0 a1).f7)) else (if ((rd_T71 l0 a1).f6) < 0 then (spec_l20Sample.j0 k l0 true ((rd_T71 l0 a1).f0) ((rd_T71 l0 a1).f1) ((rd_T71 l0 a1).f2) ((rd_T71 l0 a1).f3) ((rd_T71 l0 a1).f4) ((rd_T71 l0 a1).f5) ((rd_T71 l0 a1).f6) ((rd_T71 l0 a1).f7)) else ((spec_l7Name.f k ((rd_T71 l0 a1).f7)).bind fun t106 => (spec_l20Sample.j0 k l0 (!t106) ((rd_T71 l0 a1).f0) ((rd_T71 l0 a1).f1) ((rd_T71 l0 a1).f2) ((rd_T71 l0 a1).f3) ((rd_T71 l0 a1).f4) ((rd_T71 l0 a1).f5) ((rd_T71 l0 a1).f6) ((rd_T71 l0 a1).f7)))))) else (spec_l20Sample.j0 k l0 true ((rd_T71 l0 a1).f0) ((rd_T71 l0 a1).f1) ((rd_T71 l0 a1).f2) ((rd_T71 l0 a1).f3) ((rd_T71 l0 a1).f4) ((rd_T71 l0 a1).f5) ((rd_T71 l0 a1).f6) ((rd_T71 l0 a1).f7))) = some r := H
       have A13 := Aside0.mk A130
       clear A130
       by_cases c14 : t105 = true
       ·subst c14
        have H1 : (if ((rd_T71 l0 a1).f4) < 0 then (spec_l20Sample.j0 k l0 true ((rd_T71 l0 a1).f0) ((rd_T71 l0 a1).f1) ((rd_T71 l0 a1).f2) ((rd_T71 l0 a1).f3) ((rd_T71 l0 a1).f4) ((rd_T71 l0 a1).f5) ((rd_T71 l0 a1).f6) ((rd_T71 l0 a1).f7)) else (if ((rd_T71 l0 a1).f5) < 0 then (spec_l20Sample.j0 k l0 true ((rd_T71 l0 a1).f0) ((rd_T71 l0 a1).f1) ((rd_T71 l0 a1).f2) ((rd_T71 l0 a1).f3) ((rd_T71 l0 a1).f4) ((rd_T71 l0 a1).f5) ((rd_T71 l0 a1).f6) ((rd_T71 l0 a1).f7)) else (if ((rd_T71 l0 a1).f6) < 0 then (spec_l20Sample.j0 k l0 true ((rd_T71 l0 a1).f0) ((rd_T71 l0 a1).f1) ((rd_T71 l0 a1).f2) ((rd_T71 l0 a1).f3) ((rd_T71 l0 a1).f4) ((rd_T71 l0 a1).f5) ((rd_T71 l0 a1).f6) ((rd_T71 l0 a1).f7)) else ((spec_l7Name.f k ((rd_T71 l0 a1).f7)).bind fun t106 => (spec_l20Sample.j0 k l0 (!t106) ((rd_T71 l0 a1).f0) ((rd_T71 l0 a1).f1) ((rd_T71 l0 a1).f2) ((rd_T71 l0 a1).f3) ((rd_T71 l0 a1).f4) ((rd_T71 l0 a1).f5) ((rd_T71 l0 a1).f6) ((rd_T71 l0 a1).f7)))))) = some r := by rw [if_pos rfl] at H; exact H
        clear H
        have H := H1
        clear H1
        by_cases c15 : ((rd_T71 l0 a1).f4) < 0
        ·rw [if_pos c15] at H
         have c15b0 : decide (((rd_T71 l0 a1).f4) < 0) = true := decide_eq_true c15
         clear c15
         have H' := Aside0.mk H
         clear H
         have hcz16_0 := cz_ BK102.out 0 _ rfl
         have hcz16_1 := cz_ BK102.out 1 _ rfl
         have hcz16_2 := cz_ BK102.out 2 _ rfl
         have hcz16_3 := cz_ BK102.out 3 _ rfl
         have hcz16_4 := cz_ BK102.out 4 _ rfl
         have hcz16_5 := cz_ BK102.out 5 _ rfl
         have hcz16_6 := cz_ BK102.out 6 _ rfl
         have hcz16_7 := cz_ BK102.out 7 _ rfl
         have hfz16_0 := blk_frozen BK102.out 0
         have hfz16_1 := blk_frozen BK102.out 1
         have hfz16_2 := blk_frozen BK102.out 2
         have hfz16_3 := blk_frozen BK102.out 3
         have hfz16_4 := blk_frozen BK102.out 4
         have hfz16_5 := blk_frozen BK102.out 5
         have hfz16_6 := blk_frozen BK102.out 6
         have hfz16_7 := blk_frozen BK102.out 7
         go_wp2_with (first | (go_at_call 70; (with_reducible refine (spec_l1In.calls ((rd_T71 l0 a1).f1) 0 a1 true _ A9.out).mono ?_); rintro e w' ⟨rfl, ⟨nd, rfl⟩⟩; (try first | exact ⟨rfl, _, World.drewN_drewN _ _ _⟩ | exact ⟨rfl, _, Eq.trans (World.drewN_drewN _ _ _) (congrArg (World.drewN _) (Nat.add_assoc _ _ _))⟩)) | (go_at_call 70; (with_reducible refine (spec_l1In.calls ((rd_T71 l0 a1).f2) 1 999 true _ A11.out).mono ?_); rintro e w' ⟨rfl, ⟨nd, rfl⟩⟩; (try first | exact ⟨rfl, _, World.drewN_drewN _ _ _⟩ | exact ⟨rfl, _, Eq.trans (World.drewN_drewN _ _ _) (congrArg (World.drewN _) (Nat.add_assoc _ _ _))⟩)) | (go_at_call 70; (with_reducible refine (spec_l1In.calls ((rd_T71 l0 a1).f3) 1 500 true _ A13.out).mono ?_); rintro e w' ⟨rfl, ⟨nd, rfl⟩⟩; (try first | exact ⟨rfl, _, World.drewN_drewN _ _ _⟩ | exact ⟨rfl, _, Eq.trans (World.drewN_drewN _ _ _) (congrArg (World.drewN _) (Nat.add_assoc _ _ _))⟩)))
         repeat (go_quiet (first | (go_at_call 70; (with_reducible refine (spec_l1In.calls ((rd_T71 l0 a1).f1) 0 a1 true _ A9.out).mono ?_); rintro e w' ⟨rfl, ⟨nd, rfl⟩⟩; (try first | exact ⟨rfl, _, World.drewN_drewN _ _ _⟩ | exact ⟨rfl, _, Eq.trans (World.drewN_drewN _ _ _) (congrArg (World.drewN _) (Nat.add_assoc _ _ _))⟩)) | (go_at_call 70; (with_reducible refine (spec_l1In.calls ((rd_T71 l0 a1).f2) 1 999 true _ A11.out).mono ?_); rintro e w' ⟨rfl, ⟨nd, rfl⟩⟩; (try first | exact ⟨rfl, _, World.drewN_drewN _ _ _⟩ | exact ⟨rfl, _, Eq.trans (World.drewN_drewN _ _ _) (congrArg (World.drewN _) (Nat.add_assoc _ _ _))⟩)) | (go_at_call 70; (with_reducible refine (spec_l1In.calls ((rd_T71 l0 a1).f3) 1 500 true _ A13.out).mono ?_); rintro e w' ⟨rfl, ⟨nd, rfl⟩⟩; (try first | exact ⟨rfl, _, World.drewN_drewN _ _ _⟩ | exact ⟨rfl, _, Eq.trans (World.drewN_drewN _ _ _) (congrArg (World.drewN _) (Nat.add_assoc _ _ _))⟩))); try go_wp2_with (first | (go_at_call 70; (with_reducible refine (spec_l1In.calls ((rd_T71 l0 a1).f1) 0 a1 true _ A9.out).mono ?_); rintro e w' ⟨rfl, ⟨nd, rfl⟩⟩; (try first | exact ⟨rfl, _, World.drewN_drewN _ _ _⟩ | exact ⟨rfl, _, Eq.trans (World.drewN_drewN _ _ _) (congrArg (World.drewN _) (Nat.add_assoc _ _ _))⟩)) | (go_at_call 70; (with_reducible refine (spec_l1In.calls ((rd_T71 l0 a1).f2) 1 999 true _ A11.out).mono ?_); rintro e w' ⟨rfl, ⟨nd, rfl⟩⟩; (try first | exact ⟨rfl, _, World.drewN_drewN _ _ _⟩ | exact ⟨rfl, _, Eq.trans (World.drewN_drewN _ _ _) (congrArg (World.drewN _) (Nat.add_assoc _ _ _))⟩)) | (go_at_call 70; (with_reducible refine (spec_l1In.calls ((rd_T71 l0 a1).f3) 1 500 true _ A13.out).mono ?_); rintro e w' ⟨rfl, ⟨nd, rfl⟩⟩; (try first | exact ⟨rfl, _, World.drewN_drewN _ _ _⟩ | exact ⟨rfl, _, Eq.trans (World.drewN_drewN _ _ _) (congrArg (World.drewN _) (Nat.add_assoc _ _ _))⟩))))
         go_meet
         case rel => exact ⟨_, (true), (by first | rfl | (simp; done) | (simp [*]; done) | (simp [beq_nil_, bne_nil_]; done)), H', ⟨by first | omega | exact Nat.le_refl _⟩, ⟨by (with_reducible repeat (first | refine blk_drewN ?_ _ | refine blk_drew ?_ | refine blk_alloc ?_ _)); refine blk_put (cs := #[.int .i64 ((rd_T71 l0 a1).f0), .int .i64 ((rd_T71 l0 a1).f1), .int .i64 ((rd_T71 l0 a1).f2), .int .i64 ((rd_T71 l0 a1).f3), .int .i64 ((rd_T71 l0 a1).f4), .int .i64 ((rd_T71 l0 a1).f5), .int .i64 ((rd_T71 l0 a1).f6), .string (⟨#[]⟩ : ByteArray)]) ?_ 7 _ rfl; (with_reducible repeat (first | refine blk_drewN ?_ _ | refine blk_drew ?_ | refine blk_alloc ?_ _)); refine blk_put (cs := #[.int .i64 ((rd_T71 l0 a1).f0), .int .i64 ((rd_T71 l0 a1).f1), .int .i64 ((rd_T71 l0 a1).f2), .int .i64 ((rd_T71 l0 a1).f3), .int .i64 ((rd_T71 l0 a1).f4), .int .i64 ((rd_T71 l0 a1).f5), .int .i64 0, .string (⟨#[]⟩ : ByteArray)]) ?_ 6 _ rfl; (with_reducible repeat (first | refine blk_drewN ?_ _ | refine blk_drew ?_ | refine blk_alloc ?_ _)); refine blk_put (cs := #[.int .i64 ((rd_T71 l0 a1).f0), .int .i64 ((rd_T71 l0 a1).f1), .int .i64 ((rd_T71 l0 a1).f2), .int .i64 ((rd_T71 l0 a1).f3), .int .i64 ((rd_T71 l0 a1).f4), .int .i64 0, .int .i64 0, .string (⟨#[]⟩ : ByteArray)]) ?_ 5 _ rfl; (with_reducible repeat (first | refine blk_drewN ?_ _ | refine blk_drew ?_ | refine blk_alloc ?_ _)); refine blk_put (cs := #[.int .i64 ((rd_T71 l0 a1).f0), .int .i64 ((rd_T71 l0 a1).f1), .int .i64 ((rd_T71 l0 a1).f2), .int .i64 ((rd_T71 l0 a1).f3), .int .i64 0, .int .i64 0, .int .i64 0, .string (⟨#[]⟩ : ByteArray)]) ?_ 4 _ rfl; (with_reducible repeat (first | refine blk_drewN ?_ _ | refine blk_drew ?_ | refine blk_alloc ?_ _)); refine blk_put (cs := #[.int .i64 ((rd_T71 l0 a1).f0), .int .i64 ((rd_T71 l0 a1).f1), .int .i64 ((rd_T71 l0 a1).f2), .int .i64 0, .int .i64 0, .int .i64 0, .int .i64 0, .string (⟨#[]⟩ : ByteArray)]) ?_ 3 _ rfl; (with_reducible repeat (first | refine blk_drewN ?_ _ | refine blk_drew ?_ | refine blk_alloc ?_ _)); refine blk_put (cs := #[.int .i64 ((rd_T71 l0 a1).f0), .int .i64 ((rd_T71 l0 a1).f1), .int .i64 0, .int .i64 0, .int .i64 0, .int .i64 0, .int .i64 0, .string (⟨#[]⟩ : ByteArray)]) ?_ 2 _ rfl; (with_reducible repeat (first | refine blk_drewN ?_ _ | refine blk_drew ?_ | refine blk_alloc ?_ _)); refine blk_put (cs := #[.int .i64 ((rd_T71 l0 a1).f0), .int .i64 0, .int .i64 0, .int .i64 0, .int .i64 0, .int .i64 0, .int .i64 0, .string (⟨#[]⟩ : ByteArray)]) ?_ 1 _ rfl; (with_reducible repeat (first | refine blk_drewN ?_ _ | refine blk_drew ?_ | refine blk_alloc ?_ _)); refine blk_put (cs := #[.int .i64 0, .int .i64 0, .int .i64 0, .int .i64 0, .int .i64 0, .int .i64 0, .int .i64 0, .string (⟨#[]⟩ : ByteArray)]) ?_ 0 _ rfl; (with_reducible repeat (first | refine blk_drewN ?_ _ | refine blk_drew ?_ | refine blk_alloc ?_ _)); exact BK102.out⟩, ⟨by repeat (first | (with_reducible first | exact HB.out | apply below_alloc | apply pw_below_drewN | apply below_drew1 | refine below_set ?_ GE102.out) | exact HB.out)⟩⟩
        rw [if_neg c15] at H
        have c15b0 : decide (((rd_T71 l0 a1).f4) < 0) = false := decide_eq_false c15
        clear c15
        by_cases c17 : ((rd_T71 l0 a1).f5) < 0
        ·rw [if_pos c17] at H
         have c17b0 : decide (((rd_T71 l0 a1).f5) < 0) = true := decide_eq_true c17
         clear c17
         have H' := Aside0.mk H
         clear H
         have hcz18_0 := cz_ BK102.out 0 _ rfl
         have hcz18_1 := cz_ BK102.out 1 _ rfl
         have hcz18_2 := cz_ BK102.out 2 _ rfl
         have hcz18_3 := cz_ BK102.out 3 _ rfl
         have hcz18_4 := cz_ BK102.out 4 _ rfl
         have hcz18_5 := cz_ BK102.out 5 _ rfl
         have hcz18_6 := cz_ BK102.out 6 _ rfl
         have hcz18_7 := cz_ BK102.out 7 _ rfl
         have hfz18_0 := blk_frozen BK102.out 0
         have hfz18_1 := blk_frozen BK102.out 1
         have hfz18_2 := blk_frozen BK102.out 2
         have hfz18_3 := blk_frozen BK102.out 3
         have hfz18_4 := blk_frozen BK102.out 4
         have hfz18_5 := blk_frozen BK102.out 5
         have hfz18_6 := blk_frozen BK102.out 6
         have hfz18_7 := blk_frozen BK102.out 7
         go_wp2_with (first | (go_at_call 70; (with_reducible refine (spec_l1In.calls ((rd_T71 l0 a1).f1) 0 a1 true _ A9.out).mono ?_); rintro e w' ⟨rfl, ⟨nd, rfl⟩⟩; (try first | exact ⟨rfl, _, World.drewN_drewN _ _ _⟩ | exact ⟨rfl, _, Eq.trans (World.drewN_drewN _ _ _) (congrArg (World.drewN _) (Nat.add_assoc _ _ _))⟩)) | (go_at_call 70; (with_reducible refine (spec_l1In.calls ((rd_T71 l0 a1).f2) 1 999 true _ A11.out).mono ?_); rintro e w' ⟨rfl, ⟨nd, rfl⟩⟩; (try first | exact ⟨rfl, _, World.drewN_drewN _ _ _⟩ | exact ⟨rfl, _, Eq.trans (World.drewN_drewN _ _ _) (congrArg (World.drewN _) (Nat.add_assoc _ _ _))⟩)) | (go_at_call 70; (with_reducible refine (spec_l1In.calls ((rd_T71 l0 a1).f3) 1 500 true _ A13.out).mono ?_); rintro e w' ⟨rfl, ⟨nd, rfl⟩⟩; (try first | exact ⟨rfl, _, World.drewN_drewN _ _ _⟩ | exact ⟨rfl, _, Eq.trans (World.drewN_drewN _ _ _) (congrArg (World.drewN _) (Nat.add_assoc _ _ _))⟩)))
         repeat (go_quiet (first | (go_at_call 70; (with_reducible refine (spec_l1In.calls ((rd_T71 l0 a1).f1) 0 a1 true _ A9.out).mono ?_); rintro e w' ⟨rfl, ⟨nd, rfl⟩⟩; (try first | exact ⟨rfl, _, World.drewN_drewN _ _ _⟩ | exact ⟨rfl, _, Eq.trans (World.drewN_drewN _ _ _) (congrArg (World.drewN _) (Nat.add_assoc _ _ _))⟩)) | (go_at_call 70; (with_reducible refine (spec_l1In.calls ((rd_T71 l0 a1).f2) 1 999 true _ A11.out).mono ?_); rintro e w' ⟨rfl, ⟨nd, rfl⟩⟩; (try first | exact ⟨rfl, _, World.drewN_drewN _ _ _⟩ | exact ⟨rfl, _, Eq.trans (World.drewN_drewN _ _ _) (congrArg (World.drewN _) (Nat.add_assoc _ _ _))⟩)) | (go_at_call 70; (with_reducible refine (spec_l1In.calls ((rd_T71 l0 a1).f3) 1 500 true _ A13.out).mono ?_); rintro e w' ⟨rfl, ⟨nd, rfl⟩⟩; (try first | exact ⟨rfl, _, World.drewN_drewN _ _ _⟩ | exact ⟨rfl, _, Eq.trans (World.drewN_drewN _ _ _) (congrArg (World.drewN _) (Nat.add_assoc _ _ _))⟩))); try go_wp2_with (first | (go_at_call 70; (with_reducible refine (spec_l1In.calls ((rd_T71 l0 a1).f1) 0 a1 true _ A9.out).mono ?_); rintro e w' ⟨rfl, ⟨nd, rfl⟩⟩; (try first | exact ⟨rfl, _, World.drewN_drewN _ _ _⟩ | exact ⟨rfl, _, Eq.trans (World.drewN_drewN _ _ _) (congrArg (World.drewN _) (Nat.add_assoc _ _ _))⟩)) | (go_at_call 70; (with_reducible refine (spec_l1In.calls ((rd_T71 l0 a1).f2) 1 999 true _ A11.out).mono ?_); rintro e w' ⟨rfl, ⟨nd, rfl⟩⟩; (try first | exact ⟨rfl, _, World.drewN_drewN _ _ _⟩ | exact ⟨rfl, _, Eq.trans (World.drewN_drewN _ _ _) (congrArg (World.drewN _) (Nat.add_assoc _ _ _))⟩)) | (go_at_call 70; (with_reducible refine (spec_l1In.calls ((rd_T71 l0 a1).f3) 1 500 true _ A13.out).mono ?_); rintro e w' ⟨rfl, ⟨nd, rfl⟩⟩; (try first | exact ⟨rfl, _, World.drewN_drewN _ _ _⟩ | exact ⟨rfl, _, Eq.trans (World.drewN_drewN _ _ _) (congrArg (World.drewN _) (Nat.add_assoc _ _ _))⟩))))
         go_meet
         case rel => exact ⟨_, (true), (by first | rfl | (simp; done) | (simp [*]; done) | (simp [beq_nil_, bne_nil_]; done)), H', ⟨by first | omega | exact Nat.le_refl _⟩, ⟨by (with_reducible repeat (first | refine blk_drewN ?_ _ | refine blk_drew ?_ | refine blk_alloc ?_ _)); refine blk_put (cs := #[.int .i64 ((rd_T71 l0 a1).f0), .int .i64 ((rd_T71 l0 a1).f1), .int .i64 ((rd_T71 l0 a1).f2), .int .i64 ((rd_T71 l0 a1).f3), .int .i64 ((rd_T71 l0 a1).f4), .int .i64 ((rd_T71 l0 a1).f5), .int .i64 ((rd_T71 l0 a1).f6), .string (⟨#[]⟩ : ByteArray)]) ?_ 7 _ rfl; (with_reducible repeat (first | refine blk_drewN ?_ _ | refine blk_drew ?_ | refine blk_alloc ?_ _)); refine blk_put (cs := #[.int .i64 ((rd_T71 l0 a1).f0), .int .i64 ((rd_T71 l0 a1).f1), .int .i64 ((rd_T71 l0 a1).f2), .int .i64 ((rd_T71 l0 a1).f3), .int .i64 ((rd_T71 l0 a1).f4), .int .i64 ((rd_T71 l0 a1).f5), .int .i64 0, .string (⟨#[]⟩ : ByteArray)]) ?_ 6 _ rfl; (with_reducible repeat (first | refine blk_drewN ?_ _ | refine blk_drew ?_ | refine blk_alloc ?_ _)); refine blk_put (cs := #[.int .i64 ((rd_T71 l0 a1).f0), .int .i64 ((rd_T71 l0 a1).f1), .int .i64 ((rd_T71 l0 a1).f2), .int .i64 ((rd_T71 l0 a1).f3), .int .i64 ((rd_T71 l0 a1).f4), .int .i64 0, .int .i64 0, .string (⟨#[]⟩ : ByteArray)]) ?_ 5 _ rfl; (with_reducible repeat (first | refine blk_drewN ?_ _ | refine blk_drew ?_ | refine blk_alloc ?_ _)); refine blk_put (cs := #[.int .i64 ((rd_T71 l0 a1).f0), .int .i64 ((rd_T71 l0 a1).f1), .int .i64 ((rd_T71 l0 a1).f2), .int .i64 ((rd_T71 l0 a1).f3), .int .i64 0, .int .i64 0, .int .i64 0, .string (⟨#[]⟩ : ByteArray)]) ?_ 4 _ rfl; (with_reducible repeat (first | refine blk_drewN ?_ _ | refine blk_drew ?_ | refine blk_alloc ?_ _)); refine blk_put (cs := #[.int .i64 ((rd_T71 l0 a1).f0), .int .i64 ((rd_T71 l0 a1).f1), .int .i64 ((rd_T71 l0 a1).f2), .int .i64 0, .int .i64 0, .int .i64 0, .int .i64 0, .string (⟨#[]⟩ : ByteArray)]) ?_ 3 _ rfl; (with_reducible repeat (first | refine blk_drewN ?_ _ | refine blk_drew ?_ | refine blk_alloc ?_ _)); refine blk_put (cs := #[.int .i64 ((rd_T71 l0 a1).f0), .int .i64 ((rd_T71 l0 a1).f1), .int .i64 0, .int .i64 0, .int .i64 0, .int .i64 0, .int .i64 0, .string (⟨#[]⟩ : ByteArray)]) ?_ 2 _ rfl; (with_reducible repeat (first | refine blk_drewN ?_ _ | refine blk_drew ?_ | refine blk_alloc ?_ _)); refine blk_put (cs := #[.int .i64 ((rd_T71 l0 a1).f0), .int .i64 0, .int .i64 0, .int .i64 0, .int .i64 0, .int .i64 0, .int .i64 0, .string (⟨#[]⟩ : ByteArray)]) ?_ 1 _ rfl; (with_reducible repeat (first | refine blk_drewN ?_ _ | refine blk_drew ?_ | refine blk_alloc ?_ _)); refine blk_put (cs := #[.int .i64 0, .int .i64 0, .int .i64 0, .int .i64 0, .int .i64 0, .int .i64 0, .int .i64 0, .string (⟨#[]⟩ : ByteArray)]) ?_ 0 _ rfl; (with_reducible repeat (first | refine blk_drewN ?_ _ | refine blk_drew ?_ | refine blk_alloc ?_ _)); exact BK102.out⟩, ⟨by repeat (first | (with_reducible first | exact HB.out | apply below_alloc | apply pw_below_drewN | apply below_drew1 | refine below_set ?_ GE102.out) | exact HB.out)⟩⟩
        rw [if_neg c17] at H
        have c17b0 : decide (((rd_T71 l0 a1).f5) < 0) = false := decide_eq_false c17
        clear c17
        by_cases c19 : ((rd_T71 l0 a1).f6) < 0
        ·rw [if_pos c19] at H
         have c19b0 : decide (((rd_T71 l0 a1).f6) < 0) = true := decide_eq_true c19
         clear c19
         have H' := Aside0.mk H
         clear H
         have hcz20_0 := cz_ BK102.out 0 _ rfl
         have hcz20_1 := cz_ BK102.out 1 _ rfl
         have hcz20_2 := cz_ BK102.out 2 _ rfl
         have hcz20_3 := cz_ BK102.out 3 _ rfl
         have hcz20_4 := cz_ BK102.out 4 _ rfl
         have hcz20_5 := cz_ BK102.out 5 _ rfl
         have hcz20_6 := cz_ BK102.out 6 _ rfl
         have hcz20_7 := cz_ BK102.out 7 _ rfl
         have hfz20_0 := blk_frozen BK102.out 0
         have hfz20_1 := blk_frozen BK102.out 1
         have hfz20_2 := blk_frozen BK102.out 2
         have hfz20_3 := blk_frozen BK102.out 3
         have hfz20_4 := blk_frozen BK102.out 4
         have hfz20_5 := blk_frozen BK102.out 5
         have hfz20_6 := blk_frozen BK102.out 6
         have hfz20_7 := blk_frozen BK102.out 7
         go_wp2_with (first | (go_at_call 70; (with_reducible refine (spec_l1In.calls ((rd_T71 l0 a1).f1) 0 a1 true _ A9.out).mono ?_); rintro e w' ⟨rfl, ⟨nd, rfl⟩⟩; (try first | exact ⟨rfl, _, World.drewN_drewN _ _ _⟩ | exact ⟨rfl, _, Eq.trans (World.drewN_drewN _ _ _) (congrArg (World.drewN _) (Nat.add_assoc _ _ _))⟩)) | (go_at_call 70; (with_reducible refine (spec_l1In.calls ((rd_T71 l0 a1).f2) 1 999 true _ A11.out).mono ?_); rintro e w' ⟨rfl, ⟨nd, rfl⟩⟩; (try first | exact ⟨rfl, _, World.drewN_drewN _ _ _⟩ | exact ⟨rfl, _, Eq.trans (World.drewN_drewN _ _ _) (congrArg (World.drewN _) (Nat.add_assoc _ _ _))⟩)) | (go_at_call 70; (with_reducible refine (spec_l1In.calls ((rd_T71 l0 a1).f3) 1 500 true _ A13.out).mono ?_); rintro e w' ⟨rfl, ⟨nd, rfl⟩⟩; (try first | exact ⟨rfl, _, World.drewN_drewN _ _ _⟩ | exact ⟨rfl, _, Eq.trans (World.drewN_drewN _ _ _) (congrArg (World.drewN _) (Nat.add_assoc _ _ _))⟩)))
         repeat (go_quiet (first | (go_at_call 70; (with_reducible refine (spec_l1In.calls ((rd_T71 l0 a1).f1) 0 a1 true _ A9.out).mono ?_); rintro e w' ⟨rfl, ⟨nd, rfl⟩⟩; (try first | exact ⟨rfl, _, World.drewN_drewN _ _ _⟩ | exact ⟨rfl, _, Eq.trans (World.drewN_drewN _ _ _) (congrArg (World.drewN _) (Nat.add_assoc _ _ _))⟩)) | (go_at_call 70; (with_reducible refine (spec_l1In.calls ((rd_T71 l0 a1).f2) 1 999 true _ A11.out).mono ?_); rintro e w' ⟨rfl, ⟨nd, rfl⟩⟩; (try first | exact ⟨rfl, _, World.drewN_drewN _ _ _⟩ | exact ⟨rfl, _, Eq.trans (World.drewN_drewN _ _ _) (congrArg (World.drewN _) (Nat.add_assoc _ _ _))⟩)) | (go_at_call 70; (with_reducible refine (spec_l1In.calls ((rd_T71 l0 a1).f3) 1 500 true _ A13.out).mono ?_); rintro e w' ⟨rfl, ⟨nd, rfl⟩⟩; (try first | exact ⟨rfl, _, World.drewN_drewN _ _ _⟩ | exact ⟨rfl, _, Eq.trans (World.drewN_drewN _ _ _) (congrArg (World.drewN _) (Nat.add_assoc _ _ _))⟩))); try go_wp2_with (first | (go_at_call 70; (with_reducible refine (spec_l1In.calls ((rd_T71 l0 a1).f1) 0 a1 true _ A9.out).mono ?_); rintro e w' ⟨rfl, ⟨nd, rfl⟩⟩; (try first | exact ⟨rfl, _, World.drewN_drewN _ _ _⟩ | exact ⟨rfl, _, Eq.trans (World.drewN_drewN _ _ _) (congrArg (World.drewN _) (Nat.add_assoc _ _ _))⟩)) | (go_at_call 70; (with_reducible refine (spec_l1In.calls ((rd_T71 l0 a1).f2) 1 999 true _ A11.out).mono ?_); rintro e w' ⟨rfl, ⟨nd, rfl⟩⟩; (try first | exact ⟨rfl, _, World.drewN_drewN _ _ _⟩ | exact ⟨rfl, _, Eq.trans (World.drewN_drewN _ _ _) (congrArg (World.drewN _) (Nat.add_assoc _ _ _))⟩)) | (go_at_call 70; (with_reducible refine (spec_l1In.calls ((rd_T71 l0 a1).f3) 1 500 true _ A13.out).mono ?_); rintro e w' ⟨rfl, ⟨nd, rfl⟩⟩; (try first | exact ⟨rfl, _, World.drewN_drewN _ _ _⟩ | exact ⟨rfl, _, Eq.trans (World.drewN_drewN _ _ _) (congrArg (World.drewN _) (Nat.add_assoc _ _ _))⟩))))
         go_meet
         case rel => exact ⟨_, (true), (by first | rfl | (simp; done) | (simp [*]; done) | (simp [beq_nil_, bne_nil_]; done)), H', ⟨by first | omega | exact Nat.le_refl _⟩, ⟨by (with_reducible repeat (first | refine blk_drewN ?_ _ | refine blk_drew ?_ | refine blk_alloc ?_ _)); refine blk_put (cs := #[.int .i64 ((rd_T71 l0 a1).f0), .int .i64 ((rd_T71 l0 a1).f1), .int .i64 ((rd_T71 l0 a1).f2), .int .i64 ((rd_T71 l0 a1).f3), .int .i64 ((rd_T71 l0 a1).f4), .int .i64 ((rd_T71 l0 a1).f5), .int .i64 ((rd_T71 l0 a1).f6), .string (⟨#[]⟩ : ByteArray)]) ?_ 7 _ rfl; (with_reducible repeat (first | refine blk_drewN ?_ _ | refine blk_drew ?_ | refine blk_alloc ?_ _)); refine blk_put (cs := #[.int .i64 ((rd_T71 l0 a1).f0), .int .i64 ((rd_T71 l0 a1).f1), .int .i64 ((rd_T71 l0 a1).f2), .int .i64 ((rd_T71 l0 a1).f3), .int .i64 ((rd_T71 l0 a1).f4), .int .i64 ((rd_T71 l0 a1).f5), .int .i64 0, .string (⟨#[]⟩ : ByteArray)]) ?_ 6 _ rfl; (with_reducible repeat (first | refine blk_drewN ?_ _ | refine blk_drew ?_ | refine blk_alloc ?_ _)); refine blk_put (cs := #[.int .i64 ((rd_T71 l0 a1).f0), .int .i64 ((rd_T71 l0 a1).f1), .int .i64 ((rd_T71 l0 a1).f2), .int .i64 ((rd_T71 l0 a1).f3), .int .i64 ((rd_T71 l0 a1).f4), .int .i64 0, .int .i64 0, .string (⟨#[]⟩ : ByteArray)]) ?_ 5 _ rfl; (with_reducible repeat (first | refine blk_drewN ?_ _ | refine blk_drew ?_ | refine blk_alloc ?_ _)); refine blk_put (cs := #[.int .i64 ((rd_T71 l0 a1).f0), .int .i64 ((rd_T71 l0 a1).f1), .int .i64 ((rd_T71 l0 a1).f2), .int .i64 ((rd_T71 l0 a1).f3), .int .i64 0, .int .i64 0, .int .i64 0, .string (⟨#[]⟩ : ByteArray)]) ?_ 4 _ rfl; (with_reducible repeat (first | refine blk_drewN ?_ _ | refine blk_drew ?_ | refine blk_alloc ?_ _)); refine blk_put (cs := #[.int .i64 ((rd_T71 l0 a1).f0), .int .i64 ((rd_T71 l0 a1).f1), .int .i64 ((rd_T71 l0 a1).f2), .int .i64 0, .int .i64 0, .int .i64 0, .int .i64 0, .string (⟨#[]⟩ : ByteArray)]) ?_ 3 _ rfl; (with_reducible repeat (first | refine blk_drewN ?_ _ | refine blk_drew ?_ | refine blk_alloc ?_ _)); refine blk_put (cs := #[.int .i64 ((rd_T71 l0 a1).f0), .int .i64 ((rd_T71 l0 a1).f1), .int .i64 0, .int .i64 0, .int .i64 0, .int .i64 0, .int .i64 0, .string (⟨#[]⟩ : ByteArray)]) ?_ 2 _ rfl; (with_reducible repeat (first | refine blk_drewN ?_ _ | refine blk_drew ?_ | refine blk_alloc ?_ _)); refine blk_put (cs := #[.int .i64 ((rd_T71 l0 a1).f0), .int .i64 0, .int .i64 0, .int .i64 0, .int .i64 0, .int .i64 0, .int .i64 0, .string (⟨#[]⟩ : ByteArray)]) ?_ 1 _ rfl; (with_reducible repeat (first | refine blk_drewN ?_ _ | refine blk_drew ?_ | refine blk_alloc ?_ _)); refine blk_put (cs := #[.int .i64 0, .int .i64 0, .int .i64 0, .int .i64 0, .int .i64 0, .int .i64 0, .int .i64 0, .string (⟨#[]⟩ : ByteArray)]) ?_ 0 _ rfl; (with_reducible repeat (first | refine blk_drewN ?_ _ | refine blk_drew ?_ | refine blk_alloc ?_ _)); exact BK102.out⟩, ⟨by repeat (first | (with_reducible first | exact HB.out | apply below_alloc | apply pw_below_drewN | apply below_drew1 | refine below_set ?_ GE102.out) | exact HB.out)⟩⟩
        rw [if_neg c19] at H
        have c19b0 : decide (((rd_T71 l0 a1).f6) < 0) = false := decide_eq_false c19
        clear c19
        replace H := Option.bind_eq_some_iff.mp H
        obtain ⟨t106, A210, H⟩ := H
        replace H : (spec_l20Sample.j0 k l0 (!t106) ((rd_T71 l0 a1).f0) ((rd_T71 l0 a1).f1) ((rd_T71 l0 a1).f2) ((rd_T71 l0 a1).f3) ((rd_T71 l0 a1).f4) ((rd_T71 l0 a1).f5) ((rd_T71 l0 a1).f6) ((rd_T71 l0 a1).f7)) = some r := H
        have A21 := Aside0.mk A210
        clear A210
        have H' := Aside0.mk H
        clear H
        have hcz22_0 := cz_ BK102.out 0 _ rfl
        have hcz22_1 := cz_ BK102.out 1 _ rfl
        have hcz22_2 := cz_ BK102.out 2 _ rfl
        have hcz22_3 := cz_ BK102.out 3 _ rfl
        have hcz22_4 := cz_ BK102.out 4 _ rfl
        have hcz22_5 := cz_ BK102.out 5 _ rfl
        have hcz22_6 := cz_ BK102.out 6 _ rfl
        have hcz22_7 := cz_ BK102.out 7 _ rfl
        have hfz22_0 := blk_frozen BK102.out 0
        have hfz22_1 := blk_frozen BK102.out 1
        have hfz22_2 := blk_frozen BK102.out 2
        have hfz22_3 := blk_frozen BK102.out 3
        have hfz22_4 := blk_frozen BK102.out 4
        have hfz22_5 := blk_frozen BK102.out 5
        have hfz22_6 := blk_frozen BK102.out 6
        have hfz22_7 := blk_frozen BK102.out 7
        go_wp2_with (first | (go_at_call 70; (with_reducible refine (spec_l1In.calls ((rd_T71 l0 a1).f1) 0 a1 true _ A9.out).mono ?_); rintro e w' ⟨rfl, ⟨nd, rfl⟩⟩; (try first | exact ⟨rfl, _, World.drewN_drewN _ _ _⟩ | exact ⟨rfl, _, Eq.trans (World.drewN_drewN _ _ _) (congrArg (World.drewN _) (Nat.add_assoc _ _ _))⟩)) | (go_at_call 70; (with_reducible refine (spec_l1In.calls ((rd_T71 l0 a1).f2) 1 999 true _ A11.out).mono ?_); rintro e w' ⟨rfl, ⟨nd, rfl⟩⟩; (try first | exact ⟨rfl, _, World.drewN_drewN _ _ _⟩ | exact ⟨rfl, _, Eq.trans (World.drewN_drewN _ _ _) (congrArg (World.drewN _) (Nat.add_assoc _ _ _))⟩)) | (go_at_call 70; (with_reducible refine (spec_l1In.calls ((rd_T71 l0 a1).f3) 1 500 true _ A13.out).mono ?_); rintro e w' ⟨rfl, ⟨nd, rfl⟩⟩; (try first | exact ⟨rfl, _, World.drewN_drewN _ _ _⟩ | exact ⟨rfl, _, Eq.trans (World.drewN_drewN _ _ _) (congrArg (World.drewN _) (Nat.add_assoc _ _ _))⟩)) | (go_at_call 117; (with_reducible refine (spec_l7Name.calls k ((rd_T71 l0 a1).f7) t106 _ A21.out).mono ?_); rintro e w' ⟨rfl, ⟨nd, rfl⟩⟩; (try first | exact ⟨rfl, _, World.drewN_drewN _ _ _⟩ | exact ⟨rfl, _, Eq.trans (World.drewN_drewN _ _ _) (congrArg (World.drewN _) (Nat.add_assoc _ _ _))⟩)))
        repeat (go_quiet (first | (go_at_call 70; (with_reducible refine (spec_l1In.calls ((rd_T71 l0 a1).f1) 0 a1 true _ A9.out).mono ?_); rintro e w' ⟨rfl, ⟨nd, rfl⟩⟩; (try first | exact ⟨rfl, _, World.drewN_drewN _ _ _⟩ | exact ⟨rfl, _, Eq.trans (World.drewN_drewN _ _ _) (congrArg (World.drewN _) (Nat.add_assoc _ _ _))⟩)) | (go_at_call 70; (with_reducible refine (spec_l1In.calls ((rd_T71 l0 a1).f2) 1 999 true _ A11.out).mono ?_); rintro e w' ⟨rfl, ⟨nd, rfl⟩⟩; (try first | exact ⟨rfl, _, World.drewN_drewN _ _ _⟩ | exact ⟨rfl, _, Eq.trans (World.drewN_drewN _ _ _) (congrArg (World.drewN _) (Nat.add_assoc _ _ _))⟩)) | (go_at_call 70; (with_reducible refine (spec_l1In.calls ((rd_T71 l0 a1).f3) 1 500 true _ A13.out).mono ?_); rintro e w' ⟨rfl, ⟨nd, rfl⟩⟩; (try first | exact ⟨rfl, _, World.drewN_drewN _ _ _⟩ | exact ⟨rfl, _, Eq.trans (World.drewN_drewN _ _ _) (congrArg (World.drewN _) (Nat.add_assoc _ _ _))⟩)) | (go_at_call 117; (with_reducible refine (spec_l7Name.calls k ((rd_T71 l0 a1).f7) t106 _ A21.out).mono ?_); rintro e w' ⟨rfl, ⟨nd, rfl⟩⟩; (try first | exact ⟨rfl, _, World.drewN_drewN _ _ _⟩ | exact ⟨rfl, _, Eq.trans (World.drewN_drewN _ _ _) (congrArg (World.drewN _) (Nat.add_assoc _ _ _))⟩))); try go_wp2_with (first | (go_at_call 70; (with_reducible refine (spec_l1In.calls ((rd_T71 l0 a1).f1) 0 a1 true _ A9.out).mono ?_); rintro e w' ⟨rfl, ⟨nd, rfl⟩⟩; (try first | exact ⟨rfl, _, World.drewN_drewN _ _ _⟩ | exact ⟨rfl, _, Eq.trans (World.drewN_drewN _ _ _) (congrArg (World.drewN _) (Nat.add_assoc _ _ _))⟩)) | (go_at_call 70; (with_reducible refine (spec_l1In.calls ((rd_T71 l0 a1).f2) 1 999 true _ A11.out).mono ?_); rintro e w' ⟨rfl, ⟨nd, rfl⟩⟩; (try first | exact ⟨rfl, _, World.drewN_drewN _ _ _⟩ | exact ⟨rfl, _, Eq.trans (World.drewN_drewN _ _ _) (congrArg (World.drewN _) (Nat.add_assoc _ _ _))⟩)) | (go_at_call 70; (with_reducible refine (spec_l1In.calls ((rd_T71 l0 a1).f3) 1 500 true _ A13.out).mono ?_); rintro e w' ⟨rfl, ⟨nd, rfl⟩⟩; (try first | exact ⟨rfl, _, World.drewN_drewN _ _ _⟩ | exact ⟨rfl, _, Eq.trans (World.drewN_drewN _ _ _) (congrArg (World.drewN _) (Nat.add_assoc _ _ _))⟩)) | (go_at_call 117; (with_reducible refine (spec_l7Name.calls k ((rd_T71 l0 a1).f7) t106 _ A21.out).mono ?_); rintro e w' ⟨rfl, ⟨nd, rfl⟩⟩; (try first | exact ⟨rfl, _, World.drewN_drewN _ _ _⟩ | exact ⟨rfl, _, Eq.trans (World.drewN_drewN _ _ _) (congrArg (World.drewN _) (Nat.add_assoc _ _ _))⟩))))
        go_meet
        case rel => exact ⟨_, (!t106), (by first | rfl | (simp; done) | (simp [*]; done) | (simp [beq_nil_, bne_nil_]; done)), H', ⟨by first | omega | exact Nat.le_refl _⟩, ⟨by (with_reducible repeat (first | refine blk_drewN ?_ _ | refine blk_drew ?_ | refine blk_alloc ?_ _)); refine blk_put (cs := #[.int .i64 ((rd_T71 l0 a1).f0), .int .i64 ((rd_T71 l0 a1).f1), .int .i64 ((rd_T71 l0 a1).f2), .int .i64 ((rd_T71 l0 a1).f3), .int .i64 ((rd_T71 l0 a1).f4), .int .i64 ((rd_T71 l0 a1).f5), .int .i64 ((rd_T71 l0 a1).f6), .string (⟨#[]⟩ : ByteArray)]) ?_ 7 _ rfl; (with_reducible repeat (first | refine blk_drewN ?_ _ | refine blk_drew ?_ | refine blk_alloc ?_ _)); refine blk_put (cs := #[.int .i64 ((rd_T71 l0 a1).f0), .int .i64 ((rd_T71 l0 a1).f1), .int .i64 ((rd_T71 l0 a1).f2), .int .i64 ((rd_T71 l0 a1).f3), .int .i64 ((rd_T71 l0 a1).f4), .int .i64 ((rd_T71 l0 a1).f5), .int .i64 0, .string (⟨#[]⟩ : ByteArray)]) ?_ 6 _ rfl; (with_reducible repeat (first | refine blk_drewN ?_ _ | refine blk_drew ?_ | refine blk_alloc ?_ _)); refine blk_put (cs := #[.int .i64 ((rd_T71 l0 a1).f0), .int .i64 ((rd_T71 l0 a1).f1), .int .i64 ((rd_T71 l0 a1).f2), .int .i64 ((rd_T71 l0 a1).f3), .int .i64 ((rd_T71 l0 a1).f4), .int .i64 0, .int .i64 0, .string (⟨#[]⟩ : ByteArray)]) ?_ 5 _ rfl; (with_reducible repeat (first | refine blk_drewN ?_ _ | refine blk_drew ?_ | refine blk_alloc ?_ _)); refine blk_put (cs := #[.int .i64 ((rd_T71 l0 a1).f0), .int .i64 ((rd_T71 l0 a1).f1), .int .i64 ((rd_T71 l0 a1).f2), .int .i64 ((rd_T71 l0 a1).f3), .int .i64 0, .int .i64 0, .int .i64 0, .string (⟨#[]⟩ : ByteArray)]) ?_ 4 _ rfl; (with_reducible repeat (first | refine blk_drewN ?_ _ | refine blk_drew ?_ | refine blk_alloc ?_ _)); refine blk_put (cs := #[.int .i64 ((rd_T71 l0 a1).f0), .int .i64 ((rd_T71 l0 a1).f1), .int .i64 ((rd_T71 l0 a1).f2), .int .i64 0, .int .i64 0, .int .i64 0, .int .i64 0, .string (⟨#[]⟩ : ByteArray)]) ?_ 3 _ rfl; (with_reducible repeat (first | refine blk_drewN ?_ _ | refine blk_drew ?_ | refine blk_alloc ?_ _)); refine blk_put (cs := #[.int .i64 ((rd_T71 l0 a1).f0), .int .i64 ((rd_T71 l0 a1).f1), .int .i64 0, .int .i64 0, .int .i64 0, .int .i64 0, .int .i64 0, .string (⟨#[]⟩ : ByteArray)]) ?_ 2 _ rfl; (with_reducible repeat (first | refine blk_drewN ?_ _ | refine blk_drew ?_ | refine blk_alloc ?_ _)); refine blk_put (cs := #[.int .i64 ((rd_T71 l0 a1).f0), .int .i64 0, .int .i64 0, .int .i64 0, .int .i64 0, .int .i64 0, .int .i64 0, .string (⟨#[]⟩ : ByteArray)]) ?_ 1 _ rfl; (with_reducible repeat (first | refine blk_drewN ?_ _ | refine blk_drew ?_ | refine blk_alloc ?_ _)); refine blk_put (cs := #[.int .i64 0, .int .i64 0, .int .i64 0, .int .i64 0, .int .i64 0, .int .i64 0, .int .i64 0, .string (⟨#[]⟩ : ByteArray)]) ?_ 0 _ rfl; (with_reducible repeat (first | refine blk_drewN ?_ _ | refine blk_drew ?_ | refine blk_alloc ?_ _)); exact BK102.out⟩, ⟨by repeat (first | (with_reducible first | exact HB.out | apply below_alloc | apply pw_below_drewN | apply below_drew1 | refine below_set ?_ GE102.out) | exact HB.out)⟩⟩
       replace c14 := Bool.eq_false_iff.mpr c14
       subst c14
       have H1 : (spec_l20Sample.j0 k l0 true ((rd_T71 l0 a1).f0) ((rd_T71 l0 a1).f1) ((rd_T71 l0 a1).f2) ((rd_T71 l0 a1).f3) ((rd_T71 l0 a1).f4) ((rd_T71 l0 a1).f5) ((rd_T71 l0 a1).f6) ((rd_T71 l0 a1).f7)) = some r := by rw [if_neg (show ¬ (false = true) by decide)] at H; exact H
       clear H
       have H := H1
       clear H1
       have H' := Aside0.mk H
       clear H
       have hcz23_0 := cz_ BK102.out 0 _ rfl
       have hcz23_1 := cz_ BK102.out 1 _ rfl
       have hcz23_2 := cz_ BK102.out 2 _ rfl
       have hcz23_3 := cz_ BK102.out 3 _ rfl
       have hcz23_4 := cz_ BK102.out 4 _ rfl
       have hcz23_5 := cz_ BK102.out 5 _ rfl
       have hcz23_6 := cz_ BK102.out 6 _ rfl
       have hcz23_7 := cz_ BK102.out 7 _ rfl
       have hfz23_0 := blk_frozen BK102.out 0
       have hfz23_1 := blk_frozen BK102.out 1
       have hfz23_2 := blk_frozen BK102.out 2
       have hfz23_3 := blk_frozen BK102.out 3
       have hfz23_4 := blk_frozen BK102.out 4
       have hfz23_5 := blk_frozen BK102.out 5
       have hfz23_6 := blk_frozen BK102.out 6
       have hfz23_7 := blk_frozen BK102.out 7
       go_wp2_with (first | (go_at_call 70; (with_reducible refine (spec_l1In.calls ((rd_T71 l0 a1).f1) 0 a1 true _ A9.out).mono ?_); rintro e w' ⟨rfl, ⟨nd, rfl⟩⟩; (try first | exact ⟨rfl, _, World.drewN_drewN _ _ _⟩ | exact ⟨rfl, _, Eq.trans (World.drewN_drewN _ _ _) (congrArg (World.drewN _) (Nat.add_assoc _ _ _))⟩)) | (go_at_call 70; (with_reducible refine (spec_l1In.calls ((rd_T71 l0 a1).f2) 1 999 true _ A11.out).mono ?_); rintro e w' ⟨rfl, ⟨nd, rfl⟩⟩; (try first | exact ⟨rfl, _, World.drewN_drewN _ _ _⟩ | exact ⟨rfl, _, Eq.trans (World.drewN_drewN _ _ _) (congrArg (World.drewN _) (Nat.add_assoc _ _ _))⟩)) | (go_at_call 70; (with_reducible refine (spec_l1In.calls ((rd_T71 l0 a1).f3) 1 500 false _ A13.out).mono ?_); rintro e w' ⟨rfl, ⟨nd, rfl⟩⟩; (try first | exact ⟨rfl, _, World.drewN_drewN _ _ _⟩ | exact ⟨rfl, _, Eq.trans (World.drewN_drewN _ _ _) (congrArg (World.drewN _) (Nat.add_assoc _ _ _))⟩)))
       repeat (go_quiet (first | (go_at_call 70; (with_reducible refine (spec_l1In.calls ((rd_T71 l0 a1).f1) 0 a1 true _ A9.out).mono ?_); rintro e w' ⟨rfl, ⟨nd, rfl⟩⟩; (try first | exact ⟨rfl, _, World.drewN_drewN _ _ _⟩ | exact ⟨rfl, _, Eq.trans (World.drewN_drewN _ _ _) (congrArg (World.drewN _) (Nat.add_assoc _ _ _))⟩)) | (go_at_call 70; (with_reducible refine (spec_l1In.calls ((rd_T71 l0 a1).f2) 1 999 true _ A11.out).mono ?_); rintro e w' ⟨rfl, ⟨nd, rfl⟩⟩; (try first | exact ⟨rfl, _, World.drewN_drewN _ _ _⟩ | exact ⟨rfl, _, Eq.trans (World.drewN_drewN _ _ _) (congrArg (World.drewN _) (Nat.add_assoc _ _ _))⟩)) | (go_at_call 70; (with_reducible refine (spec_l1In.calls ((rd_T71 l0 a1).f3) 1 500 false _ A13.out).mono ?_); rintro e w' ⟨rfl, ⟨nd, rfl⟩⟩; (try first | exact ⟨rfl, _, World.drewN_drewN _ _ _⟩ | exact ⟨rfl, _, Eq.trans (World.drewN_drewN _ _ _) (congrArg (World.drewN _) (Nat.add_assoc _ _ _))⟩))); try go_wp2_with (first | (go_at_call 70; (with_reducible refine (spec_l1In.calls ((rd_T71 l0 a1).f1) 0 a1 true _ A9.out).mono ?_); rintro e w' ⟨rfl, ⟨nd, rfl⟩⟩; (try first | exact ⟨rfl, _, World.drewN_drewN _ _ _⟩ | exact ⟨rfl, _, Eq.trans (World.drewN_drewN _ _ _) (congrArg (World.drewN _) (Nat.add_assoc _ _ _))⟩)) | (go_at_call 70; (with_reducible refine (spec_l1In.calls ((rd_T71 l0 a1).f2) 1 999 true _ A11.out).mono ?_); rintro e w' ⟨rfl, ⟨nd, rfl⟩⟩; (try first | exact ⟨rfl, _, World.drewN_drewN _ _ _⟩ | exact ⟨rfl, _, Eq.trans (World.drewN_drewN _ _ _) (congrArg (World.drewN _) (Nat.add_assoc _ _ _))⟩)) | (go_at_call 70; (with_reducible refine (spec_l1In.calls ((rd_T71 l0 a1).f3) 1 500 false _ A13.out).mono ?_); rintro e w' ⟨rfl, ⟨nd, rfl⟩⟩; (try first | exact ⟨rfl, _, World.drewN_drewN _ _ _⟩ | exact ⟨rfl, _, Eq.trans (World.drewN_drewN _ _ _) (congrArg (World.drewN _) (Nat.add_assoc _ _ _))⟩))))
       go_meet
       case rel => exact ⟨_, (true), (by first | rfl | (simp; done) | (simp [*]; done) | (simp [beq_nil_, bne_nil_]; done)), H', ⟨by first | omega | exact Nat.le_refl _⟩, ⟨by (with_reducible repeat (first | refine blk_drewN ?_ _ | refine blk_drew ?_ | refine blk_alloc ?_ _)); refine blk_put (cs := #[.int .i64 ((rd_T71 l0 a1).f0), .int .i64 ((rd_T71 l0 a1).f1), .int .i64 ((rd_T71 l0 a1).f2), .int .i64 ((rd_T71 l0 a1).f3), .int .i64 ((rd_T71 l0 a1).f4), .int .i64 ((rd_T71 l0 a1).f5), .int .i64 ((rd_T71 l0 a1).f6), .string (⟨#[]⟩ : ByteArray)]) ?_ 7 _ rfl; (with_reducible repeat (first | refine blk_drewN ?_ _ | refine blk_drew ?_ | refine blk_alloc ?_ _)); refine blk_put (cs := #[.int .i64 ((rd_T71 l0 a1).f0), .int .i64 ((rd_T71 l0 a1).f1), .int .i64 ((rd_T71 l0 a1).f2), .int .i64 ((rd_T71 l0 a1).f3), .int .i64 ((rd_T71 l0 a1).f4), .int .i64 ((rd_T71 l0 a1).f5), .int .i64 0, .string (⟨#[]⟩ : ByteArray)]) ?_ 6 _ rfl; (with_reducible repeat (first | refine blk_drewN ?_ _ | refine blk_drew ?_ | refine blk_alloc ?_ _)); refine blk_put (cs := #[.int .i64 ((rd_T71 l0 a1).f0), .int .i64 ((rd_T71 l0 a1).f1), .int .i64 ((rd_T71 l0 a1).f2), .int .i64 ((rd_T71 l0 a1).f3), .int .i64 ((rd_T71 l0 a1).f4), .int .i64 0, .int .i64 0, .string (⟨#[]⟩ : ByteArray)]) ?_ 5 _ rfl; (with_reducible repeat (first | refine blk_drewN ?_ _ | refine blk_drew ?_ | refine blk_alloc ?_ _)); refine blk_put (cs := #[.int .i64 ((rd_T71 l0 a1).f0), .int .i64 ((rd_T71 l0 a1).f1), .int .i64 ((rd_T71 l0 a1).f2), .int .i64 ((rd_T71 l0 a1).f3), .int .i64 0, .int .i64 0, .int .i64 0, .string (⟨#[]⟩ : ByteArray)]) ?_ 4 _ rfl; (with_reducible repeat (first | refine blk_drewN ?_ _ | refine blk_drew ?_ | refine blk_alloc ?_ _)); refine blk_put (cs := #[.int .i64 ((rd_T71 l0 a1).f0), .int .i64 ((rd_T71 l0 a1).f1), .int .i64 ((rd_T71 l0 a1).f2), .int .i64 0, .int .i64 0, .int .i64 0, .int .i64 0, .string (⟨#[]⟩ : ByteArray)]) ?_ 3 _ rfl; (with_reducible repeat (first | refine blk_drewN ?_ _ | refine blk_drew ?_ | refine blk_alloc ?_ _)); refine blk_put (cs := #[.int .i64 ((rd_T71 l0 a1).f0), .int .i64 ((rd_T71 l0 a1).f1), .int .i64 0, .int .i64 0, .int .i64 0, .int .i64 0, .int .i64 0, .string (⟨#[]⟩ : ByteArray)]) ?_ 2 _ rfl; (with_reducible repeat (first | refine blk_drewN ?_ _ | refine blk_drew ?_ | refine blk_alloc ?_ _)); refine blk_put (cs := #[.int .i64 ((rd_T71 l0 a1).f0), .int .i64 0, .int .i64 0, .int .i64 0, .int .i64 0, .int .i64 0, .int .i64 0, .string (⟨#[]⟩ : ByteArray)]) ?_ 1 _ rfl; (with_reducible repeat (first | refine blk_drewN ?_ _ | refine blk_drew ?_ | refine blk_alloc ?_ _)); refine blk_put (cs := #[.int .i64 0, .int .i64 0, .int .i64 0, .int .i64 0, .int .i64 0, .int .i64 0, .int .i64 0, .string (⟨#[]⟩ : ByteArray)]) ?_ 0 _ rfl; (with_reducible repeat (first | refine blk_drewN ?_ _ | refine blk_drew ?_ | refine blk_alloc ?_ _)); exact BK102.out⟩, ⟨by repeat (first | (with_reducible first | exact HB.out | apply below_alloc | apply pw_below_drewN | apply below_drew1 | refine below_set ?_ GE102.out) | exact HB.out)⟩⟩
      replace c12 := Bool.eq_false_iff.mpr c12
      subst c12
      have H1 : (spec_l20Sample.j0 k l0 true ((rd_T71 l0 a1).f0) ((rd_T71 l0 a1).f1) ((rd_T71 l0 a1).f2) ((rd_T71 l0 a1).f3) ((rd_T71 l0 a1).f4) ((rd_T71 l0 a1).f5) ((rd_T71 l0 a1).f6) ((rd_T71 l0 a1).f7)) = some r := by rw [if_neg (show ¬ (false = true) by decide)] at H; exact H
      clear H
      have H := H1
      clear H1
      have H' := Aside0.mk H
      clear H
      have hcz24_0 := cz_ BK102.out 0 _ rfl
      have hcz24_1 := cz_ BK102.out 1 _ rfl
      have hcz24_2 := cz_ BK102.out 2 _ rfl
      have hcz24_3 := cz_ BK102.out 3 _ rfl
      have hcz24_4 := cz_ BK102.out 4 _ rfl
      have hcz24_5 := cz_ BK102.out 5 _ rfl
      have hcz24_6 := cz_ BK102.out 6 _ rfl
      have hcz24_7 := cz_ BK102.out 7 _ rfl
      have hfz24_0 := blk_frozen BK102.out 0
      have hfz24_1 := blk_frozen BK102.out 1
      have hfz24_2 := blk_frozen BK102.out 2
      have hfz24_3 := blk_frozen BK102.out 3
      have hfz24_4 := blk_frozen BK102.out 4
      have hfz24_5 := blk_frozen BK102.out 5
      have hfz24_6 := blk_frozen BK102.out 6
      have hfz24_7 := blk_frozen BK102.out 7
      go_wp2_with (first | (go_at_call 70; (with_reducible refine (spec_l1In.calls ((rd_T71 l0 a1).f1) 0 a1 true _ A9.out).mono ?_); rintro e w' ⟨rfl, ⟨nd, rfl⟩⟩; (try first | exact ⟨rfl, _, World.drewN_drewN _ _ _⟩ | exact ⟨rfl, _, Eq.trans (World.drewN_drewN _ _ _) (congrArg (World.drewN _) (Nat.add_assoc _ _ _))⟩)) | (go_at_call 70; (with_reducible refine (spec_l1In.calls ((rd_T71 l0 a1).f2) 1 999 false _ A11.out).mono ?_); rintro e w' ⟨rfl, ⟨nd, rfl⟩⟩; (try first | exact ⟨rfl, _, World.drewN_drewN _ _ _⟩ | exact ⟨rfl, _, Eq.trans (World.drewN_drewN _ _ _) (congrArg (World.drewN _) (Nat.add_assoc _ _ _))⟩)))
      repeat (go_quiet (first | (go_at_call 70; (with_reducible refine (spec_l1In.calls ((rd_T71 l0 a1).f1) 0 a1 true _ A9.out).mono ?_); rintro e w' ⟨rfl, ⟨nd, rfl⟩⟩; (try first | exact ⟨rfl, _, World.drewN_drewN _ _ _⟩ | exact ⟨rfl, _, Eq.trans (World.drewN_drewN _ _ _) (congrArg (World.drewN _) (Nat.add_assoc _ _ _))⟩)) | (go_at_call 70; (with_reducible refine (spec_l1In.calls ((rd_T71 l0 a1).f2) 1 999 false _ A11.out).mono ?_); rintro e w' ⟨rfl, ⟨nd, rfl⟩⟩; (try first | exact ⟨rfl, _, World.drewN_drewN _ _ _⟩ | exact ⟨rfl, _, Eq.trans (World.drewN_drewN _ _ _) (congrArg (World.drewN _) (Nat.add_assoc _ _ _))⟩))); try go_wp2_with (first | (go_at_call 70; (with_reducible refine (spec_l1In.calls ((rd_T71 l0 a1).f1) 0 a1 true _ A9.out).mono ?_); rintro e w' ⟨rfl, ⟨nd, rfl⟩⟩; (try first | exact ⟨rfl, _, World.drewN_drewN _ _ _⟩ | exact ⟨rfl, _, Eq.trans (World.drewN_drewN _ _ _) (congrArg (World.drewN _) (Nat.add_assoc _ _ _))⟩)) | (go_at_call 70; (with_reducible refine (spec_l1In.calls ((rd_T71 l0 a1).f2) 1 999 false _ A11.out).mono ?_); rintro e w' ⟨rfl, ⟨nd, rfl⟩⟩; (try first | exact ⟨rfl, _, World.drewN_drewN _ _ _⟩ | exact ⟨rfl, _, Eq.trans (World.drewN_drewN _ _ _) (congrArg (World.drewN _) (Nat.add_assoc _ _ _))⟩))))
      go_meet
      case rel => exact ⟨_, (true), (by first | rfl | (simp; done) | (simp [*]; done) | (simp [beq_nil_, bne_nil_]; done)), H', ⟨by first | omega | exact Nat.le_refl _⟩, ⟨by (with_reducible repeat (first | refine blk_drewN ?_ _ | refine blk_drew ?_ | refine blk_alloc ?_ _)); refine blk_put (cs := #[.int .i64 ((rd_T71 l0 a1).f0), .int .i64 ((rd_T71 l0 a1).f1), .int .i64 ((rd_T71 l0 a1).f2), .int .i64 ((rd_T71 l0 a1).f3), .int .i64 ((rd_T71 l0 a1).f4), .int .i64 ((rd_T71 l0 a1).f5), .int .i64 ((rd_T71 l0 a1).f6), .string (⟨#[]⟩ : ByteArray)]) ?_ 7 _ rfl; (with_reducible repeat (first | refine blk_drewN ?_ _ | refine blk_drew ?_ | refine blk_alloc ?_ _)); refine blk_put (cs := #[.int .i64 ((rd_T71 l0 a1).f0), .int .i64 ((rd_T71 l0 a1).f1), .int .i64 ((rd_T71 l0 a1).f2), .int .i64 ((rd_T71 l0 a1).f3), .int .i64 ((rd_T71 l0 a1).f4), .int .i64 ((rd_T71 l0 a1).f5), .int .i64 0, .string (⟨#[]⟩ : ByteArray)]) ?_ 6 _ rfl; (with_reducible repeat (first | refine blk_drewN ?_ _ | refine blk_drew ?_ | refine blk_alloc ?_ _)); refine blk_put (cs := #[.int .i64 ((rd_T71 l0 a1).f0), .int .i64 ((rd_T71 l0 a1).f1), .int .i64 ((rd_T71 l0 a1).f2), .int .i64 ((rd_T71 l0 a1).f3), .int .i64 ((rd_T71 l0 a1).f4), .int .i64 0, .int .i64 0, .string (⟨#[]⟩ : ByteArray)]) ?_ 5 _ rfl; (with_reducible repeat (first | refine blk_drewN ?_ _ | refine blk_drew ?_ | refine blk_alloc ?_ _)); refine blk_put (cs := #[.int .i64 ((rd_T71 l0 a1).f0), .int .i64 ((rd_T71 l0 a1).f1), .int .i64 ((rd_T71 l0 a1).f2), .int .i64 ((rd_T71 l0 a1).f3), .int .i64 0, .int .i64 0, .int .i64 0, .string (⟨#[]⟩ : ByteArray)]) ?_ 4 _ rfl; (with_reducible repeat (first | refine blk_drewN ?_ _ | refine blk_drew ?_ | refine blk_alloc ?_ _)); refine blk_put (cs := #[.int .i64 ((rd_T71 l0 a1).f0), .int .i64 ((rd_T71 l0 a1).f1), .int .i64 ((rd_T71 l0 a1).f2), .int .i64 0, .int .i64 0, .int .i64 0, .int .i64 0, .string (⟨#[]⟩ : ByteArray)]) ?_ 3 _ rfl; (with_reducible repeat (first | refine blk_drewN ?_ _ | refine blk_drew ?_ | refine blk_alloc ?_ _)); refine blk_put (cs := #[.int .i64 ((rd_T71 l0 a1).f0), .int .i64 ((rd_T71 l0 a1).f1), .int .i64 0, .int .i64 0, .int .i64 0, .int .i64 0, .int .i64 0, .string (⟨#[]⟩ : ByteArray)]) ?_ 2 _ rfl; (with_reducible repeat (first | refine blk_drewN ?_ _ | refine blk_drew ?_ | refine blk_alloc ?_ _)); refine blk_put (cs := #[.int .i64 ((rd_T71 l0 a1).f0), .int .i64 0, .int .i64 0, .int .i64 0, .int .i64 0, .int .i64 0, .int .i64 0, .string (⟨#[]⟩ : ByteArray)]) ?_ 1 _ rfl; (with_reducible repeat (first | refine blk_drewN ?_ _ | refine blk_drew ?_ | refine blk_alloc ?_ _)); refine blk_put (cs := #[.int .i64 0, .int .i64 0, .int .i64 0, .int .i64 0, .int .i64 0, .int .i64 0, .int .i64 0, .string (⟨#[]⟩ : ByteArray)]) ?_ 0 _ rfl; (with_reducible repeat (first | refine blk_drewN ?_ _ | refine blk_drew ?_ | refine blk_alloc ?_ _)); exact BK102.out⟩, ⟨by repeat (first | (with_reducible first | exact HB.out | apply below_alloc | apply pw_below_drewN | apply below_drew1 | refine below_set ?_ GE102.out) | exact HB.out)⟩⟩
     replace c10 := Bool.eq_false_iff.mpr c10
     subst c10
     have H1 : (spec_l20Sample.j0 k l0 true ((rd_T71 l0 a1).f0) ((rd_T71 l0 a1).f1) ((rd_T71 l0 a1).f2) ((rd_T71 l0 a1).f3) ((rd_T71 l0 a1).f4) ((rd_T71 l0 a1).f5) ((rd_T71 l0 a1).f6) ((rd_T71 l0 a1).f7)) = some r := by rw [if_neg (show ¬ (false = true) by decide)] at H; exact H
     clear H
     have H := H1
     clear H1
     have H' := Aside0.mk H
     clear H
     have hcz25_0 := cz_ BK102.out 0 _ rfl
     have hcz25_1 := cz_ BK102.out 1 _ rfl
     have hcz25_2 := cz_ BK102.out 2 _ rfl
     have hcz25_3 := cz_ BK102.out 3 _ rfl
     have hcz25_4 := cz_ BK102.out 4 _ rfl
     have hcz25_5 := cz_ BK102.out 5 _ rfl
     have hcz25_6 := cz_ BK102.out 6 _ rfl
     have hcz25_7 := cz_ BK102.out 7 _ rfl
     have hfz25_0 := blk_frozen BK102.out 0
     have hfz25_1 := blk_frozen BK102.out 1
     have hfz25_2 := blk_frozen BK102.out 2
     have hfz25_3 := blk_frozen BK102.out 3
     have hfz25_4 := blk_frozen BK102.out 4
     have hfz25_5 := blk_frozen BK102.out 5
     have hfz25_6 := blk_frozen BK102.out 6
     have hfz25_7 := blk_frozen BK102.out 7
     go_wp2_with (first | (go_at_call 70; (with_reducible refine (spec_l1In.calls ((rd_T71 l0 a1).f1) 0 a1 false _ A9.out).mono ?_); rintro e w' ⟨rfl, ⟨nd, rfl⟩⟩; (try first | exact ⟨rfl, _, World.drewN_drewN _ _ _⟩ | exact ⟨rfl, _, Eq.trans (World.drewN_drewN _ _ _) (congrArg (World.drewN _) (Nat.add_assoc _ _ _))⟩)))
     repeat (go_quiet (first | (go_at_call 70; (with_reducible refine (spec_l1In.calls ((rd_T71 l0 a1).f1) 0 a1 false _ A9.out).mono ?_); rintro e w' ⟨rfl, ⟨nd, rfl⟩⟩; (try first | exact ⟨rfl, _, World.drewN_drewN _ _ _⟩ | exact ⟨rfl, _, Eq.trans (World.drewN_drewN _ _ _) (congrArg (World.drewN _) (Nat.add_assoc _ _ _))⟩))); try go_wp2_with (first | (go_at_call 70; (with_reducible refine (spec_l1In.calls ((rd_T71 l0 a1).f1) 0 a1 false _ A9.out).mono ?_); rintro e w' ⟨rfl, ⟨nd, rfl⟩⟩; (try first | exact ⟨rfl, _, World.drewN_drewN _ _ _⟩ | exact ⟨rfl, _, Eq.trans (World.drewN_drewN _ _ _) (congrArg (World.drewN _) (Nat.add_assoc _ _ _))⟩))))
     go_meet
     case rel => exact ⟨_, (true), (by first | rfl | (simp; done) | (simp [*]; done) | (simp [beq_nil_, bne_nil_]; done)), H', ⟨by first | omega | exact Nat.le_refl _⟩, ⟨by (with_reducible repeat (first | refine blk_drewN ?_ _ | refine blk_drew ?_ | refine blk_alloc ?_ _)); refine blk_put (cs := #[.int .i64 ((rd_T71 l0 a1).f0), .int .i64 ((rd_T71 l0 a1).f1), .int .i64 ((rd_T71 l0 a1).f2), .int .i64 ((rd_T71 l0 a1).f3), .int .i64 ((rd_T71 l0 a1).f4), .int .i64 ((rd_T71 l0 a1).f5), .int .i64 ((rd_T71 l0 a1).f6), .string (⟨#[]⟩ : ByteArray)]) ?_ 7 _ rfl; (with_reducible repeat (first | refine blk_drewN ?_ _ | refine blk_drew ?_ | refine blk_alloc ?_ _)); refine blk_put (cs := #[.int .i64 ((rd_T71 l0 a1).f0), .int .i64 ((rd_T71 l0 a1).f1), .int .i64 ((rd_T71 l0 a1).f2), .int .i64 ((rd_T71 l0 a1).f3), .int .i64 ((rd_T71 l0 a1).f4), .int .i64 ((rd_T71 l0 a1).f5), .int .i64 0, .string (⟨#[]⟩ : ByteArray)]) ?_ 6 _ rfl; (with_reducible repeat (first | refine blk_drewN ?_ _ | refine blk_drew ?_ | refine blk_alloc ?_ _)); refine blk_put (cs := #[.int .i64 ((rd_T71 l0 a1).f0), .int .i64 ((rd_T71 l0 a1).f1), .int .i64 ((rd_T71 l0 a1).f2), .int .i64 ((rd_T71 l0 a1).f3), .int .i64 ((rd_T71 l0 a1).f4), .int .i64 0, .int .i64 0, .string (⟨#[]⟩ : ByteArray)]) ?_ 5 _ rfl; (with_reducible repeat (first | refine blk_drewN ?_ _ | refine blk_drew ?_ | refine blk_alloc ?_ _)); refine blk_put (cs := #[.int .i64 ((rd_T71 l0 a1).f0), .int .i64 ((rd_T71 l0 a1).f1), .int .i64 ((rd_T71 l0 a1).f2), .int .i64 ((rd_T71 l0 a1).f3), .int .i64 0, .int .i64 0, .int .i64 0, .string (⟨#[]⟩ : ByteArray)]) ?_ 4 _ rfl; (with_reducible repeat (first | refine blk_drewN ?_ _ | refine blk_drew ?_ | refine blk_alloc ?_ _)); refine blk_put (cs := #[.int .i64 ((rd_T71 l0 a1).f0), .int .i64 ((rd_T71 l0 a1).f1), .int .i64 ((rd_T71 l0 a1).f2), .int .i64 0, .int .i64 0, .int .i64 0, .int .i64 0, .string (⟨#[]⟩ : ByteArray)]) ?_ 3 _ rfl; (with_reducible repeat (first | refine blk_drewN ?_ _ | refine blk_drew ?_ | refine blk_alloc ?_ _)); refine blk_put (cs := #[.int .i64 ((rd_T71 l0 a1).f0), .int .i64 ((rd_T71 l0 a1).f1), .int .i64 0, .int .i64 0, .int .i64 0, .int .i64 0, .int .i64 0, .string (⟨#[]⟩ : ByteArray)]) ?_ 2 _ rfl; (with_reducible repeat (first | refine blk_drewN ?_ _ | refine blk_drew ?_ | refine blk_alloc ?_ _)); refine blk_put (cs := #[.int .i64 ((rd_T71 l0 a1).f0), .int .i64 0, .int .i64 0, .int .i64 0, .int .i64 0, .int .i64 0, .int .i64 0, .string (⟨#[]⟩ : ByteArray)]) ?_ 1 _ rfl; (with_reducible repeat (first | refine blk_drewN ?_ _ | refine blk_drew ?_ | refine blk_alloc ?_ _)); refine blk_put (cs := #[.int .i64 0, .int .i64 0, .int .i64 0, .int .i64 0, .int .i64 0, .int .i64 0, .int .i64 0, .string (⟨#[]⟩ : ByteArray)]) ?_ 0 _ rfl; (with_reducible repeat (first | refine blk_drewN ?_ _ | refine blk_drew ?_ | refine blk_alloc ?_ _)); exact BK102.out⟩, ⟨by repeat (first | (with_reducible first | exact HB.out | apply below_alloc | apply pw_below_drewN | apply below_drew1 | refine below_set ?_ GE102.out) | exact HB.out)⟩⟩
    rw [if_neg c8] at H
    have c8b0 : (((rd_T71 l0 a1).f0) == (wrap64 (a1 + 1))) = false := beq_eq_false_iff_ne.mpr c8
    have c8b1 : (((rd_T71 l0 a1).f0) != (wrap64 (a1 + 1))) = true := bne_iff_ne.mpr c8
    (first | rw [c8b0] | (simp only [i64_w, i32_w]; rw [c8b0]) | skip)
    have H' := Aside0.mk H
    clear H
    have hcz26_0 := cz_ BK102.out 0 _ rfl
    have hcz26_1 := cz_ BK102.out 1 _ rfl
    have hcz26_2 := cz_ BK102.out 2 _ rfl
    have hcz26_3 := cz_ BK102.out 3 _ rfl
    have hcz26_4 := cz_ BK102.out 4 _ rfl
    have hcz26_5 := cz_ BK102.out 5 _ rfl
    have hcz26_6 := cz_ BK102.out 6 _ rfl
    have hcz26_7 := cz_ BK102.out 7 _ rfl
    have hfz26_0 := blk_frozen BK102.out 0
    have hfz26_1 := blk_frozen BK102.out 1
    have hfz26_2 := blk_frozen BK102.out 2
    have hfz26_3 := blk_frozen BK102.out 3
    have hfz26_4 := blk_frozen BK102.out 4
    have hfz26_5 := blk_frozen BK102.out 5
    have hfz26_6 := blk_frozen BK102.out 6
    have hfz26_7 := blk_frozen BK102.out 7
    go_wp2
    repeat (go_quiet (fail); try go_wp2)
    go_meet
    case rel => exact ⟨_, (true), (by first | rfl | (simp; done) | (simp [*]; done) | (simp [beq_nil_, bne_nil_]; done)), H', ⟨by first | omega | exact Nat.le_refl _⟩, ⟨by (with_reducible repeat (first | refine blk_drewN ?_ _ | refine blk_drew ?_ | refine blk_alloc ?_ _)); refine blk_put (cs := #[.int .i64 ((rd_T71 l0 a1).f0), .int .i64 ((rd_T71 l0 a1).f1), .int .i64 ((rd_T71 l0 a1).f2), .int .i64 ((rd_T71 l0 a1).f3), .int .i64 ((rd_T71 l0 a1).f4), .int .i64 ((rd_T71 l0 a1).f5), .int .i64 ((rd_T71 l0 a1).f6), .string (⟨#[]⟩ : ByteArray)]) ?_ 7 _ rfl; (with_reducible repeat (first | refine blk_drewN ?_ _ | refine blk_drew ?_ | refine blk_alloc ?_ _)); refine blk_put (cs := #[.int .i64 ((rd_T71 l0 a1).f0), .int .i64 ((rd_T71 l0 a1).f1), .int .i64 ((rd_T71 l0 a1).f2), .int .i64 ((rd_T71 l0 a1).f3), .int .i64 ((rd_T71 l0 a1).f4), .int .i64 ((rd_T71 l0 a1).f5), .int .i64 0, .string (⟨#[]⟩ : ByteArray)]) ?_ 6 _ rfl; (with_reducible repeat (first | refine blk_drewN ?_ _ | refine blk_drew ?_ | refine blk_alloc ?_ _)); refine blk_put (cs := #[.int .i64 ((rd_T71 l0 a1).f0), .int .i64 ((rd_T71 l0 a1).f1), .int .i64 ((rd_T71 l0 a1).f2), .int .i64 ((rd_T71 l0 a1).f3), .int .i64 ((rd_T71 l0 a1).f4), .int .i64 0, .int .i64 0, .string (⟨#[]⟩ : ByteArray)]) ?_ 5 _ rfl; (with_reducible repeat (first | refine blk_drewN ?_ _ | refine blk_drew ?_ | refine blk_alloc ?_ _)); refine blk_put (cs := #[.int .i64 ((rd_T71 l0 a1).f0), .int .i64 ((rd_T71 l0 a1).f1), .int .i64 ((rd_T71 l0 a1).f2), .int .i64 ((rd_T71 l0 a1).f3), .int .i64 0, .int .i64 0, .int .i64 0, .string (⟨#[]⟩ : ByteArray)]) ?_ 4 _ rfl; (with_reducible repeat (first | refine blk_drewN ?_ _ | refine blk_drew ?_ | refine blk_alloc ?_ _)); refine blk_put (cs := #[.int .i64 ((rd_T71 l0 a1).f0), .int .i64 ((rd_T71 l0 a1).f1), .int .i64 ((rd_T71 l0 a1).f2), .int .i64 0, .int .i64 0, .int .i64 0, .int .i64 0, .string (⟨#[]⟩ : ByteArray)]) ?_ 3 _ rfl; (with_reducible repeat (first | refine blk_drewN ?_ _ | refine blk_drew ?_ | refine blk_alloc ?_ _)); refine blk_put (cs := #[.int .i64 ((rd_T71 l0 a1).f0), .int .i64 ((rd_T71 l0 a1).f1), .int .i64 0, .int .i64 0, .int .i64 0, .int .i64 0, .int .i64 0, .string (⟨#[]⟩ : ByteArray)]) ?_ 2 _ rfl; (with_reducible repeat (first | refine blk_drewN ?_ _ | refine blk_drew ?_ | refine blk_alloc ?_ _)); refine blk_put (cs := #[.int .i64 ((rd_T71 l0 a1).f0), .int .i64 0, .int .i64 0, .int .i64 0, .int .i64 0, .int .i64 0, .int .i64 0, .string (⟨#[]⟩ : ByteArray)]) ?_ 1 _ rfl; (with_reducible repeat (first | refine blk_drewN ?_ _ | refine blk_drew ?_ | refine blk_alloc ?_ _)); refine blk_put (cs := #[.int .i64 0, .int .i64 0, .int .i64 0, .int .i64 0, .int .i64 0, .int .i64 0, .int .i64 0, .string (⟨#[]⟩ : ByteArray)]) ?_ 0 _ rfl; (with_reducible repeat (first | refine blk_drewN ?_ _ | refine blk_drew ?_ | refine blk_alloc ?_ _)); exact BK102.out⟩, ⟨by repeat (first | (with_reducible first | exact HB.out | apply below_alloc | apply pw_below_drewN | apply below_drew1 | refine below_set ?_ GE102.out) | exact HB.out)⟩⟩
   case rest =>
    clear HC5
    try clear c1
    try clear p1
    try clear q1
    try clear hx1
    try clear p2
    try clear c3
    try clear c3b0
    try clear c4
    try clear c4b0
    try clear p6
    try clear c8
    try clear c8b0
    try clear c8b1
    try clear c10
    try clear p10
    try clear q10
    try clear hx10
    try clear c11
    try clear c12
    try clear c14
    try clear c15
    try clear c15b0
    try clear c17
    try clear c17b0
    try clear c19
    try clear c19b0
    try clear hcz16_0
    try clear hcz16_1
    try clear hcz16_2
    try clear hcz16_3
    try clear hcz16_4
    try clear hcz16_5
    try clear hcz16_6
    try clear hcz16_7
    try clear hcz18_0
    try clear hcz18_1
    try clear hcz18_2
    try clear hcz18_3
    try clear hcz18_4
    try clear hcz18_5
    try clear hcz18_6
    try clear hcz18_7
    try clear hcz20_0
    try clear hcz20_1
    try clear hcz20_2
    try clear hcz20_3
    try clear hcz20_4
    try clear hcz20_5
    try clear hcz20_6
    try clear hcz20_7
    try clear hcz22_0
    try clear hcz22_1
    try clear hcz22_2
    try clear hcz22_3
    try clear hcz22_4
    try clear hcz22_5
    try clear hcz22_6
    try clear hcz22_7
    try clear hcz23_0
    try clear hcz23_1
    try clear hcz23_2
    try clear hcz23_3
    try clear hcz23_4
    try clear hcz23_5
    try clear hcz23_6
    try clear hcz23_7
    try clear hcz24_0
    try clear hcz24_1
    try clear hcz24_2
    try clear hcz24_3
    try clear hcz24_4
    try clear hcz24_5
    try clear hcz24_6
    try clear hcz24_7
    try clear hcz25_0
    try clear hcz25_1
    try clear hcz25_2
    try clear hcz25_3
    try clear hcz25_4
    try clear hcz25_5
    try clear hcz25_6
    try clear hcz25_7
    try clear hcz26_0
    try clear hcz26_1
    try clear hcz26_2
    try clear hcz26_3
    try clear hcz26_4
    try clear hcz26_5
    try clear hcz26_6
    try clear hcz26_7
    try clear hcz7_0
    try clear hcz7_1
    try clear hcz7_2
    try clear hcz7_3
    try clear hcz7_4
    try clear hcz7_5
    try clear hcz7_6
    try clear hcz7_7
    try clear hfz16_0
    try clear hfz16_1
    try clear hfz16_2
    try clear hfz16_3
    try clear hfz16_4
    try clear hfz16_5
    try clear hfz16_6
    try clear hfz16_7
    try clear hfz18_0
    try clear hfz18_1
    try clear hfz18_2
    try clear hfz18_3
    try clear hfz18_4
    try clear hfz18_5
    try clear hfz18_6
    try clear hfz18_7
    try clear hfz20_0
    try clear hfz20_1
    try clear hfz20_2
    try clear hfz20_3
    try clear hfz20_4
    try clear hfz20_5
    try clear hfz20_6
    try clear hfz20_7
    try clear hfz22_0
    try clear hfz22_1
    try clear hfz22_2
    try clear hfz22_3
    try clear hfz22_4
    try clear hfz22_5
    try clear hfz22_6
    try clear hfz22_7
    try clear hfz23_0
    try clear hfz23_1
    try clear hfz23_2
    try clear hfz23_3
    try clear hfz23_4
    try clear hfz23_5
    try clear hfz23_6
    try clear hfz23_7
    try clear hfz24_0
    try clear hfz24_1
    try clear hfz24_2
    try clear hfz24_3
    try clear hfz24_4
    try clear hfz24_5
    try clear hfz24_6
    try clear hfz24_7
    try clear hfz25_0
    try clear hfz25_1
    try clear hfz25_2
    try clear hfz25_3
    try clear hfz25_4
    try clear hfz25_5
    try clear hfz25_6
    try clear hfz25_7
    try clear hfz26_0
    try clear hfz26_1
    try clear hfz26_2
    try clear hfz26_3
    try clear hfz26_4
    try clear hfz26_5
    try clear hfz26_6
    try clear hfz26_7
    try clear hfz7_0
    try clear hfz7_1
    try clear hfz7_2
    try clear hfz7_3
    try clear hfz7_4
    try clear hfz7_5
    try clear hfz7_6
    try clear hfz7_7
    try clear hx101_0
    try clear hx101_1
    try clear hx101_2
    try clear hx101_3
    try clear hx101_4
    try clear hx101_5
    try clear hx101_6
    try clear hx101_7
    try clear p101
    try clear q101
    obtain ⟨kq, x54_4, rfl, HA, HJ4, BK102, HB⟩ := hcut
    cases kq with
    | zero => exact absurd HA.out (by simp [spec_l20Sample.j0])
    | succ kj4 =>
     have H := HA.out
     clear HA
     simp only [spec_l20Sample.j0] at H
     by_cases c27 : x54_4 = true
     ·subst c27
      have H1 : (some false) = some r := by rw [if_pos rfl] at H; exact H
      clear H
      have H := H1
      clear H1
      obtain rfl := Option.some.inj H
      go_wp2
      repeat (go_quiet (fail); try go_wp2)
      go_ret
      exact ⟨by first | rfl | (simp [errW_none, errW_some] <;> rfl) | (simp [*, errW_none, errW_some] <;> rfl), by repeat (first | (with_reducible first | exact HB.out | apply below_alloc | apply pw_below_drewN | apply below_drew1 | refine below_set ?_ GE102.out) | exact HB.out)⟩
     replace c27 := Bool.eq_false_iff.mpr c27
     subst c27
     have H1 : (if ((rd_T71 l0 a1).f4) > ((rd_T71 l0 a1).f3) then (some false) else (if ((rd_T71 l0 a1).f5) > ((rd_T71 l0 a1).f3) then (some false) else (if (wrap64 ((wrap64 (((rd_T71 l0 a1).f4) + ((rd_T71 l0 a1).f5))) + ((rd_T71 l0 a1).f6))) = ((rd_T71 l0 a1).f3) then (if ((rd_T71 l0 a1).f1) = 0 then ((spec_l20Given.f kj4 l0 ((rd_T71 l0 a1).f0)).bind fun t107 => (some (((rd_T71 l0 a1).f6) == t107))) else (if 0 ≤ (wrap64 (((rd_T71 l0 a1).f1) - 1)) then (if (wrap64 (((rd_T71 l0 a1).f1) - 1)) < (l0.length : Int) then (if ((rd_T71 l0 (wrap64 (((rd_T71 l0 a1).f1) - 1))).f2) = ((rd_T71 l0 a1).f2) then ((spec_l20Given.f kj4 l0 ((rd_T71 l0 a1).f0)).bind fun t109 => (some (((rd_T71 l0 a1).f6) == t109))) else (some false)) else (none)) else (none))) else (some false)))) = some r := by rw [if_neg (show ¬ (false = true) by decide)] at H; exact H
     clear H
     have H := H1
     clear H1
     by_cases c28 : ((rd_T71 l0 a1).f4) > ((rd_T71 l0 a1).f3)
     ·rw [if_pos c28] at H
      have c28b0 : decide (((rd_T71 l0 a1).f3) < ((rd_T71 l0 a1).f4)) = true := decide_eq_true c28
      clear c28
      obtain rfl := Option.some.inj H
      have hcz29_0 := cz_ BK102.out 0 _ rfl
      have hcz29_1 := cz_ BK102.out 1 _ rfl
      have hcz29_2 := cz_ BK102.out 2 _ rfl
      have hcz29_3 := cz_ BK102.out 3 _ rfl
      have hcz29_4 := cz_ BK102.out 4 _ rfl
      have hcz29_5 := cz_ BK102.out 5 _ rfl
      have hcz29_6 := cz_ BK102.out 6 _ rfl
      have hcz29_7 := cz_ BK102.out 7 _ rfl
      have hfz29_0 := blk_frozen BK102.out 0
      have hfz29_1 := blk_frozen BK102.out 1
      have hfz29_2 := blk_frozen BK102.out 2
      have hfz29_3 := blk_frozen BK102.out 3
      have hfz29_4 := blk_frozen BK102.out 4
      have hfz29_5 := blk_frozen BK102.out 5
      have hfz29_6 := blk_frozen BK102.out 6
      have hfz29_7 := blk_frozen BK102.out 7
      go_wp2
      repeat (go_quiet (fail); try go_wp2)
      go_ret
      exact ⟨by first | rfl | (simp [errW_none, errW_some] <;> rfl) | (simp [*, errW_none, errW_some] <;> rfl), by repeat (first | (with_reducible first | exact HB.out | apply below_alloc | apply pw_below_drewN | apply below_drew1 | refine below_set ?_ GE102.out) | exact HB.out)⟩
     rw [if_neg c28] at H
     have c28b0 : decide (((rd_T71 l0 a1).f3) < ((rd_T71 l0 a1).f4)) = false := decide_eq_false c28
     clear c28
     by_cases c30 : ((rd_T71 l0 a1).f5) > ((rd_T71 l0 a1).f3)
     ·rw [if_pos c30] at H
      have c30b0 : decide (((rd_T71 l0 a1).f3) < ((rd_T71 l0 a1).f5)) = true := decide_eq_true c30
      clear c30
      obtain rfl := Option.some.inj H
      have hcz31_0 := cz_ BK102.out 0 _ rfl
      have hcz31_1 := cz_ BK102.out 1 _ rfl
      have hcz31_2 := cz_ BK102.out 2 _ rfl
      have hcz31_3 := cz_ BK102.out 3 _ rfl
      have hcz31_4 := cz_ BK102.out 4 _ rfl
      have hcz31_5 := cz_ BK102.out 5 _ rfl
      have hcz31_6 := cz_ BK102.out 6 _ rfl
      have hcz31_7 := cz_ BK102.out 7 _ rfl
      have hfz31_0 := blk_frozen BK102.out 0
      have hfz31_1 := blk_frozen BK102.out 1
      have hfz31_2 := blk_frozen BK102.out 2
      have hfz31_3 := blk_frozen BK102.out 3
      have hfz31_4 := blk_frozen BK102.out 4
      have hfz31_5 := blk_frozen BK102.out 5
      have hfz31_6 := blk_frozen BK102.out 6
      have hfz31_7 := blk_frozen BK102.out 7
      go_wp2
      repeat (go_quiet (fail); try go_wp2)
      go_ret
      exact ⟨by first | rfl | (simp [errW_none, errW_some] <;> rfl) | (simp [*, errW_none, errW_some] <;> rfl), by repeat (first | (with_reducible first | exact HB.out | apply below_alloc | apply pw_below_drewN | apply below_drew1 | refine below_set ?_ GE102.out) | exact HB.out)⟩
     rw [if_neg c30] at H
     have c30b0 : decide (((rd_T71 l0 a1).f3) < ((rd_T71 l0 a1).f5)) = false := decide_eq_false c30
     clear c30
     by_cases c32 : (wrap64 ((wrap64 (((rd_T71 l0 a1).f4) + ((rd_T71 l0 a1).f5))) + ((rd_T71 l0 a1).f6))) = ((rd_T71 l0 a1).f3)
     ·rw [if_pos c32] at H
      have c32b0 : ((wrap64 ((wrap64 (((rd_T71 l0 a1).f4) + ((rd_T71 l0 a1).f5))) + ((rd_T71 l0 a1).f6))) == ((rd_T71 l0 a1).f3)) = true := beq_iff_eq.mpr c32
      have c32b1 : ((wrap64 ((wrap64 (((rd_T71 l0 a1).f4) + ((rd_T71 l0 a1).f5))) + ((rd_T71 l0 a1).f6))) != ((rd_T71 l0 a1).f3)) = false := bne_eq_false_iff_eq.mpr c32
      clear c32
      by_cases c33 : ((rd_T71 l0 a1).f1) = 0
      ·rw [if_pos c33] at H
       have c33b0 : (((rd_T71 l0 a1).f1) == 0) = true := beq_iff_eq.mpr c33
       have c33b1 : (((rd_T71 l0 a1).f1) != 0) = false := bne_eq_false_iff_eq.mpr c33
       clear c33
       replace H := Option.bind_eq_some_iff.mp H
       obtain ⟨t107, A340, H⟩ := H
       replace H : (some (((rd_T71 l0 a1).f6) == t107)) = some r := H
       have A34 := Aside0.mk A340
       clear A340
       obtain rfl := Option.some.inj H
       have hcz35_0 := cz_ BK102.out 0 _ rfl
       have hcz35_1 := cz_ BK102.out 1 _ rfl
       have hcz35_2 := cz_ BK102.out 2 _ rfl
       have hcz35_3 := cz_ BK102.out 3 _ rfl
       have hcz35_4 := cz_ BK102.out 4 _ rfl
       have hcz35_5 := cz_ BK102.out 5 _ rfl
       have hcz35_6 := cz_ BK102.out 6 _ rfl
       have hcz35_7 := cz_ BK102.out 7 _ rfl
       have hfz35_0 := blk_frozen BK102.out 0
       have hfz35_1 := blk_frozen BK102.out 1
       have hfz35_2 := blk_frozen BK102.out 2
       have hfz35_3 := blk_frozen BK102.out 3
       have hfz35_4 := blk_frozen BK102.out 4
       have hfz35_5 := blk_frozen BK102.out 5
       have hfz35_6 := blk_frozen BK102.out 6
       have hfz35_7 := blk_frozen BK102.out 7
       go_wp2_with (first | (go_at_call 90; (with_reducible refine (spec_l20Given.calls kj4 _ _ l0 ((rd_T71 l0 a1).f0) t107 _ ?side1 ?side2 A34.out).mono ?_); (case side1 => repeat (first | exact (Kd.C_below HR0.out HB.out) | (with_reducible refine Kd.C_alloc ?_ _) | (with_reducible refine Kd.C_drewN ?_ _) | (with_reducible refine Kd.C_drew ?_))); (case side2 => exact HC0.out); rintro e w' ⟨rfl, ⟨nd, rfl⟩⟩; (try first | exact ⟨rfl, _, World.drewN_drewN _ _ _⟩ | exact ⟨rfl, _, Eq.trans (World.drewN_drewN _ _ _) (congrArg (World.drewN _) (Nat.add_assoc _ _ _))⟩)))
       repeat (go_quiet (first | (go_at_call 90; (with_reducible refine (spec_l20Given.calls kj4 _ _ l0 ((rd_T71 l0 a1).f0) t107 _ ?side1 ?side2 A34.out).mono ?_); (case side1 => repeat (first | exact (Kd.C_below HR0.out HB.out) | (with_reducible refine Kd.C_alloc ?_ _) | (with_reducible refine Kd.C_drewN ?_ _) | (with_reducible refine Kd.C_drew ?_))); (case side2 => exact HC0.out); rintro e w' ⟨rfl, ⟨nd, rfl⟩⟩; (try first | exact ⟨rfl, _, World.drewN_drewN _ _ _⟩ | exact ⟨rfl, _, Eq.trans (World.drewN_drewN _ _ _) (congrArg (World.drewN _) (Nat.add_assoc _ _ _))⟩))); try go_wp2_with (first | (go_at_call 90; (with_reducible refine (spec_l20Given.calls kj4 _ _ l0 ((rd_T71 l0 a1).f0) t107 _ ?side1 ?side2 A34.out).mono ?_); (case side1 => repeat (first | exact (Kd.C_below HR0.out HB.out) | (with_reducible refine Kd.C_alloc ?_ _) | (with_reducible refine Kd.C_drewN ?_ _) | (with_reducible refine Kd.C_drew ?_))); (case side2 => exact HC0.out); rintro e w' ⟨rfl, ⟨nd, rfl⟩⟩; (try first | exact ⟨rfl, _, World.drewN_drewN _ _ _⟩ | exact ⟨rfl, _, Eq.trans (World.drewN_drewN _ _ _) (congrArg (World.drewN _) (Nat.add_assoc _ _ _))⟩))))
       go_ret
       exact ⟨by first | rfl | (simp [errW_none, errW_some] <;> rfl) | (simp [*, errW_none, errW_some] <;> rfl), by repeat (first | (with_reducible first | exact HB.out | apply below_alloc | apply pw_below_drewN | apply below_drew1 | refine below_set ?_ GE102.out) | exact HB.out)⟩
      rw [if_neg c33] at H
      have c33b0 : (((rd_T71 l0 a1).f1) == 0) = false := beq_eq_false_iff_ne.mpr c33
      have c33b1 : (((rd_T71 l0 a1).f1) != 0) = true := bne_iff_ne.mpr c33
      obtain ⟨ji36, hji36⟩ : ∃ j_ : Int, (wrap64 (((rd_T71 l0 a1).f1) - 1)) = j_ := ⟨_, rfl⟩
      replace H : (if 0 ≤ (ji36) then (if (ji36) < (l0.length : Int) then (if ((rd_T71 l0 (ji36)).f2) = ((rd_T71 l0 a1).f2) then ((spec_l20Given.f kj4 l0 ((rd_T71 l0 a1).f0)).bind fun t109 => (some (((rd_T71 l0 a1).f6) == t109))) else (some false)) else (none)) else (none)) = some r := by first | (rw [hji36] at H; exact H) | (simp only [hji36] at H ⊢; exact H)
      have hji36w : (IntKind.i64.wrap (((rd_T71 l0 a1).f1) - 1)) = ji36 := (i64_w _).trans hji36
      by_cases c37 : 0 ≤ (ji36)
      ·rw [if_pos c37] at H
       have c37b0 : decide (0 ≤ (ji36)) = true := decide_eq_true c37
       clear c37
       by_cases c38 : (ji36) < (l0.length : Int)
       ·rw [if_pos c38] at H
        have c38b0 : decide ((ji36) < (l0.length : Int)) = true := decide_eq_true c38
        clear c38
        by_cases c39 : ((rd_T71 l0 (ji36)).f2) = ((rd_T71 l0 a1).f2)
        ·rw [if_pos c39] at H
         have c39b0 : (((rd_T71 l0 (ji36)).f2) == ((rd_T71 l0 a1).f2)) = true := beq_iff_eq.mpr c39
         have c39b1 : (((rd_T71 l0 (ji36)).f2) != ((rd_T71 l0 a1).f2)) = false := bne_eq_false_iff_eq.mpr c39
         clear c39
         replace H := Option.bind_eq_some_iff.mp H
         obtain ⟨t109, A400, H⟩ := H
         replace H : (some (((rd_T71 l0 a1).f6) == t109)) = some r := H
         have A40 := Aside0.mk A400
         clear A400
         obtain rfl := Option.some.inj H
         have hcz41_0 := cz_ BK102.out 0 _ rfl
         have hcz41_1 := cz_ BK102.out 1 _ rfl
         have hcz41_2 := cz_ BK102.out 2 _ rfl
         have hcz41_3 := cz_ BK102.out 3 _ rfl
         have hcz41_4 := cz_ BK102.out 4 _ rfl
         have hcz41_5 := cz_ BK102.out 5 _ rfl
         have hcz41_6 := cz_ BK102.out 6 _ rfl
         have hcz41_7 := cz_ BK102.out 7 _ rfl
         have hfz41_0 := blk_frozen BK102.out 0
         have hfz41_1 := blk_frozen BK102.out 1
         have hfz41_2 := blk_frozen BK102.out 2
         have hfz41_3 := blk_frozen BK102.out 3
         have hfz41_4 := blk_frozen BK102.out 4
         have hfz41_5 := blk_frozen BK102.out 5
         have hfz41_6 := blk_frozen BK102.out 6
         have hfz41_7 := blk_frozen BK102.out 7
         have p108 : 0 ≤ ((ji36) : Int) := of_decide_eq_true (by first | (with_reducible assumption) | assumption)
         have q108 : (ji36) < (l0.length : Int) := of_decide_eq_true (by first | (with_reducible assumption) | assumption)
         obtain ⟨ad108, e108, hx108_0, hx108_1, hx108_2, hx108_3, hx108_4, hx108_5, hx108_6, hx108_7⟩ := at_T71 HR0.out (ji36) p108 q108
         obtain rfl : ad101 = ad108 := (by injection e108)
         replace hx108_0 := (HB.out.cell (World.block_lt_of_cell? w _ hx108_0)).trans hx108_0
         replace hx108_1 := (HB.out.cell (World.block_lt_of_cell? w _ hx108_1)).trans hx108_1
         replace hx108_2 := (HB.out.cell (World.block_lt_of_cell? w _ hx108_2)).trans hx108_2
         replace hx108_3 := (HB.out.cell (World.block_lt_of_cell? w _ hx108_3)).trans hx108_3
         replace hx108_4 := (HB.out.cell (World.block_lt_of_cell? w _ hx108_4)).trans hx108_4
         replace hx108_5 := (HB.out.cell (World.block_lt_of_cell? w _ hx108_5)).trans hx108_5
         replace hx108_6 := (HB.out.cell (World.block_lt_of_cell? w _ hx108_6)).trans hx108_6
         replace hx108_7 := (HB.out.cell (World.block_lt_of_cell? w _ hx108_7)).trans hx108_7
         replace p108 := eq_true p108
         replace q108 := eq_true q108
         go_wp2_with (first | (go_at_call 90; (with_reducible refine (spec_l20Given.calls kj4 _ _ l0 ((rd_T71 l0 a1).f0) t109 _ ?side1 ?side2 A40.out).mono ?_); (case side1 => repeat (first | exact (Kd.C_below HR0.out HB.out) | (with_reducible refine Kd.C_alloc ?_ _) | (with_reducible refine Kd.C_drewN ?_ _) | (with_reducible refine Kd.C_drew ?_))); (case side2 => exact HC0.out); rintro e w' ⟨rfl, ⟨nd, rfl⟩⟩; (try first | exact ⟨rfl, _, World.drewN_drewN _ _ _⟩ | exact ⟨rfl, _, Eq.trans (World.drewN_drewN _ _ _) (congrArg (World.drewN _) (Nat.add_assoc _ _ _))⟩)))
         repeat (go_quiet (first | (go_at_call 90; (with_reducible refine (spec_l20Given.calls kj4 _ _ l0 ((rd_T71 l0 a1).f0) t109 _ ?side1 ?side2 A40.out).mono ?_); (case side1 => repeat (first | exact (Kd.C_below HR0.out HB.out) | (with_reducible refine Kd.C_alloc ?_ _) | (with_reducible refine Kd.C_drewN ?_ _) | (with_reducible refine Kd.C_drew ?_))); (case side2 => exact HC0.out); rintro e w' ⟨rfl, ⟨nd, rfl⟩⟩; (try first | exact ⟨rfl, _, World.drewN_drewN _ _ _⟩ | exact ⟨rfl, _, Eq.trans (World.drewN_drewN _ _ _) (congrArg (World.drewN _) (Nat.add_assoc _ _ _))⟩))); try go_wp2_with (first | (go_at_call 90; (with_reducible refine (spec_l20Given.calls kj4 _ _ l0 ((rd_T71 l0 a1).f0) t109 _ ?side1 ?side2 A40.out).mono ?_); (case side1 => repeat (first | exact (Kd.C_below HR0.out HB.out) | (with_reducible refine Kd.C_alloc ?_ _) | (with_reducible refine Kd.C_drewN ?_ _) | (with_reducible refine Kd.C_drew ?_))); (case side2 => exact HC0.out); rintro e w' ⟨rfl, ⟨nd, rfl⟩⟩; (try first | exact ⟨rfl, _, World.drewN_drewN _ _ _⟩ | exact ⟨rfl, _, Eq.trans (World.drewN_drewN _ _ _) (congrArg (World.drewN _) (Nat.add_assoc _ _ _))⟩))))
         go_ret
         exact ⟨by first | rfl | (simp [errW_none, errW_some] <;> rfl) | (simp only [← hji36]; first | rfl | (simp [errW_none, errW_some] <;> rfl)) | (simp [*, errW_none, errW_some] <;> rfl), by repeat (first | (with_reducible first | exact HB.out | apply below_alloc | apply pw_below_drewN | apply below_drew1 | refine below_set ?_ GE102.out) | exact HB.out)⟩
        rw [if_neg c39] at H
        have c39b0 : (((rd_T71 l0 (ji36)).f2) == ((rd_T71 l0 a1).f2)) = false := beq_eq_false_iff_ne.mpr c39
        have c39b1 : (((rd_T71 l0 (ji36)).f2) != ((rd_T71 l0 a1).f2)) = true := bne_iff_ne.mpr c39
        obtain rfl := Option.some.inj H
        have hcz42_0 := cz_ BK102.out 0 _ rfl
        have hcz42_1 := cz_ BK102.out 1 _ rfl
        have hcz42_2 := cz_ BK102.out 2 _ rfl
        have hcz42_3 := cz_ BK102.out 3 _ rfl
        have hcz42_4 := cz_ BK102.out 4 _ rfl
        have hcz42_5 := cz_ BK102.out 5 _ rfl
        have hcz42_6 := cz_ BK102.out 6 _ rfl
        have hcz42_7 := cz_ BK102.out 7 _ rfl
        have hfz42_0 := blk_frozen BK102.out 0
        have hfz42_1 := blk_frozen BK102.out 1
        have hfz42_2 := blk_frozen BK102.out 2
        have hfz42_3 := blk_frozen BK102.out 3
        have hfz42_4 := blk_frozen BK102.out 4
        have hfz42_5 := blk_frozen BK102.out 5
        have hfz42_6 := blk_frozen BK102.out 6
        have hfz42_7 := blk_frozen BK102.out 7
        have p108 : 0 ≤ ((ji36) : Int) := of_decide_eq_true (by first | (with_reducible assumption) | assumption)
        have q108 : (ji36) < (l0.length : Int) := of_decide_eq_true (by first | (with_reducible assumption) | assumption)
        obtain ⟨ad108, e108, hx108_0, hx108_1, hx108_2, hx108_3, hx108_4, hx108_5, hx108_6, hx108_7⟩ := at_T71 HR0.out (ji36) p108 q108
        obtain rfl : ad101 = ad108 := (by injection e108)
        replace hx108_0 := (HB.out.cell (World.block_lt_of_cell? w _ hx108_0)).trans hx108_0
        replace hx108_1 := (HB.out.cell (World.block_lt_of_cell? w _ hx108_1)).trans hx108_1
        replace hx108_2 := (HB.out.cell (World.block_lt_of_cell? w _ hx108_2)).trans hx108_2
        replace hx108_3 := (HB.out.cell (World.block_lt_of_cell? w _ hx108_3)).trans hx108_3
        replace hx108_4 := (HB.out.cell (World.block_lt_of_cell? w _ hx108_4)).trans hx108_4
        replace hx108_5 := (HB.out.cell (World.block_lt_of_cell? w _ hx108_5)).trans hx108_5
        replace hx108_6 := (HB.out.cell (World.block_lt_of_cell? w _ hx108_6)).trans hx108_6
        replace hx108_7 := (HB.out.cell (World.block_lt_of_cell? w _ hx108_7)).trans hx108_7
        replace p108 := eq_true p108
        replace q108 := eq_true q108
        go_wp2
        repeat (go_quiet (fail); try go_wp2)
        go_ret
        exact ⟨by first | rfl | (simp [errW_none, errW_some] <;> rfl) | (simp only [← hji36]; first | rfl | (simp [errW_none, errW_some] <;> rfl)) | (simp [*, errW_none, errW_some] <;> rfl), by repeat (first | (with_reducible first | exact HB.out | apply below_alloc | apply pw_below_drewN | apply below_drew1 | refine below_set ?_ GE102.out) | exact HB.out)⟩
       rw [if_neg c38] at H
       exact absurd H (by simp)
      rw [if_neg c37] at H
      exact absurd H (by simp)
     rw [if_neg c32] at H
     have c32b0 : ((wrap64 ((wrap64 (((rd_T71 l0 a1).f4) + ((rd_T71 l0 a1).f5))) + ((rd_T71 l0 a1).f6))) == ((rd_T71 l0 a1).f3)) = false := beq_eq_false_iff_ne.mpr c32
     have c32b1 : ((wrap64 ((wrap64 (((rd_T71 l0 a1).f4) + ((rd_T71 l0 a1).f5))) + ((rd_T71 l0 a1).f6))) != ((rd_T71 l0 a1).f3)) = true := bne_iff_ne.mpr c32
     obtain rfl := Option.some.inj H
     have hcz43_0 := cz_ BK102.out 0 _ rfl
     have hcz43_1 := cz_ BK102.out 1 _ rfl
     have hcz43_2 := cz_ BK102.out 2 _ rfl
     have hcz43_3 := cz_ BK102.out 3 _ rfl
     have hcz43_4 := cz_ BK102.out 4 _ rfl
     have hcz43_5 := cz_ BK102.out 5 _ rfl
     have hcz43_6 := cz_ BK102.out 6 _ rfl
     have hcz43_7 := cz_ BK102.out 7 _ rfl
     have hfz43_0 := blk_frozen BK102.out 0
     have hfz43_1 := blk_frozen BK102.out 1
     have hfz43_2 := blk_frozen BK102.out 2
     have hfz43_3 := blk_frozen BK102.out 3
     have hfz43_4 := blk_frozen BK102.out 4
     have hfz43_5 := blk_frozen BK102.out 5
     have hfz43_6 := blk_frozen BK102.out 6
     have hfz43_7 := blk_frozen BK102.out 7
     go_wp2
     repeat (go_quiet (fail); try go_wp2)
     go_ret
     exact ⟨by first | rfl | (simp [errW_none, errW_some] <;> rfl) | (simp [*, errW_none, errW_some] <;> rfl), by repeat (first | (with_reducible first | exact HB.out | apply below_alloc | apply pw_below_drewN | apply below_drew1 | refine below_set ?_ GE102.out) | exact HB.out)⟩
  rw [if_neg c4] at H
  exact absurd H (by simp)
 rw [if_neg c3] at H
 exact absurd H (by simp)
end
section
/-! ### spec_l20Good: function 85 -/
def spec_l20Good.l0 : Nat → List (S71) → Int → Option (Bool)
 | 0, _, _ => none
 | k + 1, x0, x3 => if x3 < (x0.length : Int) then ((spec_l20Sample.f k x0 x3).bind fun t101 => (if t101 = true then (spec_l20Good.l0 k x0 (wrap64 (x3 + 1))) else (some false))) else (some true)
def spec_l20Good.f (k : Nat) (l0 : List (S71)) : Option (Bool) := if (l0.length : Int) > 16 then (some false) else (spec_l20Good.l0 k l0 0)
theorem spec_l20Good.mono_l : ∀ k, (∀ y0 y1, LeO (spec_l20Good.l0 k y0 y1) (spec_l20Good.l0 (k + 1) y0 y1))
 | 0 => fun _ _ r h => by simp [spec_l20Good.l0] at h
 | k + 1 => by
  have ih0 := spec_l20Good.mono_l k
  ·intro y0 y1
   unfold spec_l20Good.l0
   repeat' first
   | (with_reducible exact ih0 _ _)
   | (with_reducible exact spec_l20Sample.mono _ _ _)
   | (with_reducible exact LeO.refl _)
   | (with_reducible exact LeO.none _)
   | (with_reducible refine LeO.ite ?_ ?_)
   | (with_reducible refine LeO.bind ?_ (fun _ => ?_))
   | exact ih0 _ _
   | exact spec_l20Sample.mono _ _ _
   | exact LeO.none _
   | refine LeO.ite ?_ ?_
   | refine LeO.bind ?_ (fun _ => ?_)
theorem spec_l20Good.mono : ∀ a0 k, LeO (spec_l20Good.f k a0) (spec_l20Good.f (k + 1) a0) := by
 intro a0 k
 have ih0 := spec_l20Good.mono_l k
 unfold spec_l20Good.f
 repeat' first
   | (with_reducible exact ih0 _ _)
   | (with_reducible exact spec_l20Sample.mono _ _ _)
   | (with_reducible exact LeO.refl _)
   | (with_reducible exact LeO.none _)
   | (with_reducible refine LeO.ite ?_ ?_)
   | (with_reducible refine LeO.bind ?_ (fun _ => ?_))
   | exact ih0 _ _
   | exact spec_l20Sample.mono _ _ _
   | exact LeO.none _
   | refine LeO.ite ?_ ?_
   | refine LeO.bind ?_ (fun _ => ?_)
set_option maxHeartbeats 8000000 in
set_option maxRecDepth 100000 in
theorem spec_l20Good.calls (k : Nat) (A0 : Option Addr) (c0 : Nat) (l0 : List (S71)) (r : Bool) (w : World) (hr0 : Kd.C k71 w A0 l0.length l0) (hc0 : l0.length ≤ c0) (h : spec_l20Good.f k l0 = some r) :
  Calls Try.prog 85 #[.slice A0 l0.length c0] w fun e w' => e = .returned (.bool r) ∧ Below w.heap.size w w' := by
 have HR0 := Aside0.mk hr0
 have HC0 := Aside0.mk hc0
 clear hr0 hc0
 have HB := Aside0.mk (Below.refl w.heap.size w)
 have H : (if (l0.length : Int) > 16 then (some false) else (spec_l20Good.l0 k l0 0)) = some r := h
 clear h
 by_cases c2 : (l0.length : Int) > 16
 ·rw [if_pos c2] at H
  have c2b0 : decide (16 < (l0.length : Int)) = true := decide_eq_true c2
  have c2b1 : decide (16 < l0.length) = true := decide_eq_true (by omega)
  clear c2
  obtain rfl := Option.some.inj H
  go_enter Try.func85, Try.ntmps85
  go_wp2
  go_ret
  exact ⟨by first | rfl | (simp [errW_none, errW_some] <;> rfl) | (simp [*, errW_none, errW_some] <;> rfl), by repeat (first | (with_reducible first | exact HB.out | apply below_alloc | apply pw_below_drewN | apply below_drew1) | exact HB.out)⟩
 rw [if_neg c2] at H
 have c2b0 : decide (16 < (l0.length : Int)) = false := decide_eq_false c2
 have c2b1 : decide (16 < l0.length) = false := decide_eq_false (by omega)
 clear c2
 have H' := Aside0.mk H
 clear H
 go_enter Try.func85, Try.ntmps85
 go_wp2
 go_loopg [3] k (fun kq v3 w' => ∃ (x3_1 : Int), v3 = .int .i64 x3_1 ∧ Aside0 (spec_l20Good.l0 kq l0 x3_1 = some r) ∧ Aside0 (kq ≤ k) ∧ Aside0 (Below w.heap.size w w'))
 case atStart => exact ⟨(0), (by first | rfl | (simp; done) | (simp [*]; done) | (simp [beq_nil_, bne_nil_]; done)), H', ⟨Nat.le_refl _⟩, ⟨by repeat (first | (with_reducible first | exact HB.out | apply below_alloc | apply pw_below_drewN | apply below_drew1) | exact HB.out)⟩⟩
 case round =>
  clear H'
  try clear c2
  try clear c2b0
  try clear c2b1
  try clear p2
  obtain ⟨x3_1, rfl, HA, HK1, HB⟩ := hrel
  cases gk with
  | zero => exact absurd HA.out (by simp [spec_l20Good.l0])
  | succ k1 =>
   have H := HA.out
   clear HA
   simp only [spec_l20Good.l0] at H
   by_cases c3 : x3_1 < (l0.length : Int)
   ·rw [if_pos c3] at H
    have c3b0 : decide (x3_1 < (l0.length : Int)) = true := decide_eq_true c3
    clear c3
    replace H := Option.bind_eq_some_iff.mp H
    obtain ⟨t101, A40, H⟩ := H
    replace H : (if t101 = true then (spec_l20Good.l0 k1 l0 (wrap64 (x3_1 + 1))) else (some false)) = some r := H
    have A4 := Aside0.mk A40
    clear A40
    by_cases c5 : t101 = true
    ·subst c5
     have H1 : (spec_l20Good.l0 k1 l0 (wrap64 (x3_1 + 1))) = some r := by rw [if_pos rfl] at H; exact H
     clear H
     have H := H1
     clear H1
     have H' := Aside0.mk H
     clear H
     go_wp2_with (first | ((with_reducible refine gate_callee (f := 112) rfl ?_); refine goesL_ (some 15) rfl rfl Try.func112 (by kernel_rfl) rfl #[.slice A0 l0.length c0, .int .i64 x3_1] rfl (by (try simp only [List.map_toArray, List.map_cons, List.map_nil]); first | done | rfl | (simp only [List.length_drop, List.length_take]; rfl)) ?_; (with_reducible refine (spec_l20Sample.calls k1 _ _ l0 x3_1 true _ ?side1 ?side2 A4.out).mono ?_); (case side1 => repeat (first | exact (Kd.C_below HR0.out HB.out) | (with_reducible refine Kd.C_alloc ?_ _) | (with_reducible refine Kd.C_drewN ?_ _) | (with_reducible refine Kd.C_drew ?_))); (case side2 => exact HC0.out); rintro e w6 ⟨rfl, hb⟩; refine ⟨_, rfl, ?_⟩; have n0_ := Aside0.mk (below_step (pH_ HB.out) hb); clear HB; have HB := n0_; clear n0_; (try clear hb); (try clear hb2); (try clear hk); (try clear hi)))
     go_roundg k1
     case measure => have := HK1.out; omega
     case rel => exact ⟨(wrap64 (x3_1 + 1)), (by first | rfl | (simp; done) | (simp [*]; done) | (simp [beq_nil_, bne_nil_]; done)), H', ⟨by have := HK1.out; omega⟩, ⟨by repeat (first | (with_reducible first | exact HB.out | apply below_alloc | apply pw_below_drewN | apply below_drew1) | exact HB.out)⟩⟩
    replace c5 := Bool.eq_false_iff.mpr c5
    subst c5
    have H1 : (some false) = some r := by rw [if_neg (show ¬ (false = true) by decide)] at H; exact H
    clear H
    have H := H1
    clear H1
    obtain rfl := Option.some.inj H
    go_wp2_with (first | ((with_reducible refine gate_callee (f := 112) rfl ?_); refine goesL_ (some 15) rfl rfl Try.func112 (by kernel_rfl) rfl #[.slice A0 l0.length c0, .int .i64 x3_1] rfl (by (try simp only [List.map_toArray, List.map_cons, List.map_nil]); first | done | rfl | (simp only [List.length_drop, List.length_take]; rfl)) ?_; (with_reducible refine (spec_l20Sample.calls k1 _ _ l0 x3_1 false _ ?side1 ?side2 A4.out).mono ?_); (case side1 => repeat (first | exact (Kd.C_below HR0.out HB.out) | (with_reducible refine Kd.C_alloc ?_ _) | (with_reducible refine Kd.C_drewN ?_ _) | (with_reducible refine Kd.C_drew ?_))); (case side2 => exact HC0.out); rintro e w7 ⟨rfl, hb⟩; refine ⟨_, rfl, ?_⟩; have n0_ := Aside0.mk (below_step (pH_ HB.out) hb); clear HB; have HB := n0_; clear n0_; (try clear hb); (try clear hb2); (try clear hk); (try clear hi)))
    go_ret
    exact ⟨by first | rfl | (simp [errW_none, errW_some] <;> rfl) | (simp [*, errW_none, errW_some] <;> rfl), by repeat (first | (with_reducible first | exact HB.out | apply below_alloc | apply pw_below_drewN | apply below_drew1) | exact HB.out)⟩
   rw [if_neg c3] at H
   have c3b0 : decide (x3_1 < (l0.length : Int)) = false := decide_eq_false c3
   clear c3
   obtain rfl := Option.some.inj H
   go_wp2
   go_ret
   exact ⟨by first | rfl | (simp [errW_none, errW_some] <;> rfl) | (simp [*, errW_none, errW_some] <;> rfl), by repeat (first | (with_reducible first | exact HB.out | apply below_alloc | apply pw_below_drewN | apply below_drew1) | exact HB.out)⟩
end
section
/-! ### spec_l20Step: function 102 -/
mutual
def spec_l20Step.j0 : Nat → List (S71) → Bool → Int → Int → Int → ByteArray → Int → Int → Int → Int → Int → Int → Int → ByteArray → Option ((List (S71)) × Bool)
 | 0, _, _, _, _, _, _, _, _, _, _, _, _, _, _ => none
 | k + 1, x6, x46, x102000, x102001, x102002, x102003, x115000, x115001, x115002, x115003, x115004, x115005, x115006, x115007 => if x46 = true then (if 0 ≤ (wrap64 (x102001 - 1)) then (if (wrap64 (x102001 - 1)) < (x6.length : Int) then ((some (x6.set ((wrap64 (x102001 - 1)) : Int).toNat (⟨x115000, x115001, x115002, x115003, x115004, x115005, x115006, x102003⟩ : S71) : List (S71))).bind fun y115 => ((spec_l20Good.f k y115).bind fun t116 => (some (y115, t116)))) else (none)) else (none)) else (if x102000 = 3 then ((spec_l1In.f x102002 1 x115004).bind fun t117 => (spec_l20Step.j1 k x6 t117 x102000 x102001 x102002 x102003 x115000 x115001 x115002 x115003 x115004 x115005 x115006 x115007)) else (spec_l20Step.j1 k x6 false x102000 x102001 x102002 x102003 x115000 x115001 x115002 x115003 x115004 x115005 x115006 x115007))
def spec_l20Step.j1 : Nat → List (S71) → Bool → Int → Int → Int → ByteArray → Int → Int → Int → Int → Int → Int → Int → ByteArray → Option ((List (S71)) × Bool)
 | 0, _, _, _, _, _, _, _, _, _, _, _, _, _, _ => none
 | k + 1, x6, x58, x102000, x102001, x102002, x102003, x115000, x115001, x115002, x115003, x115004, x115005, x115006, x115007 => if x58 = true then (if x6.length < 1954687338268 then ((some (x6 ++ [(⟨wrap64 ((x6.length : Int) + 1), x115000, x115002, x102002, x102002, 0, 0, x102003⟩ : S71)] : List (S71))).bind fun y118 => (if 0 ≤ (wrap64 (x102001 - 1)) then (if (wrap64 (x102001 - 1)) < (y118.length : Int) then ((some (y118.set ((wrap64 (x102001 - 1)) : Int).toNat (⟨x115000, x115001, x115002, x115003, wrap64 (x115004 - x102002), x115005, wrap64 (x115006 + x102002), x115007⟩ : S71) : List (S71))).bind fun y121 => ((spec_l20Good.f k y121).bind fun t122 => (some (y121, t122)))) else (none)) else (none))) else (none)) else (if x102000 = 4 then ((spec_l1In.f x102002 1 x115004).bind fun t123 => (if t123 = true then (if x102003.toList = ([] : List UInt8) then (if 0 ≤ (wrap64 (x102001 - 1)) then (if (wrap64 (x102001 - 1)) < (x6.length : Int) then ((some (x6.set ((wrap64 (x102001 - 1)) : Int).toNat (⟨x115000, x115001, x115002, x115003, wrap64 (x115004 - x102002), wrap64 (x115005 + x102002), x115006, x115007⟩ : S71) : List (S71))).bind fun y124 => ((spec_l20Good.f k y124).bind fun t125 => (some (y124, t125)))) else (none)) else (none)) else (some (x6, false))) else (some (x6, false)))) else (some (x6, false)))
end
def spec_l20Step.f (k : Nat) (l0 : List (S71)) (a1_0 : Int) (a1_1 : Int) (a1_2 : Int) (a1_3 : ByteArray) : Option ((List (S71)) × Bool) := (some (([] : List (S71)) : List (S71))).bind fun y102 => (if y102.length + l0.length < 1954687338268 then ((some (y102 ++ l0 : List (S71))).bind fun y105 => (if a1_0 = 1 then (if y105.length < 1954687338268 then ((some (y105 ++ [(⟨wrap64 ((y105.length : Int) + 1), 0, a1_1, a1_2, a1_2, 0, 0, a1_3⟩ : S71)] : List (S71))).bind fun y108 => ((spec_l20Good.f k y108).bind fun t111 => (some (y108, t111)))) else (none)) else ((spec_l1In.f a1_1 1 (y105.length : Int)).bind fun t112 => (if t112 = true then (if 0 ≤ (wrap64 (a1_1 - 1)) then (if (wrap64 (a1_1 - 1)) < (y105.length : Int) then (if a1_0 = 2 then (spec_l20Step.j0 k y105 (a1_2 == 0) a1_0 a1_1 a1_2 a1_3 ((rd_T71 y105 (wrap64 (a1_1 - 1))).f0) ((rd_T71 y105 (wrap64 (a1_1 - 1))).f1) ((rd_T71 y105 (wrap64 (a1_1 - 1))).f2) ((rd_T71 y105 (wrap64 (a1_1 - 1))).f3) ((rd_T71 y105 (wrap64 (a1_1 - 1))).f4) ((rd_T71 y105 (wrap64 (a1_1 - 1))).f5) ((rd_T71 y105 (wrap64 (a1_1 - 1))).f6) ((rd_T71 y105 (wrap64 (a1_1 - 1))).f7)) else (spec_l20Step.j0 k y105 false a1_0 a1_1 a1_2 a1_3 ((rd_T71 y105 (wrap64 (a1_1 - 1))).f0) ((rd_T71 y105 (wrap64 (a1_1 - 1))).f1) ((rd_T71 y105 (wrap64 (a1_1 - 1))).f2) ((rd_T71 y105 (wrap64 (a1_1 - 1))).f3) ((rd_T71 y105 (wrap64 (a1_1 - 1))).f4) ((rd_T71 y105 (wrap64 (a1_1 - 1))).f5) ((rd_T71 y105 (wrap64 (a1_1 - 1))).f6) ((rd_T71 y105 (wrap64 (a1_1 - 1))).f7))) else (none)) else (none)) else (some (y105, false)))))) else (none))
theorem spec_l20Step.mono_l : ∀ k, (∀ y0 y1 y2 y3 y4 y5 y6 y7 y8 y9 y10 y11 y12 y13, LeO (spec_l20Step.j0 k y0 y1 y2 y3 y4 y5 y6 y7 y8 y9 y10 y11 y12 y13) (spec_l20Step.j0 (k + 1) y0 y1 y2 y3 y4 y5 y6 y7 y8 y9 y10 y11 y12 y13)) ∧ (∀ y0 y1 y2 y3 y4 y5 y6 y7 y8 y9 y10 y11 y12 y13, LeO (spec_l20Step.j1 k y0 y1 y2 y3 y4 y5 y6 y7 y8 y9 y10 y11 y12 y13) (spec_l20Step.j1 (k + 1) y0 y1 y2 y3 y4 y5 y6 y7 y8 y9 y10 y11 y12 y13))
 | 0 => ⟨fun _ _ _ _ _ _ _ _ _ _ _ _ _ _ r h => by simp [spec_l20Step.j0] at h, fun _ _ _ _ _ _ _ _ _ _ _ _ _ _ r h => by simp [spec_l20Step.j1] at h⟩
 | k + 1 => by
  obtain ⟨ih0, ih1⟩ := spec_l20Step.mono_l k
  refine ⟨?_, ?_⟩
  ·intro y0 y1 y2 y3 y4 y5 y6 y7 y8 y9 y10 y11 y12 y13
   unfold spec_l20Step.j0
   repeat' first
   | (with_reducible exact ih0 _ _ _ _ _ _ _ _ _ _ _ _ _ _)
   | (with_reducible exact ih1 _ _ _ _ _ _ _ _ _ _ _ _ _ _)
   | (with_reducible exact spec_l20Good.mono _ _)
   | (with_reducible exact LeO.refl _)
   | (with_reducible exact LeO.none _)
   | (with_reducible refine LeO.ite ?_ ?_)
   | (with_reducible refine LeO.bind ?_ (fun _ => ?_))
   | exact ih0 _ _ _ _ _ _ _ _ _ _ _ _ _ _
   | exact ih1 _ _ _ _ _ _ _ _ _ _ _ _ _ _
   | exact spec_l20Good.mono _ _
   | exact LeO.none _
   | refine LeO.ite ?_ ?_
   | refine LeO.bind ?_ (fun _ => ?_)
  intro y0 y1 y2 y3 y4 y5 y6 y7 y8 y9 y10 y11 y12 y13
  unfold spec_l20Step.j1
  repeat' first
  | (with_reducible exact ih0 _ _ _ _ _ _ _ _ _ _ _ _ _ _)
  | (with_reducible exact ih1 _ _ _ _ _ _ _ _ _ _ _ _ _ _)
  | (with_reducible exact spec_l20Good.mono _ _)
  | (with_reducible exact LeO.refl _)
  | (with_reducible exact LeO.none _)
  | (with_reducible refine LeO.ite ?_ ?_)
  | (with_reducible refine LeO.bind ?_ (fun _ => ?_))
  | exact ih0 _ _ _ _ _ _ _ _ _ _ _ _ _ _
  | exact ih1 _ _ _ _ _ _ _ _ _ _ _ _ _ _
  | exact spec_l20Good.mono _ _
  | exact LeO.none _
  | refine LeO.ite ?_ ?_
  | refine LeO.bind ?_ (fun _ => ?_)
theorem spec_l20Step.mono : ∀ a0 a1 a2 a3 a4 k, LeO (spec_l20Step.f k a0 a1 a2 a3 a4) (spec_l20Step.f (k + 1) a0 a1 a2 a3 a4) := by
 intro a0 a1 a2 a3 a4 k
 obtain ⟨ih0, ih1⟩ := spec_l20Step.mono_l k
 unfold spec_l20Step.f
 repeat' first
   | (with_reducible exact ih0 _ _ _ _ _ _ _ _ _ _ _ _ _ _)
   | (with_reducible exact ih1 _ _ _ _ _ _ _ _ _ _ _ _ _ _)
   | (with_reducible exact spec_l20Good.mono _ _)
   | (with_reducible exact LeO.refl _)
   | (with_reducible exact LeO.none _)
   | (with_reducible refine LeO.ite ?_ ?_)
   | (with_reducible refine LeO.bind ?_ (fun _ => ?_))
   | exact ih0 _ _ _ _ _ _ _ _ _ _ _ _ _ _
   | exact ih1 _ _ _ _ _ _ _ _ _ _ _ _ _ _
   | exact spec_l20Good.mono _ _
   | exact LeO.none _
   | refine LeO.ite ?_ ?_
   | refine LeO.bind ?_ (fun _ => ?_)
set_option maxHeartbeats 8000000 in
set_option maxRecDepth 100000 in
theorem spec_l20Step.calls (k : Nat) (A0 : Option Addr) (c0 : Nat) (l0 : List (S71)) (a1_0 : Int) (a1_1 : Int) (a1_2 : Int) (a1_3 : ByteArray) (r1 : List (S71)) (r2 : Bool) (w : World) (hr0 : Kd.C k71 w A0 l0.length l0) (hc0 : l0.length ≤ c0) (h : spec_l20Step.f k l0 a1_0 a1_1 a1_2 a1_3 = some (r1, r2)) :
  Calls Try.prog 102 #[.slice A0 l0.length c0, .agg #[.int .i64 a1_0, .int .i64 a1_1, .int .i64 a1_2, .string a1_3]] w fun e w' => ∃ v0_ : Value, e = .returned (.tuple #[v0_, .bool r2]) ∧ Kd.R k71 71 w' w.heap.size (fun _ => True) v0_ r1 ∧ Below w.heap.size w w' := by
 have hu61 := Try.underlying61
 have hu71 := Try.underlying71
 have HR0 := Aside0.mk hr0
 have HC0 := Aside0.mk hc0
 clear hr0 hc0
 have HB := Aside0.mk (Below.refl w.heap.size w)
 have H : ((some (([] : List (S71)) : List (S71))).bind fun y102 => (if y102.length + l0.length < 1954687338268 then ((some (y102 ++ l0 : List (S71))).bind fun y105 => (if a1_0 = 1 then (if y105.length < 1954687338268 then ((some (y105 ++ [(⟨wrap64 ((y105.length : Int) + 1), 0, a1_1, a1_2, a1_2, 0, 0, a1_3⟩ : S71)] : List (S71))).bind fun y108 => ((spec_l20Good.f k y108).bind fun t111 => (some (y108, t111)))) else (none)) else ((spec_l1In.f a1_1 1 (y105.length : Int)).bind fun t112 => (if t112 = true then (if 0 ≤ (wrap64 (a1_1 - 1)) then (if (wrap64 (a1_1 - 1)) < (y105.length : Int) then (if a1_0 = 2 then (spec_l20Step.j0 k y105 (a1_2 == 0) a1_0 a1_1 a1_2 a1_3 ((rd_T71 y105 (wrap64 (a1_1 - 1))).f0) ((rd_T71 y105 (wrap64 (a1_1 - 1))).f1) ((rd_T71 y105 (wrap64 (a1_1 - 1))).f2) ((rd_T71 y105 (wrap64 (a1_1 - 1))).f3) ((rd_T71 y105 (wrap64 (a1_1 - 1))).f4) ((rd_T71 y105 (wrap64 (a1_1 - 1))).f5) ((rd_T71 y105 (wrap64 (a1_1 - 1))).f6) ((rd_T71 y105 (wrap64 (a1_1 - 1))).f7)) else (spec_l20Step.j0 k y105 false a1_0 a1_1 a1_2 a1_3 ((rd_T71 y105 (wrap64 (a1_1 - 1))).f0) ((rd_T71 y105 (wrap64 (a1_1 - 1))).f1) ((rd_T71 y105 (wrap64 (a1_1 - 1))).f2) ((rd_T71 y105 (wrap64 (a1_1 - 1))).f3) ((rd_T71 y105 (wrap64 (a1_1 - 1))).f4) ((rd_T71 y105 (wrap64 (a1_1 - 1))).f5) ((rd_T71 y105 (wrap64 (a1_1 - 1))).f6) ((rd_T71 y105 (wrap64 (a1_1 - 1))).f7))) else (none)) else (none)) else (some (y105, false)))))) else (none))) = some (r1, r2) := h
 clear h
 obtain ⟨y102, hy102⟩ : ∃ y_ : List (S71), y_ = (([] : List (S71))) := ⟨_, rfl⟩
 replace H : (if y102.length + l0.length < 1954687338268 then ((some (y102 ++ l0 : List (S71))).bind fun y105 => (if a1_0 = 1 then (if y105.length < 1954687338268 then ((some (y105 ++ [(⟨wrap64 ((y105.length : Int) + 1), 0, a1_1, a1_2, a1_2, 0, 0, a1_3⟩ : S71)] : List (S71))).bind fun y108 => ((spec_l20Good.f k y108).bind fun t111 => (some (y108, t111)))) else (none)) else ((spec_l1In.f a1_1 1 (y105.length : Int)).bind fun t112 => (if t112 = true then (if 0 ≤ (wrap64 (a1_1 - 1)) then (if (wrap64 (a1_1 - 1)) < (y105.length : Int) then (if a1_0 = 2 then (spec_l20Step.j0 k y105 (a1_2 == 0) a1_0 a1_1 a1_2 a1_3 ((rd_T71 y105 (wrap64 (a1_1 - 1))).f0) ((rd_T71 y105 (wrap64 (a1_1 - 1))).f1) ((rd_T71 y105 (wrap64 (a1_1 - 1))).f2) ((rd_T71 y105 (wrap64 (a1_1 - 1))).f3) ((rd_T71 y105 (wrap64 (a1_1 - 1))).f4) ((rd_T71 y105 (wrap64 (a1_1 - 1))).f5) ((rd_T71 y105 (wrap64 (a1_1 - 1))).f6) ((rd_T71 y105 (wrap64 (a1_1 - 1))).f7)) else (spec_l20Step.j0 k y105 false a1_0 a1_1 a1_2 a1_3 ((rd_T71 y105 (wrap64 (a1_1 - 1))).f0) ((rd_T71 y105 (wrap64 (a1_1 - 1))).f1) ((rd_T71 y105 (wrap64 (a1_1 - 1))).f2) ((rd_T71 y105 (wrap64 (a1_1 - 1))).f3) ((rd_T71 y105 (wrap64 (a1_1 - 1))).f4) ((rd_T71 y105 (wrap64 (a1_1 - 1))).f5) ((rd_T71 y105 (wrap64 (a1_1 - 1))).f6) ((rd_T71 y105 (wrap64 (a1_1 - 1))).f7))) else (none)) else (none)) else (some (y105, false)))))) else (none)) = some (r1, r2) := by first | (rw [hy102]; with_reducible exact H) | (have H2_ := (Option.bind_some _ _).symm.trans H; rw [hy102]; with_reducible exact H2_) | (have H2_ := (Option.bind_some _ _).symm.trans H; with_reducible exact H2_) | with_reducible exact H | (rw [hy102]; exact H) | exact H
 have Ny102 := Aside0.mk hy102
 clear hy102
 by_cases c3 : y102.length + l0.length < 1954687338268
 ·rw [if_pos c3] at H
  have LMc3 := Aside0.mk c3
  clear c3
  obtain ⟨y105, hy105⟩ : ∃ y_ : List (S71), y_ = (y102 ++ l0) := ⟨_, rfl⟩
  replace H : (if a1_0 = 1 then (if y105.length < 1954687338268 then ((some (y105 ++ [(⟨wrap64 ((y105.length : Int) + 1), 0, a1_1, a1_2, a1_2, 0, 0, a1_3⟩ : S71)] : List (S71))).bind fun y108 => ((spec_l20Good.f k y108).bind fun t111 => (some (y108, t111)))) else (none)) else ((spec_l1In.f a1_1 1 (y105.length : Int)).bind fun t112 => (if t112 = true then (if 0 ≤ (wrap64 (a1_1 - 1)) then (if (wrap64 (a1_1 - 1)) < (y105.length : Int) then (if a1_0 = 2 then (spec_l20Step.j0 k y105 (a1_2 == 0) a1_0 a1_1 a1_2 a1_3 ((rd_T71 y105 (wrap64 (a1_1 - 1))).f0) ((rd_T71 y105 (wrap64 (a1_1 - 1))).f1) ((rd_T71 y105 (wrap64 (a1_1 - 1))).f2) ((rd_T71 y105 (wrap64 (a1_1 - 1))).f3) ((rd_T71 y105 (wrap64 (a1_1 - 1))).f4) ((rd_T71 y105 (wrap64 (a1_1 - 1))).f5) ((rd_T71 y105 (wrap64 (a1_1 - 1))).f6) ((rd_T71 y105 (wrap64 (a1_1 - 1))).f7)) else (spec_l20Step.j0 k y105 false a1_0 a1_1 a1_2 a1_3 ((rd_T71 y105 (wrap64 (a1_1 - 1))).f0) ((rd_T71 y105 (wrap64 (a1_1 - 1))).f1) ((rd_T71 y105 (wrap64 (a1_1 - 1))).f2) ((rd_T71 y105 (wrap64 (a1_1 - 1))).f3) ((rd_T71 y105 (wrap64 (a1_1 - 1))).f4) ((rd_T71 y105 (wrap64 (a1_1 - 1))).f5) ((rd_T71 y105 (wrap64 (a1_1 - 1))).f6) ((rd_T71 y105 (wrap64 (a1_1 - 1))).f7))) else (none)) else (none)) else (some (y105, false))))) = some (r1, r2) := by first | (rw [hy105]; with_reducible exact H) | (have H2_ := (Option.bind_some _ _).symm.trans H; rw [hy105]; with_reducible exact H2_) | (have H2_ := (Option.bind_some _ _).symm.trans H; with_reducible exact H2_) | with_reducible exact H | (rw [hy105]; exact H) | exact H
  have Ny105 := Aside0.mk hy105
  clear hy105
  by_cases c4 : a1_0 = 1
  ·rw [if_pos c4] at H
   have c4b0 : (a1_0 == 1) = true := beq_iff_eq.mpr c4
   have c4b1 : (a1_0 != 1) = false := bne_eq_false_iff_eq.mpr c4
   clear c4
   by_cases c5 : y105.length < 1954687338268
   ·rw [if_pos c5] at H
    have LMc5 := Aside0.mk c5
    clear c5
    obtain ⟨y108, hy108⟩ : ∃ y_ : List (S71), y_ = (y105 ++ [(⟨wrap64 ((y105.length : Int) + 1), 0, a1_1, a1_2, a1_2, 0, 0, a1_3⟩ : S71)]) := ⟨_, rfl⟩
    replace H : ((spec_l20Good.f k y108).bind fun t111 => (some (y108, t111))) = some (r1, r2) := by first | (rw [hy108]; with_reducible exact H) | (have H2_ := (Option.bind_some _ _).symm.trans H; rw [hy108]; with_reducible exact H2_) | (have H2_ := (Option.bind_some _ _).symm.trans H; with_reducible exact H2_) | with_reducible exact H | (rw [hy108]; exact H) | exact H
    have Ny108 := Aside0.mk hy108
    clear hy108
    replace H := Option.bind_eq_some_iff.mp H
    obtain ⟨t111, A60, H⟩ := H
    replace H : (some (y108, t111)) = some (r1, r2) := H
    have A6 := Aside0.mk A60
    clear A60
    simp only [Option.some.injEq, Prod.mk.injEq] at H
    obtain ⟨rfl, rfl⟩ := H
    go_enter Try.func102, Try.ntmps102
    go_wp2_with (first | ((with_reducible refine gate_dst (N := 3) rfl ?_); refine box_event ?hg (N := 3) ?hd (cs := #[.int .i64 a1_0, .int .i64 a1_1, .int .i64 a1_2, .string a1_3]) (t := 61) ?hr ?_; (case hd => rfl); (case hg => rfl); (case hr => first | (go_simp; done) | (go_simp; rfl)); intro gb101 hg w7 hbox hb; have n0_ := Aside0.mk (below_step (pH_ HB.out) hb); have n1_ := Aside0.mk (hbox); have n2_ := Aside0.mk ((by rw [hg]; exact (below_size (pH_ HB.out)) : w.heap.size ≤ gb101)); have n3_ := Aside0.mk ((by rw [hg]; exact (below_size (pH_ HB.out)) : w.heap.size ≤ gb101)); clear HB; have HB := n0_; have BK101 := n1_; have GW101 := n2_; have GE101 := n3_; clear n0_ n1_ n2_ n3_; clear hb hbox hg) | ((with_reducible refine gate_dst (N := 8) rfl ?_); refine Kd.R_lit k71 _ 71 ?hg (N := 8) ?hd (xs := ([] : List (S71))) (inner := []) (ok := fun _ => True) (okp := fun _ => True) ?hr ?hp (fun _ hk => hk) trivial (Below.refl _ _) (Nat.le_refl _) (by simp) ?_; (case hd => rfl); (case hg => rfl); (case hr => first | (go_simp; done) | (go_simp; rfl)); (case hp => exact (Reps.none _ _)); intro v103 w8 ho9 hb hg_ hnew_; clear hg_ hnew_; (first | rw [← Ny102.out] at ho9 | (simp only [Int.reduceToNat] at ho9; rw [← Ny102.out] at ho9)); have n0_ := Aside0.mk (Kd.R_lower ho9 (below_size (pH_ HB.out))); have n1_ := Aside0.mk (blk_below (g := gb101) (o := .cells #[.int .i64 a1_0, .int .i64 a1_1, .int .i64 a1_2, .string a1_3] 61 (0, 0)) (pB_ BK101.out) hb); have n2_ := Aside0.mk (below_step (pH_ HB.out) hb); clear BK101; clear HB; have HO104 := n0_; have BK101 := n1_; have HB := n2_; clear n0_ n1_ n2_; clear hb ho9) | ((with_reducible refine gate_builtin (b := .append) (xs := #[.tmp 8, .tmp 9]) rfl ?_); at_builtin; refine Kd.R_append_rows k71 (w0 := w) w.heap.size rfl (.tmp 8) (.tmp 9) 47 71 (.agg #[(.int .i64 0), (.int .i64 0), (.int .i64 0), (.int .i64 0), (.int .i64 0), (.int .i64 0), (.int .i64 0), (.string ⟨#[]⟩)]) 72 rfl Try.underlying47 info71 rfl (by decide) (by omega) v103 y102 l0 _ _ _ (fun _ => True) (fun _ => False) rfl rfl ?aO ?aR (fun _ _ h => h) (fun _ h => h.elim) ?aF ?aB ?aS ?aL ?_; (case aR => repeat (first | exact (Kd.C_below HR0.out HB.out) | (with_reducible refine Kd.C_alloc ?_ _) | (with_reducible refine Kd.C_drewN ?_ _) | (with_reducible refine Kd.C_drew ?_))); (case aB => exact (pH_ HB.out)); (case aF => exact (fun _ _ => trivial)); (case aO => exact (pR_ HO104.out)); (case aS => exact (below_size (pH_ HB.out))); (case aL => have := LMc3.out; omega); intro v106 w10 ho hb hg hat; rw [← Ny105.out] at ho; have n0_ := Aside0.mk (blk_grown (g := gb101) (o := .cells #[.int .i64 a1_0, .int .i64 a1_1, .int .i64 a1_2, .string a1_3] 61 (0, 0)) (pB_ BK101.out) hg (Kd.R_ne HO104.out BK101.out (by decide))); have n1_ := Aside0.mk (hb); have n2_ := Aside0.mk (ho); clear BK101; clear HB; clear HO104; have BK101 := n0_; have HB := n1_; have HO107 := n2_; clear n0_ n1_ n2_; clear ho hb hg hat; have hcz11_0 := cz_ BK101.out 0 _ rfl; have hcz11_1 := cz_ BK101.out 1 _ rfl; have hcz11_2 := cz_ BK101.out 2 _ rfl; have hcz11_3 := cz_ BK101.out 3 _ rfl; have hfz11_0 := blk_frozen BK101.out 0; have hfz11_1 := blk_frozen BK101.out 1; have hfz11_2 := blk_frozen BK101.out 2; have hfz11_3 := blk_frozen BK101.out 3; obtain ⟨Ao12, co12, eo12⟩ := Kd.R_slice HO107.out; subst eo12) | ((with_reducible refine gate_builtin (b := .append) (xs := #[.tmp 14, .tmp 27]) rfl ?_); at_builtin; refine Kd.R_append k71 (w0 := w) w.heap.size rfl (.tmp 14) (.tmp 27) 47 71 (.agg #[(.int .i64 0), (.int .i64 0), (.int .i64 0), (.int .i64 0), (.int .i64 0), (.int .i64 0), (.int .i64 0), (.string ⟨#[]⟩)]) 72 rfl Try.underlying47 info71 rfl (by decide) (by omega) (.slice Ao12 y105.length co12) y105 (⟨wrap64 ((y105.length : Int) + 1), 0, a1_1, a1_2, a1_2, 0, 0, a1_3⟩ : S71) [.int .i64 (wrap64 ((y105.length : Int) + 1)), .int .i64 0, .int .i64 a1_1, .int .i64 a1_2, .int .i64 a1_2, .int .i64 0, .int .i64 0, .string a1_3] (fun _ => True) (fun _ => False) rfl rfl ?aP (fun _ hk => hk.elim) ?aF ?aO ?aB ?aS ?aL ?_; (case aP => exact k71_mkM _ _ _ (⟨wrap64 ((y105.length : Int) + 1), 0, a1_1, a1_2, a1_2, 0, 0, a1_3⟩ : S71)); (case aB => exact (pH_ HB.out)); (case aF => exact (fun _ _ => trivial)); (case aO => exact (pR_ HO107.out)); (case aS => exact (below_size (pH_ HB.out))); (case aL => have := LMc5.out; omega); intro v109 w13 ho hb hg hat; rw [← Ny108.out] at ho; have n0_ := Aside0.mk (blk_grown (g := gb101) (o := .cells #[.int .i64 a1_0, .int .i64 a1_1, .int .i64 a1_2, .string a1_3] 61 (0, 0)) (pB_ BK101.out) hg (Kd.R_ne HO107.out BK101.out (by decide))); have n1_ := Aside0.mk (hb); have n2_ := Aside0.mk (ho); clear BK101; clear HB; clear HO107; have BK101 := n0_; have HB := n1_; have HO110 := n2_; clear n0_ n1_ n2_; clear ho hb hg hat; obtain ⟨Ao14, co14, eo14⟩ := Kd.R_slice HO110.out; subst eo14) | ((with_reducible refine gate_callee (f := 85) rfl ?_); refine goesL_ (some 31) rfl rfl Try.func85 (by kernel_rfl) rfl #[.slice Ao14 y108.length co14] rfl (by (try simp only [List.map_toArray, List.map_cons, List.map_nil]); first | done | rfl | (simp only [List.length_drop, List.length_take]; rfl)) ?_; (with_reducible refine (spec_l20Good.calls k _ _ y108 t111 _ ?side1 ?side2 A6.out).mono ?_); (case side1 => repeat (first | exact (Kd.R_reads' HO110.out).2.2 | (with_reducible refine Kd.C_alloc ?_ _) | (with_reducible refine Kd.C_drewN ?_ _) | (with_reducible refine Kd.C_drew ?_))); (case side2 => exact (Kd.R_reads' HO110.out).2.1); rintro e w15 ⟨rfl, hb⟩; refine ⟨_, rfl, ?_⟩; have n0_ := Aside0.mk (Kd.R_below (pR_ HO110.out) hb); have n1_ := Aside0.mk (blk_below (g := gb101) (o := .cells #[.int .i64 a1_0, .int .i64 a1_1, .int .i64 a1_2, .string a1_3] 61 (0, 0)) (pB_ BK101.out) hb); have n2_ := Aside0.mk (below_step (pH_ HB.out) hb); clear HO110; clear BK101; clear HB; have HO110 := n0_; have BK101 := n1_; have HB := n2_; clear n0_ n1_ n2_; (try clear hb); (try clear hb2); (try clear hk); (try clear hi)))
    go_ret2
    exact ⟨_, by first | rfl | (simp [errW_none, errW_some] <;> rfl) | (simp [*, errW_none, errW_some] <;> rfl), by (with_reducible repeat (first | apply Kd.R_alloc | apply Kd.R_drewN | apply Kd.R_drew)); exact HO110.out, by repeat (first | (with_reducible first | exact HB.out | apply below_alloc | apply pw_below_drewN | apply below_drew1 | refine below_set ?_ GE101.out) | exact HB.out)⟩
   rw [if_neg c5] at H
   exact absurd H (by simp)
  rw [if_neg c4] at H
  have c4b0 : (a1_0 == 1) = false := beq_eq_false_iff_ne.mpr c4
  have c4b1 : (a1_0 != 1) = true := bne_iff_ne.mpr c4
  replace H := Option.bind_eq_some_iff.mp H
  obtain ⟨t112, A160, H⟩ := H
  replace H : (if t112 = true then (if 0 ≤ (wrap64 (a1_1 - 1)) then (if (wrap64 (a1_1 - 1)) < (y105.length : Int) then (if a1_0 = 2 then (spec_l20Step.j0 k y105 (a1_2 == 0) a1_0 a1_1 a1_2 a1_3 ((rd_T71 y105 (wrap64 (a1_1 - 1))).f0) ((rd_T71 y105 (wrap64 (a1_1 - 1))).f1) ((rd_T71 y105 (wrap64 (a1_1 - 1))).f2) ((rd_T71 y105 (wrap64 (a1_1 - 1))).f3) ((rd_T71 y105 (wrap64 (a1_1 - 1))).f4) ((rd_T71 y105 (wrap64 (a1_1 - 1))).f5) ((rd_T71 y105 (wrap64 (a1_1 - 1))).f6) ((rd_T71 y105 (wrap64 (a1_1 - 1))).f7)) else (spec_l20Step.j0 k y105 false a1_0 a1_1 a1_2 a1_3 ((rd_T71 y105 (wrap64 (a1_1 - 1))).f0) ((rd_T71 y105 (wrap64 (a1_1 - 1))).f1) ((rd_T71 y105 (wrap64 (a1_1 - 1))).f2) ((rd_T71 y105 (wrap64 (a1_1 - 1))).f3) ((rd_T71 y105 (wrap64 (a1_1 - 1))).f4) ((rd_T71 y105 (wrap64 (a1_1 - 1))).f5) ((rd_T71 y105 (wrap64 (a1_1 - 1))).f6) ((rd_T71 y105 (wrap64 (a1_1 - 1))).f7))) else (none)) else (none)) else (some (y105, false))) = some (r1, r2) := H
  have A16 := Aside0.mk A160
  clear A160
  by_cases c17 : t112 = true
  ·subst c17
   have H1 : (if 0 ≤ (wrap64 (a1_1 - 1)) then (if (wrap64 (a1_1 - 1)) < (y105.length : Int) then (if a1_0 = 2 then (spec_l20Step.j0 k y105 (a1_2 == 0) a1_0 a1_1 a1_2 a1_3 ((rd_T71 y105 (wrap64 (a1_1 - 1))).f0) ((rd_T71 y105 (wrap64 (a1_1 - 1))).f1) ((rd_T71 y105 (wrap64 (a1_1 - 1))).f2) ((rd_T71 y105 (wrap64 (a1_1 - 1))).f3) ((rd_T71 y105 (wrap64 (a1_1 - 1))).f4) ((rd_T71 y105 (wrap64 (a1_1 - 1))).f5) ((rd_T71 y105 (wrap64 (a1_1 - 1))).f6) ((rd_T71 y105 (wrap64 (a1_1 - 1))).f7)) else (spec_l20Step.j0 k y105 false a1_0 a1_1 a1_2 a1_3 ((rd_T71 y105 (wrap64 (a1_1 - 1))).f0) ((rd_T71 y105 (wrap64 (a1_1 - 1))).f1) ((rd_T71 y105 (wrap64 (a1_1 - 1))).f2) ((rd_T71 y105 (wrap64 (a1_1 - 1))).f3) ((rd_T71 y105 (wrap64 (a1_1 - 1))).f4) ((rd_T71 y105 (wrap64 (a1_1 - 1))).f5) ((rd_T71 y105 (wrap64 (a1_1 - 1))).f6) ((rd_T71 y105 (wrap64 (a1_1 - 1))).f7))) else (none)) else (none)) = some (r1, r2) := by rw [if_pos rfl] at H; exact H
   clear H
   have H := H1
   clear H1
   obtain ⟨ji18, hji18⟩ : ∃ j_ : Int, (wrap64 (a1_1 - 1)) = j_ := ⟨_, rfl⟩
   replace H : (if 0 ≤ (ji18) then (if (ji18) < (y105.length : Int) then (if a1_0 = 2 then (spec_l20Step.j0 k y105 (a1_2 == 0) a1_0 a1_1 a1_2 a1_3 ((rd_T71 y105 (ji18)).f0) ((rd_T71 y105 (ji18)).f1) ((rd_T71 y105 (ji18)).f2) ((rd_T71 y105 (ji18)).f3) ((rd_T71 y105 (ji18)).f4) ((rd_T71 y105 (ji18)).f5) ((rd_T71 y105 (ji18)).f6) ((rd_T71 y105 (ji18)).f7)) else (spec_l20Step.j0 k y105 false a1_0 a1_1 a1_2 a1_3 ((rd_T71 y105 (ji18)).f0) ((rd_T71 y105 (ji18)).f1) ((rd_T71 y105 (ji18)).f2) ((rd_T71 y105 (ji18)).f3) ((rd_T71 y105 (ji18)).f4) ((rd_T71 y105 (ji18)).f5) ((rd_T71 y105 (ji18)).f6) ((rd_T71 y105 (ji18)).f7))) else (none)) else (none)) = some (r1, r2) := by first | (rw [hji18] at H; exact H) | (simp only [hji18] at H ⊢; exact H)
   (try rw [hji18] at A16)
   have hji18w : (IntKind.i64.wrap (a1_1 - 1)) = ji18 := (i64_w _).trans hji18
   by_cases c19 : 0 ≤ (ji18)
   ·rw [if_pos c19] at H
    have c19b0 : decide (0 ≤ (ji18)) = true := decide_eq_true c19
    clear c19
    by_cases c20 : (ji18) < (y105.length : Int)
    ·rw [if_pos c20] at H
     have c20b0 : decide ((ji18) < (y105.length : Int)) = true := decide_eq_true c20
     clear c20
     have HC21 := Aside0.mk H
     clear H
     go_enter Try.func102, Try.ntmps102
     go_upto_region 9 with (first | ((with_reducible refine gate_dst (N := 3) rfl ?_); refine box_event ?hg (N := 3) ?hd (cs := #[.int .i64 a1_0, .int .i64 a1_1, .int .i64 a1_2, .string a1_3]) (t := 61) ?hr ?_; (case hd => rfl); (case hg => rfl); (case hr => first | (go_simp; done) | (go_simp; rfl)); intro gb101 hg w22 hbox hb; have n0_ := Aside0.mk (below_step (pH_ HB.out) hb); have n1_ := Aside0.mk (hbox); have n2_ := Aside0.mk ((by rw [hg]; exact (below_size (pH_ HB.out)) : w.heap.size ≤ gb101)); have n3_ := Aside0.mk ((by rw [hg]; exact (below_size (pH_ HB.out)) : w.heap.size ≤ gb101)); clear HB; have HB := n0_; have BK101 := n1_; have GW101 := n2_; have GE101 := n3_; clear n0_ n1_ n2_ n3_; clear hb hbox hg) | ((with_reducible refine gate_dst (N := 8) rfl ?_); refine Kd.R_lit k71 _ 71 ?hg (N := 8) ?hd (xs := ([] : List (S71))) (inner := []) (ok := fun _ => True) (okp := fun _ => True) ?hr ?hp (fun _ hk => hk) trivial (Below.refl _ _) (Nat.le_refl _) (by simp) ?_; (case hd => rfl); (case hg => rfl); (case hr => first | (go_simp; done) | (go_simp; rfl)); (case hp => exact (Reps.none _ _)); intro v103 w23 ho24 hb hg_ hnew_; clear hg_ hnew_; (first | rw [← Ny102.out] at ho24 | (simp only [Int.reduceToNat] at ho24; rw [← Ny102.out] at ho24)); have n0_ := Aside0.mk (Kd.R_lower ho24 (below_size (pH_ HB.out))); have n1_ := Aside0.mk (blk_below (g := gb101) (o := .cells #[.int .i64 a1_0, .int .i64 a1_1, .int .i64 a1_2, .string a1_3] 61 (0, 0)) (pB_ BK101.out) hb); have n2_ := Aside0.mk (below_step (pH_ HB.out) hb); clear BK101; clear HB; have HO104 := n0_; have BK101 := n1_; have HB := n2_; clear n0_ n1_ n2_; clear hb ho24) | ((with_reducible refine gate_builtin (b := .append) (xs := #[.tmp 8, .tmp 9]) rfl ?_); at_builtin; refine Kd.R_append_rows k71 (w0 := w) w.heap.size rfl (.tmp 8) (.tmp 9) 47 71 (.agg #[(.int .i64 0), (.int .i64 0), (.int .i64 0), (.int .i64 0), (.int .i64 0), (.int .i64 0), (.int .i64 0), (.string ⟨#[]⟩)]) 72 rfl Try.underlying47 info71 rfl (by decide) (by omega) v103 y102 l0 _ _ _ (fun _ => True) (fun _ => False) rfl rfl ?aO ?aR (fun _ _ h => h) (fun _ h => h.elim) ?aF ?aB ?aS ?aL ?_; (case aR => repeat (first | exact (Kd.C_below HR0.out HB.out) | (with_reducible refine Kd.C_alloc ?_ _) | (with_reducible refine Kd.C_drewN ?_ _) | (with_reducible refine Kd.C_drew ?_))); (case aB => exact (pH_ HB.out)); (case aF => exact (fun _ _ => trivial)); (case aO => exact (pR_ HO104.out)); (case aS => exact (below_size (pH_ HB.out))); (case aL => have := LMc3.out; omega); intro v106 w25 ho hb hg hat; rw [← Ny105.out] at ho; have n0_ := Aside0.mk (blk_grown (g := gb101) (o := .cells #[.int .i64 a1_0, .int .i64 a1_1, .int .i64 a1_2, .string a1_3] 61 (0, 0)) (pB_ BK101.out) hg (Kd.R_ne HO104.out BK101.out (by decide))); have n1_ := Aside0.mk (hb); have n2_ := Aside0.mk (ho); clear BK101; clear HB; clear HO104; have BK101 := n0_; have HB := n1_; have HO107 := n2_; clear n0_ n1_ n2_; clear ho hb hg hat; have hcz26_0 := cz_ BK101.out 0 _ rfl; have hcz26_1 := cz_ BK101.out 1 _ rfl; have hcz26_2 := cz_ BK101.out 2 _ rfl; have hcz26_3 := cz_ BK101.out 3 _ rfl; have hfz26_0 := blk_frozen BK101.out 0; have hfz26_1 := blk_frozen BK101.out 1; have hfz26_2 := blk_frozen BK101.out 2; have hfz26_3 := blk_frozen BK101.out 3; obtain ⟨Ao27, co27, eo27⟩ := Kd.R_slice HO107.out; subst eo27) | ((with_reducible refine gate_callee (f := 70) rfl ?_); refine goesL_ (some 36) rfl rfl Try.func70 (by kernel_rfl) rfl #[.int .i64 a1_1, .int .i64 1, .int .i64 (y105.length : Int)] rfl (by (try simp only [List.map_toArray, List.map_cons, List.map_nil]); first | done | rfl | (simp only [List.length_drop, List.length_take]; rfl)) ?_; (with_reducible refine (spec_l1In.calls a1_1 1 (y105.length : Int) true _ A16.out).mono ?_); rintro e w' ⟨rfl, ⟨nd, rfl⟩⟩; refine ⟨_, rfl, ?_⟩; (try (rw [drewN_self w25]; generalize hq_ : World.drewN w25 _ = w25; have n0_ : Aside0 (Kd.R k71 71 w25 w.heap.size (fun _ => True) (.slice Ao27 y105.length co27) y105) := ⟨by rw [← hq_]; exact (pR_ HO107.out)⟩; have n1_ : Aside0 (w25.heap[gb101]? = some (.cells #[.int .i64 a1_0, .int .i64 a1_1, .int .i64 a1_2, .string a1_3] 61 (0, 0))) := ⟨by rw [← hq_]; exact (pB_ BK101.out)⟩; have n2_ : Aside0 (Below w.heap.size w w25) := ⟨by rw [← hq_]; exact (pH_ HB.out)⟩; clear HO107 BK101 HB hq_; have HO107 := n0_; have BK101 := n1_; have HB := n2_; clear n0_ n1_ n2_)); have hcz28_0 := cz_ BK101.out 0 _ rfl; have hcz28_1 := cz_ BK101.out 1 _ rfl; have hcz28_2 := cz_ BK101.out 2 _ rfl; have hcz28_3 := cz_ BK101.out 3 _ rfl; have hfz28_0 := blk_frozen BK101.out 0; have hfz28_1 := blk_frozen BK101.out 1; have hfz28_2 := blk_frozen BK101.out 2; have hfz28_3 := blk_frozen BK101.out 3; have p113 : 0 ≤ ((ji18) : Int) := of_decide_eq_true (by first | (with_reducible assumption) | assumption); have q113 : (ji18) < (y105.length : Int) := of_decide_eq_true (by first | (with_reducible assumption) | assumption); obtain ⟨ad113, e113, hx113_0, hx113_1, hx113_2, hx113_3, hx113_4, hx113_5, hx113_6, hx113_7⟩ := at_T71 (Kd.R_reads' HO107.out).2.2 (ji18) p113 q113; cases e113; replace p113 := eq_true p113; replace q113 := eq_true q113) | ((with_reducible refine gate_dst (N := 7) rfl ?_); refine box_event ?hg (N := 7) ?hd (cs := #[.int .i64 0, .int .i64 0, .int .i64 0, .int .i64 0, .int .i64 0, .int .i64 0, .int .i64 0, .string (⟨#[]⟩ : ByteArray)]) (t := 71) ?hr ?_; (case hd => rfl); (case hg => rfl); (case hr => first | (go_simp; done) | (go_simp; rfl)); intro gb114 hg w29 hbox hb; have n0_ := Aside0.mk (Kd.R_below (Kd.R_elderB (pR_ HO107.out) gb114 (Nat.le_of_eq hg.symm)) hb); have n1_ := Aside0.mk (blk_below (g := gb101) (o := .cells #[.int .i64 a1_0, .int .i64 a1_1, .int .i64 a1_2, .string a1_3] 61 (0, 0)) (pB_ BK101.out) hb); have n2_ := Aside0.mk (below_step (pH_ HB.out) hb); have n3_ := Aside0.mk (hbox); have n4_ := Aside0.mk ((by rw [hg]; exact (below_size (pH_ HB.out)) : w.heap.size ≤ gb114)); have n5_ := Aside0.mk ((by rw [hg]; exact (below_size (pH_ HB.out)) : w.heap.size ≤ gb114)); have n6_ := Aside0.mk ((by rw [hg]; exact Nat.ne_of_lt (blk_lt (g := gb101) (o := .cells #[.int .i64 a1_0, .int .i64 a1_1, .int .i64 a1_2, .string a1_3] 61 (0, 0)) (pB_ BK101.out)) : gb101 ≠ gb114)); have n7_ := Aside0.mk ((by rw [hg]; exact Nat.ne_of_gt (blk_lt (g := gb101) (o := .cells #[.int .i64 a1_0, .int .i64 a1_1, .int .i64 a1_2, .string a1_3] 61 (0, 0)) (pB_ BK101.out)) : gb114 ≠ gb101)); clear HO107; clear BK101; clear HB; have HO107 := n0_; have BK101 := n1_; have HB := n2_; have BK114 := n3_; have GW114 := n4_; have GE114 := n5_; have NB101_114 := n6_; have NB114_101 := n7_; clear n0_ n1_ n2_ n3_ n4_ n5_ n6_ n7_; clear hb hbox hg; have hnb30 := NB114_101.out; have hnc30 := NB101_114.out; have hcz31_0 := cz_ BK114.out 0 _ rfl; have hcz31_1 := cz_ BK114.out 1 _ rfl; have hcz31_2 := cz_ BK114.out 2 _ rfl; have hcz31_3 := cz_ BK114.out 3 _ rfl; have hcz31_4 := cz_ BK114.out 4 _ rfl; have hcz31_5 := cz_ BK114.out 5 _ rfl; have hcz31_6 := cz_ BK114.out 6 _ rfl; have hcz31_7 := cz_ BK114.out 7 _ rfl; have hfz31_0 := blk_frozen BK114.out 0; have hfz31_1 := blk_frozen BK114.out 1; have hfz31_2 := blk_frozen BK114.out 2; have hfz31_3 := blk_frozen BK114.out 3; have hfz31_4 := blk_frozen BK114.out 4; have hfz31_5 := blk_frozen BK114.out 5; have hfz31_6 := blk_frozen BK114.out 6; have hfz31_7 := blk_frozen BK114.out 7))
     (try simp only [Act.put, List.setIfInBounds_toArray, List.set_cons_zero, List.set_cons_succ])
     go_cut [46] (fun v46 wc => ∃ (kq : Nat) (x46_20 : Bool), v46 = .bool x46_20 ∧ Aside0 (spec_l20Step.j0 kq y105 x46_20 a1_0 a1_1 a1_2 a1_3 ((rd_T71 y105 (ji18)).f0) ((rd_T71 y105 (ji18)).f1) ((rd_T71 y105 (ji18)).f2) ((rd_T71 y105 (ji18)).f3) ((rd_T71 y105 (ji18)).f4) ((rd_T71 y105 (ji18)).f5) ((rd_T71 y105 (ji18)).f6) ((rd_T71 y105 (ji18)).f7) = some (r1, r2)) ∧ Aside0 (kq ≤ k) ∧ Aside0 (Kd.R k71 71 wc w.heap.size (fun k_ => k_ ≠ gb114) (.slice (some ad113) y105.length co27) y105) ∧ Aside0 (wc.heap[gb101]? = some (.cells #[.int .i64 a1_0, .int .i64 a1_1, .int .i64 a1_2, .string a1_3] 61 (0, 0))) ∧ Aside0 (wc.heap[gb114]? = some (.cells #[.int .i64 ((rd_T71 y105 (ji18)).f0), .int .i64 ((rd_T71 y105 (ji18)).f1), .int .i64 ((rd_T71 y105 (ji18)).f2), .int .i64 ((rd_T71 y105 (ji18)).f3), .int .i64 ((rd_T71 y105 (ji18)).f4), .int .i64 ((rd_T71 y105 (ji18)).f5), .int .i64 ((rd_T71 y105 (ji18)).f6), .string ((rd_T71 y105 (ji18)).f7)] 71 (0, 0))) ∧ Aside0 (Below w.heap.size w wc))
     case first =>
      have H := HC21.out
      clear HC21
      by_cases c32 : a1_0 = 2
      ·rw [if_pos c32] at H
       have c32b0 : (a1_0 == 2) = true := beq_iff_eq.mpr c32
       have c32b1 : (a1_0 != 2) = false := bne_eq_false_iff_eq.mpr c32
       clear c32
       (first | rw [c32b0] | (simp only [i64_w, i32_w]; rw [c32b0]) | skip)
       have H' := Aside0.mk H
       clear H
       have hnb33 := NB101_114.out
       have hnc33 := NB114_101.out
       have hcz34_0 := cz_ BK101.out 0 _ rfl
       have hcz34_1 := cz_ BK101.out 1 _ rfl
       have hcz34_2 := cz_ BK101.out 2 _ rfl
       have hcz34_3 := cz_ BK101.out 3 _ rfl
       have hfz34_0 := blk_frozen BK101.out 0
       have hfz34_1 := blk_frozen BK101.out 1
       have hfz34_2 := blk_frozen BK101.out 2
       have hfz34_3 := blk_frozen BK101.out 3
       go_wp2
       go_meet
       case rel => exact ⟨_, ((a1_2 == 0)), (by first | rfl | (simp; done) | (simp [*]; done) | (simp [beq_nil_, bne_nil_]; done)), H', ⟨by first | omega | exact Nat.le_refl _⟩, ⟨by (with_reducible repeat (first | apply Kd.R_alloc | apply Kd.R_drewN | apply Kd.R_drew)); exact Kd.R_mono (Kd.R_far (p := ⟨gb114, 7, none⟩) (Kd.R_far (p := ⟨gb114, 6, none⟩) (Kd.R_far (p := ⟨gb114, 5, none⟩) (Kd.R_far (p := ⟨gb114, 4, none⟩) (Kd.R_far (p := ⟨gb114, 3, none⟩) (Kd.R_far (p := ⟨gb114, 2, none⟩) (Kd.R_far (p := ⟨gb114, 1, none⟩) (Kd.R_far (p := ⟨gb114, 0, none⟩) (Kd.R_mono HO107.out (fun k_ hk => (⟨hk, hk.2⟩ : _ ∧ k_ ≠ gb114))) (fun _ hk => hk.2) (.int .i64 ((rd_T71 y105 (ji18)).f0))) (fun _ hk => hk.2) (.int .i64 ((rd_T71 y105 (ji18)).f1))) (fun _ hk => hk.2) (.int .i64 ((rd_T71 y105 (ji18)).f2))) (fun _ hk => hk.2) (.int .i64 ((rd_T71 y105 (ji18)).f3))) (fun _ hk => hk.2) (.int .i64 ((rd_T71 y105 (ji18)).f4))) (fun _ hk => hk.2) (.int .i64 ((rd_T71 y105 (ji18)).f5))) (fun _ hk => hk.2) (.int .i64 ((rd_T71 y105 (ji18)).f6))) (fun _ hk => hk.2) (.string ((rd_T71 y105 (ji18)).f7))) (fun _ hk => hk.1.2)⟩, ⟨by (with_reducible repeat (first | refine blk_drewN ?_ _ | refine blk_drew ?_ | refine blk_alloc ?_ _)); refine blk_far ?_ NB101_114.out _; (with_reducible repeat (first | refine blk_drewN ?_ _ | refine blk_drew ?_ | refine blk_alloc ?_ _)); refine blk_far ?_ NB101_114.out _; (with_reducible repeat (first | refine blk_drewN ?_ _ | refine blk_drew ?_ | refine blk_alloc ?_ _)); refine blk_far ?_ NB101_114.out _; (with_reducible repeat (first | refine blk_drewN ?_ _ | refine blk_drew ?_ | refine blk_alloc ?_ _)); refine blk_far ?_ NB101_114.out _; (with_reducible repeat (first | refine blk_drewN ?_ _ | refine blk_drew ?_ | refine blk_alloc ?_ _)); refine blk_far ?_ NB101_114.out _; (with_reducible repeat (first | refine blk_drewN ?_ _ | refine blk_drew ?_ | refine blk_alloc ?_ _)); refine blk_far ?_ NB101_114.out _; (with_reducible repeat (first | refine blk_drewN ?_ _ | refine blk_drew ?_ | refine blk_alloc ?_ _)); refine blk_far ?_ NB101_114.out _; (with_reducible repeat (first | refine blk_drewN ?_ _ | refine blk_drew ?_ | refine blk_alloc ?_ _)); refine blk_far ?_ NB101_114.out _; (with_reducible repeat (first | refine blk_drewN ?_ _ | refine blk_drew ?_ | refine blk_alloc ?_ _)); exact BK101.out⟩, ⟨by (with_reducible repeat (first | refine blk_drewN ?_ _ | refine blk_drew ?_ | refine blk_alloc ?_ _)); refine blk_put (cs := #[.int .i64 ((rd_T71 y105 (ji18)).f0), .int .i64 ((rd_T71 y105 (ji18)).f1), .int .i64 ((rd_T71 y105 (ji18)).f2), .int .i64 ((rd_T71 y105 (ji18)).f3), .int .i64 ((rd_T71 y105 (ji18)).f4), .int .i64 ((rd_T71 y105 (ji18)).f5), .int .i64 ((rd_T71 y105 (ji18)).f6), .string (⟨#[]⟩ : ByteArray)]) ?_ 7 _ rfl; (with_reducible repeat (first | refine blk_drewN ?_ _ | refine blk_drew ?_ | refine blk_alloc ?_ _)); refine blk_put (cs := #[.int .i64 ((rd_T71 y105 (ji18)).f0), .int .i64 ((rd_T71 y105 (ji18)).f1), .int .i64 ((rd_T71 y105 (ji18)).f2), .int .i64 ((rd_T71 y105 (ji18)).f3), .int .i64 ((rd_T71 y105 (ji18)).f4), .int .i64 ((rd_T71 y105 (ji18)).f5), .int .i64 0, .string (⟨#[]⟩ : ByteArray)]) ?_ 6 _ rfl; (with_reducible repeat (first | refine blk_drewN ?_ _ | refine blk_drew ?_ | refine blk_alloc ?_ _)); refine blk_put (cs := #[.int .i64 ((rd_T71 y105 (ji18)).f0), .int .i64 ((rd_T71 y105 (ji18)).f1), .int .i64 ((rd_T71 y105 (ji18)).f2), .int .i64 ((rd_T71 y105 (ji18)).f3), .int .i64 ((rd_T71 y105 (ji18)).f4), .int .i64 0, .int .i64 0, .string (⟨#[]⟩ : ByteArray)]) ?_ 5 _ rfl; (with_reducible repeat (first | refine blk_drewN ?_ _ | refine blk_drew ?_ | refine blk_alloc ?_ _)); refine blk_put (cs := #[.int .i64 ((rd_T71 y105 (ji18)).f0), .int .i64 ((rd_T71 y105 (ji18)).f1), .int .i64 ((rd_T71 y105 (ji18)).f2), .int .i64 ((rd_T71 y105 (ji18)).f3), .int .i64 0, .int .i64 0, .int .i64 0, .string (⟨#[]⟩ : ByteArray)]) ?_ 4 _ rfl; (with_reducible repeat (first | refine blk_drewN ?_ _ | refine blk_drew ?_ | refine blk_alloc ?_ _)); refine blk_put (cs := #[.int .i64 ((rd_T71 y105 (ji18)).f0), .int .i64 ((rd_T71 y105 (ji18)).f1), .int .i64 ((rd_T71 y105 (ji18)).f2), .int .i64 0, .int .i64 0, .int .i64 0, .int .i64 0, .string (⟨#[]⟩ : ByteArray)]) ?_ 3 _ rfl; (with_reducible repeat (first | refine blk_drewN ?_ _ | refine blk_drew ?_ | refine blk_alloc ?_ _)); refine blk_put (cs := #[.int .i64 ((rd_T71 y105 (ji18)).f0), .int .i64 ((rd_T71 y105 (ji18)).f1), .int .i64 0, .int .i64 0, .int .i64 0, .int .i64 0, .int .i64 0, .string (⟨#[]⟩ : ByteArray)]) ?_ 2 _ rfl; (with_reducible repeat (first | refine blk_drewN ?_ _ | refine blk_drew ?_ | refine blk_alloc ?_ _)); refine blk_put (cs := #[.int .i64 ((rd_T71 y105 (ji18)).f0), .int .i64 0, .int .i64 0, .int .i64 0, .int .i64 0, .int .i64 0, .int .i64 0, .string (⟨#[]⟩ : ByteArray)]) ?_ 1 _ rfl; (with_reducible repeat (first | refine blk_drewN ?_ _ | refine blk_drew ?_ | refine blk_alloc ?_ _)); refine blk_put (cs := #[.int .i64 0, .int .i64 0, .int .i64 0, .int .i64 0, .int .i64 0, .int .i64 0, .int .i64 0, .string (⟨#[]⟩ : ByteArray)]) ?_ 0 _ rfl; (with_reducible repeat (first | refine blk_drewN ?_ _ | refine blk_drew ?_ | refine blk_alloc ?_ _)); exact BK114.out⟩, ⟨by repeat (first | (with_reducible first | exact HB.out | apply below_alloc | apply pw_below_drewN | apply below_drew1 | refine below_set ?_ GE101.out | refine below_set ?_ GE114.out) | exact HB.out)⟩⟩
      rw [if_neg c32] at H
      have c32b0 : (a1_0 == 2) = false := beq_eq_false_iff_ne.mpr c32
      have c32b1 : (a1_0 != 2) = true := bne_iff_ne.mpr c32
      (first | rw [c32b0] | (simp only [i64_w, i32_w]; rw [c32b0]) | skip)
      have H' := Aside0.mk H
      clear H
      have hnb35 := NB101_114.out
      have hnc35 := NB114_101.out
      have hcz36_0 := cz_ BK101.out 0 _ rfl
      have hcz36_1 := cz_ BK101.out 1 _ rfl
      have hcz36_2 := cz_ BK101.out 2 _ rfl
      have hcz36_3 := cz_ BK101.out 3 _ rfl
      have hfz36_0 := blk_frozen BK101.out 0
      have hfz36_1 := blk_frozen BK101.out 1
      have hfz36_2 := blk_frozen BK101.out 2
      have hfz36_3 := blk_frozen BK101.out 3
      go_wp2
      go_meet
      case rel => exact ⟨_, (false), (by first | rfl | (simp; done) | (simp [*]; done) | (simp [beq_nil_, bne_nil_]; done)), H', ⟨by first | omega | exact Nat.le_refl _⟩, ⟨by (with_reducible repeat (first | apply Kd.R_alloc | apply Kd.R_drewN | apply Kd.R_drew)); exact Kd.R_mono (Kd.R_far (p := ⟨gb114, 7, none⟩) (Kd.R_far (p := ⟨gb114, 6, none⟩) (Kd.R_far (p := ⟨gb114, 5, none⟩) (Kd.R_far (p := ⟨gb114, 4, none⟩) (Kd.R_far (p := ⟨gb114, 3, none⟩) (Kd.R_far (p := ⟨gb114, 2, none⟩) (Kd.R_far (p := ⟨gb114, 1, none⟩) (Kd.R_far (p := ⟨gb114, 0, none⟩) (Kd.R_mono HO107.out (fun k_ hk => (⟨hk, hk.2⟩ : _ ∧ k_ ≠ gb114))) (fun _ hk => hk.2) (.int .i64 ((rd_T71 y105 (ji18)).f0))) (fun _ hk => hk.2) (.int .i64 ((rd_T71 y105 (ji18)).f1))) (fun _ hk => hk.2) (.int .i64 ((rd_T71 y105 (ji18)).f2))) (fun _ hk => hk.2) (.int .i64 ((rd_T71 y105 (ji18)).f3))) (fun _ hk => hk.2) (.int .i64 ((rd_T71 y105 (ji18)).f4))) (fun _ hk => hk.2) (.int .i64 ((rd_T71 y105 (ji18)).f5))) (fun _ hk => hk.2) (.int .i64 ((rd_T71 y105 (ji18)).f6))) (fun _ hk => hk.2) (.string ((rd_T71 y105 (ji18)).f7))) (fun _ hk => hk.1.2)⟩, ⟨by (with_reducible repeat (first | refine blk_drewN ?_ _ | refine blk_drew ?_ | refine blk_alloc ?_ _)); refine blk_far ?_ NB101_114.out _; (with_reducible repeat (first | refine blk_drewN ?_ _ | refine blk_drew ?_ | refine blk_alloc ?_ _)); refine blk_far ?_ NB101_114.out _; (with_reducible repeat (first | refine blk_drewN ?_ _ | refine blk_drew ?_ | refine blk_alloc ?_ _)); refine blk_far ?_ NB101_114.out _; (with_reducible repeat (first | refine blk_drewN ?_ _ | refine blk_drew ?_ | refine blk_alloc ?_ _)); refine blk_far ?_ NB101_114.out _; (with_reducible repeat (first | refine blk_drewN ?_ _ | refine blk_drew ?_ | refine blk_alloc ?_ _)); refine blk_far ?_ NB101_114.out _; (with_reducible repeat (first | refine blk_drewN ?_ _ | refine blk_drew ?_ | refine blk_alloc ?_ _)); refine blk_far ?_ NB101_114.out _; (with_reducible repeat (first | refine blk_drewN ?_ _ | refine blk_drew ?_ | refine blk_alloc ?_ _)); refine blk_far ?_ NB101_114.out _; (with_reducible repeat (first | refine blk_drewN ?_ _ | refine blk_drew ?_ | refine blk_alloc ?_ _)); refine blk_far ?_ NB101_114.out _; (with_reducible repeat (first | refine blk_drewN ?_ _ | refine blk_drew ?_ | refine blk_alloc ?_ _)); exact BK101.out⟩, ⟨by (with_reducible repeat (first | refine blk_drewN ?_ _ | refine blk_drew ?_ | refine blk_alloc ?_ _)); refine blk_put (cs := #[.int .i64 ((rd_T71 y105 (ji18)).f0), .int .i64 ((rd_T71 y105 (ji18)).f1), .int .i64 ((rd_T71 y105 (ji18)).f2), .int .i64 ((rd_T71 y105 (ji18)).f3), .int .i64 ((rd_T71 y105 (ji18)).f4), .int .i64 ((rd_T71 y105 (ji18)).f5), .int .i64 ((rd_T71 y105 (ji18)).f6), .string (⟨#[]⟩ : ByteArray)]) ?_ 7 _ rfl; (with_reducible repeat (first | refine blk_drewN ?_ _ | refine blk_drew ?_ | refine blk_alloc ?_ _)); refine blk_put (cs := #[.int .i64 ((rd_T71 y105 (ji18)).f0), .int .i64 ((rd_T71 y105 (ji18)).f1), .int .i64 ((rd_T71 y105 (ji18)).f2), .int .i64 ((rd_T71 y105 (ji18)).f3), .int .i64 ((rd_T71 y105 (ji18)).f4), .int .i64 ((rd_T71 y105 (ji18)).f5), .int .i64 0, .string (⟨#[]⟩ : ByteArray)]) ?_ 6 _ rfl; (with_reducible repeat (first | refine blk_drewN ?_ _ | refine blk_drew ?_ | refine blk_alloc ?_ _)); refine blk_put (cs := #[.int .i64 ((rd_T71 y105 (ji18)).f0), .int .i64 ((rd_T71 y105 (ji18)).f1), .int .i64 ((rd_T71 y105 (ji18)).f2), .int .i64 ((rd_T71 y105 (ji18)).f3), .int .i64 ((rd_T71 y105 (ji18)).f4), .int .i64 0, .int .i64 0, .string (⟨#[]⟩ : ByteArray)]) ?_ 5 _ rfl; (with_reducible repeat (first | refine blk_drewN ?_ _ | refine blk_drew ?_ | refine blk_alloc ?_ _)); refine blk_put (cs := #[.int .i64 ((rd_T71 y105 (ji18)).f0), .int .i64 ((rd_T71 y105 (ji18)).f1), .int .i64 ((rd_T71 y105 (ji18)).f2), .int .i64 ((rd_T71 y105 (ji18)).f3), .int .i64 0, .int .i64 0, .int .i64 0, .string (⟨#[]⟩ : ByteArray)]) ?_ 4 _ rfl; (with_reducible repeat (first | refine blk_drewN ?_ _ | refine blk_drew ?_ | refine blk_alloc ?_ _)); refine blk_put (cs := #[.int .i64 ((rd_T71 y105 (ji18)).f0), .int .i64 ((rd_T71 y105 (ji18)).f1), .int .i64 ((rd_T71 y105 (ji18)).f2), .int .i64 0, .int .i64 0, .int .i64 0, .int .i64 0, .string (⟨#[]⟩ : ByteArray)]) ?_ 3 _ rfl; (with_reducible repeat (first | refine blk_drewN ?_ _ | refine blk_drew ?_ | refine blk_alloc ?_ _)); refine blk_put (cs := #[.int .i64 ((rd_T71 y105 (ji18)).f0), .int .i64 ((rd_T71 y105 (ji18)).f1), .int .i64 0, .int .i64 0, .int .i64 0, .int .i64 0, .int .i64 0, .string (⟨#[]⟩ : ByteArray)]) ?_ 2 _ rfl; (with_reducible repeat (first | refine blk_drewN ?_ _ | refine blk_drew ?_ | refine blk_alloc ?_ _)); refine blk_put (cs := #[.int .i64 ((rd_T71 y105 (ji18)).f0), .int .i64 0, .int .i64 0, .int .i64 0, .int .i64 0, .int .i64 0, .int .i64 0, .string (⟨#[]⟩ : ByteArray)]) ?_ 1 _ rfl; (with_reducible repeat (first | refine blk_drewN ?_ _ | refine blk_drew ?_ | refine blk_alloc ?_ _)); refine blk_put (cs := #[.int .i64 0, .int .i64 0, .int .i64 0, .int .i64 0, .int .i64 0, .int .i64 0, .int .i64 0, .string (⟨#[]⟩ : ByteArray)]) ?_ 0 _ rfl; (with_reducible repeat (first | refine blk_drewN ?_ _ | refine blk_drew ?_ | refine blk_alloc ?_ _)); exact BK114.out⟩, ⟨by repeat (first | (with_reducible first | exact HB.out | apply below_alloc | apply pw_below_drewN | apply below_drew1 | refine below_set ?_ GE101.out | refine below_set ?_ GE114.out) | exact HB.out)⟩⟩
     case rest =>
      clear HC21
      try clear c1
      try clear p1
      try clear q1
      try clear hx1
      try clear c2
      try clear p2
      try clear c3
      try clear c4
      try clear c4b0
      try clear c4b1
      try clear c5
      try clear p6
      try clear c7
      try clear c8
      try clear c10
      try clear p11
      try clear q11
      try clear hx11
      try clear c17
      try clear c19
      try clear c19b0
      try clear c20
      try clear c20b0
      try clear c30
      try clear c32
      try clear c32b0
      try clear c32b1
      try clear c33
      try clear c35
      try clear hcz11_0
      try clear hcz11_1
      try clear hcz11_2
      try clear hcz11_3
      try clear hcz26_0
      try clear hcz26_1
      try clear hcz26_2
      try clear hcz26_3
      try clear hcz28_0
      try clear hcz28_1
      try clear hcz28_2
      try clear hcz28_3
      try clear hcz31_0
      try clear hcz31_1
      try clear hcz31_2
      try clear hcz31_3
      try clear hcz31_4
      try clear hcz31_5
      try clear hcz31_6
      try clear hcz31_7
      try clear hcz34_0
      try clear hcz34_1
      try clear hcz34_2
      try clear hcz34_3
      try clear hcz36_0
      try clear hcz36_1
      try clear hcz36_2
      try clear hcz36_3
      try clear hfz11_0
      try clear hfz11_1
      try clear hfz11_2
      try clear hfz11_3
      try clear hfz26_0
      try clear hfz26_1
      try clear hfz26_2
      try clear hfz26_3
      try clear hfz28_0
      try clear hfz28_1
      try clear hfz28_2
      try clear hfz28_3
      try clear hfz31_0
      try clear hfz31_1
      try clear hfz31_2
      try clear hfz31_3
      try clear hfz31_4
      try clear hfz31_5
      try clear hfz31_6
      try clear hfz31_7
      try clear hfz34_0
      try clear hfz34_1
      try clear hfz34_2
      try clear hfz34_3
      try clear hfz36_0
      try clear hfz36_1
      try clear hfz36_2
      try clear hfz36_3
      try clear hx113_0
      try clear hx113_1
      try clear hx113_2
      try clear hx113_3
      try clear hx113_4
      try clear hx113_5
      try clear hx113_6
      try clear hx113_7
      try clear p113
      try clear q113
      obtain ⟨kq, x46_20, rfl, HA, HJ20, HO_6, BK101, BK114, HB⟩ := hcut
      cases kq with
      | zero => exact absurd HA.out (by simp [spec_l20Step.j0])
      | succ kj20 =>
       have H := HA.out
       clear HA
       simp only [spec_l20Step.j0] at H
       by_cases c37 : x46_20 = true
       ·subst c37
        have H1 : (if 0 ≤ (wrap64 (a1_1 - 1)) then (if (wrap64 (a1_1 - 1)) < (y105.length : Int) then ((some (y105.set ((wrap64 (a1_1 - 1)) : Int).toNat (⟨((rd_T71 y105 (ji18)).f0), ((rd_T71 y105 (ji18)).f1), ((rd_T71 y105 (ji18)).f2), ((rd_T71 y105 (ji18)).f3), ((rd_T71 y105 (ji18)).f4), ((rd_T71 y105 (ji18)).f5), ((rd_T71 y105 (ji18)).f6), a1_3⟩ : S71) : List (S71))).bind fun y115 => ((spec_l20Good.f kj20 y115).bind fun t116 => (some (y115, t116)))) else (none)) else (none)) = some (r1, r2) := by rw [if_pos rfl] at H; exact H
        clear H
        have H := H1
        clear H1
        replace H : (if 0 ≤ (ji18) then (if (ji18) < (y105.length : Int) then ((some (y105.set ((ji18) : Int).toNat (⟨((rd_T71 y105 (ji18)).f0), ((rd_T71 y105 (ji18)).f1), ((rd_T71 y105 (ji18)).f2), ((rd_T71 y105 (ji18)).f3), ((rd_T71 y105 (ji18)).f4), ((rd_T71 y105 (ji18)).f5), ((rd_T71 y105 (ji18)).f6), a1_3⟩ : S71) : List (S71))).bind fun y115 => ((spec_l20Good.f kj20 y115).bind fun t116 => (some (y115, t116)))) else (none)) else (none)) = some (r1, r2) := by first | (rw [hji18] at H; exact H) | (simp only [hji18] at H ⊢; exact H)
        by_cases c38 : 0 ≤ (ji18)
        ·rw [if_pos c38] at H
         have c38b0 : decide (0 ≤ (ji18)) = true := decide_eq_true c38
         clear c38
         by_cases c39 : (ji18) < (y105.length : Int)
         ·rw [if_pos c39] at H
          have c39b0 : decide ((ji18) < (y105.length : Int)) = true := decide_eq_true c39
          clear c39
          obtain ⟨y115, hy115⟩ : ∃ y_ : List (S71), y_ = (y105.set ((ji18) : Int).toNat (⟨((rd_T71 y105 (ji18)).f0), ((rd_T71 y105 (ji18)).f1), ((rd_T71 y105 (ji18)).f2), ((rd_T71 y105 (ji18)).f3), ((rd_T71 y105 (ji18)).f4), ((rd_T71 y105 (ji18)).f5), ((rd_T71 y105 (ji18)).f6), a1_3⟩ : S71)) := ⟨_, rfl⟩
          replace H : ((spec_l20Good.f kj20 y115).bind fun t116 => (some (y115, t116))) = some (r1, r2) := by first | (rw [hy115]; with_reducible exact H) | (have H2_ := (Option.bind_some _ _).symm.trans H; rw [hy115]; with_reducible exact H2_) | (have H2_ := (Option.bind_some _ _).symm.trans H; with_reducible exact H2_) | with_reducible exact H | (rw [hy115]; exact H) | exact H
          have Ny115 := Aside0.mk hy115
          clear hy115
          replace H := Option.bind_eq_some_iff.mp H
          obtain ⟨t116, A410, H⟩ := H
          replace H : (some (y115, t116)) = some (r1, r2) := H
          have A41 := Aside0.mk A410
          clear A410
          simp only [Option.some.injEq, Prod.mk.injEq] at H
          obtain ⟨rfl, rfl⟩ := H
          have hnb42 := NB101_114.out
          have hnc42 := NB114_101.out
          have hcz43_0 := cz_ BK101.out 0 _ rfl
          have hcz43_1 := cz_ BK101.out 1 _ rfl
          have hcz43_2 := cz_ BK101.out 2 _ rfl
          have hcz43_3 := cz_ BK101.out 3 _ rfl
          have hfz43_0 := blk_frozen BK101.out 0
          have hfz43_1 := blk_frozen BK101.out 1
          have hfz43_2 := blk_frozen BK101.out 2
          have hfz43_3 := blk_frozen BK101.out 3
          have hcz44_0 := cz_ BK114.out 0 _ rfl
          have hcz44_1 := cz_ BK114.out 1 _ rfl
          have hcz44_2 := cz_ BK114.out 2 _ rfl
          have hcz44_3 := cz_ BK114.out 3 _ rfl
          have hcz44_4 := cz_ BK114.out 4 _ rfl
          have hcz44_5 := cz_ BK114.out 5 _ rfl
          have hcz44_6 := cz_ BK114.out 6 _ rfl
          have hcz44_7 := cz_ BK114.out 7 _ rfl
          have hfz44_0 := blk_frozen BK114.out 0
          have hfz44_1 := blk_frozen BK114.out 1
          have hfz44_2 := blk_frozen BK114.out 2
          have hfz44_3 := blk_frozen BK114.out 3
          have hfz44_4 := blk_frozen BK114.out 4
          have hfz44_5 := blk_frozen BK114.out 5
          have hfz44_6 := blk_frozen BK114.out 6
          have hfz44_7 := blk_frozen BK114.out 7
          go_wp2_with (first | ((with_reducible refine gate_store (t := 9) (p := 57) rfl ?_); refine store_event (t := 9) (p := 57) (v := ?vo_w45) (w1 := (wc.setCell ⟨gb114, 7, none⟩ (.string a1_3))) ?hg ?ho ?hn ?hr ?_; (case ho => rfl); (case hg => rfl); (case hn => rfl); (case hr => first | (go_simp; done) | (go_simp; rfl)); intro w45 hw; have n0_ : Aside0 (Kd.R k71 71 w45 w.heap.size (fun k_ => k_ ≠ gb114) (.slice (some ad113) y105.length co27) y105) := ⟨(by rw [hw]; exact (by (with_reducible repeat (first | apply Kd.R_alloc | apply Kd.R_drewN | apply Kd.R_drew)); exact Kd.R_mono (Kd.R_far (p := ⟨gb114, 7, none⟩) (Kd.R_mono HO_6.out (fun k_ hk => (⟨hk, hk⟩ : _ ∧ k_ ≠ gb114))) (fun _ hk => hk.2) (.string a1_3)) (fun _ hk => hk.1)))⟩; have n1_ : Aside0 (w45.heap[gb101]? = some (.cells #[.int .i64 a1_0, .int .i64 a1_1, .int .i64 a1_2, .string a1_3] 61 (0, 0))) := ⟨(by rw [hw]; exact (by (with_reducible repeat (first | refine blk_drewN ?_ _ | refine blk_drew ?_ | refine blk_alloc ?_ _)); refine blk_far ?_ NB101_114.out _; (with_reducible repeat (first | refine blk_drewN ?_ _ | refine blk_drew ?_ | refine blk_alloc ?_ _)); exact BK101.out))⟩; have n2_ : Aside0 (w45.heap[gb114]? = some (.cells #[.int .i64 ((rd_T71 y105 (ji18)).f0), .int .i64 ((rd_T71 y105 (ji18)).f1), .int .i64 ((rd_T71 y105 (ji18)).f2), .int .i64 ((rd_T71 y105 (ji18)).f3), .int .i64 ((rd_T71 y105 (ji18)).f4), .int .i64 ((rd_T71 y105 (ji18)).f5), .int .i64 ((rd_T71 y105 (ji18)).f6), .string a1_3] 71 (0, 0))) := ⟨(by rw [hw]; exact (by (with_reducible repeat (first | refine blk_drewN ?_ _ | refine blk_drew ?_ | refine blk_alloc ?_ _)); refine blk_put (cs := #[.int .i64 ((rd_T71 y105 (ji18)).f0), .int .i64 ((rd_T71 y105 (ji18)).f1), .int .i64 ((rd_T71 y105 (ji18)).f2), .int .i64 ((rd_T71 y105 (ji18)).f3), .int .i64 ((rd_T71 y105 (ji18)).f4), .int .i64 ((rd_T71 y105 (ji18)).f5), .int .i64 ((rd_T71 y105 (ji18)).f6), .string ((rd_T71 y105 (ji18)).f7)]) ?_ 7 _ rfl; (with_reducible repeat (first | refine blk_drewN ?_ _ | refine blk_drew ?_ | refine blk_alloc ?_ _)); exact BK114.out))⟩; have n3_ : Aside0 (Below w.heap.size w w45) := ⟨(by rw [hw]; exact (pH_ HB.out))⟩; clear hw; clear HO_6; clear BK101; clear BK114; clear HB; have HO_6 := n0_; have BK101 := n1_; have BK114 := n2_; have HB := n3_; clear n0_ n1_ n2_ n3_; have hcz46_0 := cz_ BK101.out 0 _ rfl; have hcz46_1 := cz_ BK101.out 1 _ rfl; have hcz46_2 := cz_ BK101.out 2 _ rfl; have hcz46_3 := cz_ BK101.out 3 _ rfl; have hfz46_0 := blk_frozen BK101.out 0; have hfz46_1 := blk_frozen BK101.out 1; have hfz46_2 := blk_frozen BK101.out 2; have hfz46_3 := blk_frozen BK101.out 3; have hcz47_0 := cz_ BK114.out 0 _ rfl; have hcz47_1 := cz_ BK114.out 1 _ rfl; have hcz47_2 := cz_ BK114.out 2 _ rfl; have hcz47_3 := cz_ BK114.out 3 _ rfl; have hcz47_4 := cz_ BK114.out 4 _ rfl; have hcz47_5 := cz_ BK114.out 5 _ rfl; have hcz47_6 := cz_ BK114.out 6 _ rfl; have hcz47_7 := cz_ BK114.out 7 _ rfl; have hfz47_0 := blk_frozen BK114.out 0; have hfz47_1 := blk_frozen BK114.out 1; have hfz47_2 := blk_frozen BK114.out 2; have hfz47_3 := blk_frozen BK114.out 3; have hfz47_4 := blk_frozen BK114.out 4; have hfz47_5 := blk_frozen BK114.out 5; have hfz47_6 := blk_frozen BK114.out 6; have hfz47_7 := blk_frozen BK114.out 7; have p40 : 0 ≤ ((ji18) : Int) := of_decide_eq_true (by first | (with_reducible assumption) | assumption); have q40 : ((ji18) : Int) < ((y105.length : Int) : Int) := of_decide_eq_true (by first | (with_reducible assumption) | assumption); obtain ⟨go40, co40, eo40, gb40, gl40, cl40, HG40⟩ := Kd.R_form HO_6.out (by omega); (first | cases eo40 | (injection eo40 with ea_ en_ ec_; (first | subst ea_ | (injection ea_ with ea_; subst ea_)); subst ec_; clear en_)); have GB40 := Aside0.mk gb40; have GG40 := Aside0.mk HG40; clear gb40 gl40 HG40; (first | simp only [add_plain] at hx113_0 | skip); (first | simp only [add_plain] at hx113_1 | skip); (first | simp only [add_plain] at hx113_2 | skip); (first | simp only [add_plain] at hx113_3 | skip); (first | simp only [add_plain] at hx113_4 | skip); (first | simp only [add_plain] at hx113_5 | skip); (first | simp only [add_plain] at hx113_6 | skip); (first | simp only [add_plain] at hx113_7 | skip); obtain ⟨ce40, hcl40, hM40, hcc40, hfr40⟩ := Kd.R_elem HO_6.out z71 ((ji18) : Int) p40 q40; obtain rfl := k71_openM hM40; have hx40_0 : w45.cell? ⟨go40, ((ji18) : Int).toNat * 8, none⟩ = some (.int .i64 ((rd_T71 y105 (ji18)).f0)) := hcc40 0 _ rfl; have hx40_1 : w45.cell? ⟨go40, ((ji18) : Int).toNat * 8 + 1, none⟩ = some (.int .i64 ((rd_T71 y105 (ji18)).f1)) := hcc40 1 _ rfl; have hx40_2 : w45.cell? ⟨go40, ((ji18) : Int).toNat * 8 + 2, none⟩ = some (.int .i64 ((rd_T71 y105 (ji18)).f2)) := hcc40 2 _ rfl; have hx40_3 : w45.cell? ⟨go40, ((ji18) : Int).toNat * 8 + 3, none⟩ = some (.int .i64 ((rd_T71 y105 (ji18)).f3)) := hcc40 3 _ rfl; have hx40_4 : w45.cell? ⟨go40, ((ji18) : Int).toNat * 8 + 4, none⟩ = some (.int .i64 ((rd_T71 y105 (ji18)).f4)) := hcc40 4 _ rfl; have hx40_5 : w45.cell? ⟨go40, ((ji18) : Int).toNat * 8 + 5, none⟩ = some (.int .i64 ((rd_T71 y105 (ji18)).f5)) := hcc40 5 _ rfl; have hx40_6 : w45.cell? ⟨go40, ((ji18) : Int).toNat * 8 + 6, none⟩ = some (.int .i64 ((rd_T71 y105 (ji18)).f6)) := hcc40 6 _ rfl; have hx40_7 : w45.cell? ⟨go40, ((ji18) : Int).toNat * 8 + 7, none⟩ = some (.string ((rd_T71 y105 (ji18)).f7)) := hcc40 7 _ rfl; have hf40_0 : w45.frozen? ⟨go40, ((ji18) : Int).toNat * 8, none⟩ = false := hfr40 0; have hf40_1 : w45.frozen? ⟨go40, ((ji18) : Int).toNat * 8 + 1, none⟩ = false := hfr40 1; have hf40_2 : w45.frozen? ⟨go40, ((ji18) : Int).toNat * 8 + 2, none⟩ = false := hfr40 2; have hf40_3 : w45.frozen? ⟨go40, ((ji18) : Int).toNat * 8 + 3, none⟩ = false := hfr40 3; have hf40_4 : w45.frozen? ⟨go40, ((ji18) : Int).toNat * 8 + 4, none⟩ = false := hfr40 4; have hf40_5 : w45.frozen? ⟨go40, ((ji18) : Int).toNat * 8 + 5, none⟩ = false := hfr40 5; have hf40_6 : w45.frozen? ⟨go40, ((ji18) : Int).toNat * 8 + 6, none⟩ = false := hfr40 6; have hf40_7 : w45.frozen? ⟨go40, ((ji18) : Int).toNat * 8 + 7, none⟩ = false := hfr40 7; clear hcl40 hcc40 hfr40 hM40; replace p40 := eq_true p40; replace q40 := eq_true q40; have HX48 := Aside0.mk (show Kd.R k71 71 w45 w.heap.size (fun k_ => k_ ≠ gb114) (.slice (some ⟨go40, 0, none⟩) y105.length co27) y105 from (pR_ HO_6.out)); obtain ⟨ce48, hcl48, hM48, hcc48, hfr48⟩ := Kd.R_elem HX48.out z71 ((ji18) : Int) (of_decide_eq_true (by first | (with_reducible assumption) | assumption)) (by have h_ : ((ji18) : Int) < ((y105.length : Int) : Int) := of_decide_eq_true (by first | (with_reducible assumption) | assumption); first | exact h_ | (have e_ := (Kd.R_reads' HO_6.out).1; omega) | simpa using h_); obtain rfl := k71_openM hM48; have HP48 := Kd.R_seg HX48.out ((ji18) : Int) (of_decide_eq_true (by first | (with_reducible assumption) | assumption)) (by have h_ : ((ji18) : Int) < ((y105.length : Int) : Int) := of_decide_eq_true (by first | (with_reducible assumption) | assumption); first | exact h_ | (have e_ := (Kd.R_reads' HO_6.out).1; omega) | simpa using h_) (seg := [.int .i64 ((rd_T71 y105 (ji18)).f0), .int .i64 ((rd_T71 y105 (ji18)).f1), .int .i64 ((rd_T71 y105 (ji18)).f2), .int .i64 ((rd_T71 y105 (ji18)).f3), .int .i64 ((rd_T71 y105 (ji18)).f4), .int .i64 ((rd_T71 y105 (ji18)).f5), .int .i64 ((rd_T71 y105 (ji18)).f6), .string a1_3]) (j := 0) hcl48 hcc48 (show 8 ≤ 8 from by decide) (x' := (⟨((rd_T71 y105 (ji18)).f0), ((rd_T71 y105 (ji18)).f1), ((rd_T71 y105 (ji18)).f2), ((rd_T71 y105 (ji18)).f3), ((rd_T71 y105 (ji18)).f4), ((rd_T71 y105 (ji18)).f5), ((rd_T71 y105 (ji18)).f6), a1_3⟩ : S71)) (k71_mkM _ _ _ (⟨((rd_T71 y105 (ji18)).f0), ((rd_T71 y105 (ji18)).f1), ((rd_T71 y105 (ji18)).f2), ((rd_T71 y105 (ji18)).f3), ((rd_T71 y105 (ji18)).f4), ((rd_T71 y105 (ji18)).f5), ((rd_T71 y105 (ji18)).f6), a1_3⟩ : S71) ) (fun _ hk => hk); have hx48_0 := hcc48 0 _ rfl; (try simp only [show (k71).sz = 8 from rfl, Nat.mul_one, Nat.add_zero] at hx48_0); have hf48_0 := hfr48 0; (try simp only [show (k71).sz = 8 from rfl, Nat.mul_one, Nat.add_zero] at hf48_0); have hx48_1 := hcc48 1 _ rfl; (try simp only [show (k71).sz = 8 from rfl, Nat.mul_one, Nat.add_zero] at hx48_1); have hf48_1 := hfr48 1; (try simp only [show (k71).sz = 8 from rfl, Nat.mul_one, Nat.add_zero] at hf48_1); have hx48_2 := hcc48 2 _ rfl; (try simp only [show (k71).sz = 8 from rfl, Nat.mul_one, Nat.add_zero] at hx48_2); have hf48_2 := hfr48 2; (try simp only [show (k71).sz = 8 from rfl, Nat.mul_one, Nat.add_zero] at hf48_2); have hx48_3 := hcc48 3 _ rfl; (try simp only [show (k71).sz = 8 from rfl, Nat.mul_one, Nat.add_zero] at hx48_3); have hf48_3 := hfr48 3; (try simp only [show (k71).sz = 8 from rfl, Nat.mul_one, Nat.add_zero] at hf48_3); have hx48_4 := hcc48 4 _ rfl; (try simp only [show (k71).sz = 8 from rfl, Nat.mul_one, Nat.add_zero] at hx48_4); have hf48_4 := hfr48 4; (try simp only [show (k71).sz = 8 from rfl, Nat.mul_one, Nat.add_zero] at hf48_4); have hx48_5 := hcc48 5 _ rfl; (try simp only [show (k71).sz = 8 from rfl, Nat.mul_one, Nat.add_zero] at hx48_5); have hf48_5 := hfr48 5; (try simp only [show (k71).sz = 8 from rfl, Nat.mul_one, Nat.add_zero] at hf48_5); have hx48_6 := hcc48 6 _ rfl; (try simp only [show (k71).sz = 8 from rfl, Nat.mul_one, Nat.add_zero] at hx48_6); have hf48_6 := hfr48 6; (try simp only [show (k71).sz = 8 from rfl, Nat.mul_one, Nat.add_zero] at hf48_6); have hx48_7 := hcc48 7 _ rfl; (try simp only [show (k71).sz = 8 from rfl, Nat.mul_one, Nat.add_zero] at hx48_7); have hf48_7 := hfr48 7; (try simp only [show (k71).sz = 8 from rfl, Nat.mul_one, Nat.add_zero] at hf48_7); clear hcl48 hcc48 hfr48 hM48) | ((with_reducible refine gate_store (t := 71) (p := 131) rfl ?_); refine store_event (t := 71) (p := 131) (v := ?vo_w49) (w1 := ((((((((w45.setCell ⟨go40, ((ji18) : Int).toNat * 8, none⟩ (.int .i64 ((rd_T71 y105 (ji18)).f0))).setCell ⟨go40, ((ji18) : Int).toNat * 8 + 1, none⟩ (.int .i64 ((rd_T71 y105 (ji18)).f1))).setCell ⟨go40, ((ji18) : Int).toNat * 8 + 2, none⟩ (.int .i64 ((rd_T71 y105 (ji18)).f2))).setCell ⟨go40, ((ji18) : Int).toNat * 8 + 3, none⟩ (.int .i64 ((rd_T71 y105 (ji18)).f3))).setCell ⟨go40, ((ji18) : Int).toNat * 8 + 4, none⟩ (.int .i64 ((rd_T71 y105 (ji18)).f4))).setCell ⟨go40, ((ji18) : Int).toNat * 8 + 5, none⟩ (.int .i64 ((rd_T71 y105 (ji18)).f5))).setCell ⟨go40, ((ji18) : Int).toNat * 8 + 6, none⟩ (.int .i64 ((rd_T71 y105 (ji18)).f6))).setCell ⟨go40, ((ji18) : Int).toNat * 8 + 7, none⟩ (.string a1_3))) ?hg ?ho ?hn ?hr ?_; (case ho => rfl); (case hg => rfl); (case hn => rfl); (case hr => first | (go_simp; done) | (go_simp; rfl)); intro w49 hw; have hg : w45.grownBy w49 (some go40) := (by rw [hw]; exact HP48.2); have hp_ : Kd.R k71 71 w49 w.heap.size (fun k_ => k_ ≠ gb114) (.slice (some ⟨go40, 0, none⟩) y105.length co27) y115 := (by rw [hw, Ny115.out]; exact HP48.1); clear HP48; have n0_ := Aside0.mk (hp_); have n1_ := Aside0.mk (blk_grown (g := gb101) (o := .cells #[.int .i64 a1_0, .int .i64 a1_1, .int .i64 a1_2, .string a1_3] 61 (0, 0)) (pB_ BK101.out) hg (Kd.R_ne HO_6.out BK101.out (by decide))); have n2_ := Aside0.mk (blk_grown (g := gb114) (o := .cells #[.int .i64 ((rd_T71 y105 (ji18)).f0), .int .i64 ((rd_T71 y105 (ji18)).f1), .int .i64 ((rd_T71 y105 (ji18)).f2), .int .i64 ((rd_T71 y105 (ji18)).f3), .int .i64 ((rd_T71 y105 (ji18)).f4), .int .i64 ((rd_T71 y105 (ji18)).f5), .int .i64 ((rd_T71 y105 (ji18)).f6), .string a1_3] 71 (0, 0)) (pB_ BK114.out) hg (Kd.R_away HO_6.out (fun _ hk => hk))); have n3_ := Aside0.mk ((by rw [hw]; exact below_set (below_set (below_set (below_set (below_set (below_set (below_set (below_set (HB.out) GB40.out) GB40.out) GB40.out) GB40.out) GB40.out) GB40.out) GB40.out) GB40.out : Below w.heap.size w w49)); clear HO_6; clear BK101; clear BK114; clear HB; have HO_6 := n0_; have BK101 := n1_; have BK114 := n2_; have HB := n3_; clear n0_ n1_ n2_ n3_; clear hg hw hp_) | ((with_reducible refine gate_callee (f := 85) rfl ?_); refine goesL_ (some 134) rfl rfl Try.func85 (by kernel_rfl) rfl #[.slice (some ⟨go40, 0, none⟩) y115.length co27] rfl (by (try simp only [List.map_toArray, List.map_cons, List.map_nil]); first | done | (rw [show y115.length = y105.length from (Kd.R_reads' HO_6.out).1.symm] <;> rfl) | rfl | (simp only [List.length_drop, List.length_take]; rfl)) ?_; (with_reducible refine (spec_l20Good.calls kj20 _ _ y115 t116 _ ?side1 ?side2 A41.out).mono ?_); (case side1 => repeat (first | exact (Kd.R_reads' HO_6.out).2.2 | (with_reducible refine Kd.C_alloc ?_ _) | (with_reducible refine Kd.C_drewN ?_ _) | (with_reducible refine Kd.C_drew ?_))); (case side2 => rw [show y115.length = y105.length from (Kd.R_reads' HO_6.out).1.symm]; exact (Kd.R_reads' HO_6.out).2.1); rintro e w50 ⟨rfl, hb⟩; refine ⟨_, rfl, ?_⟩; have n0_ := Aside0.mk (Kd.R_below (pR_ HO_6.out) hb); have n1_ := Aside0.mk (blk_below (g := gb101) (o := .cells #[.int .i64 a1_0, .int .i64 a1_1, .int .i64 a1_2, .string a1_3] 61 (0, 0)) (pB_ BK101.out) hb); have n2_ := Aside0.mk (blk_below (g := gb114) (o := .cells #[.int .i64 ((rd_T71 y105 (ji18)).f0), .int .i64 ((rd_T71 y105 (ji18)).f1), .int .i64 ((rd_T71 y105 (ji18)).f2), .int .i64 ((rd_T71 y105 (ji18)).f3), .int .i64 ((rd_T71 y105 (ji18)).f4), .int .i64 ((rd_T71 y105 (ji18)).f5), .int .i64 ((rd_T71 y105 (ji18)).f6), .string a1_3] 71 (0, 0)) (pB_ BK114.out) hb); have n3_ := Aside0.mk (below_step (pH_ HB.out) hb); clear HO_6; clear BK101; clear BK114; clear HB; have HO_6 := n0_; have BK101 := n1_; have BK114 := n2_; have HB := n3_; clear n0_ n1_ n2_ n3_; (try clear hb); (try clear hb2); (try clear hk); (try clear hi)))
          go_ret2
          exact ⟨_, by first | rfl | (simp [errW_none, errW_some] <;> rfl) | (simp only [← hji18]; first | rfl | (simp [errW_none, errW_some] <;> rfl)) | (simp [*, errW_none, errW_some] <;> rfl), by (with_reducible repeat (first | apply Kd.R_alloc | apply Kd.R_drewN | apply Kd.R_drew)); exact Kd.R_mono HO_6.out (fun _ hk => trivial), by repeat (first | (with_reducible first | exact HB.out | apply below_alloc | apply pw_below_drewN | apply below_drew1 | refine below_set ?_ GE101.out | refine below_set ?_ GE114.out) | exact HB.out)⟩
         rw [if_neg c39] at H
         exact absurd H (by simp)
        rw [if_neg c38] at H
        exact absurd H (by simp)
       replace c37 := Bool.eq_false_iff.mpr c37
       subst c37
       have H1 : (if a1_0 = 3 then ((spec_l1In.f a1_2 1 ((rd_T71 y105 (ji18)).f4)).bind fun t117 => (spec_l20Step.j1 kj20 y105 t117 a1_0 a1_1 a1_2 a1_3 ((rd_T71 y105 (ji18)).f0) ((rd_T71 y105 (ji18)).f1) ((rd_T71 y105 (ji18)).f2) ((rd_T71 y105 (ji18)).f3) ((rd_T71 y105 (ji18)).f4) ((rd_T71 y105 (ji18)).f5) ((rd_T71 y105 (ji18)).f6) ((rd_T71 y105 (ji18)).f7))) else (spec_l20Step.j1 kj20 y105 false a1_0 a1_1 a1_2 a1_3 ((rd_T71 y105 (ji18)).f0) ((rd_T71 y105 (ji18)).f1) ((rd_T71 y105 (ji18)).f2) ((rd_T71 y105 (ji18)).f3) ((rd_T71 y105 (ji18)).f4) ((rd_T71 y105 (ji18)).f5) ((rd_T71 y105 (ji18)).f6) ((rd_T71 y105 (ji18)).f7))) = some (r1, r2) := by rw [if_neg (show ¬ (false = true) by decide)] at H; exact H
       clear H
       have H := H1
       clear H1
       have HC51 := Aside0.mk H
       clear H
       go_upto_region 11 with (fail)
       go_cut [58] (fun v58 wc => ∃ (kq : Nat) (x58_50 : Bool), v58 = .bool x58_50 ∧ Aside0 (spec_l20Step.j1 kq y105 x58_50 a1_0 a1_1 a1_2 a1_3 ((rd_T71 y105 (ji18)).f0) ((rd_T71 y105 (ji18)).f1) ((rd_T71 y105 (ji18)).f2) ((rd_T71 y105 (ji18)).f3) ((rd_T71 y105 (ji18)).f4) ((rd_T71 y105 (ji18)).f5) ((rd_T71 y105 (ji18)).f6) ((rd_T71 y105 (ji18)).f7) = some (r1, r2)) ∧ Aside0 (kq ≤ kj20) ∧ Aside0 (Kd.R k71 71 wc w.heap.size (fun k_ => k_ ≠ gb114) (.slice (some ad113) y105.length co27) y105) ∧ Aside0 (wc.heap[gb101]? = some (.cells #[.int .i64 a1_0, .int .i64 a1_1, .int .i64 a1_2, .string a1_3] 61 (0, 0))) ∧ Aside0 (wc.heap[gb114]? = some (.cells #[.int .i64 ((rd_T71 y105 (ji18)).f0), .int .i64 ((rd_T71 y105 (ji18)).f1), .int .i64 ((rd_T71 y105 (ji18)).f2), .int .i64 ((rd_T71 y105 (ji18)).f3), .int .i64 ((rd_T71 y105 (ji18)).f4), .int .i64 ((rd_T71 y105 (ji18)).f5), .int .i64 ((rd_T71 y105 (ji18)).f6), .string ((rd_T71 y105 (ji18)).f7)] 71 (0, 0))) ∧ Aside0 (Below w.heap.size w wc))
       case first =>
        have H := HC51.out
        clear HC51
        by_cases c52 : a1_0 = 3
        ·rw [if_pos c52] at H
         have c52b0 : (a1_0 == 3) = true := beq_iff_eq.mpr c52
         have c52b1 : (a1_0 != 3) = false := bne_eq_false_iff_eq.mpr c52
         clear c52
         (first | rw [c52b0] | (simp only [i64_w, i32_w]; rw [c52b0]) | skip)
         replace H := Option.bind_eq_some_iff.mp H
         obtain ⟨t117, A530, H⟩ := H
         replace H : (spec_l20Step.j1 kj20 y105 t117 a1_0 a1_1 a1_2 a1_3 ((rd_T71 y105 (ji18)).f0) ((rd_T71 y105 (ji18)).f1) ((rd_T71 y105 (ji18)).f2) ((rd_T71 y105 (ji18)).f3) ((rd_T71 y105 (ji18)).f4) ((rd_T71 y105 (ji18)).f5) ((rd_T71 y105 (ji18)).f6) ((rd_T71 y105 (ji18)).f7)) = some (r1, r2) := H
         have A53 := Aside0.mk A530
         clear A530
         have H' := Aside0.mk H
         clear H
         have hnb54 := NB101_114.out
         have hnc54 := NB114_101.out
         have hcz55_0 := cz_ BK101.out 0 _ rfl
         have hcz55_1 := cz_ BK101.out 1 _ rfl
         have hcz55_2 := cz_ BK101.out 2 _ rfl
         have hcz55_3 := cz_ BK101.out 3 _ rfl
         have hfz55_0 := blk_frozen BK101.out 0
         have hfz55_1 := blk_frozen BK101.out 1
         have hfz55_2 := blk_frozen BK101.out 2
         have hfz55_3 := blk_frozen BK101.out 3
         have hcz56_0 := cz_ BK114.out 0 _ rfl
         have hcz56_1 := cz_ BK114.out 1 _ rfl
         have hcz56_2 := cz_ BK114.out 2 _ rfl
         have hcz56_3 := cz_ BK114.out 3 _ rfl
         have hcz56_4 := cz_ BK114.out 4 _ rfl
         have hcz56_5 := cz_ BK114.out 5 _ rfl
         have hcz56_6 := cz_ BK114.out 6 _ rfl
         have hcz56_7 := cz_ BK114.out 7 _ rfl
         have hfz56_0 := blk_frozen BK114.out 0
         have hfz56_1 := blk_frozen BK114.out 1
         have hfz56_2 := blk_frozen BK114.out 2
         have hfz56_3 := blk_frozen BK114.out 3
         have hfz56_4 := blk_frozen BK114.out 4
         have hfz56_5 := blk_frozen BK114.out 5
         have hfz56_6 := blk_frozen BK114.out 6
         have hfz56_7 := blk_frozen BK114.out 7
         go_wp2_with (first | (go_at_call 70; (with_reducible refine (spec_l1In.calls a1_2 1 ((rd_T71 y105 (ji18)).f4) t117 _ A53.out).mono ?_); rintro e w' ⟨rfl, ⟨nd, rfl⟩⟩))
         go_meet
         case rel => exact ⟨_, (t117), (by first | rfl | (simp; done) | (simp [*]; done) | (simp [beq_nil_, bne_nil_]; done)), H', ⟨by have := HJ20.out; first | omega | exact Nat.le_refl _⟩, ⟨by (with_reducible repeat (first | apply Kd.R_alloc | apply Kd.R_drewN | apply Kd.R_drew)); exact HO_6.out⟩, ⟨by (with_reducible repeat (first | refine blk_drewN ?_ _ | refine blk_drew ?_ | refine blk_alloc ?_ _)); exact BK101.out⟩, ⟨by (with_reducible repeat (first | refine blk_drewN ?_ _ | refine blk_drew ?_ | refine blk_alloc ?_ _)); exact BK114.out⟩, ⟨by repeat (first | (with_reducible first | exact HB.out | apply below_alloc | apply pw_below_drewN | apply below_drew1 | refine below_set ?_ GE101.out | refine below_set ?_ GE114.out) | exact HB.out)⟩⟩
        rw [if_neg c52] at H
        have c52b0 : (a1_0 == 3) = false := beq_eq_false_iff_ne.mpr c52
        have c52b1 : (a1_0 != 3) = true := bne_iff_ne.mpr c52
        (first | rw [c52b0] | (simp only [i64_w, i32_w]; rw [c52b0]) | skip)
        have H' := Aside0.mk H
        clear H
        have hnb57 := NB101_114.out
        have hnc57 := NB114_101.out
        have hcz58_0 := cz_ BK101.out 0 _ rfl
        have hcz58_1 := cz_ BK101.out 1 _ rfl
        have hcz58_2 := cz_ BK101.out 2 _ rfl
        have hcz58_3 := cz_ BK101.out 3 _ rfl
        have hfz58_0 := blk_frozen BK101.out 0
        have hfz58_1 := blk_frozen BK101.out 1
        have hfz58_2 := blk_frozen BK101.out 2
        have hfz58_3 := blk_frozen BK101.out 3
        go_wp2
        go_meet
        case rel => exact ⟨_, (false), (by first | rfl | (simp; done) | (simp [*]; done) | (simp [beq_nil_, bne_nil_]; done)), H', ⟨by have := HJ20.out; first | omega | exact Nat.le_refl _⟩, ⟨by (with_reducible repeat (first | apply Kd.R_alloc | apply Kd.R_drewN | apply Kd.R_drew)); exact HO_6.out⟩, ⟨by (with_reducible repeat (first | refine blk_drewN ?_ _ | refine blk_drew ?_ | refine blk_alloc ?_ _)); exact BK101.out⟩, ⟨by (with_reducible repeat (first | refine blk_drewN ?_ _ | refine blk_drew ?_ | refine blk_alloc ?_ _)); exact BK114.out⟩, ⟨by repeat (first | (with_reducible first | exact HB.out | apply below_alloc | apply pw_below_drewN | apply below_drew1 | refine below_set ?_ GE101.out | refine below_set ?_ GE114.out) | exact HB.out)⟩⟩
       case rest =>
        clear HC51
        try clear c1
        try clear p1
        try clear q1
        try clear hx1
        try clear c2
        try clear p2
        try clear c3
        try clear c4
        try clear c4b0
        try clear c4b1
        try clear p4
        try clear q4
        try clear hx4
        try clear hf4
        try clear c5
        try clear p6
        try clear c7
        try clear c8
        try clear c10
        try clear p11
        try clear q11
        try clear hx11
        try clear c17
        try clear c19
        try clear c19b0
        try clear c20
        try clear c20b0
        try clear c30
        try clear c32
        try clear c32b0
        try clear c32b1
        try clear c33
        try clear c35
        try clear c37
        try clear c38
        try clear c38b0
        try clear c39
        try clear c39b0
        try clear c40
        try clear p40
        try clear q40
        try clear hx40
        try clear hf40
        try clear c42
        try clear c48
        try clear hx48
        try clear hf48
        try clear c52
        try clear c52b0
        try clear c52b1
        try clear c54
        try clear c57
        try clear hcz11_0
        try clear hcz11_1
        try clear hcz11_2
        try clear hcz11_3
        try clear hcz26_0
        try clear hcz26_1
        try clear hcz26_2
        try clear hcz26_3
        try clear hcz28_0
        try clear hcz28_1
        try clear hcz28_2
        try clear hcz28_3
        try clear hcz31_0
        try clear hcz31_1
        try clear hcz31_2
        try clear hcz31_3
        try clear hcz31_4
        try clear hcz31_5
        try clear hcz31_6
        try clear hcz31_7
        try clear hcz34_0
        try clear hcz34_1
        try clear hcz34_2
        try clear hcz34_3
        try clear hcz36_0
        try clear hcz36_1
        try clear hcz36_2
        try clear hcz36_3
        try clear hcz43_0
        try clear hcz43_1
        try clear hcz43_2
        try clear hcz43_3
        try clear hcz44_0
        try clear hcz44_1
        try clear hcz44_2
        try clear hcz44_3
        try clear hcz44_4
        try clear hcz44_5
        try clear hcz44_6
        try clear hcz44_7
        try clear hcz46_0
        try clear hcz46_1
        try clear hcz46_2
        try clear hcz46_3
        try clear hcz47_0
        try clear hcz47_1
        try clear hcz47_2
        try clear hcz47_3
        try clear hcz47_4
        try clear hcz47_5
        try clear hcz47_6
        try clear hcz47_7
        try clear hcz55_0
        try clear hcz55_1
        try clear hcz55_2
        try clear hcz55_3
        try clear hcz56_0
        try clear hcz56_1
        try clear hcz56_2
        try clear hcz56_3
        try clear hcz56_4
        try clear hcz56_5
        try clear hcz56_6
        try clear hcz56_7
        try clear hcz58_0
        try clear hcz58_1
        try clear hcz58_2
        try clear hcz58_3
        try clear hfz11_0
        try clear hfz11_1
        try clear hfz11_2
        try clear hfz11_3
        try clear hfz26_0
        try clear hfz26_1
        try clear hfz26_2
        try clear hfz26_3
        try clear hfz28_0
        try clear hfz28_1
        try clear hfz28_2
        try clear hfz28_3
        try clear hfz31_0
        try clear hfz31_1
        try clear hfz31_2
        try clear hfz31_3
        try clear hfz31_4
        try clear hfz31_5
        try clear hfz31_6
        try clear hfz31_7
        try clear hfz34_0
        try clear hfz34_1
        try clear hfz34_2
        try clear hfz34_3
        try clear hfz36_0
        try clear hfz36_1
        try clear hfz36_2
        try clear hfz36_3
        try clear hfz43_0
        try clear hfz43_1
        try clear hfz43_2
        try clear hfz43_3
        try clear hfz44_0
        try clear hfz44_1
        try clear hfz44_2
        try clear hfz44_3
        try clear hfz44_4
        try clear hfz44_5
        try clear hfz44_6
        try clear hfz44_7
        try clear hfz46_0
        try clear hfz46_1
        try clear hfz46_2
        try clear hfz46_3
        try clear hfz47_0
        try clear hfz47_1
        try clear hfz47_2
        try clear hfz47_3
        try clear hfz47_4
        try clear hfz47_5
        try clear hfz47_6
        try clear hfz47_7
        try clear hfz55_0
        try clear hfz55_1
        try clear hfz55_2
        try clear hfz55_3
        try clear hfz56_0
        try clear hfz56_1
        try clear hfz56_2
        try clear hfz56_3
        try clear hfz56_4
        try clear hfz56_5
        try clear hfz56_6
        try clear hfz56_7
        try clear hfz58_0
        try clear hfz58_1
        try clear hfz58_2
        try clear hfz58_3
        try clear hx113_0
        try clear hx113_1
        try clear hx113_2
        try clear hx113_3
        try clear hx113_4
        try clear hx113_5
        try clear hx113_6
        try clear hx113_7
        try clear hx40_0
        try clear hx40_1
        try clear hx40_2
        try clear hx40_3
        try clear hx40_4
        try clear hx40_5
        try clear hx40_6
        try clear hx40_7
        try clear hx48_0
        try clear hx48_1
        try clear hx48_2
        try clear hx48_3
        try clear hx48_4
        try clear hx48_5
        try clear hx48_6
        try clear hx48_7
        try clear p1
        try clear p11
        try clear p113
        try clear p2
        try clear p40
        try clear p6
        try clear q1
        try clear q11
        try clear q113
        try clear q40
        obtain ⟨kq, x58_50, rfl, HA, HJ50, HO_6, BK101, BK114, HB⟩ := hcut
        cases kq with
        | zero => exact absurd HA.out (by simp [spec_l20Step.j1])
        | succ kj50 =>
         have H := HA.out
         clear HA
         simp only [spec_l20Step.j1] at H
         by_cases c59 : x58_50 = true
         ·subst c59
          have H1 : (if y105.length < 1954687338268 then ((some (y105 ++ [(⟨wrap64 ((y105.length : Int) + 1), ((rd_T71 y105 (ji18)).f0), ((rd_T71 y105 (ji18)).f2), a1_2, a1_2, 0, 0, a1_3⟩ : S71)] : List (S71))).bind fun y118 => (if 0 ≤ (wrap64 (a1_1 - 1)) then (if (wrap64 (a1_1 - 1)) < (y118.length : Int) then ((some (y118.set ((wrap64 (a1_1 - 1)) : Int).toNat (⟨((rd_T71 y105 (ji18)).f0), ((rd_T71 y105 (ji18)).f1), ((rd_T71 y105 (ji18)).f2), ((rd_T71 y105 (ji18)).f3), wrap64 (((rd_T71 y105 (ji18)).f4) - a1_2), ((rd_T71 y105 (ji18)).f5), wrap64 (((rd_T71 y105 (ji18)).f6) + a1_2), ((rd_T71 y105 (ji18)).f7)⟩ : S71) : List (S71))).bind fun y121 => ((spec_l20Good.f kj50 y121).bind fun t122 => (some (y121, t122)))) else (none)) else (none))) else (none)) = some (r1, r2) := by rw [if_pos rfl] at H; exact H
          clear H
          have H := H1
          clear H1
          by_cases c60 : y105.length < 1954687338268
          ·rw [if_pos c60] at H
           have LMc60 := Aside0.mk c60
           clear c60
           obtain ⟨y118, hy118⟩ : ∃ y_ : List (S71), y_ = (y105 ++ [(⟨wrap64 ((y105.length : Int) + 1), ((rd_T71 y105 (ji18)).f0), ((rd_T71 y105 (ji18)).f2), a1_2, a1_2, 0, 0, a1_3⟩ : S71)]) := ⟨_, rfl⟩
           replace H : (if 0 ≤ (wrap64 (a1_1 - 1)) then (if (wrap64 (a1_1 - 1)) < (y118.length : Int) then ((some (y118.set ((wrap64 (a1_1 - 1)) : Int).toNat (⟨((rd_T71 y105 (ji18)).f0), ((rd_T71 y105 (ji18)).f1), ((rd_T71 y105 (ji18)).f2), ((rd_T71 y105 (ji18)).f3), wrap64 (((rd_T71 y105 (ji18)).f4) - a1_2), ((rd_T71 y105 (ji18)).f5), wrap64 (((rd_T71 y105 (ji18)).f6) + a1_2), ((rd_T71 y105 (ji18)).f7)⟩ : S71) : List (S71))).bind fun y121 => ((spec_l20Good.f kj50 y121).bind fun t122 => (some (y121, t122)))) else (none)) else (none)) = some (r1, r2) := by first | (rw [hy118]; with_reducible exact H) | (have H2_ := (Option.bind_some _ _).symm.trans H; rw [hy118]; with_reducible exact H2_) | (have H2_ := (Option.bind_some _ _).symm.trans H; with_reducible exact H2_) | with_reducible exact H | (rw [hy118]; exact H) | exact H
           have Ny118 := Aside0.mk hy118
           clear hy118
           replace H : (if 0 ≤ (ji18) then (if (ji18) < (y118.length : Int) then ((some (y118.set ((ji18) : Int).toNat (⟨((rd_T71 y105 (ji18)).f0), ((rd_T71 y105 (ji18)).f1), ((rd_T71 y105 (ji18)).f2), ((rd_T71 y105 (ji18)).f3), wrap64 (((rd_T71 y105 (ji18)).f4) - a1_2), ((rd_T71 y105 (ji18)).f5), wrap64 (((rd_T71 y105 (ji18)).f6) + a1_2), ((rd_T71 y105 (ji18)).f7)⟩ : S71) : List (S71))).bind fun y121 => ((spec_l20Good.f kj50 y121).bind fun t122 => (some (y121, t122)))) else (none)) else (none)) = some (r1, r2) := by first | (rw [hji18] at H; exact H) | (simp only [hji18] at H ⊢; exact H)
           by_cases c61 : 0 ≤ (ji18)
           ·rw [if_pos c61] at H
            have c61b0 : decide (0 ≤ (ji18)) = true := decide_eq_true c61
            clear c61
            by_cases c62 : (ji18) < (y118.length : Int)
            ·rw [if_pos c62] at H
             have c62b0 : decide ((ji18) < (y118.length : Int)) = true := decide_eq_true c62
             clear c62
             obtain ⟨y121, hy121⟩ : ∃ y_ : List (S71), y_ = (y118.set ((ji18) : Int).toNat (⟨((rd_T71 y105 (ji18)).f0), ((rd_T71 y105 (ji18)).f1), ((rd_T71 y105 (ji18)).f2), ((rd_T71 y105 (ji18)).f3), wrap64 (((rd_T71 y105 (ji18)).f4) - a1_2), ((rd_T71 y105 (ji18)).f5), wrap64 (((rd_T71 y105 (ji18)).f6) + a1_2), ((rd_T71 y105 (ji18)).f7)⟩ : S71)) := ⟨_, rfl⟩
             replace H : ((spec_l20Good.f kj50 y121).bind fun t122 => (some (y121, t122))) = some (r1, r2) := by first | (rw [hy121]; with_reducible exact H) | (have H2_ := (Option.bind_some _ _).symm.trans H; rw [hy121]; with_reducible exact H2_) | (have H2_ := (Option.bind_some _ _).symm.trans H; with_reducible exact H2_) | with_reducible exact H | (rw [hy121]; exact H) | exact H
             have Ny121 := Aside0.mk hy121
             clear hy121
             replace H := Option.bind_eq_some_iff.mp H
             obtain ⟨t122, A640, H⟩ := H
             replace H : (some (y121, t122)) = some (r1, r2) := H
             have A64 := Aside0.mk A640
             clear A640
             simp only [Option.some.injEq, Prod.mk.injEq] at H
             obtain ⟨rfl, rfl⟩ := H
             have hnb65 := NB114_101.out
             have hnc65 := NB101_114.out
             have hcz66_0 := cz_ BK114.out 0 _ rfl
             have hcz66_1 := cz_ BK114.out 1 _ rfl
             have hcz66_2 := cz_ BK114.out 2 _ rfl
             have hcz66_3 := cz_ BK114.out 3 _ rfl
             have hcz66_4 := cz_ BK114.out 4 _ rfl
             have hcz66_5 := cz_ BK114.out 5 _ rfl
             have hcz66_6 := cz_ BK114.out 6 _ rfl
             have hcz66_7 := cz_ BK114.out 7 _ rfl
             have hfz66_0 := blk_frozen BK114.out 0
             have hfz66_1 := blk_frozen BK114.out 1
             have hfz66_2 := blk_frozen BK114.out 2
             have hfz66_3 := blk_frozen BK114.out 3
             have hfz66_4 := blk_frozen BK114.out 4
             have hfz66_5 := blk_frozen BK114.out 5
             have hfz66_6 := blk_frozen BK114.out 6
             have hfz66_7 := blk_frozen BK114.out 7
             have hcz67_0 := cz_ BK101.out 0 _ rfl
             have hcz67_1 := cz_ BK101.out 1 _ rfl
             have hcz67_2 := cz_ BK101.out 2 _ rfl
             have hcz67_3 := cz_ BK101.out 3 _ rfl
             have hfz67_0 := blk_frozen BK101.out 0
             have hfz67_1 := blk_frozen BK101.out 1
             have hfz67_2 := blk_frozen BK101.out 2
             have hfz67_3 := blk_frozen BK101.out 3
             go_wp2_with (first | ((with_reducible refine gate_builtin (b := .append) (xs := #[.tmp 81, .tmp 96]) rfl ?_); at_builtin; refine Kd.R_append k71 (w0 := w) w.heap.size rfl (.tmp 81) (.tmp 96) 47 71 (.agg #[(.int .i64 0), (.int .i64 0), (.int .i64 0), (.int .i64 0), (.int .i64 0), (.int .i64 0), (.int .i64 0), (.string ⟨#[]⟩)]) 72 rfl Try.underlying47 info71 rfl (by decide) (by omega) (.slice (some ad113) y105.length co27) y105 (⟨wrap64 ((y105.length : Int) + 1), ((rd_T71 y105 (ji18)).f0), ((rd_T71 y105 (ji18)).f2), a1_2, a1_2, 0, 0, a1_3⟩ : S71) [.int .i64 (wrap64 ((y105.length : Int) + 1)), .int .i64 ((rd_T71 y105 (ji18)).f0), .int .i64 ((rd_T71 y105 (ji18)).f2), .int .i64 a1_2, .int .i64 a1_2, .int .i64 0, .int .i64 0, .string a1_3] (fun k_ => k_ ≠ gb114) (fun _ => False) rfl (by first | (go_simp; done) | (go_simp; rfl)) ?aP (fun _ hk => hk.elim) ?aF ?aO ?aB ?aS ?aL ?_; (case aP => exact k71_mkM _ _ _ (⟨wrap64 ((y105.length : Int) + 1), ((rd_T71 y105 (ji18)).f0), ((rd_T71 y105 (ji18)).f2), a1_2, a1_2, 0, 0, a1_3⟩ : S71)); (case aB => exact (pH_ HB.out)); (case aF => exact (fun k_ hk => Kd.freshB (g := gb114) (o := .cells #[.int .i64 ((rd_T71 y105 (ji18)).f0), .int .i64 ((rd_T71 y105 (ji18)).f1), .int .i64 ((rd_T71 y105 (ji18)).f2), .int .i64 ((rd_T71 y105 (ji18)).f3), .int .i64 (wrap64 (((rd_T71 y105 (ji18)).f4) - a1_2)), .int .i64 ((rd_T71 y105 (ji18)).f5), .int .i64 (wrap64 (((rd_T71 y105 (ji18)).f6) + a1_2)), .string ((rd_T71 y105 (ji18)).f7)] 71 (0, 0)) (by (with_reducible repeat (first | refine blk_drewN ?_ _ | refine blk_drew ?_ | refine blk_alloc ?_ _)); refine blk_put (cs := #[.int .i64 ((rd_T71 y105 (ji18)).f0), .int .i64 ((rd_T71 y105 (ji18)).f1), .int .i64 ((rd_T71 y105 (ji18)).f2), .int .i64 ((rd_T71 y105 (ji18)).f3), .int .i64 (wrap64 (((rd_T71 y105 (ji18)).f4) - a1_2)), .int .i64 ((rd_T71 y105 (ji18)).f5), .int .i64 ((rd_T71 y105 (ji18)).f6), .string ((rd_T71 y105 (ji18)).f7)]) ?_ 6 _ rfl; (with_reducible repeat (first | refine blk_drewN ?_ _ | refine blk_drew ?_ | refine blk_alloc ?_ _)); refine blk_put (cs := #[.int .i64 ((rd_T71 y105 (ji18)).f0), .int .i64 ((rd_T71 y105 (ji18)).f1), .int .i64 ((rd_T71 y105 (ji18)).f2), .int .i64 ((rd_T71 y105 (ji18)).f3), .int .i64 ((rd_T71 y105 (ji18)).f4), .int .i64 ((rd_T71 y105 (ji18)).f5), .int .i64 ((rd_T71 y105 (ji18)).f6), .string ((rd_T71 y105 (ji18)).f7)]) ?_ 4 _ rfl; (with_reducible repeat (first | refine blk_drewN ?_ _ | refine blk_drew ?_ | refine blk_alloc ?_ _)); exact BK114.out) k_ hk)); (case aO => exact (by (with_reducible repeat (first | apply Kd.R_alloc | apply Kd.R_drewN | apply Kd.R_drew)); exact Kd.R_mono (Kd.R_far (p := ⟨gb114, 6, none⟩) (Kd.R_far (p := ⟨gb114, 4, none⟩) (Kd.R_mono HO_6.out (fun k_ hk => (⟨hk, hk⟩ : _ ∧ k_ ≠ gb114))) (fun _ hk => hk.2) (.int .i64 (wrap64 (((rd_T71 y105 (ji18)).f4) - a1_2)))) (fun _ hk => hk.2) (.int .i64 (wrap64 (((rd_T71 y105 (ji18)).f6) + a1_2)))) (fun _ hk => hk.1))); (case aS => exact (below_size (pH_ HB.out))); (case aL => have := LMc60.out; omega); intro v119 w68 ho hb hg hat; rw [← Ny118.out] at ho; have n0_ := Aside0.mk (blk_grown (g := gb101) (o := .cells #[.int .i64 a1_0, .int .i64 a1_1, .int .i64 a1_2, .string a1_3] 61 (0, 0)) (by (with_reducible repeat (first | refine blk_drewN ?_ _ | refine blk_drew ?_ | refine blk_alloc ?_ _)); refine blk_far ?_ NB101_114.out _; (with_reducible repeat (first | refine blk_drewN ?_ _ | refine blk_drew ?_ | refine blk_alloc ?_ _)); refine blk_far ?_ NB101_114.out _; (with_reducible repeat (first | refine blk_drewN ?_ _ | refine blk_drew ?_ | refine blk_alloc ?_ _)); exact BK101.out) hg (Kd.R_ne HO_6.out BK101.out (by decide))); have n1_ := Aside0.mk (blk_grown (g := gb114) (o := .cells #[.int .i64 ((rd_T71 y105 (ji18)).f0), .int .i64 ((rd_T71 y105 (ji18)).f1), .int .i64 ((rd_T71 y105 (ji18)).f2), .int .i64 ((rd_T71 y105 (ji18)).f3), .int .i64 (wrap64 (((rd_T71 y105 (ji18)).f4) - a1_2)), .int .i64 ((rd_T71 y105 (ji18)).f5), .int .i64 (wrap64 (((rd_T71 y105 (ji18)).f6) + a1_2)), .string ((rd_T71 y105 (ji18)).f7)] 71 (0, 0)) (by (with_reducible repeat (first | refine blk_drewN ?_ _ | refine blk_drew ?_ | refine blk_alloc ?_ _)); refine blk_put (cs := #[.int .i64 ((rd_T71 y105 (ji18)).f0), .int .i64 ((rd_T71 y105 (ji18)).f1), .int .i64 ((rd_T71 y105 (ji18)).f2), .int .i64 ((rd_T71 y105 (ji18)).f3), .int .i64 (wrap64 (((rd_T71 y105 (ji18)).f4) - a1_2)), .int .i64 ((rd_T71 y105 (ji18)).f5), .int .i64 ((rd_T71 y105 (ji18)).f6), .string ((rd_T71 y105 (ji18)).f7)]) ?_ 6 _ rfl; (with_reducible repeat (first | refine blk_drewN ?_ _ | refine blk_drew ?_ | refine blk_alloc ?_ _)); refine blk_put (cs := #[.int .i64 ((rd_T71 y105 (ji18)).f0), .int .i64 ((rd_T71 y105 (ji18)).f1), .int .i64 ((rd_T71 y105 (ji18)).f2), .int .i64 ((rd_T71 y105 (ji18)).f3), .int .i64 ((rd_T71 y105 (ji18)).f4), .int .i64 ((rd_T71 y105 (ji18)).f5), .int .i64 ((rd_T71 y105 (ji18)).f6), .string ((rd_T71 y105 (ji18)).f7)]) ?_ 4 _ rfl; (with_reducible repeat (first | refine blk_drewN ?_ _ | refine blk_drew ?_ | refine blk_alloc ?_ _)); exact BK114.out) hg (Kd.R_away HO_6.out (fun _ hk => hk))); have n2_ := Aside0.mk (hb); have n3_ := Aside0.mk (ho); clear BK101; clear BK114; clear HB; clear HO_6; have BK101 := n0_; have BK114 := n1_; have HB := n2_; have HO120 := n3_; clear n0_ n1_ n2_ n3_; clear ho hb hg hat; have hcz69_0 := cz_ BK101.out 0 _ rfl; have hcz69_1 := cz_ BK101.out 1 _ rfl; have hcz69_2 := cz_ BK101.out 2 _ rfl; have hcz69_3 := cz_ BK101.out 3 _ rfl; have hfz69_0 := blk_frozen BK101.out 0; have hfz69_1 := blk_frozen BK101.out 1; have hfz69_2 := blk_frozen BK101.out 2; have hfz69_3 := blk_frozen BK101.out 3; have hcz70_0 := cz_ BK114.out 0 _ rfl; have hcz70_1 := cz_ BK114.out 1 _ rfl; have hcz70_2 := cz_ BK114.out 2 _ rfl; have hcz70_3 := cz_ BK114.out 3 _ rfl; have hcz70_4 := cz_ BK114.out 4 _ rfl; have hcz70_5 := cz_ BK114.out 5 _ rfl; have hcz70_6 := cz_ BK114.out 6 _ rfl; have hcz70_7 := cz_ BK114.out 7 _ rfl; have hfz70_0 := blk_frozen BK114.out 0; have hfz70_1 := blk_frozen BK114.out 1; have hfz70_2 := blk_frozen BK114.out 2; have hfz70_3 := blk_frozen BK114.out 3; have hfz70_4 := blk_frozen BK114.out 4; have hfz70_5 := blk_frozen BK114.out 5; have hfz70_6 := blk_frozen BK114.out 6; have hfz70_7 := blk_frozen BK114.out 7; have p63 : 0 ≤ ((ji18) : Int) := of_decide_eq_true (by first | (with_reducible assumption) | assumption); have q63 : ((ji18) : Int) < ((y118.length : Int) : Int) := of_decide_eq_true (by first | (with_reducible assumption) | assumption); obtain ⟨go63, co63, eo63, gb63, gl63, cl63, HG63⟩ := Kd.R_form HO120.out (by omega); (first | cases eo63 | (injection eo63 with ea_ en_ ec_; (first | subst ea_ | (injection ea_ with ea_; subst ea_)); subst ec_; clear en_)); have GB63 := Aside0.mk gb63; have GG63 := Aside0.mk HG63; clear gb63 gl63 HG63; obtain ⟨ce63, hcl63, hM63, hcc63, hfr63⟩ := Kd.R_elem HO120.out z71 ((ji18) : Int) p63 q63; obtain rfl := k71_openM hM63; have hx63_0 : w68.cell? ⟨go63, ((ji18) : Int).toNat * 8, none⟩ = some (.int .i64 ((rd_T71 y118 (ji18)).f0)) := hcc63 0 _ rfl; have hx63_1 : w68.cell? ⟨go63, ((ji18) : Int).toNat * 8 + 1, none⟩ = some (.int .i64 ((rd_T71 y118 (ji18)).f1)) := hcc63 1 _ rfl; have hx63_2 : w68.cell? ⟨go63, ((ji18) : Int).toNat * 8 + 2, none⟩ = some (.int .i64 ((rd_T71 y118 (ji18)).f2)) := hcc63 2 _ rfl; have hx63_3 : w68.cell? ⟨go63, ((ji18) : Int).toNat * 8 + 3, none⟩ = some (.int .i64 ((rd_T71 y118 (ji18)).f3)) := hcc63 3 _ rfl; have hx63_4 : w68.cell? ⟨go63, ((ji18) : Int).toNat * 8 + 4, none⟩ = some (.int .i64 ((rd_T71 y118 (ji18)).f4)) := hcc63 4 _ rfl; have hx63_5 : w68.cell? ⟨go63, ((ji18) : Int).toNat * 8 + 5, none⟩ = some (.int .i64 ((rd_T71 y118 (ji18)).f5)) := hcc63 5 _ rfl; have hx63_6 : w68.cell? ⟨go63, ((ji18) : Int).toNat * 8 + 6, none⟩ = some (.int .i64 ((rd_T71 y118 (ji18)).f6)) := hcc63 6 _ rfl; have hx63_7 : w68.cell? ⟨go63, ((ji18) : Int).toNat * 8 + 7, none⟩ = some (.string ((rd_T71 y118 (ji18)).f7)) := hcc63 7 _ rfl; have hf63_0 : w68.frozen? ⟨go63, ((ji18) : Int).toNat * 8, none⟩ = false := hfr63 0; have hf63_1 : w68.frozen? ⟨go63, ((ji18) : Int).toNat * 8 + 1, none⟩ = false := hfr63 1; have hf63_2 : w68.frozen? ⟨go63, ((ji18) : Int).toNat * 8 + 2, none⟩ = false := hfr63 2; have hf63_3 : w68.frozen? ⟨go63, ((ji18) : Int).toNat * 8 + 3, none⟩ = false := hfr63 3; have hf63_4 : w68.frozen? ⟨go63, ((ji18) : Int).toNat * 8 + 4, none⟩ = false := hfr63 4; have hf63_5 : w68.frozen? ⟨go63, ((ji18) : Int).toNat * 8 + 5, none⟩ = false := hfr63 5; have hf63_6 : w68.frozen? ⟨go63, ((ji18) : Int).toNat * 8 + 6, none⟩ = false := hfr63 6; have hf63_7 : w68.frozen? ⟨go63, ((ji18) : Int).toNat * 8 + 7, none⟩ = false := hfr63 7; clear hcl63 hcc63 hfr63 hM63; replace p63 := eq_true p63; replace q63 := eq_true q63; have HX71 := Aside0.mk (show Kd.R k71 71 w68 w.heap.size (fun k_ => k_ ≠ gb114) (.slice (some ⟨go63, 0, none⟩) y118.length co63) y118 from (pR_ HO120.out)); obtain ⟨ce71, hcl71, hM71, hcc71, hfr71⟩ := Kd.R_elem HX71.out z71 ((ji18) : Int) (of_decide_eq_true (by first | (with_reducible assumption) | assumption)) (by have h_ : ((ji18) : Int) < ((y118.length : Int) : Int) := of_decide_eq_true (by first | (with_reducible assumption) | assumption); first | exact h_ | (have e_ := (Kd.R_reads' HO120.out).1; omega) | simpa using h_); obtain rfl := k71_openM hM71; have HP71 := Kd.R_seg HX71.out ((ji18) : Int) (of_decide_eq_true (by first | (with_reducible assumption) | assumption)) (by have h_ : ((ji18) : Int) < ((y118.length : Int) : Int) := of_decide_eq_true (by first | (with_reducible assumption) | assumption); first | exact h_ | (have e_ := (Kd.R_reads' HO120.out).1; omega) | simpa using h_) (seg := [.int .i64 ((rd_T71 y105 (ji18)).f0), .int .i64 ((rd_T71 y105 (ji18)).f1), .int .i64 ((rd_T71 y105 (ji18)).f2), .int .i64 ((rd_T71 y105 (ji18)).f3), .int .i64 (wrap64 (((rd_T71 y105 (ji18)).f4) - a1_2)), .int .i64 ((rd_T71 y105 (ji18)).f5), .int .i64 (wrap64 (((rd_T71 y105 (ji18)).f6) + a1_2)), .string ((rd_T71 y105 (ji18)).f7)]) (j := 0) hcl71 hcc71 (show 8 ≤ 8 from by decide) (x' := (⟨((rd_T71 y105 (ji18)).f0), ((rd_T71 y105 (ji18)).f1), ((rd_T71 y105 (ji18)).f2), ((rd_T71 y105 (ji18)).f3), wrap64 (((rd_T71 y105 (ji18)).f4) - a1_2), ((rd_T71 y105 (ji18)).f5), wrap64 (((rd_T71 y105 (ji18)).f6) + a1_2), ((rd_T71 y105 (ji18)).f7)⟩ : S71)) (k71_mkM _ _ _ (⟨((rd_T71 y105 (ji18)).f0), ((rd_T71 y105 (ji18)).f1), ((rd_T71 y105 (ji18)).f2), ((rd_T71 y105 (ji18)).f3), wrap64 (((rd_T71 y105 (ji18)).f4) - a1_2), ((rd_T71 y105 (ji18)).f5), wrap64 (((rd_T71 y105 (ji18)).f6) + a1_2), ((rd_T71 y105 (ji18)).f7)⟩ : S71) ) (fun _ hk => hk); have hx71_0 := hcc71 0 _ rfl; (try simp only [show (k71).sz = 8 from rfl, Nat.mul_one, Nat.add_zero] at hx71_0); have hf71_0 := hfr71 0; (try simp only [show (k71).sz = 8 from rfl, Nat.mul_one, Nat.add_zero] at hf71_0); have hx71_1 := hcc71 1 _ rfl; (try simp only [show (k71).sz = 8 from rfl, Nat.mul_one, Nat.add_zero] at hx71_1); have hf71_1 := hfr71 1; (try simp only [show (k71).sz = 8 from rfl, Nat.mul_one, Nat.add_zero] at hf71_1); have hx71_2 := hcc71 2 _ rfl; (try simp only [show (k71).sz = 8 from rfl, Nat.mul_one, Nat.add_zero] at hx71_2); have hf71_2 := hfr71 2; (try simp only [show (k71).sz = 8 from rfl, Nat.mul_one, Nat.add_zero] at hf71_2); have hx71_3 := hcc71 3 _ rfl; (try simp only [show (k71).sz = 8 from rfl, Nat.mul_one, Nat.add_zero] at hx71_3); have hf71_3 := hfr71 3; (try simp only [show (k71).sz = 8 from rfl, Nat.mul_one, Nat.add_zero] at hf71_3); have hx71_4 := hcc71 4 _ rfl; (try simp only [show (k71).sz = 8 from rfl, Nat.mul_one, Nat.add_zero] at hx71_4); have hf71_4 := hfr71 4; (try simp only [show (k71).sz = 8 from rfl, Nat.mul_one, Nat.add_zero] at hf71_4); have hx71_5 := hcc71 5 _ rfl; (try simp only [show (k71).sz = 8 from rfl, Nat.mul_one, Nat.add_zero] at hx71_5); have hf71_5 := hfr71 5; (try simp only [show (k71).sz = 8 from rfl, Nat.mul_one, Nat.add_zero] at hf71_5); have hx71_6 := hcc71 6 _ rfl; (try simp only [show (k71).sz = 8 from rfl, Nat.mul_one, Nat.add_zero] at hx71_6); have hf71_6 := hfr71 6; (try simp only [show (k71).sz = 8 from rfl, Nat.mul_one, Nat.add_zero] at hf71_6); have hx71_7 := hcc71 7 _ rfl; (try simp only [show (k71).sz = 8 from rfl, Nat.mul_one, Nat.add_zero] at hx71_7); have hf71_7 := hfr71 7; (try simp only [show (k71).sz = 8 from rfl, Nat.mul_one, Nat.add_zero] at hf71_7); clear hcl71 hcc71 hfr71 hM71) | ((with_reducible refine gate_store (t := 71) (p := 131) rfl ?_); refine store_event (t := 71) (p := 131) (v := ?vo_w72) (w1 := ((((((((w68.setCell ⟨go63, ((ji18) : Int).toNat * 8, none⟩ (.int .i64 ((rd_T71 y105 (ji18)).f0))).setCell ⟨go63, ((ji18) : Int).toNat * 8 + 1, none⟩ (.int .i64 ((rd_T71 y105 (ji18)).f1))).setCell ⟨go63, ((ji18) : Int).toNat * 8 + 2, none⟩ (.int .i64 ((rd_T71 y105 (ji18)).f2))).setCell ⟨go63, ((ji18) : Int).toNat * 8 + 3, none⟩ (.int .i64 ((rd_T71 y105 (ji18)).f3))).setCell ⟨go63, ((ji18) : Int).toNat * 8 + 4, none⟩ (.int .i64 (wrap64 (((rd_T71 y105 (ji18)).f4) - a1_2)))).setCell ⟨go63, ((ji18) : Int).toNat * 8 + 5, none⟩ (.int .i64 ((rd_T71 y105 (ji18)).f5))).setCell ⟨go63, ((ji18) : Int).toNat * 8 + 6, none⟩ (.int .i64 (wrap64 (((rd_T71 y105 (ji18)).f6) + a1_2)))).setCell ⟨go63, ((ji18) : Int).toNat * 8 + 7, none⟩ (.string ((rd_T71 y105 (ji18)).f7)))) ?hg ?ho ?hn ?hr ?_; (case ho => rfl); (case hg => rfl); (case hn => rfl); (case hr => first | (go_simp; done) | (go_simp; rfl)); intro w72 hw; have hg : w68.grownBy w72 (some go63) := (by rw [hw]; exact HP71.2); have hp_ : Kd.R k71 71 w72 w.heap.size (fun k_ => k_ ≠ gb114) (.slice (some ⟨go63, 0, none⟩) y118.length co63) y121 := (by rw [hw, Ny121.out]; exact HP71.1); clear HP71; have n0_ := Aside0.mk (blk_grown (g := gb101) (o := .cells #[.int .i64 a1_0, .int .i64 a1_1, .int .i64 a1_2, .string a1_3] 61 (0, 0)) (pB_ BK101.out) hg (Kd.R_ne HO120.out BK101.out (by decide))); have n1_ := Aside0.mk (blk_grown (g := gb114) (o := .cells #[.int .i64 ((rd_T71 y105 (ji18)).f0), .int .i64 ((rd_T71 y105 (ji18)).f1), .int .i64 ((rd_T71 y105 (ji18)).f2), .int .i64 ((rd_T71 y105 (ji18)).f3), .int .i64 (wrap64 (((rd_T71 y105 (ji18)).f4) - a1_2)), .int .i64 ((rd_T71 y105 (ji18)).f5), .int .i64 (wrap64 (((rd_T71 y105 (ji18)).f6) + a1_2)), .string ((rd_T71 y105 (ji18)).f7)] 71 (0, 0)) (pB_ BK114.out) hg (Kd.R_away HO120.out (fun _ hk => hk))); have n2_ := Aside0.mk (hp_); have n3_ := Aside0.mk ((by rw [hw]; exact below_set (below_set (below_set (below_set (below_set (below_set (below_set (below_set (HB.out) GB63.out) GB63.out) GB63.out) GB63.out) GB63.out) GB63.out) GB63.out) GB63.out : Below w.heap.size w w72)); clear BK101; clear BK114; clear HO120; clear HB; have BK101 := n0_; have BK114 := n1_; have HO120 := n2_; have HB := n3_; clear n0_ n1_ n2_ n3_; clear hg hw hp_) | ((with_reducible refine gate_callee (f := 85) rfl ?_); refine goesL_ (some 134) rfl rfl Try.func85 (by kernel_rfl) rfl #[.slice (some ⟨go63, 0, none⟩) y121.length co63] rfl (by (try simp only [List.map_toArray, List.map_cons, List.map_nil]); first | done | (rw [show y121.length = y118.length from (Kd.R_reads' HO120.out).1.symm] <;> rfl) | rfl | (simp only [List.length_drop, List.length_take]; rfl)) ?_; (with_reducible refine (spec_l20Good.calls kj50 _ _ y121 t122 _ ?side1 ?side2 A64.out).mono ?_); (case side1 => repeat (first | exact (Kd.R_reads' HO120.out).2.2 | (with_reducible refine Kd.C_alloc ?_ _) | (with_reducible refine Kd.C_drewN ?_ _) | (with_reducible refine Kd.C_drew ?_))); (case side2 => rw [show y121.length = y118.length from (Kd.R_reads' HO120.out).1.symm]; exact (Kd.R_reads' HO120.out).2.1); rintro e w73 ⟨rfl, hb⟩; refine ⟨_, rfl, ?_⟩; have n0_ := Aside0.mk (Kd.R_below (pR_ HO120.out) hb); have n1_ := Aside0.mk (blk_below (g := gb101) (o := .cells #[.int .i64 a1_0, .int .i64 a1_1, .int .i64 a1_2, .string a1_3] 61 (0, 0)) (pB_ BK101.out) hb); have n2_ := Aside0.mk (blk_below (g := gb114) (o := .cells #[.int .i64 ((rd_T71 y105 (ji18)).f0), .int .i64 ((rd_T71 y105 (ji18)).f1), .int .i64 ((rd_T71 y105 (ji18)).f2), .int .i64 ((rd_T71 y105 (ji18)).f3), .int .i64 (wrap64 (((rd_T71 y105 (ji18)).f4) - a1_2)), .int .i64 ((rd_T71 y105 (ji18)).f5), .int .i64 (wrap64 (((rd_T71 y105 (ji18)).f6) + a1_2)), .string ((rd_T71 y105 (ji18)).f7)] 71 (0, 0)) (pB_ BK114.out) hb); have n3_ := Aside0.mk (below_step (pH_ HB.out) hb); clear HO120; clear BK101; clear BK114; clear HB; have HO120 := n0_; have BK101 := n1_; have BK114 := n2_; have HB := n3_; clear n0_ n1_ n2_ n3_; (try clear hb); (try clear hb2); (try clear hk); (try clear hi)))
             go_ret2
             exact ⟨_, by first | rfl | (simp [errW_none, errW_some] <;> rfl) | (simp only [← hji18]; first | rfl | (simp [errW_none, errW_some] <;> rfl)) | (simp [*, errW_none, errW_some] <;> rfl), by (with_reducible repeat (first | apply Kd.R_alloc | apply Kd.R_drewN | apply Kd.R_drew)); exact Kd.R_mono HO120.out (fun _ hk => trivial), by repeat (first | (with_reducible first | exact HB.out | apply below_alloc | apply pw_below_drewN | apply below_drew1 | refine below_set ?_ GE101.out | refine below_set ?_ GE114.out) | exact HB.out)⟩
            rw [if_neg c62] at H
            exact absurd H (by simp)
           rw [if_neg c61] at H
           exact absurd H (by simp)
          rw [if_neg c60] at H
          exact absurd H (by simp)
         replace c59 := Bool.eq_false_iff.mpr c59
         subst c59
         have H1 : (if a1_0 = 4 then ((spec_l1In.f a1_2 1 ((rd_T71 y105 (ji18)).f4)).bind fun t123 => (if t123 = true then (if a1_3.toList = ([] : List UInt8) then (if 0 ≤ (wrap64 (a1_1 - 1)) then (if (wrap64 (a1_1 - 1)) < (y105.length : Int) then ((some (y105.set ((wrap64 (a1_1 - 1)) : Int).toNat (⟨((rd_T71 y105 (ji18)).f0), ((rd_T71 y105 (ji18)).f1), ((rd_T71 y105 (ji18)).f2), ((rd_T71 y105 (ji18)).f3), wrap64 (((rd_T71 y105 (ji18)).f4) - a1_2), wrap64 (((rd_T71 y105 (ji18)).f5) + a1_2), ((rd_T71 y105 (ji18)).f6), ((rd_T71 y105 (ji18)).f7)⟩ : S71) : List (S71))).bind fun y124 => ((spec_l20Good.f kj50 y124).bind fun t125 => (some (y124, t125)))) else (none)) else (none)) else (some (y105, false))) else (some (y105, false)))) else (some (y105, false))) = some (r1, r2) := by rw [if_neg (show ¬ (false = true) by decide)] at H; exact H
         clear H
         have H := H1
         clear H1
         by_cases c74 : a1_0 = 4
         ·rw [if_pos c74] at H
          have c74b0 : (a1_0 == 4) = true := beq_iff_eq.mpr c74
          have c74b1 : (a1_0 != 4) = false := bne_eq_false_iff_eq.mpr c74
          clear c74
          replace H := Option.bind_eq_some_iff.mp H
          obtain ⟨t123, A750, H⟩ := H
          replace H : (if t123 = true then (if a1_3.toList = ([] : List UInt8) then (if 0 ≤ (wrap64 (a1_1 - 1)) then (if (wrap64 (a1_1 - 1)) < (y105.length : Int) then ((some (y105.set ((wrap64 (a1_1 - 1)) : Int).toNat (⟨((rd_T71 y105 (ji18)).f0), ((rd_T71 y105 (ji18)).f1), ((rd_T71 y105 (ji18)).f2), ((rd_T71 y105 (ji18)).f3), wrap64 (((rd_T71 y105 (ji18)).f4) - a1_2), wrap64 (((rd_T71 y105 (ji18)).f5) + a1_2), ((rd_T71 y105 (ji18)).f6), ((rd_T71 y105 (ji18)).f7)⟩ : S71) : List (S71))).bind fun y124 => ((spec_l20Good.f kj50 y124).bind fun t125 => (some (y124, t125)))) else (none)) else (none)) else (some (y105, false))) else (some (y105, false))) = some (r1, r2) := H
          have A75 := Aside0.mk A750
          clear A750
          by_cases c76 : t123 = true
          ·subst c76
           have H1 : (if a1_3.toList = ([] : List UInt8) then (if 0 ≤ (wrap64 (a1_1 - 1)) then (if (wrap64 (a1_1 - 1)) < (y105.length : Int) then ((some (y105.set ((wrap64 (a1_1 - 1)) : Int).toNat (⟨((rd_T71 y105 (ji18)).f0), ((rd_T71 y105 (ji18)).f1), ((rd_T71 y105 (ji18)).f2), ((rd_T71 y105 (ji18)).f3), wrap64 (((rd_T71 y105 (ji18)).f4) - a1_2), wrap64 (((rd_T71 y105 (ji18)).f5) + a1_2), ((rd_T71 y105 (ji18)).f6), ((rd_T71 y105 (ji18)).f7)⟩ : S71) : List (S71))).bind fun y124 => ((spec_l20Good.f kj50 y124).bind fun t125 => (some (y124, t125)))) else (none)) else (none)) else (some (y105, false))) = some (r1, r2) := by rw [if_pos rfl] at H; exact H
           clear H
           have H := H1
           clear H1
           by_cases c77 : a1_3.toList = ([] : List UInt8)
           ·rw [if_pos c77] at H
            have c77b0 : (a1_3.toList == ([] : List UInt8)) = true := beq_iff_eq.mpr c77
            have c77b1 : (a1_3.toList != ([] : List UInt8)) = false := bne_eq_false_iff_eq.mpr c77
            clear c77
            replace H : (if 0 ≤ (ji18) then (if (ji18) < (y105.length : Int) then ((some (y105.set ((ji18) : Int).toNat (⟨((rd_T71 y105 (ji18)).f0), ((rd_T71 y105 (ji18)).f1), ((rd_T71 y105 (ji18)).f2), ((rd_T71 y105 (ji18)).f3), wrap64 (((rd_T71 y105 (ji18)).f4) - a1_2), wrap64 (((rd_T71 y105 (ji18)).f5) + a1_2), ((rd_T71 y105 (ji18)).f6), ((rd_T71 y105 (ji18)).f7)⟩ : S71) : List (S71))).bind fun y124 => ((spec_l20Good.f kj50 y124).bind fun t125 => (some (y124, t125)))) else (none)) else (none)) = some (r1, r2) := by first | (rw [hji18] at H; exact H) | (simp only [hji18] at H ⊢; exact H)
            by_cases c78 : 0 ≤ (ji18)
            ·rw [if_pos c78] at H
             have c78b0 : decide (0 ≤ (ji18)) = true := decide_eq_true c78
             clear c78
             by_cases c79 : (ji18) < (y105.length : Int)
             ·rw [if_pos c79] at H
              have c79b0 : decide ((ji18) < (y105.length : Int)) = true := decide_eq_true c79
              clear c79
              obtain ⟨y124, hy124⟩ : ∃ y_ : List (S71), y_ = (y105.set ((ji18) : Int).toNat (⟨((rd_T71 y105 (ji18)).f0), ((rd_T71 y105 (ji18)).f1), ((rd_T71 y105 (ji18)).f2), ((rd_T71 y105 (ji18)).f3), wrap64 (((rd_T71 y105 (ji18)).f4) - a1_2), wrap64 (((rd_T71 y105 (ji18)).f5) + a1_2), ((rd_T71 y105 (ji18)).f6), ((rd_T71 y105 (ji18)).f7)⟩ : S71)) := ⟨_, rfl⟩
              replace H : ((spec_l20Good.f kj50 y124).bind fun t125 => (some (y124, t125))) = some (r1, r2) := by first | (rw [hy124]; with_reducible exact H) | (have H2_ := (Option.bind_some _ _).symm.trans H; rw [hy124]; with_reducible exact H2_) | (have H2_ := (Option.bind_some _ _).symm.trans H; with_reducible exact H2_) | with_reducible exact H | (rw [hy124]; exact H) | exact H
              have Ny124 := Aside0.mk hy124
              clear hy124
              replace H := Option.bind_eq_some_iff.mp H
              obtain ⟨t125, A810, H⟩ := H
              replace H : (some (y124, t125)) = some (r1, r2) := H
              have A81 := Aside0.mk A810
              clear A810
              simp only [Option.some.injEq, Prod.mk.injEq] at H
              obtain ⟨rfl, rfl⟩ := H
              have hnb82 := NB101_114.out
              have hnc82 := NB114_101.out
              have hcz83_0 := cz_ BK101.out 0 _ rfl
              have hcz83_1 := cz_ BK101.out 1 _ rfl
              have hcz83_2 := cz_ BK101.out 2 _ rfl
              have hcz83_3 := cz_ BK101.out 3 _ rfl
              have hfz83_0 := blk_frozen BK101.out 0
              have hfz83_1 := blk_frozen BK101.out 1
              have hfz83_2 := blk_frozen BK101.out 2
              have hfz83_3 := blk_frozen BK101.out 3
              have hcz84_0 := cz_ BK114.out 0 _ rfl
              have hcz84_1 := cz_ BK114.out 1 _ rfl
              have hcz84_2 := cz_ BK114.out 2 _ rfl
              have hcz84_3 := cz_ BK114.out 3 _ rfl
              have hcz84_4 := cz_ BK114.out 4 _ rfl
              have hcz84_5 := cz_ BK114.out 5 _ rfl
              have hcz84_6 := cz_ BK114.out 6 _ rfl
              have hcz84_7 := cz_ BK114.out 7 _ rfl
              have hfz84_0 := blk_frozen BK114.out 0
              have hfz84_1 := blk_frozen BK114.out 1
              have hfz84_2 := blk_frozen BK114.out 2
              have hfz84_3 := blk_frozen BK114.out 3
              have hfz84_4 := blk_frozen BK114.out 4
              have hfz84_5 := blk_frozen BK114.out 5
              have hfz84_6 := blk_frozen BK114.out 6
              have hfz84_7 := blk_frozen BK114.out 7
              go_wp2_with (first | (go_at_call 70; (with_reducible refine (spec_l1In.calls a1_2 1 ((rd_T71 y105 (ji18)).f4) true _ A75.out).mono ?_); rintro e w' ⟨rfl, ⟨nd, rfl⟩⟩; (try (rw [drewN_self wc]; generalize hq_ : World.drewN wc _ = wc; have n0_ : Aside0 (Kd.R k71 71 wc w.heap.size (fun k_ => k_ ≠ gb114) (.slice (some ad113) y105.length co27) y105) := ⟨by rw [← hq_]; exact (pR_ HO_6.out)⟩; have n1_ : Aside0 (wc.heap[gb101]? = some (.cells #[.int .i64 a1_0, .int .i64 a1_1, .int .i64 a1_2, .string a1_3] 61 (0, 0))) := ⟨by rw [← hq_]; exact (pB_ BK101.out)⟩; have n2_ : Aside0 (wc.heap[gb114]? = some (.cells #[.int .i64 ((rd_T71 y105 (ji18)).f0), .int .i64 ((rd_T71 y105 (ji18)).f1), .int .i64 ((rd_T71 y105 (ji18)).f2), .int .i64 ((rd_T71 y105 (ji18)).f3), .int .i64 ((rd_T71 y105 (ji18)).f4), .int .i64 ((rd_T71 y105 (ji18)).f5), .int .i64 ((rd_T71 y105 (ji18)).f6), .string ((rd_T71 y105 (ji18)).f7)] 71 (0, 0))) := ⟨by rw [← hq_]; exact (pB_ BK114.out)⟩; have n3_ : Aside0 (Below w.heap.size w wc) := ⟨by rw [← hq_]; exact (pH_ HB.out)⟩; clear HO_6 BK101 BK114 HB hq_; have HO_6 := n0_; have BK101 := n1_; have BK114 := n2_; have HB := n3_; clear n0_ n1_ n2_ n3_)); have hcz85_0 := cz_ BK101.out 0 _ rfl; have hcz85_1 := cz_ BK101.out 1 _ rfl; have hcz85_2 := cz_ BK101.out 2 _ rfl; have hcz85_3 := cz_ BK101.out 3 _ rfl; have hfz85_0 := blk_frozen BK101.out 0; have hfz85_1 := blk_frozen BK101.out 1; have hfz85_2 := blk_frozen BK101.out 2; have hfz85_3 := blk_frozen BK101.out 3; have hcz86_0 := cz_ BK114.out 0 _ rfl; have hcz86_1 := cz_ BK114.out 1 _ rfl; have hcz86_2 := cz_ BK114.out 2 _ rfl; have hcz86_3 := cz_ BK114.out 3 _ rfl; have hcz86_4 := cz_ BK114.out 4 _ rfl; have hcz86_5 := cz_ BK114.out 5 _ rfl; have hcz86_6 := cz_ BK114.out 6 _ rfl; have hcz86_7 := cz_ BK114.out 7 _ rfl; have hfz86_0 := blk_frozen BK114.out 0; have hfz86_1 := blk_frozen BK114.out 1; have hfz86_2 := blk_frozen BK114.out 2; have hfz86_3 := blk_frozen BK114.out 3; have hfz86_4 := blk_frozen BK114.out 4; have hfz86_5 := blk_frozen BK114.out 5; have hfz86_6 := blk_frozen BK114.out 6; have hfz86_7 := blk_frozen BK114.out 7) | ((with_reducible refine gate_store (t := 3) (p := 119) rfl ?_); refine store_event (t := 3) (p := 119) (v := ?vo_w87) (w1 := (wc.setCell ⟨gb114, 4, none⟩ (.int .i64 (wrap64 (((rd_T71 y105 (ji18)).f4) - a1_2))))) ?hg ?ho ?hn ?hr ?_; (case ho => rfl); (case hg => rfl); (case hn => rfl); (case hr => first | (go_simp; done) | (go_simp; rfl)); intro w87 hw; have n0_ : Aside0 (Kd.R k71 71 w87 w.heap.size (fun k_ => k_ ≠ gb114) (.slice (some ad113) y105.length co27) y105) := ⟨(by rw [hw]; exact (by (with_reducible repeat (first | apply Kd.R_alloc | apply Kd.R_drewN | apply Kd.R_drew)); exact Kd.R_mono (Kd.R_far (p := ⟨gb114, 4, none⟩) (Kd.R_mono HO_6.out (fun k_ hk => (⟨hk, hk⟩ : _ ∧ k_ ≠ gb114))) (fun _ hk => hk.2) (.int .i64 (wrap64 (((rd_T71 y105 (ji18)).f4) - a1_2)))) (fun _ hk => hk.1)))⟩; have n1_ : Aside0 (w87.heap[gb101]? = some (.cells #[.int .i64 a1_0, .int .i64 a1_1, .int .i64 a1_2, .string a1_3] 61 (0, 0))) := ⟨(by rw [hw]; exact (by (with_reducible repeat (first | refine blk_drewN ?_ _ | refine blk_drew ?_ | refine blk_alloc ?_ _)); refine blk_far ?_ NB101_114.out _; (with_reducible repeat (first | refine blk_drewN ?_ _ | refine blk_drew ?_ | refine blk_alloc ?_ _)); exact BK101.out))⟩; have n2_ : Aside0 (w87.heap[gb114]? = some (.cells #[.int .i64 ((rd_T71 y105 (ji18)).f0), .int .i64 ((rd_T71 y105 (ji18)).f1), .int .i64 ((rd_T71 y105 (ji18)).f2), .int .i64 ((rd_T71 y105 (ji18)).f3), .int .i64 (wrap64 (((rd_T71 y105 (ji18)).f4) - a1_2)), .int .i64 ((rd_T71 y105 (ji18)).f5), .int .i64 ((rd_T71 y105 (ji18)).f6), .string ((rd_T71 y105 (ji18)).f7)] 71 (0, 0))) := ⟨(by rw [hw]; exact (by (with_reducible repeat (first | refine blk_drewN ?_ _ | refine blk_drew ?_ | refine blk_alloc ?_ _)); refine blk_put (cs := #[.int .i64 ((rd_T71 y105 (ji18)).f0), .int .i64 ((rd_T71 y105 (ji18)).f1), .int .i64 ((rd_T71 y105 (ji18)).f2), .int .i64 ((rd_T71 y105 (ji18)).f3), .int .i64 ((rd_T71 y105 (ji18)).f4), .int .i64 ((rd_T71 y105 (ji18)).f5), .int .i64 ((rd_T71 y105 (ji18)).f6), .string ((rd_T71 y105 (ji18)).f7)]) ?_ 4 _ rfl; (with_reducible repeat (first | refine blk_drewN ?_ _ | refine blk_drew ?_ | refine blk_alloc ?_ _)); exact BK114.out))⟩; have n3_ : Aside0 (Below w.heap.size w w87) := ⟨(by rw [hw]; exact (pH_ HB.out))⟩; clear hw; clear HO_6; clear BK101; clear BK114; clear HB; have HO_6 := n0_; have BK101 := n1_; have BK114 := n2_; have HB := n3_; clear n0_ n1_ n2_ n3_; have hcz88_0 := cz_ BK114.out 0 _ rfl; have hcz88_1 := cz_ BK114.out 1 _ rfl; have hcz88_2 := cz_ BK114.out 2 _ rfl; have hcz88_3 := cz_ BK114.out 3 _ rfl; have hcz88_4 := cz_ BK114.out 4 _ rfl; have hcz88_5 := cz_ BK114.out 5 _ rfl; have hcz88_6 := cz_ BK114.out 6 _ rfl; have hcz88_7 := cz_ BK114.out 7 _ rfl; have hfz88_0 := blk_frozen BK114.out 0; have hfz88_1 := blk_frozen BK114.out 1; have hfz88_2 := blk_frozen BK114.out 2; have hfz88_3 := blk_frozen BK114.out 3; have hfz88_4 := blk_frozen BK114.out 4; have hfz88_5 := blk_frozen BK114.out 5; have hfz88_6 := blk_frozen BK114.out 6; have hfz88_7 := blk_frozen BK114.out 7; have hcz89_0 := cz_ BK101.out 0 _ rfl; have hcz89_1 := cz_ BK101.out 1 _ rfl; have hcz89_2 := cz_ BK101.out 2 _ rfl; have hcz89_3 := cz_ BK101.out 3 _ rfl; have hfz89_0 := blk_frozen BK101.out 0; have hfz89_1 := blk_frozen BK101.out 1; have hfz89_2 := blk_frozen BK101.out 2; have hfz89_3 := blk_frozen BK101.out 3) | ((with_reducible refine gate_store (t := 3) (p := 125) rfl ?_); refine store_event (t := 3) (p := 125) (v := ?vo_w90) (w1 := (w87.setCell ⟨gb114, 5, none⟩ (.int .i64 (wrap64 (((rd_T71 y105 (ji18)).f5) + a1_2))))) ?hg ?ho ?hn ?hr ?_; (case ho => rfl); (case hg => rfl); (case hn => rfl); (case hr => first | (go_simp; done) | (go_simp; rfl)); intro w90 hw; have n0_ : Aside0 (Kd.R k71 71 w90 w.heap.size (fun k_ => k_ ≠ gb114) (.slice (some ad113) y105.length co27) y105) := ⟨(by rw [hw]; exact (by (with_reducible repeat (first | apply Kd.R_alloc | apply Kd.R_drewN | apply Kd.R_drew)); exact Kd.R_mono (Kd.R_far (p := ⟨gb114, 5, none⟩) (Kd.R_mono HO_6.out (fun k_ hk => (⟨hk, hk⟩ : _ ∧ k_ ≠ gb114))) (fun _ hk => hk.2) (.int .i64 (wrap64 (((rd_T71 y105 (ji18)).f5) + a1_2)))) (fun _ hk => hk.1)))⟩; have n1_ : Aside0 (w90.heap[gb101]? = some (.cells #[.int .i64 a1_0, .int .i64 a1_1, .int .i64 a1_2, .string a1_3] 61 (0, 0))) := ⟨(by rw [hw]; exact (by (with_reducible repeat (first | refine blk_drewN ?_ _ | refine blk_drew ?_ | refine blk_alloc ?_ _)); refine blk_far ?_ NB101_114.out _; (with_reducible repeat (first | refine blk_drewN ?_ _ | refine blk_drew ?_ | refine blk_alloc ?_ _)); exact BK101.out))⟩; have n2_ : Aside0 (w90.heap[gb114]? = some (.cells #[.int .i64 ((rd_T71 y105 (ji18)).f0), .int .i64 ((rd_T71 y105 (ji18)).f1), .int .i64 ((rd_T71 y105 (ji18)).f2), .int .i64 ((rd_T71 y105 (ji18)).f3), .int .i64 (wrap64 (((rd_T71 y105 (ji18)).f4) - a1_2)), .int .i64 (wrap64 (((rd_T71 y105 (ji18)).f5) + a1_2)), .int .i64 ((rd_T71 y105 (ji18)).f6), .string ((rd_T71 y105 (ji18)).f7)] 71 (0, 0))) := ⟨(by rw [hw]; exact (by (with_reducible repeat (first | refine blk_drewN ?_ _ | refine blk_drew ?_ | refine blk_alloc ?_ _)); refine blk_put (cs := #[.int .i64 ((rd_T71 y105 (ji18)).f0), .int .i64 ((rd_T71 y105 (ji18)).f1), .int .i64 ((rd_T71 y105 (ji18)).f2), .int .i64 ((rd_T71 y105 (ji18)).f3), .int .i64 (wrap64 (((rd_T71 y105 (ji18)).f4) - a1_2)), .int .i64 ((rd_T71 y105 (ji18)).f5), .int .i64 ((rd_T71 y105 (ji18)).f6), .string ((rd_T71 y105 (ji18)).f7)]) ?_ 5 _ rfl; (with_reducible repeat (first | refine blk_drewN ?_ _ | refine blk_drew ?_ | refine blk_alloc ?_ _)); exact BK114.out))⟩; have n3_ : Aside0 (Below w.heap.size w w90) := ⟨(by rw [hw]; exact (pH_ HB.out))⟩; clear hw; clear HO_6; clear BK101; clear BK114; clear HB; have HO_6 := n0_; have BK101 := n1_; have BK114 := n2_; have HB := n3_; clear n0_ n1_ n2_ n3_; have hcz91_0 := cz_ BK101.out 0 _ rfl; have hcz91_1 := cz_ BK101.out 1 _ rfl; have hcz91_2 := cz_ BK101.out 2 _ rfl; have hcz91_3 := cz_ BK101.out 3 _ rfl; have hfz91_0 := blk_frozen BK101.out 0; have hfz91_1 := blk_frozen BK101.out 1; have hfz91_2 := blk_frozen BK101.out 2; have hfz91_3 := blk_frozen BK101.out 3; have hcz92_0 := cz_ BK114.out 0 _ rfl; have hcz92_1 := cz_ BK114.out 1 _ rfl; have hcz92_2 := cz_ BK114.out 2 _ rfl; have hcz92_3 := cz_ BK114.out 3 _ rfl; have hcz92_4 := cz_ BK114.out 4 _ rfl; have hcz92_5 := cz_ BK114.out 5 _ rfl; have hcz92_6 := cz_ BK114.out 6 _ rfl; have hcz92_7 := cz_ BK114.out 7 _ rfl; have hfz92_0 := blk_frozen BK114.out 0; have hfz92_1 := blk_frozen BK114.out 1; have hfz92_2 := blk_frozen BK114.out 2; have hfz92_3 := blk_frozen BK114.out 3; have hfz92_4 := blk_frozen BK114.out 4; have hfz92_5 := blk_frozen BK114.out 5; have hfz92_6 := blk_frozen BK114.out 6; have hfz92_7 := blk_frozen BK114.out 7; have p80 : 0 ≤ ((ji18) : Int) := of_decide_eq_true (by first | (with_reducible assumption) | assumption); have q80 : ((ji18) : Int) < ((y105.length : Int) : Int) := of_decide_eq_true (by first | (with_reducible assumption) | assumption); obtain ⟨go80, co80, eo80, gb80, gl80, cl80, HG80⟩ := Kd.R_form HO_6.out (by omega); (first | cases eo80 | (injection eo80 with ea_ en_ ec_; (first | subst ea_ | (injection ea_ with ea_; subst ea_)); subst ec_; clear en_)); have GB80 := Aside0.mk gb80; have GG80 := Aside0.mk HG80; clear gb80 gl80 HG80; obtain ⟨ce80, hcl80, hM80, hcc80, hfr80⟩ := Kd.R_elem HO_6.out z71 ((ji18) : Int) p80 q80; obtain rfl := k71_openM hM80; have hx80_0 : w90.cell? ⟨go80, ((ji18) : Int).toNat * 8, none⟩ = some (.int .i64 ((rd_T71 y105 (ji18)).f0)) := hcc80 0 _ rfl; have hx80_1 : w90.cell? ⟨go80, ((ji18) : Int).toNat * 8 + 1, none⟩ = some (.int .i64 ((rd_T71 y105 (ji18)).f1)) := hcc80 1 _ rfl; have hx80_2 : w90.cell? ⟨go80, ((ji18) : Int).toNat * 8 + 2, none⟩ = some (.int .i64 ((rd_T71 y105 (ji18)).f2)) := hcc80 2 _ rfl; have hx80_3 : w90.cell? ⟨go80, ((ji18) : Int).toNat * 8 + 3, none⟩ = some (.int .i64 ((rd_T71 y105 (ji18)).f3)) := hcc80 3 _ rfl; have hx80_4 : w90.cell? ⟨go80, ((ji18) : Int).toNat * 8 + 4, none⟩ = some (.int .i64 ((rd_T71 y105 (ji18)).f4)) := hcc80 4 _ rfl; have hx80_5 : w90.cell? ⟨go80, ((ji18) : Int).toNat * 8 + 5, none⟩ = some (.int .i64 ((rd_T71 y105 (ji18)).f5)) := hcc80 5 _ rfl; have hx80_6 : w90.cell? ⟨go80, ((ji18) : Int).toNat * 8 + 6, none⟩ = some (.int .i64 ((rd_T71 y105 (ji18)).f6)) := hcc80 6 _ rfl; have hx80_7 : w90.cell? ⟨go80, ((ji18) : Int).toNat * 8 + 7, none⟩ = some (.string ((rd_T71 y105 (ji18)).f7)) := hcc80 7 _ rfl; have hf80_0 : w90.frozen? ⟨go80, ((ji18) : Int).toNat * 8, none⟩ = false := hfr80 0; have hf80_1 : w90.frozen? ⟨go80, ((ji18) : Int).toNat * 8 + 1, none⟩ = false := hfr80 1; have hf80_2 : w90.frozen? ⟨go80, ((ji18) : Int).toNat * 8 + 2, none⟩ = false := hfr80 2; have hf80_3 : w90.frozen? ⟨go80, ((ji18) : Int).toNat * 8 + 3, none⟩ = false := hfr80 3; have hf80_4 : w90.frozen? ⟨go80, ((ji18) : Int).toNat * 8 + 4, none⟩ = false := hfr80 4; have hf80_5 : w90.frozen? ⟨go80, ((ji18) : Int).toNat * 8 + 5, none⟩ = false := hfr80 5; have hf80_6 : w90.frozen? ⟨go80, ((ji18) : Int).toNat * 8 + 6, none⟩ = false := hfr80 6; have hf80_7 : w90.frozen? ⟨go80, ((ji18) : Int).toNat * 8 + 7, none⟩ = false := hfr80 7; clear hcl80 hcc80 hfr80 hM80; replace p80 := eq_true p80; replace q80 := eq_true q80; have HX93 := Aside0.mk (show Kd.R k71 71 w90 w.heap.size (fun k_ => k_ ≠ gb114) (.slice (some ⟨go80, 0, none⟩) y105.length co27) y105 from (pR_ HO_6.out)); obtain ⟨ce93, hcl93, hM93, hcc93, hfr93⟩ := Kd.R_elem HX93.out z71 ((ji18) : Int) (of_decide_eq_true (by first | (with_reducible assumption) | assumption)) (by have h_ : ((ji18) : Int) < ((y105.length : Int) : Int) := of_decide_eq_true (by first | (with_reducible assumption) | assumption); first | exact h_ | (have e_ := (Kd.R_reads' HO_6.out).1; omega) | simpa using h_); obtain rfl := k71_openM hM93; have HP93 := Kd.R_seg HX93.out ((ji18) : Int) (of_decide_eq_true (by first | (with_reducible assumption) | assumption)) (by have h_ : ((ji18) : Int) < ((y105.length : Int) : Int) := of_decide_eq_true (by first | (with_reducible assumption) | assumption); first | exact h_ | (have e_ := (Kd.R_reads' HO_6.out).1; omega) | simpa using h_) (seg := [.int .i64 ((rd_T71 y105 (ji18)).f0), .int .i64 ((rd_T71 y105 (ji18)).f1), .int .i64 ((rd_T71 y105 (ji18)).f2), .int .i64 ((rd_T71 y105 (ji18)).f3), .int .i64 (wrap64 (((rd_T71 y105 (ji18)).f4) - a1_2)), .int .i64 (wrap64 (((rd_T71 y105 (ji18)).f5) + a1_2)), .int .i64 ((rd_T71 y105 (ji18)).f6), .string ((rd_T71 y105 (ji18)).f7)]) (j := 0) hcl93 hcc93 (show 8 ≤ 8 from by decide) (x' := (⟨((rd_T71 y105 (ji18)).f0), ((rd_T71 y105 (ji18)).f1), ((rd_T71 y105 (ji18)).f2), ((rd_T71 y105 (ji18)).f3), wrap64 (((rd_T71 y105 (ji18)).f4) - a1_2), wrap64 (((rd_T71 y105 (ji18)).f5) + a1_2), ((rd_T71 y105 (ji18)).f6), ((rd_T71 y105 (ji18)).f7)⟩ : S71)) (k71_mkM _ _ _ (⟨((rd_T71 y105 (ji18)).f0), ((rd_T71 y105 (ji18)).f1), ((rd_T71 y105 (ji18)).f2), ((rd_T71 y105 (ji18)).f3), wrap64 (((rd_T71 y105 (ji18)).f4) - a1_2), wrap64 (((rd_T71 y105 (ji18)).f5) + a1_2), ((rd_T71 y105 (ji18)).f6), ((rd_T71 y105 (ji18)).f7)⟩ : S71) ) (fun _ hk => hk); have hx93_0 := hcc93 0 _ rfl; (try simp only [show (k71).sz = 8 from rfl, Nat.mul_one, Nat.add_zero] at hx93_0); have hf93_0 := hfr93 0; (try simp only [show (k71).sz = 8 from rfl, Nat.mul_one, Nat.add_zero] at hf93_0); have hx93_1 := hcc93 1 _ rfl; (try simp only [show (k71).sz = 8 from rfl, Nat.mul_one, Nat.add_zero] at hx93_1); have hf93_1 := hfr93 1; (try simp only [show (k71).sz = 8 from rfl, Nat.mul_one, Nat.add_zero] at hf93_1); have hx93_2 := hcc93 2 _ rfl; (try simp only [show (k71).sz = 8 from rfl, Nat.mul_one, Nat.add_zero] at hx93_2); have hf93_2 := hfr93 2; (try simp only [show (k71).sz = 8 from rfl, Nat.mul_one, Nat.add_zero] at hf93_2); have hx93_3 := hcc93 3 _ rfl; (try simp only [show (k71).sz = 8 from rfl, Nat.mul_one, Nat.add_zero] at hx93_3); have hf93_3 := hfr93 3; (try simp only [show (k71).sz = 8 from rfl, Nat.mul_one, Nat.add_zero] at hf93_3); have hx93_4 := hcc93 4 _ rfl; (try simp only [show (k71).sz = 8 from rfl, Nat.mul_one, Nat.add_zero] at hx93_4); have hf93_4 := hfr93 4; (try simp only [show (k71).sz = 8 from rfl, Nat.mul_one, Nat.add_zero] at hf93_4); have hx93_5 := hcc93 5 _ rfl; (try simp only [show (k71).sz = 8 from rfl, Nat.mul_one, Nat.add_zero] at hx93_5); have hf93_5 := hfr93 5; (try simp only [show (k71).sz = 8 from rfl, Nat.mul_one, Nat.add_zero] at hf93_5); have hx93_6 := hcc93 6 _ rfl; (try simp only [show (k71).sz = 8 from rfl, Nat.mul_one, Nat.add_zero] at hx93_6); have hf93_6 := hfr93 6; (try simp only [show (k71).sz = 8 from rfl, Nat.mul_one, Nat.add_zero] at hf93_6); have hx93_7 := hcc93 7 _ rfl; (try simp only [show (k71).sz = 8 from rfl, Nat.mul_one, Nat.add_zero] at hx93_7); have hf93_7 := hfr93 7; (try simp only [show (k71).sz = 8 from rfl, Nat.mul_one, Nat.add_zero] at hf93_7); clear hcl93 hcc93 hfr93 hM93) | ((with_reducible refine gate_store (t := 71) (p := 131) rfl ?_); refine store_event (t := 71) (p := 131) (v := ?vo_w94) (w1 := ((((((((w90.setCell ⟨go80, ((ji18) : Int).toNat * 8, none⟩ (.int .i64 ((rd_T71 y105 (ji18)).f0))).setCell ⟨go80, ((ji18) : Int).toNat * 8 + 1, none⟩ (.int .i64 ((rd_T71 y105 (ji18)).f1))).setCell ⟨go80, ((ji18) : Int).toNat * 8 + 2, none⟩ (.int .i64 ((rd_T71 y105 (ji18)).f2))).setCell ⟨go80, ((ji18) : Int).toNat * 8 + 3, none⟩ (.int .i64 ((rd_T71 y105 (ji18)).f3))).setCell ⟨go80, ((ji18) : Int).toNat * 8 + 4, none⟩ (.int .i64 (wrap64 (((rd_T71 y105 (ji18)).f4) - a1_2)))).setCell ⟨go80, ((ji18) : Int).toNat * 8 + 5, none⟩ (.int .i64 (wrap64 (((rd_T71 y105 (ji18)).f5) + a1_2)))).setCell ⟨go80, ((ji18) : Int).toNat * 8 + 6, none⟩ (.int .i64 ((rd_T71 y105 (ji18)).f6))).setCell ⟨go80, ((ji18) : Int).toNat * 8 + 7, none⟩ (.string ((rd_T71 y105 (ji18)).f7)))) ?hg ?ho ?hn ?hr ?_; (case ho => rfl); (case hg => rfl); (case hn => rfl); (case hr => first | (go_simp; done) | (go_simp; rfl)); intro w94 hw; have hg : w90.grownBy w94 (some go80) := (by rw [hw]; exact HP93.2); have hp_ : Kd.R k71 71 w94 w.heap.size (fun k_ => k_ ≠ gb114) (.slice (some ⟨go80, 0, none⟩) y105.length co27) y124 := (by rw [hw, Ny124.out]; exact HP93.1); clear HP93; have n0_ := Aside0.mk (hp_); have n1_ := Aside0.mk (blk_grown (g := gb101) (o := .cells #[.int .i64 a1_0, .int .i64 a1_1, .int .i64 a1_2, .string a1_3] 61 (0, 0)) (pB_ BK101.out) hg (Kd.R_ne HO_6.out BK101.out (by decide))); have n2_ := Aside0.mk (blk_grown (g := gb114) (o := .cells #[.int .i64 ((rd_T71 y105 (ji18)).f0), .int .i64 ((rd_T71 y105 (ji18)).f1), .int .i64 ((rd_T71 y105 (ji18)).f2), .int .i64 ((rd_T71 y105 (ji18)).f3), .int .i64 (wrap64 (((rd_T71 y105 (ji18)).f4) - a1_2)), .int .i64 (wrap64 (((rd_T71 y105 (ji18)).f5) + a1_2)), .int .i64 ((rd_T71 y105 (ji18)).f6), .string ((rd_T71 y105 (ji18)).f7)] 71 (0, 0)) (pB_ BK114.out) hg (Kd.R_away HO_6.out (fun _ hk => hk))); have n3_ := Aside0.mk ((by rw [hw]; exact below_set (below_set (below_set (below_set (below_set (below_set (below_set (below_set (HB.out) GB80.out) GB80.out) GB80.out) GB80.out) GB80.out) GB80.out) GB80.out) GB80.out : Below w.heap.size w w94)); clear HO_6; clear BK101; clear BK114; clear HB; have HO_6 := n0_; have BK101 := n1_; have BK114 := n2_; have HB := n3_; clear n0_ n1_ n2_ n3_; clear hg hw hp_) | ((with_reducible refine gate_callee (f := 85) rfl ?_); refine goesL_ (some 134) rfl rfl Try.func85 (by kernel_rfl) rfl #[.slice (some ⟨go80, 0, none⟩) y124.length co27] rfl (by (try simp only [List.map_toArray, List.map_cons, List.map_nil]); first | done | (rw [show y124.length = y105.length from (Kd.R_reads' HO_6.out).1.symm] <;> rfl) | rfl | (simp only [List.length_drop, List.length_take]; rfl)) ?_; (with_reducible refine (spec_l20Good.calls kj50 _ _ y124 t125 _ ?side1 ?side2 A81.out).mono ?_); (case side1 => repeat (first | exact (Kd.R_reads' HO_6.out).2.2 | (with_reducible refine Kd.C_alloc ?_ _) | (with_reducible refine Kd.C_drewN ?_ _) | (with_reducible refine Kd.C_drew ?_))); (case side2 => rw [show y124.length = y105.length from (Kd.R_reads' HO_6.out).1.symm]; exact (Kd.R_reads' HO_6.out).2.1); rintro e w95 ⟨rfl, hb⟩; refine ⟨_, rfl, ?_⟩; have n0_ := Aside0.mk (Kd.R_below (pR_ HO_6.out) hb); have n1_ := Aside0.mk (blk_below (g := gb101) (o := .cells #[.int .i64 a1_0, .int .i64 a1_1, .int .i64 a1_2, .string a1_3] 61 (0, 0)) (pB_ BK101.out) hb); have n2_ := Aside0.mk (blk_below (g := gb114) (o := .cells #[.int .i64 ((rd_T71 y105 (ji18)).f0), .int .i64 ((rd_T71 y105 (ji18)).f1), .int .i64 ((rd_T71 y105 (ji18)).f2), .int .i64 ((rd_T71 y105 (ji18)).f3), .int .i64 (wrap64 (((rd_T71 y105 (ji18)).f4) - a1_2)), .int .i64 (wrap64 (((rd_T71 y105 (ji18)).f5) + a1_2)), .int .i64 ((rd_T71 y105 (ji18)).f6), .string ((rd_T71 y105 (ji18)).f7)] 71 (0, 0)) (pB_ BK114.out) hb); have n3_ := Aside0.mk (below_step (pH_ HB.out) hb); clear HO_6; clear BK101; clear BK114; clear HB; have HO_6 := n0_; have BK101 := n1_; have BK114 := n2_; have HB := n3_; clear n0_ n1_ n2_ n3_; (try clear hb); (try clear hb2); (try clear hk); (try clear hi)))
              go_ret2
              exact ⟨_, by first | rfl | (simp [errW_none, errW_some] <;> rfl) | (simp only [← hji18]; first | rfl | (simp [errW_none, errW_some] <;> rfl)) | (simp [*, errW_none, errW_some] <;> rfl), by (with_reducible repeat (first | apply Kd.R_alloc | apply Kd.R_drewN | apply Kd.R_drew)); exact Kd.R_mono HO_6.out (fun _ hk => trivial), by repeat (first | (with_reducible first | exact HB.out | apply below_alloc | apply pw_below_drewN | apply below_drew1 | refine below_set ?_ GE101.out | refine below_set ?_ GE114.out) | exact HB.out)⟩
             rw [if_neg c79] at H
             exact absurd H (by simp)
            rw [if_neg c78] at H
            exact absurd H (by simp)
           rw [if_neg c77] at H
           have c77b0 : (a1_3.toList == ([] : List UInt8)) = false := beq_eq_false_iff_ne.mpr c77
           have c77b1 : (a1_3.toList != ([] : List UInt8)) = true := bne_iff_ne.mpr c77
           simp only [Option.some.injEq, Prod.mk.injEq] at H
           obtain ⟨rfl, rfl⟩ := H
           have hnb96 := NB101_114.out
           have hnc96 := NB114_101.out
           have hcz97_0 := cz_ BK101.out 0 _ rfl
           have hcz97_1 := cz_ BK101.out 1 _ rfl
           have hcz97_2 := cz_ BK101.out 2 _ rfl
           have hcz97_3 := cz_ BK101.out 3 _ rfl
           have hfz97_0 := blk_frozen BK101.out 0
           have hfz97_1 := blk_frozen BK101.out 1
           have hfz97_2 := blk_frozen BK101.out 2
           have hfz97_3 := blk_frozen BK101.out 3
           have hcz98_0 := cz_ BK114.out 0 _ rfl
           have hcz98_1 := cz_ BK114.out 1 _ rfl
           have hcz98_2 := cz_ BK114.out 2 _ rfl
           have hcz98_3 := cz_ BK114.out 3 _ rfl
           have hcz98_4 := cz_ BK114.out 4 _ rfl
           have hcz98_5 := cz_ BK114.out 5 _ rfl
           have hcz98_6 := cz_ BK114.out 6 _ rfl
           have hcz98_7 := cz_ BK114.out 7 _ rfl
           have hfz98_0 := blk_frozen BK114.out 0
           have hfz98_1 := blk_frozen BK114.out 1
           have hfz98_2 := blk_frozen BK114.out 2
           have hfz98_3 := blk_frozen BK114.out 3
           have hfz98_4 := blk_frozen BK114.out 4
           have hfz98_5 := blk_frozen BK114.out 5
           have hfz98_6 := blk_frozen BK114.out 6
           have hfz98_7 := blk_frozen BK114.out 7
           go_wp2_with (first | (go_at_call 70; (with_reducible refine (spec_l1In.calls a1_2 1 ((rd_T71 y105 (ji18)).f4) true _ A75.out).mono ?_); rintro e w' ⟨rfl, ⟨nd, rfl⟩⟩))
           go_ret2
           exact ⟨_, by first | rfl | (simp [errW_none, errW_some] <;> rfl) | (simp only [← hji18]; first | rfl | (simp [errW_none, errW_some] <;> rfl)) | (simp [*, errW_none, errW_some] <;> rfl), by (with_reducible repeat (first | apply Kd.R_alloc | apply Kd.R_drewN | apply Kd.R_drew)); exact Kd.R_mono HO_6.out (fun _ hk => trivial), by repeat (first | (with_reducible first | exact HB.out | apply below_alloc | apply pw_below_drewN | apply below_drew1 | refine below_set ?_ GE101.out | refine below_set ?_ GE114.out) | exact HB.out)⟩
          replace c76 := Bool.eq_false_iff.mpr c76
          subst c76
          have H1 : (some (y105, false)) = some (r1, r2) := by rw [if_neg (show ¬ (false = true) by decide)] at H; exact H
          clear H
          have H := H1
          clear H1
          simp only [Option.some.injEq, Prod.mk.injEq] at H
          obtain ⟨rfl, rfl⟩ := H
          have hnb99 := NB101_114.out
          have hnc99 := NB114_101.out
          have hcz100_0 := cz_ BK101.out 0 _ rfl
          have hcz100_1 := cz_ BK101.out 1 _ rfl
          have hcz100_2 := cz_ BK101.out 2 _ rfl
          have hcz100_3 := cz_ BK101.out 3 _ rfl
          have hfz100_0 := blk_frozen BK101.out 0
          have hfz100_1 := blk_frozen BK101.out 1
          have hfz100_2 := blk_frozen BK101.out 2
          have hfz100_3 := blk_frozen BK101.out 3
          have hcz101_0 := cz_ BK114.out 0 _ rfl
          have hcz101_1 := cz_ BK114.out 1 _ rfl
          have hcz101_2 := cz_ BK114.out 2 _ rfl
          have hcz101_3 := cz_ BK114.out 3 _ rfl
          have hcz101_4 := cz_ BK114.out 4 _ rfl
          have hcz101_5 := cz_ BK114.out 5 _ rfl
          have hcz101_6 := cz_ BK114.out 6 _ rfl
          have hcz101_7 := cz_ BK114.out 7 _ rfl
          have hfz101_0 := blk_frozen BK114.out 0
          have hfz101_1 := blk_frozen BK114.out 1
          have hfz101_2 := blk_frozen BK114.out 2
          have hfz101_3 := blk_frozen BK114.out 3
          have hfz101_4 := blk_frozen BK114.out 4
          have hfz101_5 := blk_frozen BK114.out 5
          have hfz101_6 := blk_frozen BK114.out 6
          have hfz101_7 := blk_frozen BK114.out 7
          go_wp2_with (first | (go_at_call 70; (with_reducible refine (spec_l1In.calls a1_2 1 ((rd_T71 y105 (ji18)).f4) false _ A75.out).mono ?_); rintro e w' ⟨rfl, ⟨nd, rfl⟩⟩))
          go_ret2
          exact ⟨_, by first | rfl | (simp [errW_none, errW_some] <;> rfl) | (simp only [← hji18]; first | rfl | (simp [errW_none, errW_some] <;> rfl)) | (simp [*, errW_none, errW_some] <;> rfl), by (with_reducible repeat (first | apply Kd.R_alloc | apply Kd.R_drewN | apply Kd.R_drew)); exact Kd.R_mono HO_6.out (fun _ hk => trivial), by repeat (first | (with_reducible first | exact HB.out | apply below_alloc | apply pw_below_drewN | apply below_drew1 | refine below_set ?_ GE101.out | refine below_set ?_ GE114.out) | exact HB.out)⟩
         rw [if_neg c74] at H
         have c74b0 : (a1_0 == 4) = false := beq_eq_false_iff_ne.mpr c74
         have c74b1 : (a1_0 != 4) = true := bne_iff_ne.mpr c74
         simp only [Option.some.injEq, Prod.mk.injEq] at H
         obtain ⟨rfl, rfl⟩ := H
         have hnb102 := NB101_114.out
         have hnc102 := NB114_101.out
         have hcz103_0 := cz_ BK101.out 0 _ rfl
         have hcz103_1 := cz_ BK101.out 1 _ rfl
         have hcz103_2 := cz_ BK101.out 2 _ rfl
         have hcz103_3 := cz_ BK101.out 3 _ rfl
         have hfz103_0 := blk_frozen BK101.out 0
         have hfz103_1 := blk_frozen BK101.out 1
         have hfz103_2 := blk_frozen BK101.out 2
         have hfz103_3 := blk_frozen BK101.out 3
         go_wp2
         go_ret2
         exact ⟨_, by first | rfl | (simp [errW_none, errW_some] <;> rfl) | (simp only [← hji18]; first | rfl | (simp [errW_none, errW_some] <;> rfl)) | (simp [*, errW_none, errW_some] <;> rfl), by (with_reducible repeat (first | apply Kd.R_alloc | apply Kd.R_drewN | apply Kd.R_drew)); exact Kd.R_mono HO_6.out (fun _ hk => trivial), by repeat (first | (with_reducible first | exact HB.out | apply below_alloc | apply pw_below_drewN | apply below_drew1 | refine below_set ?_ GE101.out | refine below_set ?_ GE114.out) | exact HB.out)⟩
    rw [if_neg c20] at H
    exact absurd H (by simp)
   rw [if_neg c19] at H
   exact absurd H (by simp)
  replace c17 := Bool.eq_false_iff.mpr c17
  subst c17
  have H1 : (some (y105, false)) = some (r1, r2) := by rw [if_neg (show ¬ (false = true) by decide)] at H; exact H
  clear H
  have H := H1
  clear H1
  simp only [Option.some.injEq, Prod.mk.injEq] at H
  obtain ⟨rfl, rfl⟩ := H
  go_enter Try.func102, Try.ntmps102
  go_wp2_with (first | ((with_reducible refine gate_dst (N := 3) rfl ?_); refine box_event ?hg (N := 3) ?hd (cs := #[.int .i64 a1_0, .int .i64 a1_1, .int .i64 a1_2, .string a1_3]) (t := 61) ?hr ?_; (case hd => rfl); (case hg => rfl); (case hr => first | (go_simp; done) | (go_simp; rfl)); intro gb101 hg w104 hbox hb; have n0_ := Aside0.mk (below_step (pH_ HB.out) hb); have n1_ := Aside0.mk (hbox); have n2_ := Aside0.mk ((by rw [hg]; exact (below_size (pH_ HB.out)) : w.heap.size ≤ gb101)); have n3_ := Aside0.mk ((by rw [hg]; exact (below_size (pH_ HB.out)) : w.heap.size ≤ gb101)); clear HB; have HB := n0_; have BK101 := n1_; have GW101 := n2_; have GE101 := n3_; clear n0_ n1_ n2_ n3_; clear hb hbox hg) | ((with_reducible refine gate_dst (N := 8) rfl ?_); refine Kd.R_lit k71 _ 71 ?hg (N := 8) ?hd (xs := ([] : List (S71))) (inner := []) (ok := fun _ => True) (okp := fun _ => True) ?hr ?hp (fun _ hk => hk) trivial (Below.refl _ _) (Nat.le_refl _) (by simp) ?_; (case hd => rfl); (case hg => rfl); (case hr => first | (go_simp; done) | (go_simp; rfl)); (case hp => exact (Reps.none _ _)); intro v103 w105 ho106 hb hg_ hnew_; clear hg_ hnew_; (first | rw [← Ny102.out] at ho106 | (simp only [Int.reduceToNat] at ho106; rw [← Ny102.out] at ho106)); have n0_ := Aside0.mk (Kd.R_lower ho106 (below_size (pH_ HB.out))); have n1_ := Aside0.mk (blk_below (g := gb101) (o := .cells #[.int .i64 a1_0, .int .i64 a1_1, .int .i64 a1_2, .string a1_3] 61 (0, 0)) (pB_ BK101.out) hb); have n2_ := Aside0.mk (below_step (pH_ HB.out) hb); clear BK101; clear HB; have HO104 := n0_; have BK101 := n1_; have HB := n2_; clear n0_ n1_ n2_; clear hb ho106) | ((with_reducible refine gate_builtin (b := .append) (xs := #[.tmp 8, .tmp 9]) rfl ?_); at_builtin; refine Kd.R_append_rows k71 (w0 := w) w.heap.size rfl (.tmp 8) (.tmp 9) 47 71 (.agg #[(.int .i64 0), (.int .i64 0), (.int .i64 0), (.int .i64 0), (.int .i64 0), (.int .i64 0), (.int .i64 0), (.string ⟨#[]⟩)]) 72 rfl Try.underlying47 info71 rfl (by decide) (by omega) v103 y102 l0 _ _ _ (fun _ => True) (fun _ => False) rfl rfl ?aO ?aR (fun _ _ h => h) (fun _ h => h.elim) ?aF ?aB ?aS ?aL ?_; (case aR => repeat (first | exact (Kd.C_below HR0.out HB.out) | (with_reducible refine Kd.C_alloc ?_ _) | (with_reducible refine Kd.C_drewN ?_ _) | (with_reducible refine Kd.C_drew ?_))); (case aB => exact (pH_ HB.out)); (case aF => exact (fun _ _ => trivial)); (case aO => exact (pR_ HO104.out)); (case aS => exact (below_size (pH_ HB.out))); (case aL => have := LMc3.out; omega); intro v106 w107 ho hb hg hat; rw [← Ny105.out] at ho; have n0_ := Aside0.mk (blk_grown (g := gb101) (o := .cells #[.int .i64 a1_0, .int .i64 a1_1, .int .i64 a1_2, .string a1_3] 61 (0, 0)) (pB_ BK101.out) hg (Kd.R_ne HO104.out BK101.out (by decide))); have n1_ := Aside0.mk (hb); have n2_ := Aside0.mk (ho); clear BK101; clear HB; clear HO104; have BK101 := n0_; have HB := n1_; have HO107 := n2_; clear n0_ n1_ n2_; clear ho hb hg hat; have hcz108_0 := cz_ BK101.out 0 _ rfl; have hcz108_1 := cz_ BK101.out 1 _ rfl; have hcz108_2 := cz_ BK101.out 2 _ rfl; have hcz108_3 := cz_ BK101.out 3 _ rfl; have hfz108_0 := blk_frozen BK101.out 0; have hfz108_1 := blk_frozen BK101.out 1; have hfz108_2 := blk_frozen BK101.out 2; have hfz108_3 := blk_frozen BK101.out 3; obtain ⟨Ao109, co109, eo109⟩ := Kd.R_slice HO107.out; subst eo109) | ((with_reducible refine gate_callee (f := 70) rfl ?_); refine goesL_ (some 36) rfl rfl Try.func70 (by kernel_rfl) rfl #[.int .i64 a1_1, .int .i64 1, .int .i64 (y105.length : Int)] rfl (by (try simp only [List.map_toArray, List.map_cons, List.map_nil]); first | done | rfl | (simp only [List.length_drop, List.length_take]; rfl)) ?_; (with_reducible refine (spec_l1In.calls a1_1 1 (y105.length : Int) false _ A16.out).mono ?_); rintro e w' ⟨rfl, ⟨nd, rfl⟩⟩; refine ⟨_, rfl, ?_⟩))
  go_ret2
  exact ⟨_, by first | rfl | (simp [errW_none, errW_some] <;> rfl) | (simp [*, errW_none, errW_some] <;> rfl), by (with_reducible repeat (first | apply Kd.R_alloc | apply Kd.R_drewN | apply Kd.R_drew)); exact HO107.out, by repeat (first | (with_reducible first | exact HB.out | apply below_alloc | apply pw_below_drewN | apply below_drew1 | refine below_set ?_ GE101.out) | exact HB.out)⟩
 rw [if_neg c3] at H
 exact absurd H (by simp)
end
section
/-! ### spec_ApplyStep: function 52 -/
def spec_ApplyStep.f (k : Nat) (l0 : List (S71)) (a1_0 : Int) (a1_1 : Int) (a1_2 : Int) (a1_3 : ByteArray) : Option ((List (S71)) × Bool) := (spec_l20Good.f k l0).bind fun t102 => (if t102 = true then ((spec_l20Step.f k l0 a1_0 a1_1 a1_2 a1_3).bind fun bt103 => (if bt103.2 = true then (some (bt103.1, true)) else (some ((([] : List (S71))), false)))) else (some ((([] : List (S71))), false)))
theorem spec_ApplyStep.mono : ∀ a0 a1 a2 a3 a4 k, LeO (spec_ApplyStep.f k a0 a1 a2 a3 a4) (spec_ApplyStep.f (k + 1) a0 a1 a2 a3 a4) := by
 intro a0 a1 a2 a3 a4 k
 unfold spec_ApplyStep.f
 repeat' first
   | (with_reducible exact spec_l20Good.mono _ _)
   | (with_reducible exact spec_l20Step.mono _ _ _ _ _ _)
   | (with_reducible exact LeO.refl _)
   | (with_reducible exact LeO.none _)
   | (with_reducible refine LeO.ite ?_ ?_)
   | (with_reducible refine LeO.bind ?_ (fun _ => ?_))
   | exact spec_l20Good.mono _ _
   | exact spec_l20Step.mono _ _ _ _ _ _
   | exact LeO.none _
   | refine LeO.ite ?_ ?_
   | refine LeO.bind ?_ (fun _ => ?_)
set_option maxHeartbeats 8000000 in
set_option maxRecDepth 100000 in
theorem spec_ApplyStep.calls (k : Nat) (A0 : Option Addr) (c0 : Nat) (l0 : List (S71)) (a1_0 : Int) (a1_1 : Int) (a1_2 : Int) (a1_3 : ByteArray) (r1 : List (S71)) (r2 : Bool) (w : World) (hr0 : Kd.C k71 w A0 l0.length l0) (hc0 : l0.length ≤ c0) (h : spec_ApplyStep.f k l0 a1_0 a1_1 a1_2 a1_3 = some (r1, r2)) :
  Calls Try.prog 52 #[.slice A0 l0.length c0, .agg #[.int .i64 a1_0, .int .i64 a1_1, .int .i64 a1_2, .string a1_3]] w fun e w' => ∃ v0_ : Value, e = .returned (.tuple #[v0_, .bool r2]) ∧ Kd.R k71 71 w' w.heap.size (fun _ => True) v0_ r1 ∧ Below w.heap.size w w' := by
 have hu61 := Try.underlying61
 have HR0 := Aside0.mk hr0
 have HC0 := Aside0.mk hc0
 clear hr0 hc0
 have HB := Aside0.mk (Below.refl w.heap.size w)
 have H : ((spec_l20Good.f k l0).bind fun t102 => (if t102 = true then ((spec_l20Step.f k l0 a1_0 a1_1 a1_2 a1_3).bind fun bt103 => (if bt103.2 = true then (some (bt103.1, true)) else (some ((([] : List (S71))), false)))) else (some ((([] : List (S71))), false)))) = some (r1, r2) := h
 clear h
 replace H := Option.bind_eq_some_iff.mp H
 obtain ⟨t102, A30, H⟩ := H
 replace H : (if t102 = true then ((spec_l20Step.f k l0 a1_0 a1_1 a1_2 a1_3).bind fun bt103 => (if bt103.2 = true then (some (bt103.1, true)) else (some ((([] : List (S71))), false)))) else (some ((([] : List (S71))), false))) = some (r1, r2) := H
 have A3 := Aside0.mk A30
 clear A30
 by_cases c4 : t102 = true
 ·subst c4
  have H1 : ((spec_l20Step.f k l0 a1_0 a1_1 a1_2 a1_3).bind fun bt103 => (if bt103.2 = true then (some (bt103.1, true)) else (some ((([] : List (S71))), false)))) = some (r1, r2) := by rw [if_pos rfl] at H; exact H
  clear H
  have H := H1
  clear H1
  replace H := Option.bind_eq_some_iff.mp H
  obtain ⟨⟨t103, t106⟩, A50, H⟩ := H
  replace H : (if t106 = true then (some (t103, true)) else (some ((([] : List (S71))), false))) = some (r1, r2) := H
  have A5 := Aside0.mk A50
  clear A50
  by_cases c6 : t106 = true
  ·subst c6
   have H1 : (some (t103, true)) = some (r1, r2) := by rw [if_pos rfl] at H; exact H
   clear H
   have H := H1
   clear H1
   simp only [Option.some.injEq, Prod.mk.injEq] at H
   obtain ⟨rfl, rfl⟩ := H
   go_enter Try.func52, Try.ntmps52
   go_wp2_with (first | ((with_reducible refine gate_dst (N := 3) rfl ?_); refine box_event ?hg (N := 3) ?hd (cs := #[.int .i64 a1_0, .int .i64 a1_1, .int .i64 a1_2, .string a1_3]) (t := 61) ?hr ?_; (case hd => rfl); (case hg => rfl); (case hr => first | (go_simp; done) | (go_simp; rfl)); intro gb101 hg w7 hbox hb; have n0_ := Aside0.mk (below_step (pH_ HB.out) hb); have n1_ := Aside0.mk (hbox); have n2_ := Aside0.mk ((by rw [hg]; exact (below_size (pH_ HB.out)) : w.heap.size ≤ gb101)); have n3_ := Aside0.mk ((by rw [hg]; exact (below_size (pH_ HB.out)) : w.heap.size ≤ gb101)); clear HB; have HB := n0_; have BK101 := n1_; have GW101 := n2_; have GE101 := n3_; clear n0_ n1_ n2_ n3_; clear hb hbox hg) | ((with_reducible refine gate_callee (f := 85) rfl ?_); refine goesL_ (some 9) rfl rfl Try.func85 (by kernel_rfl) rfl #[.slice A0 l0.length c0] rfl (by (try simp only [List.map_toArray, List.map_cons, List.map_nil]); first | done | rfl | (simp only [List.length_drop, List.length_take]; rfl)) ?_; (with_reducible refine (spec_l20Good.calls k _ _ l0 true _ ?side1 ?side2 A3.out).mono ?_); (case side1 => repeat (first | exact (Kd.C_below HR0.out HB.out) | (with_reducible refine Kd.C_alloc ?_ _) | (with_reducible refine Kd.C_drewN ?_ _) | (with_reducible refine Kd.C_drew ?_))); (case side2 => exact HC0.out); rintro e w8 ⟨rfl, hb⟩; refine ⟨_, rfl, ?_⟩; have n0_ := Aside0.mk (blk_below (g := gb101) (o := .cells #[.int .i64 a1_0, .int .i64 a1_1, .int .i64 a1_2, .string a1_3] 61 (0, 0)) (pB_ BK101.out) hb); have n1_ := Aside0.mk (below_step (pH_ HB.out) hb); clear BK101; clear HB; have BK101 := n0_; have HB := n1_; clear n0_ n1_; (try clear hb); (try clear hb2); (try clear hk); (try clear hi); have hcz9_0 := cz_ BK101.out 0 _ rfl; have hcz9_1 := cz_ BK101.out 1 _ rfl; have hcz9_2 := cz_ BK101.out 2 _ rfl; have hcz9_3 := cz_ BK101.out 3 _ rfl; have hfz9_0 := blk_frozen BK101.out 0; have hfz9_1 := blk_frozen BK101.out 1; have hfz9_2 := blk_frozen BK101.out 2; have hfz9_3 := blk_frozen BK101.out 3) | ((with_reducible refine gate_callee (f := 102) rfl ?_); refine goesL_ (some 15) rfl rfl Try.func102 (by kernel_rfl) rfl #[.slice A0 l0.length c0, .agg #[.int .i64 a1_0, .int .i64 a1_1, .int .i64 a1_2, .string a1_3]] rfl (by (try simp only [List.map_toArray, List.map_cons, List.map_nil]); first | done | rfl | (simp only [List.length_drop, List.length_take]; rfl)) ?_; (with_reducible refine (spec_l20Step.calls k _ _ l0 a1_0 a1_1 a1_2 a1_3 t103 true _ ?side1 ?side2 A5.out).mono ?_); (case side1 => repeat (first | exact (Kd.C_below HR0.out HB.out) | (with_reducible refine Kd.C_alloc ?_ _) | (with_reducible refine Kd.C_drewN ?_ _) | (with_reducible refine Kd.C_drew ?_))); (case side2 => exact HC0.out); rintro e w10 ⟨v104, rfl, ho0, hb⟩; refine ⟨_, rfl, ?_⟩; have n0_ := Aside0.mk (Kd.R_lower ho0 (below_size (pH_ HB.out))); have n1_ := Aside0.mk (blk_below (g := gb101) (o := .cells #[.int .i64 a1_0, .int .i64 a1_1, .int .i64 a1_2, .string a1_3] 61 (0, 0)) (pB_ BK101.out) hb); have n2_ := Aside0.mk (below_step (pH_ HB.out) hb); clear BK101; clear HB; have HO105 := n0_; have BK101 := n1_; have HB := n2_; clear n0_ n1_ n2_; (try clear hb); (try clear hb2); (try clear hk); (try clear hi); (try clear ho0)))
   go_ret2
   exact ⟨_, by first | rfl | (simp [errW_none, errW_some] <;> rfl) | (simp [*, errW_none, errW_some] <;> rfl), by (with_reducible repeat (first | apply Kd.R_alloc | apply Kd.R_drewN | apply Kd.R_drew)); exact HO105.out, by repeat (first | (with_reducible first | exact HB.out | apply below_alloc | apply pw_below_drewN | apply below_drew1 | refine below_set ?_ GE101.out) | exact HB.out)⟩
  replace c6 := Bool.eq_false_iff.mpr c6
  subst c6
  have H1 : (some ((([] : List (S71))), false)) = some (r1, r2) := by rw [if_neg (show ¬ (false = true) by decide)] at H; exact H
  clear H
  have H := H1
  clear H1
  obtain ⟨y107, hy107⟩ : ∃ y_ : List (S71), y_ = (([] : List (S71))) := ⟨_, rfl⟩
  replace H : (some (y107, false)) = some (r1, r2) := by first | (rw [hy107]; with_reducible exact H) | (have H2_ := (Option.bind_some _ _).symm.trans H; rw [hy107]; with_reducible exact H2_) | (have H2_ := (Option.bind_some _ _).symm.trans H; with_reducible exact H2_) | with_reducible exact H | (rw [hy107]; exact H) | exact H
  have Ny107 := Aside0.mk hy107
  clear hy107
  simp only [Option.some.injEq, Prod.mk.injEq] at H
  obtain ⟨rfl, rfl⟩ := H
  go_enter Try.func52, Try.ntmps52
  go_wp2_with (first | ((with_reducible refine gate_dst (N := 3) rfl ?_); refine box_event ?hg (N := 3) ?hd (cs := #[.int .i64 a1_0, .int .i64 a1_1, .int .i64 a1_2, .string a1_3]) (t := 61) ?hr ?_; (case hd => rfl); (case hg => rfl); (case hr => first | (go_simp; done) | (go_simp; rfl)); intro gb101 hg w11 hbox hb; have n0_ := Aside0.mk (below_step (pH_ HB.out) hb); have n1_ := Aside0.mk (hbox); have n2_ := Aside0.mk ((by rw [hg]; exact (below_size (pH_ HB.out)) : w.heap.size ≤ gb101)); have n3_ := Aside0.mk ((by rw [hg]; exact (below_size (pH_ HB.out)) : w.heap.size ≤ gb101)); clear HB; have HB := n0_; have BK101 := n1_; have GW101 := n2_; have GE101 := n3_; clear n0_ n1_ n2_ n3_; clear hb hbox hg) | ((with_reducible refine gate_callee (f := 85) rfl ?_); refine goesL_ (some 9) rfl rfl Try.func85 (by kernel_rfl) rfl #[.slice A0 l0.length c0] rfl (by (try simp only [List.map_toArray, List.map_cons, List.map_nil]); first | done | rfl | (simp only [List.length_drop, List.length_take]; rfl)) ?_; (with_reducible refine (spec_l20Good.calls k _ _ l0 true _ ?side1 ?side2 A3.out).mono ?_); (case side1 => repeat (first | exact (Kd.C_below HR0.out HB.out) | (with_reducible refine Kd.C_alloc ?_ _) | (with_reducible refine Kd.C_drewN ?_ _) | (with_reducible refine Kd.C_drew ?_))); (case side2 => exact HC0.out); rintro e w12 ⟨rfl, hb⟩; refine ⟨_, rfl, ?_⟩; have n0_ := Aside0.mk (blk_below (g := gb101) (o := .cells #[.int .i64 a1_0, .int .i64 a1_1, .int .i64 a1_2, .string a1_3] 61 (0, 0)) (pB_ BK101.out) hb); have n1_ := Aside0.mk (below_step (pH_ HB.out) hb); clear BK101; clear HB; have BK101 := n0_; have HB := n1_; clear n0_ n1_; (try clear hb); (try clear hb2); (try clear hk); (try clear hi); have hcz13_0 := cz_ BK101.out 0 _ rfl; have hcz13_1 := cz_ BK101.out 1 _ rfl; have hcz13_2 := cz_ BK101.out 2 _ rfl; have hcz13_3 := cz_ BK101.out 3 _ rfl; have hfz13_0 := blk_frozen BK101.out 0; have hfz13_1 := blk_frozen BK101.out 1; have hfz13_2 := blk_frozen BK101.out 2; have hfz13_3 := blk_frozen BK101.out 3) | ((with_reducible refine gate_callee (f := 102) rfl ?_); refine goesL_ (some 15) rfl rfl Try.func102 (by kernel_rfl) rfl #[.slice A0 l0.length c0, .agg #[.int .i64 a1_0, .int .i64 a1_1, .int .i64 a1_2, .string a1_3]] rfl (by (try simp only [List.map_toArray, List.map_cons, List.map_nil]); first | done | rfl | (simp only [List.length_drop, List.length_take]; rfl)) ?_; (with_reducible refine (spec_l20Step.calls k _ _ l0 a1_0 a1_1 a1_2 a1_3 t103 false _ ?side1 ?side2 A5.out).mono ?_); (case side1 => repeat (first | exact (Kd.C_below HR0.out HB.out) | (with_reducible refine Kd.C_alloc ?_ _) | (with_reducible refine Kd.C_drewN ?_ _) | (with_reducible refine Kd.C_drew ?_))); (case side2 => exact HC0.out); rintro e w14 ⟨v104, rfl, ho0, hb⟩; refine ⟨_, rfl, ?_⟩; have n0_ := Aside0.mk (Kd.R_lower ho0 (below_size (pH_ HB.out))); have n1_ := Aside0.mk (blk_below (g := gb101) (o := .cells #[.int .i64 a1_0, .int .i64 a1_1, .int .i64 a1_2, .string a1_3] 61 (0, 0)) (pB_ BK101.out) hb); have n2_ := Aside0.mk (below_step (pH_ HB.out) hb); clear BK101; clear HB; have HO105 := n0_; have BK101 := n1_; have HB := n2_; clear n0_ n1_ n2_; (try clear hb); (try clear hb2); (try clear hk); (try clear hi); (try clear ho0)) | ((with_reducible refine gate_dst (N := 20) rfl ?_); refine Kd.R_lit k71 _ 71 ?hg (N := 20) ?hd (xs := ([] : List (S71))) (inner := []) (ok := fun _ => True) (okp := fun _ => True) ?hr ?hp (fun _ hk => hk) trivial (Below.refl _ _) (Nat.le_refl _) (by simp) ?_; (case hd => rfl); (case hg => rfl); (case hr => first | (go_simp; done) | (go_simp; rfl)); (case hp => exact (Reps.none _ _)); intro v108 w15 ho16 hb hg_ hnew_; clear hg_ hnew_; (first | rw [← Ny107.out] at ho16 | (simp only [Int.reduceToNat] at ho16; rw [← Ny107.out] at ho16)); have n0_ := Aside0.mk (Kd.R_elder' (pR_ HO105.out) (Kd.R_base ho16) hb); have n1_ := Aside0.mk (Kd.R_lower (Kd.R_new' ho16 (Kd.R_lt (pR_ HO105.out))) (below_size (pH_ HB.out))); have n2_ := Aside0.mk (blk_below (g := gb101) (o := .cells #[.int .i64 a1_0, .int .i64 a1_1, .int .i64 a1_2, .string a1_3] 61 (0, 0)) (pB_ BK101.out) hb); have n3_ := Aside0.mk (below_step (pH_ HB.out) hb); clear HO105; clear BK101; clear HB; have HO105 := n0_; have HO109 := n1_; have BK101 := n2_; have HB := n3_; clear n0_ n1_ n2_ n3_; clear hb ho16))
  go_ret2
  exact ⟨_, by first | rfl | (simp [errW_none, errW_some] <;> rfl) | (simp [*, errW_none, errW_some] <;> rfl), by (with_reducible repeat (first | apply Kd.R_alloc | apply Kd.R_drewN | apply Kd.R_drew)); exact Kd.R_mono HO109.out (fun _ hk => trivial), by repeat (first | (with_reducible first | exact HB.out | apply below_alloc | apply pw_below_drewN | apply below_drew1 | refine below_set ?_ GE101.out) | exact HB.out)⟩
 replace c4 := Bool.eq_false_iff.mpr c4
 subst c4
 have H1 : (some ((([] : List (S71))), false)) = some (r1, r2) := by rw [if_neg (show ¬ (false = true) by decide)] at H; exact H
 clear H
 have H := H1
 clear H1
 obtain ⟨y110, hy110⟩ : ∃ y_ : List (S71), y_ = (([] : List (S71))) := ⟨_, rfl⟩
 replace H : (some (y110, false)) = some (r1, r2) := by first | (rw [hy110]; with_reducible exact H) | (have H2_ := (Option.bind_some _ _).symm.trans H; rw [hy110]; with_reducible exact H2_) | (have H2_ := (Option.bind_some _ _).symm.trans H; with_reducible exact H2_) | with_reducible exact H | (rw [hy110]; exact H) | exact H
 have Ny110 := Aside0.mk hy110
 clear hy110
 simp only [Option.some.injEq, Prod.mk.injEq] at H
 obtain ⟨rfl, rfl⟩ := H
 go_enter Try.func52, Try.ntmps52
 go_wp2_with (first | ((with_reducible refine gate_dst (N := 3) rfl ?_); refine box_event ?hg (N := 3) ?hd (cs := #[.int .i64 a1_0, .int .i64 a1_1, .int .i64 a1_2, .string a1_3]) (t := 61) ?hr ?_; (case hd => rfl); (case hg => rfl); (case hr => first | (go_simp; done) | (go_simp; rfl)); intro gb101 hg w17 hbox hb; have n0_ := Aside0.mk (below_step (pH_ HB.out) hb); have n1_ := Aside0.mk (hbox); have n2_ := Aside0.mk ((by rw [hg]; exact (below_size (pH_ HB.out)) : w.heap.size ≤ gb101)); have n3_ := Aside0.mk ((by rw [hg]; exact (below_size (pH_ HB.out)) : w.heap.size ≤ gb101)); clear HB; have HB := n0_; have BK101 := n1_; have GW101 := n2_; have GE101 := n3_; clear n0_ n1_ n2_ n3_; clear hb hbox hg) | ((with_reducible refine gate_callee (f := 85) rfl ?_); refine goesL_ (some 9) rfl rfl Try.func85 (by kernel_rfl) rfl #[.slice A0 l0.length c0] rfl (by (try simp only [List.map_toArray, List.map_cons, List.map_nil]); first | done | rfl | (simp only [List.length_drop, List.length_take]; rfl)) ?_; (with_reducible refine (spec_l20Good.calls k _ _ l0 false _ ?side1 ?side2 A3.out).mono ?_); (case side1 => repeat (first | exact (Kd.C_below HR0.out HB.out) | (with_reducible refine Kd.C_alloc ?_ _) | (with_reducible refine Kd.C_drewN ?_ _) | (with_reducible refine Kd.C_drew ?_))); (case side2 => exact HC0.out); rintro e w18 ⟨rfl, hb⟩; refine ⟨_, rfl, ?_⟩; have n0_ := Aside0.mk (blk_below (g := gb101) (o := .cells #[.int .i64 a1_0, .int .i64 a1_1, .int .i64 a1_2, .string a1_3] 61 (0, 0)) (pB_ BK101.out) hb); have n1_ := Aside0.mk (below_step (pH_ HB.out) hb); clear BK101; clear HB; have BK101 := n0_; have HB := n1_; clear n0_ n1_; (try clear hb); (try clear hb2); (try clear hk); (try clear hi)) | ((with_reducible refine gate_dst (N := 11) rfl ?_); refine Kd.R_lit k71 _ 71 ?hg (N := 11) ?hd (xs := ([] : List (S71))) (inner := []) (ok := fun _ => True) (okp := fun _ => True) ?hr ?hp (fun _ hk => hk) trivial (Below.refl _ _) (Nat.le_refl _) (by simp) ?_; (case hd => rfl); (case hg => rfl); (case hr => first | (go_simp; done) | (go_simp; rfl)); (case hp => exact (Reps.none _ _)); intro v111 w19 ho20 hb hg_ hnew_; clear hg_ hnew_; (first | rw [← Ny110.out] at ho20 | (simp only [Int.reduceToNat] at ho20; rw [← Ny110.out] at ho20)); have n0_ := Aside0.mk (Kd.R_lower ho20 (below_size (pH_ HB.out))); have n1_ := Aside0.mk (blk_below (g := gb101) (o := .cells #[.int .i64 a1_0, .int .i64 a1_1, .int .i64 a1_2, .string a1_3] 61 (0, 0)) (pB_ BK101.out) hb); have n2_ := Aside0.mk (below_step (pH_ HB.out) hb); clear BK101; clear HB; have HO112 := n0_; have BK101 := n1_; have HB := n2_; clear n0_ n1_ n2_; clear hb ho20))
 go_ret2
 exact ⟨_, by first | rfl | (simp [errW_none, errW_some] <;> rfl) | (simp [*, errW_none, errW_some] <;> rfl), by (with_reducible repeat (first | apply Kd.R_alloc | apply Kd.R_drewN | apply Kd.R_drew)); exact HO112.out, by repeat (first | (with_reducible first | exact HB.out | apply below_alloc | apply pw_below_drewN | apply below_drew1 | refine below_set ?_ GE101.out) | exact HB.out)⟩
end
section
/-! ### laws_szStep: function 59 -/
def laws_szStep.f (a0_0 : Int) (a0_1 : Int) (a0_2 : Int) (a0_3 : ByteArray) (a1 : Int) : Option (Int) := if (wrap64 (a1 - (a0_3.size : Int))) < 0 then (some (-1)) else (some (wrap64 (a1 - (a0_3.size : Int))))
set_option maxHeartbeats 8000000 in
set_option maxRecDepth 100000 in
theorem laws_szStep.calls (a0_0 : Int) (a0_1 : Int) (a0_2 : Int) (a0_3 : ByteArray) (a1 : Int) (r : Int) (w : World) (h : laws_szStep.f a0_0 a0_1 a0_2 a0_3 a1 = some r) :
  Calls Try.prog 59 #[.agg #[.int .i64 a0_0, .int .i64 a0_1, .int .i64 a0_2, .string a0_3], .int .i64 a1] w fun e w' => e = .returned (.int .i64 r) ∧ Below w.heap.size w w' := by
 have hu73 := Try.underlying73
 have HB := Aside0.mk (Below.refl w.heap.size w)
 have H : (if (wrap64 (a1 - (a0_3.size : Int))) < 0 then (some (-1)) else (some (wrap64 (a1 - (a0_3.size : Int))))) = some r := h
 clear h
 by_cases c3 : (wrap64 (a1 - (a0_3.size : Int))) < 0
 ·rw [if_pos c3] at H
  have c3b0 : decide ((wrap64 (a1 - (a0_3.size : Int))) < 0) = true := decide_eq_true c3
  clear c3
  obtain rfl := Option.some.inj H
  go_enter Try.func59, Try.ntmps59
  go_wp2_with (first | ((with_reducible refine gate_dst (N := 2) rfl ?_); refine box_event ?hg (N := 2) ?hd (cs := #[.int .i64 a0_0, .int .i64 a0_1, .int .i64 a0_2, .string a0_3]) (t := 73) ?hr ?_; (case hd => rfl); (case hg => rfl); (case hr => first | (go_simp; done) | (go_simp; rfl)); intro gb101 hg w4 hbox hb; have n0_ := Aside0.mk (below_step (pH_ HB.out) hb); have n1_ := Aside0.mk (hbox); have n2_ := Aside0.mk ((by rw [hg]; exact (below_size (pH_ HB.out)) : w.heap.size ≤ gb101)); have n3_ := Aside0.mk ((by rw [hg]; exact (below_size (pH_ HB.out)) : w.heap.size ≤ gb101)); clear HB; have HB := n0_; have BK101 := n1_; have GW101 := n2_; have GE101 := n3_; clear n0_ n1_ n2_ n3_; clear hb hbox hg; have hcz5_0 := cz_ BK101.out 0 _ rfl; have hcz5_1 := cz_ BK101.out 1 _ rfl; have hcz5_2 := cz_ BK101.out 2 _ rfl; have hcz5_3 := cz_ BK101.out 3 _ rfl; have hfz5_0 := blk_frozen BK101.out 0; have hfz5_1 := blk_frozen BK101.out 1; have hfz5_2 := blk_frozen BK101.out 2; have hfz5_3 := blk_frozen BK101.out 3))
  go_ret
  exact ⟨by first | rfl | (simp [errW_none, errW_some] <;> rfl) | (simp [*, errW_none, errW_some] <;> rfl), by repeat (first | (with_reducible first | exact HB.out | apply below_alloc | apply pw_below_drewN | apply below_drew1 | refine below_set ?_ GE101.out) | exact HB.out)⟩
 rw [if_neg c3] at H
 have c3b0 : decide ((wrap64 (a1 - (a0_3.size : Int))) < 0) = false := decide_eq_false c3
 clear c3
 obtain rfl := Option.some.inj H
 go_enter Try.func59, Try.ntmps59
 go_wp2_with (first | ((with_reducible refine gate_dst (N := 2) rfl ?_); refine box_event ?hg (N := 2) ?hd (cs := #[.int .i64 a0_0, .int .i64 a0_1, .int .i64 a0_2, .string a0_3]) (t := 73) ?hr ?_; (case hd => rfl); (case hg => rfl); (case hr => first | (go_simp; done) | (go_simp; rfl)); intro gb101 hg w6 hbox hb; have n0_ := Aside0.mk (below_step (pH_ HB.out) hb); have n1_ := Aside0.mk (hbox); have n2_ := Aside0.mk ((by rw [hg]; exact (below_size (pH_ HB.out)) : w.heap.size ≤ gb101)); have n3_ := Aside0.mk ((by rw [hg]; exact (below_size (pH_ HB.out)) : w.heap.size ≤ gb101)); clear HB; have HB := n0_; have BK101 := n1_; have GW101 := n2_; have GE101 := n3_; clear n0_ n1_ n2_ n3_; clear hb hbox hg; have hcz7_0 := cz_ BK101.out 0 _ rfl; have hcz7_1 := cz_ BK101.out 1 _ rfl; have hcz7_2 := cz_ BK101.out 2 _ rfl; have hcz7_3 := cz_ BK101.out 3 _ rfl; have hfz7_0 := blk_frozen BK101.out 0; have hfz7_1 := blk_frozen BK101.out 1; have hfz7_2 := blk_frozen BK101.out 2; have hfz7_3 := blk_frozen BK101.out 3))
 go_ret
 exact ⟨by first | rfl | (simp [errW_none, errW_some] <;> rfl) | (simp [*, errW_none, errW_some] <;> rfl), by repeat (first | (with_reducible first | exact HB.out | apply below_alloc | apply pw_below_drewN | apply below_drew1 | refine below_set ?_ GE101.out) | exact HB.out)⟩
end
section
/-! ### laws_toStep: function 60 -/
def laws_toStep.f (a0_0 : Int) (a0_1 : Int) (a0_2 : Int) (a0_3 : ByteArray) : Option (Int × Int × Int × ByteArray) := some (a0_0, a0_1, a0_2, a0_3)
set_option maxHeartbeats 8000000 in
set_option maxRecDepth 100000 in
theorem laws_toStep.calls (a0_0 : Int) (a0_1 : Int) (a0_2 : Int) (a0_3 : ByteArray) (r1 : Int) (r2 : Int) (r3 : Int) (r4 : ByteArray) (w : World) (h : laws_toStep.f a0_0 a0_1 a0_2 a0_3 = some (r1, r2, r3, r4)) :
  Calls Try.prog 60 #[.agg #[.int .i64 a0_0, .int .i64 a0_1, .int .i64 a0_2, .string a0_3]] w fun e w' => e = .returned (.agg #[.int .i64 r1, .int .i64 r2, .int .i64 r3, .string r4]) ∧ Below w.heap.size w w' := by
 have hu73 := Try.underlying73
 have hu61 := Try.underlying61
 have HB := Aside0.mk (Below.refl w.heap.size w)
 have H : (some (a0_0, a0_1, a0_2, a0_3)) = some (r1, r2, r3, r4) := h
 clear h
 simp only [Option.some.injEq, Prod.mk.injEq] at H
 obtain ⟨rfl, rfl, rfl, rfl⟩ := H
 go_enter Try.func60, Try.ntmps60
 go_wp2_with (first | ((with_reducible refine gate_dst (N := 1) rfl ?_); refine box_event ?hg (N := 1) ?hd (cs := #[.int .i64 a0_0, .int .i64 a0_1, .int .i64 a0_2, .string a0_3]) (t := 73) ?hr ?_; (case hd => rfl); (case hg => rfl); (case hr => first | (go_simp; done) | (go_simp; rfl)); intro gb101 hg w2 hbox hb; have n0_ := Aside0.mk (below_step (pH_ HB.out) hb); have n1_ := Aside0.mk (hbox); have n2_ := Aside0.mk ((by rw [hg]; exact (below_size (pH_ HB.out)) : w.heap.size ≤ gb101)); have n3_ := Aside0.mk ((by rw [hg]; exact (below_size (pH_ HB.out)) : w.heap.size ≤ gb101)); clear HB; have HB := n0_; have BK101 := n1_; have GW101 := n2_; have GE101 := n3_; clear n0_ n1_ n2_ n3_; clear hb hbox hg) | ((with_reducible refine gate_dst (N := 2) rfl ?_); refine box_event ?hg (N := 2) ?hd (cs := #[.int .i64 0, .int .i64 0, .int .i64 0, .string (⟨#[]⟩ : ByteArray)]) (t := 61) ?hr ?_; (case hd => rfl); (case hg => rfl); (case hr => first | (go_simp; done) | (go_simp; rfl)); intro gb102 hg w3 hbox hb; have n0_ := Aside0.mk (blk_below (g := gb101) (o := .cells #[.int .i64 a0_0, .int .i64 a0_1, .int .i64 a0_2, .string a0_3] 73 (0, 0)) (pB_ BK101.out) hb); have n1_ := Aside0.mk (below_step (pH_ HB.out) hb); have n2_ := Aside0.mk (hbox); have n3_ := Aside0.mk ((by rw [hg]; exact (below_size (pH_ HB.out)) : w.heap.size ≤ gb102)); have n4_ := Aside0.mk ((by rw [hg]; exact (below_size (pH_ HB.out)) : w.heap.size ≤ gb102)); have n5_ := Aside0.mk ((by rw [hg]; exact Nat.ne_of_lt (blk_lt (g := gb101) (o := .cells #[.int .i64 a0_0, .int .i64 a0_1, .int .i64 a0_2, .string a0_3] 73 (0, 0)) (pB_ BK101.out)) : gb101 ≠ gb102)); have n6_ := Aside0.mk ((by rw [hg]; exact Nat.ne_of_gt (blk_lt (g := gb101) (o := .cells #[.int .i64 a0_0, .int .i64 a0_1, .int .i64 a0_2, .string a0_3] 73 (0, 0)) (pB_ BK101.out)) : gb102 ≠ gb101)); clear BK101; clear HB; have BK101 := n0_; have HB := n1_; have BK102 := n2_; have GW102 := n3_; have GE102 := n4_; have NB101_102 := n5_; have NB102_101 := n6_; clear n0_ n1_ n2_ n3_ n4_ n5_ n6_; clear hb hbox hg) | ((with_reducible refine gate_dst (N := 3) rfl ?_); refine box_event ?hg (N := 3) ?hd (cs := #[.int .i64 0, .int .i64 0, .int .i64 0, .string (⟨#[]⟩ : ByteArray)]) (t := 61) ?hr ?_; (case hd => rfl); (case hg => rfl); (case hr => first | (go_simp; done) | (go_simp; rfl)); intro gb103 hg w4 hbox hb; have n0_ := Aside0.mk (blk_below (g := gb101) (o := .cells #[.int .i64 a0_0, .int .i64 a0_1, .int .i64 a0_2, .string a0_3] 73 (0, 0)) (pB_ BK101.out) hb); have n1_ := Aside0.mk (blk_below (g := gb102) (o := .cells #[.int .i64 0, .int .i64 0, .int .i64 0, .string (⟨#[]⟩ : ByteArray)] 61 (0, 0)) (pB_ BK102.out) hb); have n2_ := Aside0.mk (below_step (pH_ HB.out) hb); have n3_ := Aside0.mk (hbox); have n4_ := Aside0.mk ((by rw [hg]; exact (below_size (pH_ HB.out)) : w.heap.size ≤ gb103)); have n5_ := Aside0.mk ((by rw [hg]; exact (below_size (pH_ HB.out)) : w.heap.size ≤ gb103)); have n6_ := Aside0.mk ((by rw [hg]; exact Nat.ne_of_lt (blk_lt (g := gb101) (o := .cells #[.int .i64 a0_0, .int .i64 a0_1, .int .i64 a0_2, .string a0_3] 73 (0, 0)) (pB_ BK101.out)) : gb101 ≠ gb103)); have n7_ := Aside0.mk ((by rw [hg]; exact Nat.ne_of_gt (blk_lt (g := gb101) (o := .cells #[.int .i64 a0_0, .int .i64 a0_1, .int .i64 a0_2, .string a0_3] 73 (0, 0)) (pB_ BK101.out)) : gb103 ≠ gb101)); have n8_ := Aside0.mk ((by rw [hg]; exact Nat.ne_of_lt (blk_lt (g := gb102) (o := .cells #[.int .i64 0, .int .i64 0, .int .i64 0, .string (⟨#[]⟩ : ByteArray)] 61 (0, 0)) (pB_ BK102.out)) : gb102 ≠ gb103)); have n9_ := Aside0.mk ((by rw [hg]; exact Nat.ne_of_gt (blk_lt (g := gb102) (o := .cells #[.int .i64 0, .int .i64 0, .int .i64 0, .string (⟨#[]⟩ : ByteArray)] 61 (0, 0)) (pB_ BK102.out)) : gb103 ≠ gb102)); clear BK101; clear BK102; clear HB; have BK101 := n0_; have BK102 := n1_; have HB := n2_; have BK103 := n3_; have GW103 := n4_; have GE103 := n5_; have NB101_103 := n6_; have NB103_101 := n7_; have NB102_103 := n8_; have NB103_102 := n9_; clear n0_ n1_ n2_ n3_ n4_ n5_ n6_ n7_ n8_ n9_; clear hb hbox hg; have hnb5 := NB101_102.out; have hnc5 := NB102_101.out; have hnb6 := NB101_103.out; have hnc6 := NB103_101.out; have hcz7_0 := cz_ BK101.out 0 _ rfl; have hcz7_1 := cz_ BK101.out 1 _ rfl; have hcz7_2 := cz_ BK101.out 2 _ rfl; have hcz7_3 := cz_ BK101.out 3 _ rfl; have hfz7_0 := blk_frozen BK101.out 0; have hfz7_1 := blk_frozen BK101.out 1; have hfz7_2 := blk_frozen BK101.out 2; have hfz7_3 := blk_frozen BK101.out 3; have hnb8 := NB103_102.out; have hnc8 := NB102_103.out; have hcz9_0 := cz_ BK103.out 0 _ rfl; have hcz9_1 := cz_ BK103.out 1 _ rfl; have hcz9_2 := cz_ BK103.out 2 _ rfl; have hcz9_3 := cz_ BK103.out 3 _ rfl; have hfz9_0 := blk_frozen BK103.out 0; have hfz9_1 := blk_frozen BK103.out 1; have hfz9_2 := blk_frozen BK103.out 2; have hfz9_3 := blk_frozen BK103.out 3; have hcz10_0 := cz_ BK102.out 0 _ rfl; have hcz10_1 := cz_ BK102.out 1 _ rfl; have hcz10_2 := cz_ BK102.out 2 _ rfl; have hcz10_3 := cz_ BK102.out 3 _ rfl; have hfz10_0 := blk_frozen BK102.out 0; have hfz10_1 := blk_frozen BK102.out 1; have hfz10_2 := blk_frozen BK102.out 2; have hfz10_3 := blk_frozen BK102.out 3))
 refine bodyPost_ret (results_cell_row rfl _ _ gb102 61 #[.int .i64 a0_0, .int .i64 a0_1, .int .i64 a0_2, .string a0_3] (0, 0) _ rfl (by (with_reducible repeat (first | refine blk_drewN ?_ _ | refine blk_drew ?_ | refine blk_alloc ?_ _)); refine blk_put (cs := #[.int .i64 a0_0, .int .i64 a0_1, .int .i64 a0_2, .string (⟨#[]⟩ : ByteArray)]) ?_ 3 _ rfl; (with_reducible repeat (first | refine blk_drewN ?_ _ | refine blk_drew ?_ | refine blk_alloc ?_ _)); refine blk_put (cs := #[.int .i64 a0_0, .int .i64 a0_1, .int .i64 0, .string (⟨#[]⟩ : ByteArray)]) ?_ 2 _ rfl; (with_reducible repeat (first | refine blk_drewN ?_ _ | refine blk_drew ?_ | refine blk_alloc ?_ _)); refine blk_put (cs := #[.int .i64 a0_0, .int .i64 0, .int .i64 0, .string (⟨#[]⟩ : ByteArray)]) ?_ 1 _ rfl; (with_reducible repeat (first | refine blk_drewN ?_ _ | refine blk_drew ?_ | refine blk_alloc ?_ _)); refine blk_put (cs := #[.int .i64 0, .int .i64 0, .int .i64 0, .string (⟨#[]⟩ : ByteArray)]) ?_ 0 _ rfl; (with_reducible repeat (first | refine blk_drewN ?_ _ | refine blk_drew ?_ | refine blk_alloc ?_ _)); refine blk_far ?_ NB102_103.out _; (with_reducible repeat (first | refine blk_drewN ?_ _ | refine blk_drew ?_ | refine blk_alloc ?_ _)); refine blk_far ?_ NB102_103.out _; (with_reducible repeat (first | refine blk_drewN ?_ _ | refine blk_drew ?_ | refine blk_alloc ?_ _)); refine blk_far ?_ NB102_103.out _; (with_reducible repeat (first | refine blk_drewN ?_ _ | refine blk_drew ?_ | refine blk_alloc ?_ _)); refine blk_far ?_ NB102_103.out _; (with_reducible repeat (first | refine blk_drewN ?_ _ | refine blk_drew ?_ | refine blk_alloc ?_ _)); exact BK102.out) Try.underlying61 rfl (by kernel_rfl)) rfl ?_
 exact ⟨by first | rfl | (simp [errW_none, errW_some] <;> rfl) | (simp [*, errW_none, errW_some] <;> rfl), by repeat (first | (with_reducible first | exact HB.out | apply below_alloc | apply pw_below_drewN | apply below_drew1 | refine below_set ?_ GE101.out | refine below_set ?_ GE102.out | refine below_set ?_ GE103.out) | exact HB.out)⟩
end
end Go.Proofs.Ytlphkfkcfomlbaa.Q
