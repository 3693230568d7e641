-- Written by a program of this session's for this claim. Lean checks it.
import Derived.Test.YtodombkmnnggeaaZFnExactChangedItemsQx0
import Derived.Test.YtodombkmnnggeaaZFnExactChangedItemsB1
namespace Go.Proofs.Ytodombkmnnggeaa.Q
open Go.RowKit Go.Proofs.YtodombkmnnggeaaW.PrintWords Go.Proofs.YtodombkmnnggeaaW.PrintLast Go.Proofs.YtodombkmnnggeaaW.PrintMore
attribute [local go_sem] max2_int min2_int max_two min_two max_three min_three max_four min_four   -- for this text's walks alone
set_option linter.unusedVariables false
set_option linter.unusedSimpArgs false
section
/-! ### spec_l21Play: function 91 -/
mutual
def spec_l21Play.l0 : Nat → List (S70) → List (S120) → Int → Option ((List (S120)) × Bool)
 | 0, _, _, _ => none
 | k + 1, x0, x4, x5 => if x5 < (x0.length : Int) then (if 0 ≤ x5 then ((spec_l21Find.f k x4 ((rd_T70 x0 x5).f1)).bind fun t106 => ((spec_l7Name.f k ((rd_T70 x0 x5).f1)).bind fun t107 => (if t107 = true then ((spec_l21Text.f k ((rd_T70 x0 x5).f2)).bind fun t108 => (if t108 = true then (if ((rd_T70 x0 x5).f0) ≥ 3 then (spec_l21Play.j1 k x0 x4 x5 t106 (((rd_T70 x0 x5).f2).toList != ([] : List UInt8)) ((rd_T70 x0 x5).f0) ((rd_T70 x0 x5).f1) ((rd_T70 x0 x5).f2)) else (spec_l21Play.j1 k x0 x4 x5 t106 false ((rd_T70 x0 x5).f0) ((rd_T70 x0 x5).f1) ((rd_T70 x0 x5).f2))) else (spec_l21Play.j1 k x0 x4 x5 t106 true ((rd_T70 x0 x5).f0) ((rd_T70 x0 x5).f1) ((rd_T70 x0 x5).f2)))) else (spec_l21Play.j1 k x0 x4 x5 t106 true ((rd_T70 x0 x5).f0) ((rd_T70 x0 x5).f1) ((rd_T70 x0 x5).f2))))) else (none)) else (some (x4, true))
def spec_l21Play.j1 : Nat → List (S70) → List (S120) → Int → Int → Bool → Int → ByteArray → ByteArray → Option ((List (S120)) × Bool)
 | 0, _, _, _, _, _, _, _, _ => none
 | k + 1, x0, x4, x5, x7, x43, x106000, x106001, x106002 => if x43 = true then (some (x4, false)) else (if x106000 = 1 then (if x7 ≥ 0 then (some (x4, false)) else (if x4.length < 3518437208883 then (spec_l21Play.l0 k x0 (x4 ++ [(⟨x106001, x106002, false⟩ : S120)]) (wrap64 (x5 + 1))) else (none))) else (if x7 < 0 then (spec_l21Play.j2 k x0 x4 x5 x7 true x106000 x106001 x106002) else ((spec_l1In.f x106000 2 4).bind fun t112 => (if t112 = true then (if 0 ≤ x7 then (if x7 < (x4.length : Int) then (if (rd_T120 x4 x7).f2 = true then (if x106000 = 4 then (spec_l21Play.j2 k x0 x4 x5 x7 false x106000 x106001 x106002) else (spec_l21Play.j2 k x0 x4 x5 x7 true x106000 x106001 x106002)) else (if x106000 = 4 then (spec_l21Play.j2 k x0 x4 x5 x7 true x106000 x106001 x106002) else (spec_l21Play.j2 k x0 x4 x5 x7 false x106000 x106001 x106002))) else (none)) else (none)) else (spec_l21Play.j2 k x0 x4 x5 x7 true x106000 x106001 x106002)))))
def spec_l21Play.j2 : Nat → List (S70) → List (S120) → Int → Int → Bool → Int → ByteArray → ByteArray → Option ((List (S120)) × Bool)
 | 0, _, _, _, _, _, _, _, _ => none
 | k + 1, x0, x4, x5, x7, x77, x106000, x106001, x106002 => if x77 = true then (some (x4, false)) else (if 0 ≤ x7 then (if x7 < (x4.length : Int) then (if x106000 = 2 then (spec_l21Play.l0 k x0 (x4.set (x7 : Int).toNat (⟨(rd_T120 x4 x7).f0, x106002, (rd_T120 x4 x7).f2⟩ : S120)) (wrap64 (x5 + 1))) else (spec_l21Play.l0 k x0 (x4.set (x7 : Int).toNat (⟨(rd_T120 x4 x7).f0, (rd_T120 x4 x7).f1, (x106000 == 3)⟩ : S120)) (wrap64 (x5 + 1)))) else (none)) else (none))
end
def spec_l21Play.f (k : Nat) (l0 : List (S70)) : Option ((List (S120)) × Bool) := spec_l21Play.l0 k l0 (([] : List (S120))) 0
theorem spec_l21Play.mono_l : ∀ k, (∀ y0 y1 y2, LeO (spec_l21Play.l0 k y0 y1 y2) (spec_l21Play.l0 (k + 1) y0 y1 y2)) ∧ (∀ y0 y1 y2 y3 y4 y5 y6 y7, LeO (spec_l21Play.j1 k y0 y1 y2 y3 y4 y5 y6 y7) (spec_l21Play.j1 (k + 1) y0 y1 y2 y3 y4 y5 y6 y7)) ∧ (∀ y0 y1 y2 y3 y4 y5 y6 y7, LeO (spec_l21Play.j2 k y0 y1 y2 y3 y4 y5 y6 y7) (spec_l21Play.j2 (k + 1) y0 y1 y2 y3 y4 y5 y6 y7))
 | 0 => ⟨fun _ _ _ r h => by simp [spec_l21Play.l0] at h, fun _ _ _ _ _ _ _ _ r h => by simp [spec_l21Play.j1] at h, fun _ _ _ _ _ _ _ _ r h => by simp [spec_l21Play.j2] at h⟩
 | k + 1 => by
  obtain ⟨ih0, ih1, ih2⟩ := spec_l21Play.mono_l k
  refine ⟨?_, ?_, ?_⟩
  ·intro y0 y1 y2
   unfold spec_l21Play.l0
   repeat' first
   | (with_reducible exact ih0 _ _ _)
   | (with_reducible exact ih1 _ _ _ _ _ _ _ _)
   | (with_reducible exact ih2 _ _ _ _ _ _ _ _)
   | (with_reducible exact spec_l21Find.mono _ _ _)
   | (with_reducible exact spec_l21Text.mono _ _)
   | (with_reducible exact spec_l7Name.mono _ _)
   | (with_reducible exact LeO.refl _)
   | (with_reducible exact LeO.none _)
   | (with_reducible refine LeO.ite ?_ ?_)
   | (with_reducible refine LeO.bind ?_ (fun _ => ?_))
   | exact ih0 _ _ _
   | exact ih1 _ _ _ _ _ _ _ _
   | exact ih2 _ _ _ _ _ _ _ _
   | exact spec_l21Find.mono _ _ _
   | exact spec_l21Text.mono _ _
   | exact spec_l7Name.mono _ _
   | exact LeO.none _
   | refine LeO.ite ?_ ?_
   | refine LeO.bind ?_ (fun _ => ?_)
  ·intro y0 y1 y2 y3 y4 y5 y6 y7
   unfold spec_l21Play.j1
   repeat' first
   | (with_reducible exact ih0 _ _ _)
   | (with_reducible exact ih1 _ _ _ _ _ _ _ _)
   | (with_reducible exact ih2 _ _ _ _ _ _ _ _)
   | (with_reducible exact spec_l21Find.mono _ _ _)
   | (with_reducible exact spec_l21Text.mono _ _)
   | (with_reducible exact spec_l7Name.mono _ _)
   | (with_reducible exact LeO.refl _)
   | (with_reducible exact LeO.none _)
   | (with_reducible refine LeO.ite ?_ ?_)
   | (with_reducible refine LeO.bind ?_ (fun _ => ?_))
   | exact ih0 _ _ _
   | exact ih1 _ _ _ _ _ _ _ _
   | exact ih2 _ _ _ _ _ _ _ _
   | exact spec_l21Find.mono _ _ _
   | exact spec_l21Text.mono _ _
   | exact spec_l7Name.mono _ _
   | exact LeO.none _
   | refine LeO.ite ?_ ?_
   | refine LeO.bind ?_ (fun _ => ?_)
  intro y0 y1 y2 y3 y4 y5 y6 y7
  unfold spec_l21Play.j2
  repeat' first
  | (with_reducible exact ih0 _ _ _)
  | (with_reducible exact ih1 _ _ _ _ _ _ _ _)
  | (with_reducible exact ih2 _ _ _ _ _ _ _ _)
  | (with_reducible exact spec_l21Find.mono _ _ _)
  | (with_reducible exact spec_l21Text.mono _ _)
  | (with_reducible exact spec_l7Name.mono _ _)
  | (with_reducible exact LeO.refl _)
  | (with_reducible exact LeO.none _)
  | (with_reducible refine LeO.ite ?_ ?_)
  | (with_reducible refine LeO.bind ?_ (fun _ => ?_))
  | exact ih0 _ _ _
  | exact ih1 _ _ _ _ _ _ _ _
  | exact ih2 _ _ _ _ _ _ _ _
  | exact spec_l21Find.mono _ _ _
  | exact spec_l21Text.mono _ _
  | exact spec_l7Name.mono _ _
  | exact LeO.none _
  | refine LeO.ite ?_ ?_
  | refine LeO.bind ?_ (fun _ => ?_)
theorem spec_l21Play.mono : ∀ a0 k, LeO (spec_l21Play.f k a0) (spec_l21Play.f (k + 1) a0) := by
 intro a0 k
 obtain ⟨ih0, ih1, ih2⟩ := spec_l21Play.mono_l k
 unfold spec_l21Play.f
 repeat' first
   | (with_reducible exact ih0 _ _ _)
   | (with_reducible exact ih1 _ _ _ _ _ _ _ _)
   | (with_reducible exact ih2 _ _ _ _ _ _ _ _)
   | (with_reducible exact spec_l21Find.mono _ _ _)
   | (with_reducible exact spec_l21Text.mono _ _)
   | (with_reducible exact spec_l7Name.mono _ _)
   | (with_reducible exact LeO.refl _)
   | (with_reducible exact LeO.none _)
   | (with_reducible refine LeO.ite ?_ ?_)
   | (with_reducible refine LeO.bind ?_ (fun _ => ?_))
   | exact ih0 _ _ _
   | exact ih1 _ _ _ _ _ _ _ _
   | exact ih2 _ _ _ _ _ _ _ _
   | exact spec_l21Find.mono _ _ _
   | exact spec_l21Text.mono _ _
   | exact spec_l7Name.mono _ _
   | exact LeO.none _
   | refine LeO.ite ?_ ?_
   | refine LeO.bind ?_ (fun _ => ?_)
set_option maxHeartbeats 8000000 in
set_option maxRecDepth 100000 in
theorem spec_l21Play.calls (k : Nat) (A0 : Option Addr) (c0 : Nat) (l0 : List (S70)) (r1 : List (S120)) (r2 : Bool) (w : World) (hr0 : Kd.C k70 w A0 l0.length l0) (hc0 : l0.length ≤ c0) (h : spec_l21Play.f k l0 = some (r1, r2)) :
  Calls Try.prog 91 #[.slice A0 l0.length c0] w fun e w' => ∃ v0_ : Value, e = .returned (.tuple #[v0_, .bool r2]) ∧ Kd.R k120 120 w' w.heap.size (fun _ => True) v0_ r1 ∧ Below w.heap.size w w' := by
 have hu70 := Try.underlying70
 have hu120 := Try.underlying120
 have HR0 := Aside0.mk hr0
 have HC0 := Aside0.mk hc0
 clear hr0 hc0
 have HB := Aside0.mk (Below.refl w.heap.size w)
 have H : (spec_l21Play.l0 k l0 (([] : List (S120))) 0) = some (r1, r2) := h
 clear h
 obtain ⟨y101, hy101⟩ : ∃ y_ : List (S120), y_ = (([] : List (S120))) := ⟨_, rfl⟩
 replace H : (spec_l21Play.l0 k l0 y101 0) = some (r1, r2) := by first | (rw [hy101]; with_reducible exact H) | (have H2_ := (Option.bind_some _ _).symm.trans H; rw [hy101]; with_reducible exact H2_) | (have H2_ := (Option.bind_some _ _).symm.trans H; with_reducible exact H2_) | with_reducible exact H | (rw [hy101]; exact H) | exact H
 have Ny101 := Aside0.mk hy101
 clear hy101
 have H' := Aside0.mk H
 clear H
 go_enter Try.func91, Try.ntmps91
 go_wp2_with (first | ((with_reducible refine gate_dst (N := 9) rfl ?_); refine Kd.R_lit k120 _ 120 ?hg (N := 9) ?hd (xs := ([] : List (S120))) (inner := []) (ok := fun _ => True) (okp := fun _ => True) ?hr ?hp (fun _ hk => hk) trivial (Below.refl _ _) (Nat.le_refl _) (by simp) ?_; (case hd => rfl); (case hg => rfl); (case hr => first | (go_simp; done) | (go_simp; rfl)); (case hp => exact (Reps.none _ _)); intro v102 w2 ho3 hb hg_ hnew_; clear hg_ hnew_; (first | rw [← Ny101.out] at ho3 | (simp only [Int.reduceToNat] at ho3; rw [← Ny101.out] at ho3)); have n0_ := Aside0.mk (Kd.R_lower ho3 (below_size (pH_ HB.out))); have n1_ := Aside0.mk (below_step (pH_ HB.out) hb); clear HB; have HO103 := n0_; have HB := n1_; clear n0_ n1_; clear hb ho3))
 repeat (go_quiet (first | ((with_reducible refine gate_dst (N := 9) rfl ?_); refine Kd.R_lit k120 _ 120 ?hg (N := 9) ?hd (xs := ([] : List (S120))) (inner := []) (ok := fun _ => True) (okp := fun _ => True) ?hr ?hp (fun _ hk => hk) trivial (Below.refl _ _) (Nat.le_refl _) (by simp) ?_; (case hd => rfl); (case hg => rfl); (case hr => first | (go_simp; done) | (go_simp; rfl)); (case hp => exact (Reps.none _ _)); intro v102 w2 ho3 hb hg_ hnew_; clear hg_ hnew_; (first | rw [← Ny101.out] at ho3 | (simp only [Int.reduceToNat] at ho3; rw [← Ny101.out] at ho3)); have n0_ := Aside0.mk (Kd.R_lower ho3 (below_size (pH_ HB.out))); have n1_ := Aside0.mk (below_step (pH_ HB.out) hb); clear HB; have HO103 := n0_; have HB := n1_; clear n0_ n1_; clear hb ho3)); try go_wp2_with (first | ((with_reducible refine gate_dst (N := 9) rfl ?_); refine Kd.R_lit k120 _ 120 ?hg (N := 9) ?hd (xs := ([] : List (S120))) (inner := []) (ok := fun _ => True) (okp := fun _ => True) ?hr ?hp (fun _ hk => hk) trivial (Below.refl _ _) (Nat.le_refl _) (by simp) ?_; (case hd => rfl); (case hg => rfl); (case hr => first | (go_simp; done) | (go_simp; rfl)); (case hp => exact (Reps.none _ _)); intro v102 w2 ho3 hb hg_ hnew_; clear hg_ hnew_; (first | rw [← Ny101.out] at ho3 | (simp only [Int.reduceToNat] at ho3; rw [← Ny101.out] at ho3)); have n0_ := Aside0.mk (Kd.R_lower ho3 (below_size (pH_ HB.out))); have n1_ := Aside0.mk (below_step (pH_ HB.out) hb); clear HB; have HO103 := n0_; have HB := n1_; clear n0_ n1_; clear hb ho3)))
 go_loopg [4, 5] k (fun kq v4 v5 w' => ∃ (x4_1 : List (S120)) (x5_1 : Int), v5 = .int .i64 x5_1 ∧ Aside0 (spec_l21Play.l0 kq l0 x4_1 x5_1 = some (r1, r2)) ∧ Aside0 (kq ≤ k) ∧ Aside0 (Kd.R k120 120 w' w.heap.size (fun _ => True) v4 x4_1) ∧ Aside0 (Below w.heap.size w w'))
 case atStart => exact ⟨(y101), (0), (by first | rfl | (simp; done) | (simp [*]; done) | (simp [beq_nil_, bne_nil_]; done)), H', ⟨Nat.le_refl _⟩, ⟨by (with_reducible repeat (first | apply Kd.R_alloc | apply Kd.R_drewN | apply Kd.R_drew)); exact HO103.out⟩, ⟨by repeat (first | (with_reducible first | exact HB.out | apply below_alloc | apply pw_below_drewN | apply below_drew1) | exact HB.out)⟩⟩
 case round =>
  clear H'
  try clear p2
  obtain ⟨x4_1, x5_1, rfl, HA, HK1, HO_4, HB⟩ := hrel
  cases gk with
  | zero => exact absurd HA.out (by simp [spec_l21Play.l0])
  | succ k1 =>
   have H := HA.out
   clear HA
   simp only [spec_l21Play.l0] at H
   by_cases c4 : x5_1 < (l0.length : Int)
   ·rw [if_pos c4] at H
    have c4b0 : decide (x5_1 < (l0.length : Int)) = true := decide_eq_true c4
    clear c4
    by_cases c5 : 0 ≤ x5_1
    ·rw [if_pos c5] at H
     have c5b0 : decide (0 ≤ x5_1) = true := decide_eq_true c5
     clear c5
     replace H := Option.bind_eq_some_iff.mp H
     obtain ⟨t106, A60, H⟩ := H
     replace H : ((spec_l7Name.f k1 ((rd_T70 l0 x5_1).f1)).bind fun t107 => (if t107 = true then ((spec_l21Text.f k1 ((rd_T70 l0 x5_1).f2)).bind fun t108 => (if t108 = true then (if ((rd_T70 l0 x5_1).f0) ≥ 3 then (spec_l21Play.j1 k1 l0 x4_1 x5_1 t106 (((rd_T70 l0 x5_1).f2).toList != ([] : List UInt8)) ((rd_T70 l0 x5_1).f0) ((rd_T70 l0 x5_1).f1) ((rd_T70 l0 x5_1).f2)) else (spec_l21Play.j1 k1 l0 x4_1 x5_1 t106 false ((rd_T70 l0 x5_1).f0) ((rd_T70 l0 x5_1).f1) ((rd_T70 l0 x5_1).f2))) else (spec_l21Play.j1 k1 l0 x4_1 x5_1 t106 true ((rd_T70 l0 x5_1).f0) ((rd_T70 l0 x5_1).f1) ((rd_T70 l0 x5_1).f2)))) else (spec_l21Play.j1 k1 l0 x4_1 x5_1 t106 true ((rd_T70 l0 x5_1).f0) ((rd_T70 l0 x5_1).f1) ((rd_T70 l0 x5_1).f2)))) = some (r1, r2) := H
     have A6 := Aside0.mk A60
     clear A60
     have HC7 := Aside0.mk H
     clear H
     have p104 : 0 ≤ (x5_1 : Int) := of_decide_eq_true (by first | (with_reducible assumption) | assumption)
     have q104 : x5_1 < (l0.length : Int) := of_decide_eq_true (by first | (with_reducible assumption) | assumption)
     obtain ⟨ad104, e104, hx104_0, hx104_1, hx104_2⟩ := at_T70 HR0.out x5_1 p104 q104
     cases e104
     replace hx104_0 := (HB.out.cell (World.block_lt_of_cell? w _ hx104_0)).trans hx104_0
     replace hx104_1 := (HB.out.cell (World.block_lt_of_cell? w _ hx104_1)).trans hx104_1
     replace hx104_2 := (HB.out.cell (World.block_lt_of_cell? w _ hx104_2)).trans hx104_2
     replace p104 := eq_true p104
     replace q104 := eq_true q104
     go_upto_region 7 with (first | ((with_reducible refine gate_dst (N := 6) rfl ?_); refine box_event ?hg (N := 6) ?hd (cs := #[.int .i64 0, .string (⟨#[]⟩ : ByteArray), .string (⟨#[]⟩ : ByteArray)]) (t := 70) ?hr ?_; (case hd => rfl); (case hg => rfl); (case hr => first | (go_simp; done) | (go_simp; rfl)); intro gb105 hg w8 hbox hb; have n0_ := Aside0.mk (Kd.R_below (pR_ HO_4.out) hb); have n1_ := Aside0.mk (below_step (pH_ HB.out) hb); have n2_ := Aside0.mk (hbox); have n3_ := Aside0.mk ((by rw [hg]; exact (below_size (pH_ HB.out)) : w.heap.size ≤ gb105)); have n4_ := Aside0.mk ((by rw [hg]; exact (below_size (pH_ HB.out)) : w.heap.size ≤ gb105)); clear HO_4; clear HB; have HO_4 := n0_; have HB := n1_; have BK105 := n2_; have GW105 := n3_; have GE105 := n4_; clear n0_ n1_ n2_ n3_ n4_; clear hb hbox hg; have hcz9_0 := cz_ BK105.out 0 _ rfl; have hcz9_1 := cz_ BK105.out 1 _ rfl; have hcz9_2 := cz_ BK105.out 2 _ rfl; have hfz9_0 := blk_frozen BK105.out 0; have hfz9_1 := blk_frozen BK105.out 1; have hfz9_2 := blk_frozen BK105.out 2; obtain ⟨Ao10, co10, eo10⟩ := Kd.R_slice HO_4.out; subst eo10) | (go_at_call 92; (try simp only [i64_w, i32_w]); (with_reducible refine (spec_l21Find.calls k1 _ _ x4_1 ((rd_T70 l0 x5_1).f1) t106 _ ?side1 ?side2 A6.out).mono ?_); (case side1 => refine (Kd.R_reads' (e := 120) (base := w.heap.size) (ok := fun k_ => True) (n := x4_1.length) (c := co10) ?_).2.2; exact (by (with_reducible repeat (first | apply Kd.R_alloc | apply Kd.R_drewN | apply Kd.R_drew)); exact (Kd.R_mono (Kd.R_far (p := ⟨gb105, 2, none⟩) (Kd.R_far (p := ⟨gb105, 1, none⟩) (Kd.R_far (p := ⟨gb105, 0, none⟩) (Kd.R_types HO_4.out BK105.out (by decide)) (fun _ hk => hk.2) (.int .i64 ((rd_T70 l0 x5_1).f0))) (fun _ hk => hk.2) (.string ((rd_T70 l0 x5_1).f1))) (fun _ hk => hk.2) (.string ((rd_T70 l0 x5_1).f2))) (fun _ h_ => h_.1)))); (case side2 => exact (Kd.R_reads' HO_4.out).2.1); rintro e w' ⟨rfl, ⟨nd, rfl⟩⟩; (try first | exact ⟨rfl, _, World.drewN_drewN _ _ _⟩ | exact ⟨rfl, _, Eq.trans (World.drewN_drewN _ _ _) (congrArg (World.drewN _) (Nat.add_assoc _ _ _))⟩)))
     repeat (go_quiet (first | ((with_reducible refine gate_dst (N := 6) rfl ?_); refine box_event ?hg (N := 6) ?hd (cs := #[.int .i64 0, .string (⟨#[]⟩ : ByteArray), .string (⟨#[]⟩ : ByteArray)]) (t := 70) ?hr ?_; (case hd => rfl); (case hg => rfl); (case hr => first | (go_simp; done) | (go_simp; rfl)); intro gb105 hg w8 hbox hb; have n0_ := Aside0.mk (Kd.R_below (pR_ HO_4.out) hb); have n1_ := Aside0.mk (below_step (pH_ HB.out) hb); have n2_ := Aside0.mk (hbox); have n3_ := Aside0.mk ((by rw [hg]; exact (below_size (pH_ HB.out)) : w.heap.size ≤ gb105)); have n4_ := Aside0.mk ((by rw [hg]; exact (below_size (pH_ HB.out)) : w.heap.size ≤ gb105)); clear HO_4; clear HB; have HO_4 := n0_; have HB := n1_; have BK105 := n2_; have GW105 := n3_; have GE105 := n4_; clear n0_ n1_ n2_ n3_ n4_; clear hb hbox hg; have hcz9_0 := cz_ BK105.out 0 _ rfl; have hcz9_1 := cz_ BK105.out 1 _ rfl; have hcz9_2 := cz_ BK105.out 2 _ rfl; have hfz9_0 := blk_frozen BK105.out 0; have hfz9_1 := blk_frozen BK105.out 1; have hfz9_2 := blk_frozen BK105.out 2; obtain ⟨Ao10, co10, eo10⟩ := Kd.R_slice HO_4.out; subst eo10) | (go_at_call 92; (try simp only [i64_w, i32_w]); (with_reducible refine (spec_l21Find.calls k1 _ _ x4_1 ((rd_T70 l0 x5_1).f1) t106 _ ?side1 ?side2 A6.out).mono ?_); (case side1 => refine (Kd.R_reads' (e := 120) (base := w.heap.size) (ok := fun k_ => True) (n := x4_1.length) (c := co10) ?_).2.2; exact (by (with_reducible repeat (first | apply Kd.R_alloc | apply Kd.R_drewN | apply Kd.R_drew)); exact (Kd.R_mono (Kd.R_far (p := ⟨gb105, 2, none⟩) (Kd.R_far (p := ⟨gb105, 1, none⟩) (Kd.R_far (p := ⟨gb105, 0, none⟩) (Kd.R_types HO_4.out BK105.out (by decide)) (fun _ hk => hk.2) (.int .i64 ((rd_T70 l0 x5_1).f0))) (fun _ hk => hk.2) (.string ((rd_T70 l0 x5_1).f1))) (fun _ hk => hk.2) (.string ((rd_T70 l0 x5_1).f2))) (fun _ h_ => h_.1)))); (case side2 => exact (Kd.R_reads' HO_4.out).2.1); rintro e w' ⟨rfl, ⟨nd, rfl⟩⟩; (try first | exact ⟨rfl, _, World.drewN_drewN _ _ _⟩ | exact ⟨rfl, _, Eq.trans (World.drewN_drewN _ _ _) (congrArg (World.drewN _) (Nat.add_assoc _ _ _))⟩))); go_upto_region 7 with (first | ((with_reducible refine gate_dst (N := 6) rfl ?_); refine box_event ?hg (N := 6) ?hd (cs := #[.int .i64 0, .string (⟨#[]⟩ : ByteArray), .string (⟨#[]⟩ : ByteArray)]) (t := 70) ?hr ?_; (case hd => rfl); (case hg => rfl); (case hr => first | (go_simp; done) | (go_simp; rfl)); intro gb105 hg w8 hbox hb; have n0_ := Aside0.mk (Kd.R_below (pR_ HO_4.out) hb); have n1_ := Aside0.mk (below_step (pH_ HB.out) hb); have n2_ := Aside0.mk (hbox); have n3_ := Aside0.mk ((by rw [hg]; exact (below_size (pH_ HB.out)) : w.heap.size ≤ gb105)); have n4_ := Aside0.mk ((by rw [hg]; exact (below_size (pH_ HB.out)) : w.heap.size ≤ gb105)); clear HO_4; clear HB; have HO_4 := n0_; have HB := n1_; have BK105 := n2_; have GW105 := n3_; have GE105 := n4_; clear n0_ n1_ n2_ n3_ n4_; clear hb hbox hg; have hcz9_0 := cz_ BK105.out 0 _ rfl; have hcz9_1 := cz_ BK105.out 1 _ rfl; have hcz9_2 := cz_ BK105.out 2 _ rfl; have hfz9_0 := blk_frozen BK105.out 0; have hfz9_1 := blk_frozen BK105.out 1; have hfz9_2 := blk_frozen BK105.out 2; obtain ⟨Ao10, co10, eo10⟩ := Kd.R_slice HO_4.out; subst eo10) | (go_at_call 92; (try simp only [i64_w, i32_w]); (with_reducible refine (spec_l21Find.calls k1 _ _ x4_1 ((rd_T70 l0 x5_1).f1) t106 _ ?side1 ?side2 A6.out).mono ?_); (case side1 => refine (Kd.R_reads' (e := 120) (base := w.heap.size) (ok := fun k_ => True) (n := x4_1.length) (c := co10) ?_).2.2; exact (by (with_reducible repeat (first | apply Kd.R_alloc | apply Kd.R_drewN | apply Kd.R_drew)); exact (Kd.R_mono (Kd.R_far (p := ⟨gb105, 2, none⟩) (Kd.R_far (p := ⟨gb105, 1, none⟩) (Kd.R_far (p := ⟨gb105, 0, none⟩) (Kd.R_types HO_4.out BK105.out (by decide)) (fun _ hk => hk.2) (.int .i64 ((rd_T70 l0 x5_1).f0))) (fun _ hk => hk.2) (.string ((rd_T70 l0 x5_1).f1))) (fun _ hk => hk.2) (.string ((rd_T70 l0 x5_1).f2))) (fun _ h_ => h_.1)))); (case side2 => exact (Kd.R_reads' HO_4.out).2.1); rintro e w' ⟨rfl, ⟨nd, rfl⟩⟩; (try first | exact ⟨rfl, _, World.drewN_drewN _ _ _⟩ | exact ⟨rfl, _, Eq.trans (World.drewN_drewN _ _ _) (congrArg (World.drewN _) (Nat.add_assoc _ _ _))⟩))))
     (try simp only [Act.put, List.setIfInBounds_toArray, List.set_cons_zero, List.set_cons_succ])
     go_cut [43] (fun v43 wc => ∃ (kq : Nat) (x43_6 : Bool), v43 = .bool x43_6 ∧ Aside0 (spec_l21Play.j1 kq l0 x4_1 x5_1 t106 x43_6 ((rd_T70 l0 x5_1).f0) ((rd_T70 l0 x5_1).f1) ((rd_T70 l0 x5_1).f2) = some (r1, r2)) ∧ Aside0 (kq ≤ k1) ∧ Aside0 (Kd.R k120 120 wc w.heap.size (fun _ => True) (.slice Ao10 x4_1.length co10) x4_1) ∧ Aside0 (wc.heap[gb105]? = some (.cells #[.int .i64 ((rd_T70 l0 x5_1).f0), .string ((rd_T70 l0 x5_1).f1), .string ((rd_T70 l0 x5_1).f2)] 70 (0, 0))) ∧ Aside0 (Below w.heap.size w wc))
     case first =>
      have H := HC7.out
      clear HC7
      replace H := Option.bind_eq_some_iff.mp H
      obtain ⟨t107, A110, H⟩ := H
      replace H : (if t107 = true then ((spec_l21Text.f k1 ((rd_T70 l0 x5_1).f2)).bind fun t108 => (if t108 = true then (if ((rd_T70 l0 x5_1).f0) ≥ 3 then (spec_l21Play.j1 k1 l0 x4_1 x5_1 t106 (((rd_T70 l0 x5_1).f2).toList != ([] : List UInt8)) ((rd_T70 l0 x5_1).f0) ((rd_T70 l0 x5_1).f1) ((rd_T70 l0 x5_1).f2)) else (spec_l21Play.j1 k1 l0 x4_1 x5_1 t106 false ((rd_T70 l0 x5_1).f0) ((rd_T70 l0 x5_1).f1) ((rd_T70 l0 x5_1).f2))) else (spec_l21Play.j1 k1 l0 x4_1 x5_1 t106 true ((rd_T70 l0 x5_1).f0) ((rd_T70 l0 x5_1).f1) ((rd_T70 l0 x5_1).f2)))) else (spec_l21Play.j1 k1 l0 x4_1 x5_1 t106 true ((rd_T70 l0 x5_1).f0) ((rd_T70 l0 x5_1).f1) ((rd_T70 l0 x5_1).f2))) = some (r1, r2) := H
      have A11 := Aside0.mk A110
      clear A110
      by_cases c12 : t107 = true
      ·subst c12
       have H1 : ((spec_l21Text.f k1 ((rd_T70 l0 x5_1).f2)).bind fun t108 => (if t108 = true then (if ((rd_T70 l0 x5_1).f0) ≥ 3 then (spec_l21Play.j1 k1 l0 x4_1 x5_1 t106 (((rd_T70 l0 x5_1).f2).toList != ([] : List UInt8)) ((rd_T70 l0 x5_1).f0) ((rd_T70 l0 x5_1).f1) ((rd_T70 l0 x5_1).f2)) else (spec_l21Play.j1 k1 l0 x4_1 x5_1 t106 false ((rd_T70 l0 x5_1).f0) ((rd_T70 l0 x5_1).f1) ((rd_T70 l0 x5_1).f2))) else (spec_l21Play.j1 k1 l0 x4_1 x5_1 t106 true ((rd_T70 l0 x5_1).f0) ((rd_T70 l0 x5_1).f1) ((rd_T70 l0 x5_1).f2)))) = some (r1, r2) := by rw [if_pos rfl] at H; exact H
       clear H
       have H := H1
       clear H1
       replace H := Option.bind_eq_some_iff.mp H
       obtain ⟨t108, A130, H⟩ := H
       replace H : (if t108 = true then (if ((rd_T70 l0 x5_1).f0) ≥ 3 then (spec_l21Play.j1 k1 l0 x4_1 x5_1 t106 (((rd_T70 l0 x5_1).f2).toList != ([] : List UInt8)) ((rd_T70 l0 x5_1).f0) ((rd_T70 l0 x5_1).f1) ((rd_T70 l0 x5_1).f2)) else (spec_l21Play.j1 k1 l0 x4_1 x5_1 t106 false ((rd_T70 l0 x5_1).f0) ((rd_T70 l0 x5_1).f1) ((rd_T70 l0 x5_1).f2))) else (spec_l21Play.j1 k1 l0 x4_1 x5_1 t106 true ((rd_T70 l0 x5_1).f0) ((rd_T70 l0 x5_1).f1) ((rd_T70 l0 x5_1).f2))) = some (r1, r2) := H
       have A13 := Aside0.mk A130
       clear A130
       by_cases c14 : t108 = true
       ·subst c14
        have H1 : (if ((rd_T70 l0 x5_1).f0) ≥ 3 then (spec_l21Play.j1 k1 l0 x4_1 x5_1 t106 (((rd_T70 l0 x5_1).f2).toList != ([] : List UInt8)) ((rd_T70 l0 x5_1).f0) ((rd_T70 l0 x5_1).f1) ((rd_T70 l0 x5_1).f2)) else (spec_l21Play.j1 k1 l0 x4_1 x5_1 t106 false ((rd_T70 l0 x5_1).f0) ((rd_T70 l0 x5_1).f1) ((rd_T70 l0 x5_1).f2))) = some (r1, r2) := by rw [if_pos rfl] at H; exact H
        clear H
        have H := H1
        clear H1
        by_cases c15 : ((rd_T70 l0 x5_1).f0) ≥ 3
        ·rw [if_pos c15] at H
         have c15b0 : decide (3 ≤ ((rd_T70 l0 x5_1).f0)) = true := decide_eq_true c15
         clear c15
         (first | rw [c15b0] | (simp only [i64_w, i32_w]; rw [c15b0]) | skip)
         have H' := Aside0.mk H
         clear H
         have hcz16_0 := cz_ BK105.out 0 _ rfl
         have hcz16_1 := cz_ BK105.out 1 _ rfl
         have hcz16_2 := cz_ BK105.out 2 _ rfl
         have hfz16_0 := blk_frozen BK105.out 0
         have hfz16_1 := blk_frozen BK105.out 1
         have hfz16_2 := blk_frozen BK105.out 2
         go_wp2_with (first | (go_at_call 115; (try simp only [i64_w, i32_w]); (with_reducible refine (spec_l7Name.calls k1 ((rd_T70 l0 x5_1).f1) true _ A11.out).mono ?_); rintro e w' ⟨rfl, ⟨nd, rfl⟩⟩; (try first | exact ⟨rfl, _, World.drewN_drewN _ _ _⟩ | exact ⟨rfl, _, Eq.trans (World.drewN_drewN _ _ _) (congrArg (World.drewN _) (Nat.add_assoc _ _ _))⟩)) | (go_at_call 116; (try simp only [i64_w, i32_w]); (with_reducible refine (spec_l21Text.calls k1 ((rd_T70 l0 x5_1).f2) true _ A13.out).mono ?_); rintro e w' ⟨rfl, ⟨nd, rfl⟩⟩; (try first | exact ⟨rfl, _, World.drewN_drewN _ _ _⟩ | exact ⟨rfl, _, Eq.trans (World.drewN_drewN _ _ _) (congrArg (World.drewN _) (Nat.add_assoc _ _ _))⟩)))
         repeat (go_quiet (first | (go_at_call 115; (try simp only [i64_w, i32_w]); (with_reducible refine (spec_l7Name.calls k1 ((rd_T70 l0 x5_1).f1) true _ A11.out).mono ?_); rintro e w' ⟨rfl, ⟨nd, rfl⟩⟩; (try first | exact ⟨rfl, _, World.drewN_drewN _ _ _⟩ | exact ⟨rfl, _, Eq.trans (World.drewN_drewN _ _ _) (congrArg (World.drewN _) (Nat.add_assoc _ _ _))⟩)) | (go_at_call 116; (try simp only [i64_w, i32_w]); (with_reducible refine (spec_l21Text.calls k1 ((rd_T70 l0 x5_1).f2) true _ A13.out).mono ?_); rintro e w' ⟨rfl, ⟨nd, rfl⟩⟩; (try first | exact ⟨rfl, _, World.drewN_drewN _ _ _⟩ | exact ⟨rfl, _, Eq.trans (World.drewN_drewN _ _ _) (congrArg (World.drewN _) (Nat.add_assoc _ _ _))⟩))); try go_wp2_with (first | (go_at_call 115; (try simp only [i64_w, i32_w]); (with_reducible refine (spec_l7Name.calls k1 ((rd_T70 l0 x5_1).f1) true _ A11.out).mono ?_); rintro e w' ⟨rfl, ⟨nd, rfl⟩⟩; (try first | exact ⟨rfl, _, World.drewN_drewN _ _ _⟩ | exact ⟨rfl, _, Eq.trans (World.drewN_drewN _ _ _) (congrArg (World.drewN _) (Nat.add_assoc _ _ _))⟩)) | (go_at_call 116; (try simp only [i64_w, i32_w]); (with_reducible refine (spec_l21Text.calls k1 ((rd_T70 l0 x5_1).f2) true _ A13.out).mono ?_); rintro e w' ⟨rfl, ⟨nd, rfl⟩⟩; (try first | exact ⟨rfl, _, World.drewN_drewN _ _ _⟩ | exact ⟨rfl, _, Eq.trans (World.drewN_drewN _ _ _) (congrArg (World.drewN _) (Nat.add_assoc _ _ _))⟩))))
         go_meet
         case rel => exact ⟨_, ((((rd_T70 l0 x5_1).f2).toList != ([] : List UInt8))), (by first | rfl | (simp; done) | (simp [*]; done) | (simp [beq_nil_, bne_nil_]; done)), H', ⟨by have := HK1.out; first | omega | exact Nat.le_refl _⟩, ⟨by (with_reducible repeat (first | apply Kd.R_alloc | apply Kd.R_drewN | apply Kd.R_drew)); exact Kd.R_mono (Kd.R_far (p := ⟨gb105, 2, none⟩) (Kd.R_far (p := ⟨gb105, 1, none⟩) (Kd.R_far (p := ⟨gb105, 0, none⟩) (Kd.R_types HO_4.out BK105.out (by decide)) (fun _ hk => hk.2) (.int .i64 ((rd_T70 l0 x5_1).f0))) (fun _ hk => hk.2) (.string ((rd_T70 l0 x5_1).f1))) (fun _ hk => hk.2) (.string ((rd_T70 l0 x5_1).f2))) (fun _ hk => trivial)⟩, ⟨by (with_reducible repeat (first | refine blk_drewN ?_ _ | refine blk_drew ?_ | refine blk_alloc ?_ _)); refine blk_put (cs := #[.int .i64 ((rd_T70 l0 x5_1).f0), .string ((rd_T70 l0 x5_1).f1), .string (⟨#[]⟩ : ByteArray)]) ?_ 2 _ rfl; (with_reducible repeat (first | refine blk_drewN ?_ _ | refine blk_drew ?_ | refine blk_alloc ?_ _)); refine blk_put (cs := #[.int .i64 ((rd_T70 l0 x5_1).f0), .string (⟨#[]⟩ : ByteArray), .string (⟨#[]⟩ : ByteArray)]) ?_ 1 _ rfl; (with_reducible repeat (first | refine blk_drewN ?_ _ | refine blk_drew ?_ | refine blk_alloc ?_ _)); refine blk_put (cs := #[.int .i64 0, .string (⟨#[]⟩ : ByteArray), .string (⟨#[]⟩ : ByteArray)]) ?_ 0 _ rfl; (with_reducible repeat (first | refine blk_drewN ?_ _ | refine blk_drew ?_ | refine blk_alloc ?_ _)); exact BK105.out⟩, ⟨by repeat (first | (with_reducible first | exact HB.out | apply below_alloc | apply pw_below_drewN | apply below_drew1 | refine below_set ?_ GE105.out) | exact HB.out)⟩⟩
        rw [if_neg c15] at H
        have c15b0 : decide (3 ≤ ((rd_T70 l0 x5_1).f0)) = false := decide_eq_false c15
        clear c15
        (first | rw [c15b0] | (simp only [i64_w, i32_w]; rw [c15b0]) | skip)
        have H' := Aside0.mk H
        clear H
        have hcz17_0 := cz_ BK105.out 0 _ rfl
        have hcz17_1 := cz_ BK105.out 1 _ rfl
        have hcz17_2 := cz_ BK105.out 2 _ rfl
        have hfz17_0 := blk_frozen BK105.out 0
        have hfz17_1 := blk_frozen BK105.out 1
        have hfz17_2 := blk_frozen BK105.out 2
        go_wp2_with (first | (go_at_call 115; (try simp only [i64_w, i32_w]); (with_reducible refine (spec_l7Name.calls k1 ((rd_T70 l0 x5_1).f1) true _ A11.out).mono ?_); rintro e w' ⟨rfl, ⟨nd, rfl⟩⟩; (try first | exact ⟨rfl, _, World.drewN_drewN _ _ _⟩ | exact ⟨rfl, _, Eq.trans (World.drewN_drewN _ _ _) (congrArg (World.drewN _) (Nat.add_assoc _ _ _))⟩)) | (go_at_call 116; (try simp only [i64_w, i32_w]); (with_reducible refine (spec_l21Text.calls k1 ((rd_T70 l0 x5_1).f2) true _ A13.out).mono ?_); rintro e w' ⟨rfl, ⟨nd, rfl⟩⟩; (try first | exact ⟨rfl, _, World.drewN_drewN _ _ _⟩ | exact ⟨rfl, _, Eq.trans (World.drewN_drewN _ _ _) (congrArg (World.drewN _) (Nat.add_assoc _ _ _))⟩)))
        repeat (go_quiet (first | (go_at_call 115; (try simp only [i64_w, i32_w]); (with_reducible refine (spec_l7Name.calls k1 ((rd_T70 l0 x5_1).f1) true _ A11.out).mono ?_); rintro e w' ⟨rfl, ⟨nd, rfl⟩⟩; (try first | exact ⟨rfl, _, World.drewN_drewN _ _ _⟩ | exact ⟨rfl, _, Eq.trans (World.drewN_drewN _ _ _) (congrArg (World.drewN _) (Nat.add_assoc _ _ _))⟩)) | (go_at_call 116; (try simp only [i64_w, i32_w]); (with_reducible refine (spec_l21Text.calls k1 ((rd_T70 l0 x5_1).f2) true _ A13.out).mono ?_); rintro e w' ⟨rfl, ⟨nd, rfl⟩⟩; (try first | exact ⟨rfl, _, World.drewN_drewN _ _ _⟩ | exact ⟨rfl, _, Eq.trans (World.drewN_drewN _ _ _) (congrArg (World.drewN _) (Nat.add_assoc _ _ _))⟩))); try go_wp2_with (first | (go_at_call 115; (try simp only [i64_w, i32_w]); (with_reducible refine (spec_l7Name.calls k1 ((rd_T70 l0 x5_1).f1) true _ A11.out).mono ?_); rintro e w' ⟨rfl, ⟨nd, rfl⟩⟩; (try first | exact ⟨rfl, _, World.drewN_drewN _ _ _⟩ | exact ⟨rfl, _, Eq.trans (World.drewN_drewN _ _ _) (congrArg (World.drewN _) (Nat.add_assoc _ _ _))⟩)) | (go_at_call 116; (try simp only [i64_w, i32_w]); (with_reducible refine (spec_l21Text.calls k1 ((rd_T70 l0 x5_1).f2) true _ A13.out).mono ?_); rintro e w' ⟨rfl, ⟨nd, rfl⟩⟩; (try first | exact ⟨rfl, _, World.drewN_drewN _ _ _⟩ | exact ⟨rfl, _, Eq.trans (World.drewN_drewN _ _ _) (congrArg (World.drewN _) (Nat.add_assoc _ _ _))⟩))))
        go_meet
        case rel => exact ⟨_, (false), (by first | rfl | (simp; done) | (simp [*]; done) | (simp [beq_nil_, bne_nil_]; done)), H', ⟨by have := HK1.out; first | omega | exact Nat.le_refl _⟩, ⟨by (with_reducible repeat (first | apply Kd.R_alloc | apply Kd.R_drewN | apply Kd.R_drew)); exact Kd.R_mono (Kd.R_far (p := ⟨gb105, 2, none⟩) (Kd.R_far (p := ⟨gb105, 1, none⟩) (Kd.R_far (p := ⟨gb105, 0, none⟩) (Kd.R_types HO_4.out BK105.out (by decide)) (fun _ hk => hk.2) (.int .i64 ((rd_T70 l0 x5_1).f0))) (fun _ hk => hk.2) (.string ((rd_T70 l0 x5_1).f1))) (fun _ hk => hk.2) (.string ((rd_T70 l0 x5_1).f2))) (fun _ hk => trivial)⟩, ⟨by (with_reducible repeat (first | refine blk_drewN ?_ _ | refine blk_drew ?_ | refine blk_alloc ?_ _)); refine blk_put (cs := #[.int .i64 ((rd_T70 l0 x5_1).f0), .string ((rd_T70 l0 x5_1).f1), .string (⟨#[]⟩ : ByteArray)]) ?_ 2 _ rfl; (with_reducible repeat (first | refine blk_drewN ?_ _ | refine blk_drew ?_ | refine blk_alloc ?_ _)); refine blk_put (cs := #[.int .i64 ((rd_T70 l0 x5_1).f0), .string (⟨#[]⟩ : ByteArray), .string (⟨#[]⟩ : ByteArray)]) ?_ 1 _ rfl; (with_reducible repeat (first | refine blk_drewN ?_ _ | refine blk_drew ?_ | refine blk_alloc ?_ _)); refine blk_put (cs := #[.int .i64 0, .string (⟨#[]⟩ : ByteArray), .string (⟨#[]⟩ : ByteArray)]) ?_ 0 _ rfl; (with_reducible repeat (first | refine blk_drewN ?_ _ | refine blk_drew ?_ | refine blk_alloc ?_ _)); exact BK105.out⟩, ⟨by repeat (first | (with_reducible first | exact HB.out | apply below_alloc | apply pw_below_drewN | apply below_drew1 | refine below_set ?_ GE105.out) | exact HB.out)⟩⟩
       replace c14 := Bool.eq_false_iff.mpr c14
       subst c14
       have H1 : (spec_l21Play.j1 k1 l0 x4_1 x5_1 t106 true ((rd_T70 l0 x5_1).f0) ((rd_T70 l0 x5_1).f1) ((rd_T70 l0 x5_1).f2)) = some (r1, r2) := by rw [if_neg (show ¬ (false = true) by decide)] at H; exact H
       clear H
       have H := H1
       clear H1
       have H' := Aside0.mk H
       clear H
       have hcz18_0 := cz_ BK105.out 0 _ rfl
       have hcz18_1 := cz_ BK105.out 1 _ rfl
       have hcz18_2 := cz_ BK105.out 2 _ rfl
       have hfz18_0 := blk_frozen BK105.out 0
       have hfz18_1 := blk_frozen BK105.out 1
       have hfz18_2 := blk_frozen BK105.out 2
       go_wp2_with (first | (go_at_call 115; (try simp only [i64_w, i32_w]); (with_reducible refine (spec_l7Name.calls k1 ((rd_T70 l0 x5_1).f1) true _ A11.out).mono ?_); rintro e w' ⟨rfl, ⟨nd, rfl⟩⟩; (try first | exact ⟨rfl, _, World.drewN_drewN _ _ _⟩ | exact ⟨rfl, _, Eq.trans (World.drewN_drewN _ _ _) (congrArg (World.drewN _) (Nat.add_assoc _ _ _))⟩)) | (go_at_call 116; (try simp only [i64_w, i32_w]); (with_reducible refine (spec_l21Text.calls k1 ((rd_T70 l0 x5_1).f2) false _ A13.out).mono ?_); rintro e w' ⟨rfl, ⟨nd, rfl⟩⟩; (try first | exact ⟨rfl, _, World.drewN_drewN _ _ _⟩ | exact ⟨rfl, _, Eq.trans (World.drewN_drewN _ _ _) (congrArg (World.drewN _) (Nat.add_assoc _ _ _))⟩)))
       repeat (go_quiet (first | (go_at_call 115; (try simp only [i64_w, i32_w]); (with_reducible refine (spec_l7Name.calls k1 ((rd_T70 l0 x5_1).f1) true _ A11.out).mono ?_); rintro e w' ⟨rfl, ⟨nd, rfl⟩⟩; (try first | exact ⟨rfl, _, World.drewN_drewN _ _ _⟩ | exact ⟨rfl, _, Eq.trans (World.drewN_drewN _ _ _) (congrArg (World.drewN _) (Nat.add_assoc _ _ _))⟩)) | (go_at_call 116; (try simp only [i64_w, i32_w]); (with_reducible refine (spec_l21Text.calls k1 ((rd_T70 l0 x5_1).f2) false _ A13.out).mono ?_); rintro e w' ⟨rfl, ⟨nd, rfl⟩⟩; (try first | exact ⟨rfl, _, World.drewN_drewN _ _ _⟩ | exact ⟨rfl, _, Eq.trans (World.drewN_drewN _ _ _) (congrArg (World.drewN _) (Nat.add_assoc _ _ _))⟩))); try go_wp2_with (first | (go_at_call 115; (try simp only [i64_w, i32_w]); (with_reducible refine (spec_l7Name.calls k1 ((rd_T70 l0 x5_1).f1) true _ A11.out).mono ?_); rintro e w' ⟨rfl, ⟨nd, rfl⟩⟩; (try first | exact ⟨rfl, _, World.drewN_drewN _ _ _⟩ | exact ⟨rfl, _, Eq.trans (World.drewN_drewN _ _ _) (congrArg (World.drewN _) (Nat.add_assoc _ _ _))⟩)) | (go_at_call 116; (try simp only [i64_w, i32_w]); (with_reducible refine (spec_l21Text.calls k1 ((rd_T70 l0 x5_1).f2) false _ A13.out).mono ?_); rintro e w' ⟨rfl, ⟨nd, rfl⟩⟩; (try first | exact ⟨rfl, _, World.drewN_drewN _ _ _⟩ | exact ⟨rfl, _, Eq.trans (World.drewN_drewN _ _ _) (congrArg (World.drewN _) (Nat.add_assoc _ _ _))⟩))))
       go_meet
       case rel => exact ⟨_, (true), (by first | rfl | (simp; done) | (simp [*]; done) | (simp [beq_nil_, bne_nil_]; done)), H', ⟨by have := HK1.out; first | omega | exact Nat.le_refl _⟩, ⟨by (with_reducible repeat (first | apply Kd.R_alloc | apply Kd.R_drewN | apply Kd.R_drew)); exact Kd.R_mono (Kd.R_far (p := ⟨gb105, 2, none⟩) (Kd.R_far (p := ⟨gb105, 1, none⟩) (Kd.R_far (p := ⟨gb105, 0, none⟩) (Kd.R_types HO_4.out BK105.out (by decide)) (fun _ hk => hk.2) (.int .i64 ((rd_T70 l0 x5_1).f0))) (fun _ hk => hk.2) (.string ((rd_T70 l0 x5_1).f1))) (fun _ hk => hk.2) (.string ((rd_T70 l0 x5_1).f2))) (fun _ hk => trivial)⟩, ⟨by (with_reducible repeat (first | refine blk_drewN ?_ _ | refine blk_drew ?_ | refine blk_alloc ?_ _)); refine blk_put (cs := #[.int .i64 ((rd_T70 l0 x5_1).f0), .string ((rd_T70 l0 x5_1).f1), .string (⟨#[]⟩ : ByteArray)]) ?_ 2 _ rfl; (with_reducible repeat (first | refine blk_drewN ?_ _ | refine blk_drew ?_ | refine blk_alloc ?_ _)); refine blk_put (cs := #[.int .i64 ((rd_T70 l0 x5_1).f0), .string (⟨#[]⟩ : ByteArray), .string (⟨#[]⟩ : ByteArray)]) ?_ 1 _ rfl; (with_reducible repeat (first | refine blk_drewN ?_ _ | refine blk_drew ?_ | refine blk_alloc ?_ _)); refine blk_put (cs := #[.int .i64 0, .string (⟨#[]⟩ : ByteArray), .string (⟨#[]⟩ : ByteArray)]) ?_ 0 _ rfl; (with_reducible repeat (first | refine blk_drewN ?_ _ | refine blk_drew ?_ | refine blk_alloc ?_ _)); exact BK105.out⟩, ⟨by repeat (first | (with_reducible first | exact HB.out | apply below_alloc | apply pw_below_drewN | apply below_drew1 | refine below_set ?_ GE105.out) | exact HB.out)⟩⟩
      replace c12 := Bool.eq_false_iff.mpr c12
      subst c12
      have H1 : (spec_l21Play.j1 k1 l0 x4_1 x5_1 t106 true ((rd_T70 l0 x5_1).f0) ((rd_T70 l0 x5_1).f1) ((rd_T70 l0 x5_1).f2)) = some (r1, r2) := by rw [if_neg (show ¬ (false = true) by decide)] at H; exact H
      clear H
      have H := H1
      clear H1
      have H' := Aside0.mk H
      clear H
      have hcz19_0 := cz_ BK105.out 0 _ rfl
      have hcz19_1 := cz_ BK105.out 1 _ rfl
      have hcz19_2 := cz_ BK105.out 2 _ rfl
      have hfz19_0 := blk_frozen BK105.out 0
      have hfz19_1 := blk_frozen BK105.out 1
      have hfz19_2 := blk_frozen BK105.out 2
      go_wp2_with (first | (go_at_call 115; (try simp only [i64_w, i32_w]); (with_reducible refine (spec_l7Name.calls k1 ((rd_T70 l0 x5_1).f1) false _ A11.out).mono ?_); rintro e w' ⟨rfl, ⟨nd, rfl⟩⟩; (try first | exact ⟨rfl, _, World.drewN_drewN _ _ _⟩ | exact ⟨rfl, _, Eq.trans (World.drewN_drewN _ _ _) (congrArg (World.drewN _) (Nat.add_assoc _ _ _))⟩)))
      repeat (go_quiet (first | (go_at_call 115; (try simp only [i64_w, i32_w]); (with_reducible refine (spec_l7Name.calls k1 ((rd_T70 l0 x5_1).f1) false _ A11.out).mono ?_); rintro e w' ⟨rfl, ⟨nd, rfl⟩⟩; (try first | exact ⟨rfl, _, World.drewN_drewN _ _ _⟩ | exact ⟨rfl, _, Eq.trans (World.drewN_drewN _ _ _) (congrArg (World.drewN _) (Nat.add_assoc _ _ _))⟩))); try go_wp2_with (first | (go_at_call 115; (try simp only [i64_w, i32_w]); (with_reducible refine (spec_l7Name.calls k1 ((rd_T70 l0 x5_1).f1) false _ A11.out).mono ?_); rintro e w' ⟨rfl, ⟨nd, rfl⟩⟩; (try first | exact ⟨rfl, _, World.drewN_drewN _ _ _⟩ | exact ⟨rfl, _, Eq.trans (World.drewN_drewN _ _ _) (congrArg (World.drewN _) (Nat.add_assoc _ _ _))⟩))))
      go_meet
      case rel => exact ⟨_, (true), (by first | rfl | (simp; done) | (simp [*]; done) | (simp [beq_nil_, bne_nil_]; done)), H', ⟨by have := HK1.out; first | omega | exact Nat.le_refl _⟩, ⟨by (with_reducible repeat (first | apply Kd.R_alloc | apply Kd.R_drewN | apply Kd.R_drew)); exact Kd.R_mono (Kd.R_far (p := ⟨gb105, 2, none⟩) (Kd.R_far (p := ⟨gb105, 1, none⟩) (Kd.R_far (p := ⟨gb105, 0, none⟩) (Kd.R_types HO_4.out BK105.out (by decide)) (fun _ hk => hk.2) (.int .i64 ((rd_T70 l0 x5_1).f0))) (fun _ hk => hk.2) (.string ((rd_T70 l0 x5_1).f1))) (fun _ hk => hk.2) (.string ((rd_T70 l0 x5_1).f2))) (fun _ hk => trivial)⟩, ⟨by (with_reducible repeat (first | refine blk_drewN ?_ _ | refine blk_drew ?_ | refine blk_alloc ?_ _)); refine blk_put (cs := #[.int .i64 ((rd_T70 l0 x5_1).f0), .string ((rd_T70 l0 x5_1).f1), .string (⟨#[]⟩ : ByteArray)]) ?_ 2 _ rfl; (with_reducible repeat (first | refine blk_drewN ?_ _ | refine blk_drew ?_ | refine blk_alloc ?_ _)); refine blk_put (cs := #[.int .i64 ((rd_T70 l0 x5_1).f0), .string (⟨#[]⟩ : ByteArray), .string (⟨#[]⟩ : ByteArray)]) ?_ 1 _ rfl; (with_reducible repeat (first | refine blk_drewN ?_ _ | refine blk_drew ?_ | refine blk_alloc ?_ _)); refine blk_put (cs := #[.int .i64 0, .string (⟨#[]⟩ : ByteArray), .string (⟨#[]⟩ : ByteArray)]) ?_ 0 _ rfl; (with_reducible repeat (first | refine blk_drewN ?_ _ | refine blk_drew ?_ | refine blk_alloc ?_ _)); exact BK105.out⟩, ⟨by repeat (first | (with_reducible first | exact HB.out | apply below_alloc | apply pw_below_drewN | apply below_drew1 | refine below_set ?_ GE105.out) | exact HB.out)⟩⟩
     case rest =>
      clear HC7
      try clear c1
      try clear p1
      try clear q1
      try clear hx1
      try clear p2
      try clear c4
      try clear c4b0
      try clear c5
      try clear c5b0
      try clear c9
      try clear p10
      try clear q10
      try clear hx10
      try clear c12
      try clear c14
      try clear c15
      try clear c15b0
      try clear hcz16_0
      try clear hcz16_1
      try clear hcz16_2
      try clear hcz17_0
      try clear hcz17_1
      try clear hcz17_2
      try clear hcz18_0
      try clear hcz18_1
      try clear hcz18_2
      try clear hcz19_0
      try clear hcz19_1
      try clear hcz19_2
      try clear hcz9_0
      try clear hcz9_1
      try clear hcz9_2
      try clear hfz16_0
      try clear hfz16_1
      try clear hfz16_2
      try clear hfz17_0
      try clear hfz17_1
      try clear hfz17_2
      try clear hfz18_0
      try clear hfz18_1
      try clear hfz18_2
      try clear hfz19_0
      try clear hfz19_1
      try clear hfz19_2
      try clear hfz9_0
      try clear hfz9_1
      try clear hfz9_2
      try clear hx104_0
      try clear hx104_1
      try clear hx104_2
      try clear p104
      try clear p2
      try clear q104
      obtain ⟨kq, x43_6, rfl, HA, HJ6, HO_4, BK105, HB⟩ := hcut
      cases kq with
      | zero => exact absurd HA.out (by simp [spec_l21Play.j1])
      | succ kj6 =>
       have H := HA.out
       clear HA
       simp only [spec_l21Play.j1] at H
       by_cases c20 : x43_6 = true
       ·subst c20
        have H1 : (some (x4_1, false)) = some (r1, r2) := by rw [if_pos rfl] at H; exact H
        clear H
        have H := H1
        clear H1
        simp only [Option.some.injEq, Prod.mk.injEq] at H
        obtain ⟨rfl, rfl⟩ := H
        go_wp2
        repeat (go_quiet (fail); try go_wp2)
        go_ret2
        exact ⟨_, by first | rfl | (simp [errW_none, errW_some] <;> rfl) | (simp [*, errW_none, errW_some] <;> rfl), by (with_reducible repeat (first | apply Kd.R_alloc | apply Kd.R_drewN | apply Kd.R_drew)); exact HO_4.out, by repeat (first | (with_reducible first | exact HB.out | apply below_alloc | apply pw_below_drewN | apply below_drew1 | refine below_set ?_ GE105.out) | exact HB.out)⟩
       replace c20 := Bool.eq_false_iff.mpr c20
       subst c20
       have H1 : (if ((rd_T70 l0 x5_1).f0) = 1 then (if t106 ≥ 0 then (some (x4_1, false)) else (if x4_1.length < 3518437208883 then (spec_l21Play.l0 kj6 l0 (x4_1 ++ [(⟨((rd_T70 l0 x5_1).f1), ((rd_T70 l0 x5_1).f2), false⟩ : S120)]) (wrap64 (x5_1 + 1))) else (none))) else (if t106 < 0 then (spec_l21Play.j2 kj6 l0 x4_1 x5_1 t106 true ((rd_T70 l0 x5_1).f0) ((rd_T70 l0 x5_1).f1) ((rd_T70 l0 x5_1).f2)) else ((spec_l1In.f ((rd_T70 l0 x5_1).f0) 2 4).bind fun t112 => (if t112 = true then (if 0 ≤ t106 then (if t106 < (x4_1.length : Int) then (if (rd_T120 x4_1 t106).f2 = true then (if ((rd_T70 l0 x5_1).f0) = 4 then (spec_l21Play.j2 kj6 l0 x4_1 x5_1 t106 false ((rd_T70 l0 x5_1).f0) ((rd_T70 l0 x5_1).f1) ((rd_T70 l0 x5_1).f2)) else (spec_l21Play.j2 kj6 l0 x4_1 x5_1 t106 true ((rd_T70 l0 x5_1).f0) ((rd_T70 l0 x5_1).f1) ((rd_T70 l0 x5_1).f2))) else (if ((rd_T70 l0 x5_1).f0) = 4 then (spec_l21Play.j2 kj6 l0 x4_1 x5_1 t106 true ((rd_T70 l0 x5_1).f0) ((rd_T70 l0 x5_1).f1) ((rd_T70 l0 x5_1).f2)) else (spec_l21Play.j2 kj6 l0 x4_1 x5_1 t106 false ((rd_T70 l0 x5_1).f0) ((rd_T70 l0 x5_1).f1) ((rd_T70 l0 x5_1).f2)))) else (none)) else (none)) else (spec_l21Play.j2 kj6 l0 x4_1 x5_1 t106 true ((rd_T70 l0 x5_1).f0) ((rd_T70 l0 x5_1).f1) ((rd_T70 l0 x5_1).f2)))))) = some (r1, r2) := by rw [if_neg (show ¬ (false = true) by decide)] at H; exact H
       clear H
       have H := H1
       clear H1
       by_cases c21 : ((rd_T70 l0 x5_1).f0) = 1
       ·rw [if_pos c21] at H
        have c21b0 : (((rd_T70 l0 x5_1).f0) == 1) = true := beq_iff_eq.mpr c21
        have c21b1 : (((rd_T70 l0 x5_1).f0) != 1) = false := bne_eq_false_iff_eq.mpr c21
        clear c21
        by_cases c22 : t106 ≥ 0
        ·rw [if_pos c22] at H
         have c22b0 : decide (0 ≤ t106) = true := decide_eq_true c22
         clear c22
         simp only [Option.some.injEq, Prod.mk.injEq] at H
         obtain ⟨rfl, rfl⟩ := H
         have hcz23_0 := cz_ BK105.out 0 _ rfl
         have hcz23_1 := cz_ BK105.out 1 _ rfl
         have hcz23_2 := cz_ BK105.out 2 _ rfl
         have hfz23_0 := blk_frozen BK105.out 0
         have hfz23_1 := blk_frozen BK105.out 1
         have hfz23_2 := blk_frozen BK105.out 2
         go_wp2
         repeat (go_quiet (fail); try go_wp2)
         go_ret2
         exact ⟨_, by first | rfl | (simp [errW_none, errW_some] <;> rfl) | (simp [*, errW_none, errW_some] <;> rfl), by (with_reducible repeat (first | apply Kd.R_alloc | apply Kd.R_drewN | apply Kd.R_drew)); exact HO_4.out, by repeat (first | (with_reducible first | exact HB.out | apply below_alloc | apply pw_below_drewN | apply below_drew1 | refine below_set ?_ GE105.out) | exact HB.out)⟩
        rw [if_neg c22] at H
        have c22b0 : decide (0 ≤ t106) = false := decide_eq_false c22
        clear c22
        by_cases c24 : x4_1.length < 3518437208883
        ·rw [if_pos c24] at H
         have LMc24 := Aside0.mk c24
         clear c24
         obtain ⟨y109, hy109⟩ : ∃ y_ : List (S120), y_ = (x4_1 ++ [(⟨((rd_T70 l0 x5_1).f1), ((rd_T70 l0 x5_1).f2), false⟩ : S120)]) := ⟨_, rfl⟩
         replace H : (spec_l21Play.l0 kj6 l0 y109 (wrap64 (x5_1 + 1))) = some (r1, r2) := by first | (rw [hy109]; with_reducible exact H) | (have H2_ := (Option.bind_some _ _).symm.trans H; rw [hy109]; with_reducible exact H2_) | (have H2_ := (Option.bind_some _ _).symm.trans H; with_reducible exact H2_) | with_reducible exact H | (rw [hy109]; exact H) | exact H
         have Ny109 := Aside0.mk hy109
         clear hy109
         have H' := Aside0.mk H
         clear H
         have hcz25_0 := cz_ BK105.out 0 _ rfl
         have hcz25_1 := cz_ BK105.out 1 _ rfl
         have hcz25_2 := cz_ BK105.out 2 _ rfl
         have hfz25_0 := blk_frozen BK105.out 0
         have hfz25_1 := blk_frozen BK105.out 1
         have hfz25_2 := blk_frozen BK105.out 2
         go_wp2_with (first | ((with_reducible refine gate_builtin (b := .append) (xs := #[.tmp 51, .tmp 57]) rfl ?_); at_builtin; refine Kd.R_append k120 (w0 := w) w.heap.size rfl (.tmp 51) (.tmp 57) 115 120 (.agg #[(.string ⟨#[]⟩), (.string ⟨#[]⟩), (.bool false)]) 40 rfl Try.underlying115 info120 rfl (by decide) (by omega) (.slice Ao10 x4_1.length co10) x4_1 (⟨((rd_T70 l0 x5_1).f1), ((rd_T70 l0 x5_1).f2), false⟩ : S120) [.string ((rd_T70 l0 x5_1).f1), .string ((rd_T70 l0 x5_1).f2), .bool false] (fun _ => True) (fun _ => False) rfl rfl ?aP (fun _ hk => hk.elim) ?aF ?aO ?aB ?aS ?aL ?_; (case aP => exact k120_mkM _ _ _ (⟨((rd_T70 l0 x5_1).f1), ((rd_T70 l0 x5_1).f2), false⟩ : S120)); (case aB => exact (pH_ HB.out)); (case aF => exact (fun _ _ => trivial)); (case aO => exact (pR_ HO_4.out)); (case aS => exact (below_size (pH_ HB.out))); (case aL => have := LMc24.out; omega); intro v110 w26 ho hb hg hat; rw [← Ny109.out] at ho; have n0_ := Aside0.mk (blk_grown (g := gb105) (o := .cells #[.int .i64 ((rd_T70 l0 x5_1).f0), .string ((rd_T70 l0 x5_1).f1), .string ((rd_T70 l0 x5_1).f2)] 70 (0, 0)) (pB_ BK105.out) hg (Kd.R_ne HO_4.out BK105.out (by decide))); have n1_ := Aside0.mk (hb); have n2_ := Aside0.mk (ho); clear BK105; clear HB; clear HO_4; have BK105 := n0_; have HB := n1_; have HO111 := n2_; clear n0_ n1_ n2_; clear ho hb hg hat))
         repeat (go_quiet (first | ((with_reducible refine gate_builtin (b := .append) (xs := #[.tmp 51, .tmp 57]) rfl ?_); at_builtin; refine Kd.R_append k120 (w0 := w) w.heap.size rfl (.tmp 51) (.tmp 57) 115 120 (.agg #[(.string ⟨#[]⟩), (.string ⟨#[]⟩), (.bool false)]) 40 rfl Try.underlying115 info120 rfl (by decide) (by omega) (.slice Ao10 x4_1.length co10) x4_1 (⟨((rd_T70 l0 x5_1).f1), ((rd_T70 l0 x5_1).f2), false⟩ : S120) [.string ((rd_T70 l0 x5_1).f1), .string ((rd_T70 l0 x5_1).f2), .bool false] (fun _ => True) (fun _ => False) rfl rfl ?aP (fun _ hk => hk.elim) ?aF ?aO ?aB ?aS ?aL ?_; (case aP => exact k120_mkM _ _ _ (⟨((rd_T70 l0 x5_1).f1), ((rd_T70 l0 x5_1).f2), false⟩ : S120)); (case aB => exact (pH_ HB.out)); (case aF => exact (fun _ _ => trivial)); (case aO => exact (pR_ HO_4.out)); (case aS => exact (below_size (pH_ HB.out))); (case aL => have := LMc24.out; omega); intro v110 w26 ho hb hg hat; rw [← Ny109.out] at ho; have n0_ := Aside0.mk (blk_grown (g := gb105) (o := .cells #[.int .i64 ((rd_T70 l0 x5_1).f0), .string ((rd_T70 l0 x5_1).f1), .string ((rd_T70 l0 x5_1).f2)] 70 (0, 0)) (pB_ BK105.out) hg (Kd.R_ne HO_4.out BK105.out (by decide))); have n1_ := Aside0.mk (hb); have n2_ := Aside0.mk (ho); clear BK105; clear HB; clear HO_4; have BK105 := n0_; have HB := n1_; have HO111 := n2_; clear n0_ n1_ n2_; clear ho hb hg hat)); try go_wp2_with (first | ((with_reducible refine gate_builtin (b := .append) (xs := #[.tmp 51, .tmp 57]) rfl ?_); at_builtin; refine Kd.R_append k120 (w0 := w) w.heap.size rfl (.tmp 51) (.tmp 57) 115 120 (.agg #[(.string ⟨#[]⟩), (.string ⟨#[]⟩), (.bool false)]) 40 rfl Try.underlying115 info120 rfl (by decide) (by omega) (.slice Ao10 x4_1.length co10) x4_1 (⟨((rd_T70 l0 x5_1).f1), ((rd_T70 l0 x5_1).f2), false⟩ : S120) [.string ((rd_T70 l0 x5_1).f1), .string ((rd_T70 l0 x5_1).f2), .bool false] (fun _ => True) (fun _ => False) rfl rfl ?aP (fun _ hk => hk.elim) ?aF ?aO ?aB ?aS ?aL ?_; (case aP => exact k120_mkM _ _ _ (⟨((rd_T70 l0 x5_1).f1), ((rd_T70 l0 x5_1).f2), false⟩ : S120)); (case aB => exact (pH_ HB.out)); (case aF => exact (fun _ _ => trivial)); (case aO => exact (pR_ HO_4.out)); (case aS => exact (below_size (pH_ HB.out))); (case aL => have := LMc24.out; omega); intro v110 w26 ho hb hg hat; rw [← Ny109.out] at ho; have n0_ := Aside0.mk (blk_grown (g := gb105) (o := .cells #[.int .i64 ((rd_T70 l0 x5_1).f0), .string ((rd_T70 l0 x5_1).f1), .string ((rd_T70 l0 x5_1).f2)] 70 (0, 0)) (pB_ BK105.out) hg (Kd.R_ne HO_4.out BK105.out (by decide))); have n1_ := Aside0.mk (hb); have n2_ := Aside0.mk (ho); clear BK105; clear HB; clear HO_4; have BK105 := n0_; have HB := n1_; have HO111 := n2_; clear n0_ n1_ n2_; clear ho hb hg hat)))
         go_roundg kj6
         case measure => have := HK1.out; have := HJ6.out; omega
         case rel => exact ⟨(y109), (wrap64 (x5_1 + 1)), (by first | rfl | (simp; done) | (simp [*]; done) | (simp [beq_nil_, bne_nil_]; done)), H', ⟨by have := HK1.out; have := HJ6.out; omega⟩, ⟨by (with_reducible repeat (first | apply Kd.R_alloc | apply Kd.R_drewN | apply Kd.R_drew)); exact HO111.out⟩, ⟨by repeat (first | (with_reducible first | exact HB.out | apply below_alloc | apply pw_below_drewN | apply below_drew1 | refine below_set ?_ GE105.out) | exact HB.out)⟩⟩
        rw [if_neg c24] at H
        exact absurd H (by simp)
       rw [if_neg c21] at H
       have c21b0 : (((rd_T70 l0 x5_1).f0) == 1) = false := beq_eq_false_iff_ne.mpr c21
       have c21b1 : (((rd_T70 l0 x5_1).f0) != 1) = true := bne_iff_ne.mpr c21
       have HC27 := Aside0.mk H
       clear H
       have hcz28_0 := cz_ BK105.out 0 _ rfl
       have hcz28_1 := cz_ BK105.out 1 _ rfl
       have hcz28_2 := cz_ BK105.out 2 _ rfl
       have hfz28_0 := blk_frozen BK105.out 0
       have hfz28_1 := blk_frozen BK105.out 1
       have hfz28_2 := blk_frozen BK105.out 2
       go_upto_region 13 with (fail)
       repeat (go_quiet (fail); go_upto_region 13 with (fail))
       go_cut [77] (fun v77 wc => ∃ (kq : Nat) (x77_26 : Bool), v77 = .bool x77_26 ∧ Aside0 (spec_l21Play.j2 kq l0 x4_1 x5_1 t106 x77_26 ((rd_T70 l0 x5_1).f0) ((rd_T70 l0 x5_1).f1) ((rd_T70 l0 x5_1).f2) = some (r1, r2)) ∧ Aside0 (kq ≤ kj6) ∧ Aside0 (Kd.R k120 120 wc w.heap.size (fun _ => True) (.slice Ao10 x4_1.length co10) x4_1) ∧ Aside0 (wc.heap[gb105]? = some (.cells #[.int .i64 ((rd_T70 l0 x5_1).f0), .string ((rd_T70 l0 x5_1).f1), .string ((rd_T70 l0 x5_1).f2)] 70 (0, 0))) ∧ Aside0 (Below w.heap.size w wc))
       case first =>
        have H := HC27.out
        clear HC27
        by_cases c29 : t106 < 0
        ·rw [if_pos c29] at H
         have c29b0 : decide (t106 < 0) = true := decide_eq_true c29
         clear c29
         (first | rw [c29b0] | (simp only [i64_w, i32_w]; rw [c29b0]) | skip)
         have H' := Aside0.mk H
         clear H
         go_wp2
         repeat (go_quiet (fail); try go_wp2)
         go_meet
         case rel => exact ⟨_, (true), (by first | rfl | (simp; done) | (simp [*]; done) | (simp [beq_nil_, bne_nil_]; done)), H', ⟨by have := HK1.out; have := HJ6.out; first | omega | exact Nat.le_refl _⟩, ⟨by (with_reducible repeat (first | apply Kd.R_alloc | apply Kd.R_drewN | apply Kd.R_drew)); exact HO_4.out⟩, ⟨by (with_reducible repeat (first | refine blk_drewN ?_ _ | refine blk_drew ?_ | refine blk_alloc ?_ _)); exact BK105.out⟩, ⟨by repeat (first | (with_reducible first | exact HB.out | apply below_alloc | apply pw_below_drewN | apply below_drew1 | refine below_set ?_ GE105.out) | exact HB.out)⟩⟩
        rw [if_neg c29] at H
        have c29b0 : decide (t106 < 0) = false := decide_eq_false c29
        clear c29
        (first | rw [c29b0] | (simp only [i64_w, i32_w]; rw [c29b0]) | skip)
        replace H := Option.bind_eq_some_iff.mp H
        obtain ⟨t112, A300, H⟩ := H
        replace H : (if t112 = true then (if 0 ≤ t106 then (if t106 < (x4_1.length : Int) then (if (rd_T120 x4_1 t106).f2 = true then (if ((rd_T70 l0 x5_1).f0) = 4 then (spec_l21Play.j2 kj6 l0 x4_1 x5_1 t106 false ((rd_T70 l0 x5_1).f0) ((rd_T70 l0 x5_1).f1) ((rd_T70 l0 x5_1).f2)) else (spec_l21Play.j2 kj6 l0 x4_1 x5_1 t106 true ((rd_T70 l0 x5_1).f0) ((rd_T70 l0 x5_1).f1) ((rd_T70 l0 x5_1).f2))) else (if ((rd_T70 l0 x5_1).f0) = 4 then (spec_l21Play.j2 kj6 l0 x4_1 x5_1 t106 true ((rd_T70 l0 x5_1).f0) ((rd_T70 l0 x5_1).f1) ((rd_T70 l0 x5_1).f2)) else (spec_l21Play.j2 kj6 l0 x4_1 x5_1 t106 false ((rd_T70 l0 x5_1).f0) ((rd_T70 l0 x5_1).f1) ((rd_T70 l0 x5_1).f2)))) else (none)) else (none)) else (spec_l21Play.j2 kj6 l0 x4_1 x5_1 t106 true ((rd_T70 l0 x5_1).f0) ((rd_T70 l0 x5_1).f1) ((rd_T70 l0 x5_1).f2))) = some (r1, r2) := H
        have A30 := Aside0.mk A300
        clear A300
        by_cases c31 : t112 = true
        ·subst c31
         have H1 : (if 0 ≤ t106 then (if t106 < (x4_1.length : Int) then (if (rd_T120 x4_1 t106).f2 = true then (if ((rd_T70 l0 x5_1).f0) = 4 then (spec_l21Play.j2 kj6 l0 x4_1 x5_1 t106 false ((rd_T70 l0 x5_1).f0) ((rd_T70 l0 x5_1).f1) ((rd_T70 l0 x5_1).f2)) else (spec_l21Play.j2 kj6 l0 x4_1 x5_1 t106 true ((rd_T70 l0 x5_1).f0) ((rd_T70 l0 x5_1).f1) ((rd_T70 l0 x5_1).f2))) else (if ((rd_T70 l0 x5_1).f0) = 4 then (spec_l21Play.j2 kj6 l0 x4_1 x5_1 t106 true ((rd_T70 l0 x5_1).f0) ((rd_T70 l0 x5_1).f1) ((rd_T70 l0 x5_1).f2)) else (spec_l21Play.j2 kj6 l0 x4_1 x5_1 t106 false ((rd_T70 l0 x5_1).f0) ((rd_T70 l0 x5_1).f1) ((rd_T70 l0 x5_1).f2)))) else (none)) else (none)) = some (r1, r2) := by rw [if_pos rfl] at H; exact H
         clear H
         have H := H1
         clear H1
         by_cases c32 : 0 ≤ t106
         ·rw [if_pos c32] at H
          have c32b0 : decide (0 ≤ t106) = true := decide_eq_true c32
          clear c32
          by_cases c33 : t106 < (x4_1.length : Int)
          ·rw [if_pos c33] at H
           have c33b0 : decide (t106 < (x4_1.length : Int)) = true := decide_eq_true c33
           clear c33
           obtain ⟨bq34, hbq34⟩ : ∃ b_ : Bool, b_ = ((rd_T120 x4_1 t106).f2) := ⟨_, rfl⟩
           replace H : (if bq34 = true then (if ((rd_T70 l0 x5_1).f0) = 4 then (spec_l21Play.j2 kj6 l0 x4_1 x5_1 t106 false ((rd_T70 l0 x5_1).f0) ((rd_T70 l0 x5_1).f1) ((rd_T70 l0 x5_1).f2)) else (spec_l21Play.j2 kj6 l0 x4_1 x5_1 t106 true ((rd_T70 l0 x5_1).f0) ((rd_T70 l0 x5_1).f1) ((rd_T70 l0 x5_1).f2))) else (if ((rd_T70 l0 x5_1).f0) = 4 then (spec_l21Play.j2 kj6 l0 x4_1 x5_1 t106 true ((rd_T70 l0 x5_1).f0) ((rd_T70 l0 x5_1).f1) ((rd_T70 l0 x5_1).f2)) else (spec_l21Play.j2 kj6 l0 x4_1 x5_1 t106 false ((rd_T70 l0 x5_1).f0) ((rd_T70 l0 x5_1).f1) ((rd_T70 l0 x5_1).f2)))) = some (r1, r2) := by rw [← hbq34] at H; exact H
           have Nbq34 := Aside0.mk hbq34
           clear hbq34
           by_cases c35 : bq34 = true
           ·subst c35
            have H1 : (if ((rd_T70 l0 x5_1).f0) = 4 then (spec_l21Play.j2 kj6 l0 x4_1 x5_1 t106 false ((rd_T70 l0 x5_1).f0) ((rd_T70 l0 x5_1).f1) ((rd_T70 l0 x5_1).f2)) else (spec_l21Play.j2 kj6 l0 x4_1 x5_1 t106 true ((rd_T70 l0 x5_1).f0) ((rd_T70 l0 x5_1).f1) ((rd_T70 l0 x5_1).f2))) = some (r1, r2) := by rw [if_pos rfl] at H; exact H
            clear H
            have H := H1
            clear H1
            by_cases c36 : ((rd_T70 l0 x5_1).f0) = 4
            ·rw [if_pos c36] at H
             have c36b0 : (((rd_T70 l0 x5_1).f0) == 4) = true := beq_iff_eq.mpr c36
             have c36b1 : (((rd_T70 l0 x5_1).f0) != 4) = false := bne_eq_false_iff_eq.mpr c36
             clear c36
             have H' := Aside0.mk H
             clear H
             have hcz37_0 := cz_ BK105.out 0 _ rfl
             have hcz37_1 := cz_ BK105.out 1 _ rfl
             have hcz37_2 := cz_ BK105.out 2 _ rfl
             have hfz37_0 := blk_frozen BK105.out 0
             have hfz37_1 := blk_frozen BK105.out 1
             have hfz37_2 := blk_frozen BK105.out 2
             go_wp2_with (first | (go_at_call 95; (try simp only [i64_w, i32_w]); (with_reducible refine (spec_l1In.calls ((rd_T70 l0 x5_1).f0) 2 4 true _ A30.out).mono ?_); rintro e w' ⟨rfl, ⟨nd, rfl⟩⟩; (try first | exact ⟨rfl, _, World.drewN_drewN _ _ _⟩ | exact ⟨rfl, _, Eq.trans (World.drewN_drewN _ _ _) (congrArg (World.drewN _) (Nat.add_assoc _ _ _))⟩); have p113 : 0 ≤ (t106 : Int) := of_decide_eq_true (by first | (with_reducible assumption) | assumption); have q113 : t106 < (x4_1.length : Int) := of_decide_eq_true (by first | (with_reducible assumption) | assumption); obtain ⟨ad113, e113, hx113_0, hx113_1, hx113_2⟩ := at_T120 (Kd.R_reads' HO_4.out).2.2 t106 p113 q113; (try rw [← Nbq34.out] at hx113_2); cases e113; replace p113 := eq_true p113; replace q113 := eq_true q113))
             repeat (go_quiet (first | (go_at_call 95; (try simp only [i64_w, i32_w]); (with_reducible refine (spec_l1In.calls ((rd_T70 l0 x5_1).f0) 2 4 true _ A30.out).mono ?_); rintro e w' ⟨rfl, ⟨nd, rfl⟩⟩; (try first | exact ⟨rfl, _, World.drewN_drewN _ _ _⟩ | exact ⟨rfl, _, Eq.trans (World.drewN_drewN _ _ _) (congrArg (World.drewN _) (Nat.add_assoc _ _ _))⟩); have p113 : 0 ≤ (t106 : Int) := of_decide_eq_true (by first | (with_reducible assumption) | assumption); have q113 : t106 < (x4_1.length : Int) := of_decide_eq_true (by first | (with_reducible assumption) | assumption); obtain ⟨ad113, e113, hx113_0, hx113_1, hx113_2⟩ := at_T120 (Kd.R_reads' HO_4.out).2.2 t106 p113 q113; (try rw [← Nbq34.out] at hx113_2); cases e113; replace p113 := eq_true p113; replace q113 := eq_true q113)); try go_wp2_with (first | (go_at_call 95; (try simp only [i64_w, i32_w]); (with_reducible refine (spec_l1In.calls ((rd_T70 l0 x5_1).f0) 2 4 true _ A30.out).mono ?_); rintro e w' ⟨rfl, ⟨nd, rfl⟩⟩; (try first | exact ⟨rfl, _, World.drewN_drewN _ _ _⟩ | exact ⟨rfl, _, Eq.trans (World.drewN_drewN _ _ _) (congrArg (World.drewN _) (Nat.add_assoc _ _ _))⟩); have p113 : 0 ≤ (t106 : Int) := of_decide_eq_true (by first | (with_reducible assumption) | assumption); have q113 : t106 < (x4_1.length : Int) := of_decide_eq_true (by first | (with_reducible assumption) | assumption); obtain ⟨ad113, e113, hx113_0, hx113_1, hx113_2⟩ := at_T120 (Kd.R_reads' HO_4.out).2.2 t106 p113 q113; (try rw [← Nbq34.out] at hx113_2); cases e113; replace p113 := eq_true p113; replace q113 := eq_true q113)))
             go_meet
             case rel => exact ⟨_, (false), (by first | rfl | (simp; done) | (simp [*]; done) | (simp [beq_nil_, bne_nil_]; done)), H', ⟨by have := HK1.out; have := HJ6.out; first | omega | exact Nat.le_refl _⟩, ⟨by (with_reducible repeat (first | apply Kd.R_alloc | apply Kd.R_drewN | apply Kd.R_drew)); exact HO_4.out⟩, ⟨by (with_reducible repeat (first | refine blk_drewN ?_ _ | refine blk_drew ?_ | refine blk_alloc ?_ _)); exact BK105.out⟩, ⟨by repeat (first | (with_reducible first | exact HB.out | apply below_alloc | apply pw_below_drewN | apply below_drew1 | refine below_set ?_ GE105.out) | exact HB.out)⟩⟩
            rw [if_neg c36] at H
            have c36b0 : (((rd_T70 l0 x5_1).f0) == 4) = false := beq_eq_false_iff_ne.mpr c36
            have c36b1 : (((rd_T70 l0 x5_1).f0) != 4) = true := bne_iff_ne.mpr c36
            have H' := Aside0.mk H
            clear H
            have hcz38_0 := cz_ BK105.out 0 _ rfl
            have hcz38_1 := cz_ BK105.out 1 _ rfl
            have hcz38_2 := cz_ BK105.out 2 _ rfl
            have hfz38_0 := blk_frozen BK105.out 0
            have hfz38_1 := blk_frozen BK105.out 1
            have hfz38_2 := blk_frozen BK105.out 2
            go_wp2_with (first | (go_at_call 95; (try simp only [i64_w, i32_w]); (with_reducible refine (spec_l1In.calls ((rd_T70 l0 x5_1).f0) 2 4 true _ A30.out).mono ?_); rintro e w' ⟨rfl, ⟨nd, rfl⟩⟩; (try first | exact ⟨rfl, _, World.drewN_drewN _ _ _⟩ | exact ⟨rfl, _, Eq.trans (World.drewN_drewN _ _ _) (congrArg (World.drewN _) (Nat.add_assoc _ _ _))⟩); have p113 : 0 ≤ (t106 : Int) := of_decide_eq_true (by first | (with_reducible assumption) | assumption); have q113 : t106 < (x4_1.length : Int) := of_decide_eq_true (by first | (with_reducible assumption) | assumption); obtain ⟨ad113, e113, hx113_0, hx113_1, hx113_2⟩ := at_T120 (Kd.R_reads' HO_4.out).2.2 t106 p113 q113; (try rw [← Nbq34.out] at hx113_2); cases e113; replace p113 := eq_true p113; replace q113 := eq_true q113))
            repeat (go_quiet (first | (go_at_call 95; (try simp only [i64_w, i32_w]); (with_reducible refine (spec_l1In.calls ((rd_T70 l0 x5_1).f0) 2 4 true _ A30.out).mono ?_); rintro e w' ⟨rfl, ⟨nd, rfl⟩⟩; (try first | exact ⟨rfl, _, World.drewN_drewN _ _ _⟩ | exact ⟨rfl, _, Eq.trans (World.drewN_drewN _ _ _) (congrArg (World.drewN _) (Nat.add_assoc _ _ _))⟩); have p113 : 0 ≤ (t106 : Int) := of_decide_eq_true (by first | (with_reducible assumption) | assumption); have q113 : t106 < (x4_1.length : Int) := of_decide_eq_true (by first | (with_reducible assumption) | assumption); obtain ⟨ad113, e113, hx113_0, hx113_1, hx113_2⟩ := at_T120 (Kd.R_reads' HO_4.out).2.2 t106 p113 q113; (try rw [← Nbq34.out] at hx113_2); cases e113; replace p113 := eq_true p113; replace q113 := eq_true q113)); try go_wp2_with (first | (go_at_call 95; (try simp only [i64_w, i32_w]); (with_reducible refine (spec_l1In.calls ((rd_T70 l0 x5_1).f0) 2 4 true _ A30.out).mono ?_); rintro e w' ⟨rfl, ⟨nd, rfl⟩⟩; (try first | exact ⟨rfl, _, World.drewN_drewN _ _ _⟩ | exact ⟨rfl, _, Eq.trans (World.drewN_drewN _ _ _) (congrArg (World.drewN _) (Nat.add_assoc _ _ _))⟩); have p113 : 0 ≤ (t106 : Int) := of_decide_eq_true (by first | (with_reducible assumption) | assumption); have q113 : t106 < (x4_1.length : Int) := of_decide_eq_true (by first | (with_reducible assumption) | assumption); obtain ⟨ad113, e113, hx113_0, hx113_1, hx113_2⟩ := at_T120 (Kd.R_reads' HO_4.out).2.2 t106 p113 q113; (try rw [← Nbq34.out] at hx113_2); cases e113; replace p113 := eq_true p113; replace q113 := eq_true q113)))
            go_meet
            case rel => exact ⟨_, (true), (by first | rfl | (simp; done) | (simp [*]; done) | (simp [beq_nil_, bne_nil_]; done)), H', ⟨by have := HK1.out; have := HJ6.out; first | omega | exact Nat.le_refl _⟩, ⟨by (with_reducible repeat (first | apply Kd.R_alloc | apply Kd.R_drewN | apply Kd.R_drew)); exact HO_4.out⟩, ⟨by (with_reducible repeat (first | refine blk_drewN ?_ _ | refine blk_drew ?_ | refine blk_alloc ?_ _)); exact BK105.out⟩, ⟨by repeat (first | (with_reducible first | exact HB.out | apply below_alloc | apply pw_below_drewN | apply below_drew1 | refine below_set ?_ GE105.out) | exact HB.out)⟩⟩
           replace c35 := Bool.eq_false_iff.mpr c35
           subst c35
           have H1 : (if ((rd_T70 l0 x5_1).f0) = 4 then (spec_l21Play.j2 kj6 l0 x4_1 x5_1 t106 true ((rd_T70 l0 x5_1).f0) ((rd_T70 l0 x5_1).f1) ((rd_T70 l0 x5_1).f2)) else (spec_l21Play.j2 kj6 l0 x4_1 x5_1 t106 false ((rd_T70 l0 x5_1).f0) ((rd_T70 l0 x5_1).f1) ((rd_T70 l0 x5_1).f2))) = some (r1, r2) := by rw [if_neg (show ¬ (false = true) by decide)] at H; exact H
           clear H
           have H := H1
           clear H1
           by_cases c39 : ((rd_T70 l0 x5_1).f0) = 4
           ·rw [if_pos c39] at H
            have c39b0 : (((rd_T70 l0 x5_1).f0) == 4) = true := beq_iff_eq.mpr c39
            have c39b1 : (((rd_T70 l0 x5_1).f0) != 4) = false := bne_eq_false_iff_eq.mpr c39
            clear c39
            have H' := Aside0.mk H
            clear H
            have hcz40_0 := cz_ BK105.out 0 _ rfl
            have hcz40_1 := cz_ BK105.out 1 _ rfl
            have hcz40_2 := cz_ BK105.out 2 _ rfl
            have hfz40_0 := blk_frozen BK105.out 0
            have hfz40_1 := blk_frozen BK105.out 1
            have hfz40_2 := blk_frozen BK105.out 2
            go_wp2_with (first | (go_at_call 95; (try simp only [i64_w, i32_w]); (with_reducible refine (spec_l1In.calls ((rd_T70 l0 x5_1).f0) 2 4 true _ A30.out).mono ?_); rintro e w' ⟨rfl, ⟨nd, rfl⟩⟩; (try first | exact ⟨rfl, _, World.drewN_drewN _ _ _⟩ | exact ⟨rfl, _, Eq.trans (World.drewN_drewN _ _ _) (congrArg (World.drewN _) (Nat.add_assoc _ _ _))⟩); have p113 : 0 ≤ (t106 : Int) := of_decide_eq_true (by first | (with_reducible assumption) | assumption); have q113 : t106 < (x4_1.length : Int) := of_decide_eq_true (by first | (with_reducible assumption) | assumption); obtain ⟨ad113, e113, hx113_0, hx113_1, hx113_2⟩ := at_T120 (Kd.R_reads' HO_4.out).2.2 t106 p113 q113; (try rw [← Nbq34.out] at hx113_2); cases e113; replace p113 := eq_true p113; replace q113 := eq_true q113))
            repeat (go_quiet (first | (go_at_call 95; (try simp only [i64_w, i32_w]); (with_reducible refine (spec_l1In.calls ((rd_T70 l0 x5_1).f0) 2 4 true _ A30.out).mono ?_); rintro e w' ⟨rfl, ⟨nd, rfl⟩⟩; (try first | exact ⟨rfl, _, World.drewN_drewN _ _ _⟩ | exact ⟨rfl, _, Eq.trans (World.drewN_drewN _ _ _) (congrArg (World.drewN _) (Nat.add_assoc _ _ _))⟩); have p113 : 0 ≤ (t106 : Int) := of_decide_eq_true (by first | (with_reducible assumption) | assumption); have q113 : t106 < (x4_1.length : Int) := of_decide_eq_true (by first | (with_reducible assumption) | assumption); obtain ⟨ad113, e113, hx113_0, hx113_1, hx113_2⟩ := at_T120 (Kd.R_reads' HO_4.out).2.2 t106 p113 q113; (try rw [← Nbq34.out] at hx113_2); cases e113; replace p113 := eq_true p113; replace q113 := eq_true q113)); try go_wp2_with (first | (go_at_call 95; (try simp only [i64_w, i32_w]); (with_reducible refine (spec_l1In.calls ((rd_T70 l0 x5_1).f0) 2 4 true _ A30.out).mono ?_); rintro e w' ⟨rfl, ⟨nd, rfl⟩⟩; (try first | exact ⟨rfl, _, World.drewN_drewN _ _ _⟩ | exact ⟨rfl, _, Eq.trans (World.drewN_drewN _ _ _) (congrArg (World.drewN _) (Nat.add_assoc _ _ _))⟩); have p113 : 0 ≤ (t106 : Int) := of_decide_eq_true (by first | (with_reducible assumption) | assumption); have q113 : t106 < (x4_1.length : Int) := of_decide_eq_true (by first | (with_reducible assumption) | assumption); obtain ⟨ad113, e113, hx113_0, hx113_1, hx113_2⟩ := at_T120 (Kd.R_reads' HO_4.out).2.2 t106 p113 q113; (try rw [← Nbq34.out] at hx113_2); cases e113; replace p113 := eq_true p113; replace q113 := eq_true q113)))
            go_meet
            case rel => exact ⟨_, (true), (by first | rfl | (simp; done) | (simp [*]; done) | (simp [beq_nil_, bne_nil_]; done)), H', ⟨by have := HK1.out; have := HJ6.out; first | omega | exact Nat.le_refl _⟩, ⟨by (with_reducible repeat (first | apply Kd.R_alloc | apply Kd.R_drewN | apply Kd.R_drew)); exact HO_4.out⟩, ⟨by (with_reducible repeat (first | refine blk_drewN ?_ _ | refine blk_drew ?_ | refine blk_alloc ?_ _)); exact BK105.out⟩, ⟨by repeat (first | (with_reducible first | exact HB.out | apply below_alloc | apply pw_below_drewN | apply below_drew1 | refine below_set ?_ GE105.out) | exact HB.out)⟩⟩
           rw [if_neg c39] at H
           have c39b0 : (((rd_T70 l0 x5_1).f0) == 4) = false := beq_eq_false_iff_ne.mpr c39
           have c39b1 : (((rd_T70 l0 x5_1).f0) != 4) = true := bne_iff_ne.mpr c39
           have H' := Aside0.mk H
           clear H
           have hcz41_0 := cz_ BK105.out 0 _ rfl
           have hcz41_1 := cz_ BK105.out 1 _ rfl
           have hcz41_2 := cz_ BK105.out 2 _ rfl
           have hfz41_0 := blk_frozen BK105.out 0
           have hfz41_1 := blk_frozen BK105.out 1
           have hfz41_2 := blk_frozen BK105.out 2
           go_wp2_with (first | (go_at_call 95; (try simp only [i64_w, i32_w]); (with_reducible refine (spec_l1In.calls ((rd_T70 l0 x5_1).f0) 2 4 true _ A30.out).mono ?_); rintro e w' ⟨rfl, ⟨nd, rfl⟩⟩; (try first | exact ⟨rfl, _, World.drewN_drewN _ _ _⟩ | exact ⟨rfl, _, Eq.trans (World.drewN_drewN _ _ _) (congrArg (World.drewN _) (Nat.add_assoc _ _ _))⟩); have p113 : 0 ≤ (t106 : Int) := of_decide_eq_true (by first | (with_reducible assumption) | assumption); have q113 : t106 < (x4_1.length : Int) := of_decide_eq_true (by first | (with_reducible assumption) | assumption); obtain ⟨ad113, e113, hx113_0, hx113_1, hx113_2⟩ := at_T120 (Kd.R_reads' HO_4.out).2.2 t106 p113 q113; (try rw [← Nbq34.out] at hx113_2); cases e113; replace p113 := eq_true p113; replace q113 := eq_true q113))
           repeat (go_quiet (first | (go_at_call 95; (try simp only [i64_w, i32_w]); (with_reducible refine (spec_l1In.calls ((rd_T70 l0 x5_1).f0) 2 4 true _ A30.out).mono ?_); rintro e w' ⟨rfl, ⟨nd, rfl⟩⟩; (try first | exact ⟨rfl, _, World.drewN_drewN _ _ _⟩ | exact ⟨rfl, _, Eq.trans (World.drewN_drewN _ _ _) (congrArg (World.drewN _) (Nat.add_assoc _ _ _))⟩); have p113 : 0 ≤ (t106 : Int) := of_decide_eq_true (by first | (with_reducible assumption) | assumption); have q113 : t106 < (x4_1.length : Int) := of_decide_eq_true (by first | (with_reducible assumption) | assumption); obtain ⟨ad113, e113, hx113_0, hx113_1, hx113_2⟩ := at_T120 (Kd.R_reads' HO_4.out).2.2 t106 p113 q113; (try rw [← Nbq34.out] at hx113_2); cases e113; replace p113 := eq_true p113; replace q113 := eq_true q113)); try go_wp2_with (first | (go_at_call 95; (try simp only [i64_w, i32_w]); (with_reducible refine (spec_l1In.calls ((rd_T70 l0 x5_1).f0) 2 4 true _ A30.out).mono ?_); rintro e w' ⟨rfl, ⟨nd, rfl⟩⟩; (try first | exact ⟨rfl, _, World.drewN_drewN _ _ _⟩ | exact ⟨rfl, _, Eq.trans (World.drewN_drewN _ _ _) (congrArg (World.drewN _) (Nat.add_assoc _ _ _))⟩); have p113 : 0 ≤ (t106 : Int) := of_decide_eq_true (by first | (with_reducible assumption) | assumption); have q113 : t106 < (x4_1.length : Int) := of_decide_eq_true (by first | (with_reducible assumption) | assumption); obtain ⟨ad113, e113, hx113_0, hx113_1, hx113_2⟩ := at_T120 (Kd.R_reads' HO_4.out).2.2 t106 p113 q113; (try rw [← Nbq34.out] at hx113_2); cases e113; replace p113 := eq_true p113; replace q113 := eq_true q113)))
           go_meet
           case rel => exact ⟨_, (false), (by first | rfl | (simp; done) | (simp [*]; done) | (simp [beq_nil_, bne_nil_]; done)), H', ⟨by have := HK1.out; have := HJ6.out; first | omega | exact Nat.le_refl _⟩, ⟨by (with_reducible repeat (first | apply Kd.R_alloc | apply Kd.R_drewN | apply Kd.R_drew)); exact HO_4.out⟩, ⟨by (with_reducible repeat (first | refine blk_drewN ?_ _ | refine blk_drew ?_ | refine blk_alloc ?_ _)); exact BK105.out⟩, ⟨by repeat (first | (with_reducible first | exact HB.out | apply below_alloc | apply pw_below_drewN | apply below_drew1 | refine below_set ?_ GE105.out) | exact HB.out)⟩⟩
          rw [if_neg c33] at H
          exact absurd H (by simp)
         rw [if_neg c32] at H
         exact absurd H (by simp)
        replace c31 := Bool.eq_false_iff.mpr c31
        subst c31
        have H1 : (spec_l21Play.j2 kj6 l0 x4_1 x5_1 t106 true ((rd_T70 l0 x5_1).f0) ((rd_T70 l0 x5_1).f1) ((rd_T70 l0 x5_1).f2)) = some (r1, r2) := by rw [if_neg (show ¬ (false = true) by decide)] at H; exact H
        clear H
        have H := H1
        clear H1
        have H' := Aside0.mk H
        clear H
        have hcz42_0 := cz_ BK105.out 0 _ rfl
        have hcz42_1 := cz_ BK105.out 1 _ rfl
        have hcz42_2 := cz_ BK105.out 2 _ rfl
        have hfz42_0 := blk_frozen BK105.out 0
        have hfz42_1 := blk_frozen BK105.out 1
        have hfz42_2 := blk_frozen BK105.out 2
        go_wp2_with (first | (go_at_call 95; (try simp only [i64_w, i32_w]); (with_reducible refine (spec_l1In.calls ((rd_T70 l0 x5_1).f0) 2 4 false _ A30.out).mono ?_); rintro e w' ⟨rfl, ⟨nd, rfl⟩⟩; (try first | exact ⟨rfl, _, World.drewN_drewN _ _ _⟩ | exact ⟨rfl, _, Eq.trans (World.drewN_drewN _ _ _) (congrArg (World.drewN _) (Nat.add_assoc _ _ _))⟩)))
        repeat (go_quiet (first | (go_at_call 95; (try simp only [i64_w, i32_w]); (with_reducible refine (spec_l1In.calls ((rd_T70 l0 x5_1).f0) 2 4 false _ A30.out).mono ?_); rintro e w' ⟨rfl, ⟨nd, rfl⟩⟩; (try first | exact ⟨rfl, _, World.drewN_drewN _ _ _⟩ | exact ⟨rfl, _, Eq.trans (World.drewN_drewN _ _ _) (congrArg (World.drewN _) (Nat.add_assoc _ _ _))⟩))); try go_wp2_with (first | (go_at_call 95; (try simp only [i64_w, i32_w]); (with_reducible refine (spec_l1In.calls ((rd_T70 l0 x5_1).f0) 2 4 false _ A30.out).mono ?_); rintro e w' ⟨rfl, ⟨nd, rfl⟩⟩; (try first | exact ⟨rfl, _, World.drewN_drewN _ _ _⟩ | exact ⟨rfl, _, Eq.trans (World.drewN_drewN _ _ _) (congrArg (World.drewN _) (Nat.add_assoc _ _ _))⟩))))
        go_meet
        case rel => exact ⟨_, (true), (by first | rfl | (simp; done) | (simp [*]; done) | (simp [beq_nil_, bne_nil_]; done)), H', ⟨by have := HK1.out; have := HJ6.out; first | omega | exact Nat.le_refl _⟩, ⟨by (with_reducible repeat (first | apply Kd.R_alloc | apply Kd.R_drewN | apply Kd.R_drew)); exact HO_4.out⟩, ⟨by (with_reducible repeat (first | refine blk_drewN ?_ _ | refine blk_drew ?_ | refine blk_alloc ?_ _)); exact BK105.out⟩, ⟨by repeat (first | (with_reducible first | exact HB.out | apply below_alloc | apply pw_below_drewN | apply below_drew1 | refine below_set ?_ GE105.out) | exact HB.out)⟩⟩
       case rest =>
        clear HC27
        try clear c1
        try clear p1
        try clear q1
        try clear hx1
        try clear c2
        try clear p2
        try clear c3
        try clear q3
        try clear c4
        try clear c4b0
        try clear c5
        try clear c5b0
        try clear p6
        try clear c9
        try clear p10
        try clear q10
        try clear hx10
        try clear p11
        try clear q11
        try clear hx11
        try clear c12
        try clear c14
        try clear c15
        try clear c15b0
        try clear c20
        try clear c21
        try clear c21b0
        try clear c21b1
        try clear c22
        try clear c22b0
        try clear c24
        try clear c29
        try clear c29b0
        try clear c31
        try clear c32
        try clear c32b0
        try clear c33
        try clear c33b0
        try clear q34
        try clear c35
        try clear c36
        try clear c36b0
        try clear c36b1
        try clear c39
        try clear c39b0
        try clear c39b1
        try clear hcz16_0
        try clear hcz16_1
        try clear hcz16_2
        try clear hcz17_0
        try clear hcz17_1
        try clear hcz17_2
        try clear hcz18_0
        try clear hcz18_1
        try clear hcz18_2
        try clear hcz19_0
        try clear hcz19_1
        try clear hcz19_2
        try clear hcz23_0
        try clear hcz23_1
        try clear hcz23_2
        try clear hcz25_0
        try clear hcz25_1
        try clear hcz25_2
        try clear hcz28_0
        try clear hcz28_1
        try clear hcz28_2
        try clear hcz37_0
        try clear hcz37_1
        try clear hcz37_2
        try clear hcz38_0
        try clear hcz38_1
        try clear hcz38_2
        try clear hcz40_0
        try clear hcz40_1
        try clear hcz40_2
        try clear hcz41_0
        try clear hcz41_1
        try clear hcz41_2
        try clear hcz42_0
        try clear hcz42_1
        try clear hcz42_2
        try clear hcz9_0
        try clear hcz9_1
        try clear hcz9_2
        try clear hfz16_0
        try clear hfz16_1
        try clear hfz16_2
        try clear hfz17_0
        try clear hfz17_1
        try clear hfz17_2
        try clear hfz18_0
        try clear hfz18_1
        try clear hfz18_2
        try clear hfz19_0
        try clear hfz19_1
        try clear hfz19_2
        try clear hfz23_0
        try clear hfz23_1
        try clear hfz23_2
        try clear hfz25_0
        try clear hfz25_1
        try clear hfz25_2
        try clear hfz28_0
        try clear hfz28_1
        try clear hfz28_2
        try clear hfz37_0
        try clear hfz37_1
        try clear hfz37_2
        try clear hfz38_0
        try clear hfz38_1
        try clear hfz38_2
        try clear hfz40_0
        try clear hfz40_1
        try clear hfz40_2
        try clear hfz41_0
        try clear hfz41_1
        try clear hfz41_2
        try clear hfz42_0
        try clear hfz42_1
        try clear hfz42_2
        try clear hfz9_0
        try clear hfz9_1
        try clear hfz9_2
        try clear hx104_0
        try clear hx104_1
        try clear hx104_2
        try clear hx113_0
        try clear hx113_1
        try clear hx113_2
        try clear p1
        try clear p10
        try clear p104
        try clear p113
        try clear p2
        try clear q1
        try clear q10
        try clear q104
        try clear q113
        obtain ⟨kq, x77_26, rfl, HA, HJ26, HO_4, BK105, HB⟩ := hcut
        cases kq with
        | zero => exact absurd HA.out (by simp [spec_l21Play.j2])
        | succ kj26 =>
         have H := HA.out
         clear HA
         simp only [spec_l21Play.j2] at H
         by_cases c43 : x77_26 = true
         ·subst c43
          have H1 : (some (x4_1, false)) = some (r1, r2) := by rw [if_pos rfl] at H; exact H
          clear H
          have H := H1
          clear H1
          simp only [Option.some.injEq, Prod.mk.injEq] at H
          obtain ⟨rfl, rfl⟩ := H
          go_wp2
          repeat (go_quiet (fail); try go_wp2)
          go_ret2
          exact ⟨_, by first | rfl | (simp [errW_none, errW_some] <;> rfl) | (simp [*, errW_none, errW_some] <;> rfl), by (with_reducible repeat (first | apply Kd.R_alloc | apply Kd.R_drewN | apply Kd.R_drew)); exact HO_4.out, by repeat (first | (with_reducible first | exact HB.out | apply below_alloc | apply pw_below_drewN | apply below_drew1 | refine below_set ?_ GE105.out) | exact HB.out)⟩
         replace c43 := Bool.eq_false_iff.mpr c43
         subst c43
         have H1 : (if 0 ≤ t106 then (if t106 < (x4_1.length : Int) then (if ((rd_T70 l0 x5_1).f0) = 2 then (spec_l21Play.l0 kj26 l0 (x4_1.set (t106 : Int).toNat (⟨(rd_T120 x4_1 t106).f0, ((rd_T70 l0 x5_1).f2), (rd_T120 x4_1 t106).f2⟩ : S120)) (wrap64 (x5_1 + 1))) else (spec_l21Play.l0 kj26 l0 (x4_1.set (t106 : Int).toNat (⟨(rd_T120 x4_1 t106).f0, (rd_T120 x4_1 t106).f1, (((rd_T70 l0 x5_1).f0) == 3)⟩ : S120)) (wrap64 (x5_1 + 1)))) else (none)) else (none)) = some (r1, r2) := by rw [if_neg (show ¬ (false = true) by decide)] at H; exact H
         clear H
         have H := H1
         clear H1
         by_cases c44 : 0 ≤ t106
         ·rw [if_pos c44] at H
          have c44b0 : decide (0 ≤ t106) = true := decide_eq_true c44
          clear c44
          by_cases c45 : t106 < (x4_1.length : Int)
          ·rw [if_pos c45] at H
           have c45b0 : decide (t106 < (x4_1.length : Int)) = true := decide_eq_true c45
           clear c45
           by_cases c46 : ((rd_T70 l0 x5_1).f0) = 2
           ·rw [if_pos c46] at H
            have c46b0 : (((rd_T70 l0 x5_1).f0) == 2) = true := beq_iff_eq.mpr c46
            have c46b1 : (((rd_T70 l0 x5_1).f0) != 2) = false := bne_eq_false_iff_eq.mpr c46
            clear c46
            obtain ⟨y116, hy116⟩ : ∃ y_ : List (S120), y_ = (x4_1.set (t106 : Int).toNat (⟨(rd_T120 x4_1 t106).f0, ((rd_T70 l0 x5_1).f2), (rd_T120 x4_1 t106).f2⟩ : S120)) := ⟨_, rfl⟩
            replace H : (spec_l21Play.l0 kj26 l0 y116 (wrap64 (x5_1 + 1))) = some (r1, r2) := by first | (rw [hy116]; with_reducible exact H) | (have H2_ := (Option.bind_some _ _).symm.trans H; rw [hy116]; with_reducible exact H2_) | (have H2_ := (Option.bind_some _ _).symm.trans H; with_reducible exact H2_) | with_reducible exact H | (rw [hy116]; exact H) | exact H
            have Ny116 := Aside0.mk hy116
            clear hy116
            have H' := Aside0.mk H
            clear H
            have p114 : 0 ≤ (t106 : Int) := of_decide_eq_true (by first | (with_reducible assumption) | assumption)
            have q114 : t106 < (x4_1.length : Int) := of_decide_eq_true (by first | (with_reducible assumption) | assumption)
            obtain ⟨ad114, e114, hx114_0, hx114_1, hx114_2⟩ := at_T120 (Kd.R_reads' HO_4.out).2.2 t106 p114 q114
            cases e114
            replace p114 := eq_true p114
            replace q114 := eq_true q114
            go_wp2_with (first | ((with_reducible refine gate_dst (N := 8) rfl ?_); refine box_event ?hg (N := 8) ?hd (cs := #[.string (⟨#[]⟩ : ByteArray), .string (⟨#[]⟩ : ByteArray), .bool false]) (t := 120) ?hr ?_; (case hd => rfl); (case hg => rfl); (case hr => first | (go_simp; done) | (go_simp; rfl)); intro gb115 hg w48 hbox hb; have n0_ := Aside0.mk (Kd.R_below (Kd.R_elderB (pR_ HO_4.out) gb115 (Nat.le_of_eq hg.symm)) hb); have n1_ := Aside0.mk (blk_below (g := gb105) (o := .cells #[.int .i64 ((rd_T70 l0 x5_1).f0), .string ((rd_T70 l0 x5_1).f1), .string ((rd_T70 l0 x5_1).f2)] 70 (0, 0)) (pB_ BK105.out) hb); have n2_ := Aside0.mk (below_step (pH_ HB.out) hb); have n3_ := Aside0.mk (hbox); have n4_ := Aside0.mk ((by rw [hg]; exact (below_size (pH_ HB.out)) : w.heap.size ≤ gb115)); have n5_ := Aside0.mk ((by rw [hg]; exact (below_size (pH_ HB.out)) : w.heap.size ≤ gb115)); have n6_ := Aside0.mk ((by rw [hg]; exact Nat.ne_of_lt (blk_lt (g := gb105) (o := .cells #[.int .i64 ((rd_T70 l0 x5_1).f0), .string ((rd_T70 l0 x5_1).f1), .string ((rd_T70 l0 x5_1).f2)] 70 (0, 0)) (pB_ BK105.out)) : gb105 ≠ gb115)); have n7_ := Aside0.mk ((by rw [hg]; exact Nat.ne_of_gt (blk_lt (g := gb105) (o := .cells #[.int .i64 ((rd_T70 l0 x5_1).f0), .string ((rd_T70 l0 x5_1).f1), .string ((rd_T70 l0 x5_1).f2)] 70 (0, 0)) (pB_ BK105.out)) : gb115 ≠ gb105)); clear HO_4; clear BK105; clear HB; have HO_4 := n0_; have BK105 := n1_; have HB := n2_; have BK115 := n3_; have GW115 := n4_; have GE115 := n5_; have NB105_115 := n6_; have NB115_105 := n7_; clear n0_ n1_ n2_ n3_ n4_ n5_ n6_ n7_; clear hb hbox hg; have hnb49 := NB115_105.out; have hnc49 := NB105_115.out; have hcz50_0 := cz_ BK115.out 0 _ rfl; have hcz50_1 := cz_ BK115.out 1 _ rfl; have hcz50_2 := cz_ BK115.out 2 _ rfl; have hfz50_0 := blk_frozen BK115.out 0; have hfz50_1 := blk_frozen BK115.out 1; have hfz50_2 := blk_frozen BK115.out 2) | ((with_reducible refine gate_store (t := 120) (p := 8) rfl ?_); (try (rw [drewN_self w48]; generalize hq_ : World.drewN w48 _ = w48; have n0_ := Aside0.mk (Kd.R_at hq_ HO_4.out); have n1_ := Aside0.mk (blk_at hq_ BK105.out); have n2_ := Aside0.mk (blk_at hq_ BK115.out); have n3_ := Aside0.mk (below_at hq_ HB.out); clear hq_ HO_4 BK105 BK115 HB; have HO_4 := n0_; have BK105 := n1_; have BK115 := n2_; have HB := n3_; clear n0_ n1_ n2_ n3_)); refine store_event (t := 120) (p := 8) (v := ?vo_w51) (w1 := (((w48.setCell ⟨gb115, 0, none⟩ (.string ((rd_T120 x4_1 t106).f0))).setCell ⟨gb115, 1, none⟩ (.string ((rd_T120 x4_1 t106).f1))).setCell ⟨gb115, 2, none⟩ (.bool ((rd_T120 x4_1 t106).f2)))) ?hg ?ho ?hn ?hr ?_; (case ho => rfl); (case hg => rfl); (case hn => rfl); (case hr => first | (go_simp; done) | (go_simp; rfl)); intro w51 hw; have n0_ : Aside0 (Kd.R k120 120 w51 w.heap.size (fun k_ => k_ ≠ gb115) (.slice (some ad114) x4_1.length co10) x4_1) := ⟨(by rw [hw]; exact (by (with_reducible repeat (first | apply Kd.R_alloc | apply Kd.R_drewN | apply Kd.R_drew)); exact Kd.R_mono (Kd.R_far (p := ⟨gb115, 2, none⟩) (Kd.R_far (p := ⟨gb115, 1, none⟩) (Kd.R_far (p := ⟨gb115, 0, none⟩) (Kd.R_mono HO_4.out (fun k_ hk => (⟨hk, hk.2⟩ : _ ∧ k_ ≠ gb115))) (fun _ hk => hk.2) (.string ((rd_T120 x4_1 t106).f0))) (fun _ hk => hk.2) (.string ((rd_T120 x4_1 t106).f1))) (fun _ hk => hk.2) (.bool ((rd_T120 x4_1 t106).f2))) (fun _ hk => hk.1.2)))⟩; have n1_ : Aside0 (w51.heap[gb105]? = some (.cells #[.int .i64 ((rd_T70 l0 x5_1).f0), .string ((rd_T70 l0 x5_1).f1), .string ((rd_T70 l0 x5_1).f2)] 70 (0, 0))) := ⟨(by rw [hw]; exact (by (with_reducible repeat (first | refine blk_drewN ?_ _ | refine blk_drew ?_ | refine blk_alloc ?_ _)); refine blk_far ?_ NB105_115.out _; (with_reducible repeat (first | refine blk_drewN ?_ _ | refine blk_drew ?_ | refine blk_alloc ?_ _)); refine blk_far ?_ NB105_115.out _; (with_reducible repeat (first | refine blk_drewN ?_ _ | refine blk_drew ?_ | refine blk_alloc ?_ _)); refine blk_far ?_ NB105_115.out _; (with_reducible repeat (first | refine blk_drewN ?_ _ | refine blk_drew ?_ | refine blk_alloc ?_ _)); exact BK105.out))⟩; have n2_ : Aside0 (w51.heap[gb115]? = some (.cells #[.string ((rd_T120 x4_1 t106).f0), .string ((rd_T120 x4_1 t106).f1), .bool ((rd_T120 x4_1 t106).f2)] 120 (0, 0))) := ⟨(by rw [hw]; exact (by (with_reducible repeat (first | refine blk_drewN ?_ _ | refine blk_drew ?_ | refine blk_alloc ?_ _)); refine blk_put (cs := #[.string ((rd_T120 x4_1 t106).f0), .string ((rd_T120 x4_1 t106).f1), .bool false]) ?_ 2 _ rfl; (with_reducible repeat (first | refine blk_drewN ?_ _ | refine blk_drew ?_ | refine blk_alloc ?_ _)); refine blk_put (cs := #[.string ((rd_T120 x4_1 t106).f0), .string (⟨#[]⟩ : ByteArray), .bool false]) ?_ 1 _ rfl; (with_reducible repeat (first | refine blk_drewN ?_ _ | refine blk_drew ?_ | refine blk_alloc ?_ _)); refine blk_put (cs := #[.string (⟨#[]⟩ : ByteArray), .string (⟨#[]⟩ : ByteArray), .bool false]) ?_ 0 _ rfl; (with_reducible repeat (first | refine blk_drewN ?_ _ | refine blk_drew ?_ | refine blk_alloc ?_ _)); exact BK115.out))⟩; have n3_ : Aside0 (Below w.heap.size w w51) := ⟨(by rw [hw]; exact (pH_ HB.out))⟩; clear hw; clear HO_4; clear BK105; clear BK115; clear HB; have HO_4 := n0_; have BK105 := n1_; have BK115 := n2_; have HB := n3_; clear n0_ n1_ n2_ n3_; have hcz52_0 := cz_ BK105.out 0 _ rfl; have hcz52_1 := cz_ BK105.out 1 _ rfl; have hcz52_2 := cz_ BK105.out 2 _ rfl; have hfz52_0 := blk_frozen BK105.out 0; have hfz52_1 := blk_frozen BK105.out 1; have hfz52_2 := blk_frozen BK105.out 2; have hcz53_0 := cz_ BK115.out 0 _ rfl; have hcz53_1 := cz_ BK115.out 1 _ rfl; have hcz53_2 := cz_ BK115.out 2 _ rfl; have hfz53_0 := blk_frozen BK115.out 0; have hfz53_1 := blk_frozen BK115.out 1; have hfz53_2 := blk_frozen BK115.out 2) | ((with_reducible refine gate_store (t := 9) (p := 88) rfl ?_); (try (rw [drewN_self w51]; generalize hq_ : World.drewN w51 _ = w51; have n0_ := Aside0.mk (Kd.R_at hq_ HO_4.out); have n1_ := Aside0.mk (blk_at hq_ BK105.out); have n2_ := Aside0.mk (blk_at hq_ BK115.out); have n3_ := Aside0.mk (below_at hq_ HB.out); clear hq_ HO_4 BK105 BK115 HB; have HO_4 := n0_; have BK105 := n1_; have BK115 := n2_; have HB := n3_; clear n0_ n1_ n2_ n3_)); refine store_event (t := 9) (p := 88) (v := ?vo_w54) (w1 := (w51.setCell ⟨gb115, 1, none⟩ (.string ((rd_T70 l0 x5_1).f2)))) ?hg ?ho ?hn ?hr ?_; (case ho => rfl); (case hg => rfl); (case hn => rfl); (case hr => first | (go_simp; done) | (go_simp; rfl)); intro w54 hw; have n0_ : Aside0 (Kd.R k120 120 w54 w.heap.size (fun k_ => k_ ≠ gb115) (.slice (some ad114) x4_1.length co10) x4_1) := ⟨(by rw [hw]; exact (by (with_reducible repeat (first | apply Kd.R_alloc | apply Kd.R_drewN | apply Kd.R_drew)); exact Kd.R_mono (Kd.R_far (p := ⟨gb115, 1, none⟩) (Kd.R_mono HO_4.out (fun k_ hk => (⟨hk, hk⟩ : _ ∧ k_ ≠ gb115))) (fun _ hk => hk.2) (.string ((rd_T70 l0 x5_1).f2))) (fun _ hk => hk.1)))⟩; have n1_ : Aside0 (w54.heap[gb105]? = some (.cells #[.int .i64 ((rd_T70 l0 x5_1).f0), .string ((rd_T70 l0 x5_1).f1), .string ((rd_T70 l0 x5_1).f2)] 70 (0, 0))) := ⟨(by rw [hw]; exact (by (with_reducible repeat (first | refine blk_drewN ?_ _ | refine blk_drew ?_ | refine blk_alloc ?_ _)); refine blk_far ?_ NB105_115.out _; (with_reducible repeat (first | refine blk_drewN ?_ _ | refine blk_drew ?_ | refine blk_alloc ?_ _)); exact BK105.out))⟩; have n2_ : Aside0 (w54.heap[gb115]? = some (.cells #[.string ((rd_T120 x4_1 t106).f0), .string ((rd_T70 l0 x5_1).f2), .bool ((rd_T120 x4_1 t106).f2)] 120 (0, 0))) := ⟨(by rw [hw]; exact (by (with_reducible repeat (first | refine blk_drewN ?_ _ | refine blk_drew ?_ | refine blk_alloc ?_ _)); refine blk_put (cs := #[.string ((rd_T120 x4_1 t106).f0), .string ((rd_T120 x4_1 t106).f1), .bool ((rd_T120 x4_1 t106).f2)]) ?_ 1 _ rfl; (with_reducible repeat (first | refine blk_drewN ?_ _ | refine blk_drew ?_ | refine blk_alloc ?_ _)); exact BK115.out))⟩; have n3_ : Aside0 (Below w.heap.size w w54) := ⟨(by rw [hw]; exact (pH_ HB.out))⟩; clear hw; clear HO_4; clear BK105; clear BK115; clear HB; have HO_4 := n0_; have BK105 := n1_; have BK115 := n2_; have HB := n3_; clear n0_ n1_ n2_ n3_; have hcz55_0 := cz_ BK115.out 0 _ rfl; have hcz55_1 := cz_ BK115.out 1 _ rfl; have hcz55_2 := cz_ BK115.out 2 _ rfl; have hfz55_0 := blk_frozen BK115.out 0; have hfz55_1 := blk_frozen BK115.out 1; have hfz55_2 := blk_frozen BK115.out 2; have p47 : 0 ≤ (t106 : Int) := of_decide_eq_true (by first | (with_reducible assumption) | assumption); have q47 : (t106 : Int) < ((x4_1.length : Int) : Int) := of_decide_eq_true (by first | (with_reducible assumption) | assumption); obtain ⟨go47, co47, eo47, gb47, gl47, cl47, HG47⟩ := Kd.R_form HO_4.out (by omega); (first | cases eo47 | (injection eo47 with ea_ en_ ec_; (first | subst ea_ | (injection ea_ with ea_; subst ea_)); subst ec_; clear en_)); have GB47 := Aside0.mk gb47; have GG47 := Aside0.mk HG47; clear gb47 gl47 HG47; (first | simp only [add_plain] at hx114_0 | skip); (first | simp only [add_plain] at hx114_1 | skip); (first | simp only [add_plain] at hx114_2 | skip); obtain ⟨ce47, hcl47, hM47, hcc47, hfr47⟩ := Kd.R_elem HO_4.out z120 (t106 : Int) p47 q47; obtain rfl := k120_openM hM47; have hx47_0 : w54.cell? ⟨go47, (t106 : Int).toNat * 3, none⟩ = some (.string ((rd_T120 x4_1 t106).f0)) := hcc47 0 _ rfl; have hx47_1 : w54.cell? ⟨go47, (t106 : Int).toNat * 3 + 1, none⟩ = some (.string ((rd_T120 x4_1 t106).f1)) := hcc47 1 _ rfl; have hx47_2 : w54.cell? ⟨go47, (t106 : Int).toNat * 3 + 2, none⟩ = some (.bool ((rd_T120 x4_1 t106).f2)) := hcc47 2 _ rfl; have hf47_0 : w54.frozen? ⟨go47, (t106 : Int).toNat * 3, none⟩ = false := hfr47 0; have hf47_1 : w54.frozen? ⟨go47, (t106 : Int).toNat * 3 + 1, none⟩ = false := hfr47 1; have hf47_2 : w54.frozen? ⟨go47, (t106 : Int).toNat * 3 + 2, none⟩ = false := hfr47 2; clear hcl47 hcc47 hfr47 hM47; replace p47 := eq_true p47; replace q47 := eq_true q47; have HX56 := Aside0.mk (show Kd.R k120 120 w54 w.heap.size (fun k_ => k_ ≠ gb115) (.slice (some ⟨go47, 0, none⟩) x4_1.length co10) x4_1 from (pR_ HO_4.out)); obtain ⟨ce56, hcl56, hM56, hcc56, hfr56⟩ := Kd.R_elem HX56.out z120 (t106 : Int) (of_decide_eq_true (by first | (with_reducible assumption) | assumption)) (by have h_ : (t106 : Int) < ((x4_1.length : Int) : Int) := of_decide_eq_true (by first | (with_reducible assumption) | assumption); first | exact h_ | (have e_ := (Kd.R_reads' HO_4.out).1; omega) | simpa using h_); obtain rfl := k120_openM hM56; have HP56 := Kd.R_seg HX56.out (t106 : Int) (of_decide_eq_true (by first | (with_reducible assumption) | assumption)) (by have h_ : (t106 : Int) < ((x4_1.length : Int) : Int) := of_decide_eq_true (by first | (with_reducible assumption) | assumption); first | exact h_ | (have e_ := (Kd.R_reads' HO_4.out).1; omega) | simpa using h_) (seg := [.string ((rd_T120 x4_1 t106).f0), .string ((rd_T70 l0 x5_1).f2), .bool ((rd_T120 x4_1 t106).f2)]) (j := 0) hcl56 hcc56 (show 3 ≤ 3 from by decide) (x' := (⟨(rd_T120 x4_1 t106).f0, ((rd_T70 l0 x5_1).f2), (rd_T120 x4_1 t106).f2⟩ : S120)) (k120_mkM _ _ _ (⟨(rd_T120 x4_1 t106).f0, ((rd_T70 l0 x5_1).f2), (rd_T120 x4_1 t106).f2⟩ : S120) ) (fun _ hk => hk); have hx56_0 := hcc56 0 _ rfl; (try simp only [show (k120).sz = 3 from rfl, Nat.mul_one, Nat.add_zero] at hx56_0); have hf56_0 := hfr56 0; (try simp only [show (k120).sz = 3 from rfl, Nat.mul_one, Nat.add_zero] at hf56_0); have hx56_1 := hcc56 1 _ rfl; (try simp only [show (k120).sz = 3 from rfl, Nat.mul_one, Nat.add_zero] at hx56_1); have hf56_1 := hfr56 1; (try simp only [show (k120).sz = 3 from rfl, Nat.mul_one, Nat.add_zero] at hf56_1); have hx56_2 := hcc56 2 _ rfl; (try simp only [show (k120).sz = 3 from rfl, Nat.mul_one, Nat.add_zero] at hx56_2); have hf56_2 := hfr56 2; (try simp only [show (k120).sz = 3 from rfl, Nat.mul_one, Nat.add_zero] at hf56_2); clear hcl56 hcc56 hfr56 hM56) | ((with_reducible refine gate_store (t := 120) (p := 96) rfl ?_); (try (rw [drewN_self w54]; generalize hq_ : World.drewN w54 _ = w54; have n0_ := Aside0.mk (Kd.R_at hq_ HO_4.out); have n1_ := Aside0.mk (blk_at hq_ BK105.out); have n2_ := Aside0.mk (blk_at hq_ BK115.out); have n3_ := Aside0.mk (below_at hq_ HB.out); clear hq_ HO_4 BK105 BK115 HB; have HO_4 := n0_; have BK105 := n1_; have BK115 := n2_; have HB := n3_; clear n0_ n1_ n2_ n3_; (try (have HX56 := Aside0.mk (show Kd.R k120 120 w54 w.heap.size (fun k_ => k_ ≠ gb115) (.slice (some ⟨go47, 0, none⟩) x4_1.length co10) x4_1 from (pR_ HO_4.out)))); (try (obtain ⟨ce56, hcl56, hM56, hcc56, hfr56⟩ := Kd.R_elem HX56.out z120 (t106 : Int) (of_decide_eq_true (by first | (with_reducible assumption) | assumption)) (by have h_ : (t106 : Int) < ((x4_1.length : Int) : Int) := of_decide_eq_true (by first | (with_reducible assumption) | assumption); first | exact h_ | (have e_ := (Kd.R_reads' HO_4.out).1; omega) | simpa using h_))); (try (obtain rfl := k120_openM hM56)); (try (have HP56 := Kd.R_seg HX56.out (t106 : Int) (of_decide_eq_true (by first | (with_reducible assumption) | assumption)) (by have h_ : (t106 : Int) < ((x4_1.length : Int) : Int) := of_decide_eq_true (by first | (with_reducible assumption) | assumption); first | exact h_ | (have e_ := (Kd.R_reads' HO_4.out).1; omega) | simpa using h_) (seg := [.string ((rd_T120 x4_1 t106).f0), .string ((rd_T70 l0 x5_1).f2), .bool ((rd_T120 x4_1 t106).f2)]) (j := 0) hcl56 hcc56 (show 3 ≤ 3 from by decide) (x' := (⟨(rd_T120 x4_1 t106).f0, ((rd_T70 l0 x5_1).f2), (rd_T120 x4_1 t106).f2⟩ : S120)) (k120_mkM _ _ _ (⟨(rd_T120 x4_1 t106).f0, ((rd_T70 l0 x5_1).f2), (rd_T120 x4_1 t106).f2⟩ : S120) ) (fun _ hk => hk))); (try (have hx56_0 := hcc56 0 _ rfl)); (try (try simp only [show (k120).sz = 3 from rfl, Nat.mul_one, Nat.add_zero] at hx56_0)); (try (have hf56_0 := hfr56 0)); (try (try simp only [show (k120).sz = 3 from rfl, Nat.mul_one, Nat.add_zero] at hf56_0)); (try (have hx56_1 := hcc56 1 _ rfl)); (try (try simp only [show (k120).sz = 3 from rfl, Nat.mul_one, Nat.add_zero] at hx56_1)); (try (have hf56_1 := hfr56 1)); (try (try simp only [show (k120).sz = 3 from rfl, Nat.mul_one, Nat.add_zero] at hf56_1)); (try (have hx56_2 := hcc56 2 _ rfl)); (try (try simp only [show (k120).sz = 3 from rfl, Nat.mul_one, Nat.add_zero] at hx56_2)); (try (have hf56_2 := hfr56 2)); (try (try simp only [show (k120).sz = 3 from rfl, Nat.mul_one, Nat.add_zero] at hf56_2)); (try (clear hcl56 hcc56 hfr56 hM56)))); refine store_event (t := 120) (p := 96) (v := ?vo_w57) (w1 := (((w54.setCell ⟨go47, (t106 : Int).toNat * 3, none⟩ (.string ((rd_T120 x4_1 t106).f0))).setCell ⟨go47, (t106 : Int).toNat * 3 + 1, none⟩ (.string ((rd_T70 l0 x5_1).f2))).setCell ⟨go47, (t106 : Int).toNat * 3 + 2, none⟩ (.bool ((rd_T120 x4_1 t106).f2)))) ?hg ?ho ?hn ?hr ?_; (case ho => rfl); (case hg => rfl); (case hn => rfl); (case hr => first | (go_simp; done) | (go_simp; rfl)); intro w57 hw; have hg : w54.grownBy w57 (some go47) := (by rw [hw]; exact HP56.2); have hp_ : Kd.R k120 120 w57 w.heap.size (fun k_ => k_ ≠ gb115) (.slice (some ⟨go47, 0, none⟩) x4_1.length co10) y116 := (by rw [hw, Ny116.out]; exact HP56.1); clear HP56; have n0_ := Aside0.mk (hp_); have n1_ := Aside0.mk (blk_grown (g := gb105) (o := .cells #[.int .i64 ((rd_T70 l0 x5_1).f0), .string ((rd_T70 l0 x5_1).f1), .string ((rd_T70 l0 x5_1).f2)] 70 (0, 0)) (pB_ BK105.out) hg (Kd.R_ne HO_4.out BK105.out (by decide))); have n2_ := Aside0.mk (blk_grown (g := gb115) (o := .cells #[.string ((rd_T120 x4_1 t106).f0), .string ((rd_T70 l0 x5_1).f2), .bool ((rd_T120 x4_1 t106).f2)] 120 (0, 0)) (pB_ BK115.out) hg (Kd.R_away HO_4.out (fun _ hk => hk))); have n3_ := Aside0.mk ((by rw [hw]; exact below_set (below_set (below_set (HB.out) GB47.out) GB47.out) GB47.out : Below w.heap.size w w57)); clear HO_4; clear BK105; clear BK115; clear HB; have HO_4 := n0_; have BK105 := n1_; have BK115 := n2_; have HB := n3_; clear n0_ n1_ n2_ n3_; clear hg hw hp_))
            repeat (go_quiet (first | ((with_reducible refine gate_dst (N := 8) rfl ?_); refine box_event ?hg (N := 8) ?hd (cs := #[.string (⟨#[]⟩ : ByteArray), .string (⟨#[]⟩ : ByteArray), .bool false]) (t := 120) ?hr ?_; (case hd => rfl); (case hg => rfl); (case hr => first | (go_simp; done) | (go_simp; rfl)); intro gb115 hg w48 hbox hb; have n0_ := Aside0.mk (Kd.R_below (Kd.R_elderB (pR_ HO_4.out) gb115 (Nat.le_of_eq hg.symm)) hb); have n1_ := Aside0.mk (blk_below (g := gb105) (o := .cells #[.int .i64 ((rd_T70 l0 x5_1).f0), .string ((rd_T70 l0 x5_1).f1), .string ((rd_T70 l0 x5_1).f2)] 70 (0, 0)) (pB_ BK105.out) hb); have n2_ := Aside0.mk (below_step (pH_ HB.out) hb); have n3_ := Aside0.mk (hbox); have n4_ := Aside0.mk ((by rw [hg]; exact (below_size (pH_ HB.out)) : w.heap.size ≤ gb115)); have n5_ := Aside0.mk ((by rw [hg]; exact (below_size (pH_ HB.out)) : w.heap.size ≤ gb115)); have n6_ := Aside0.mk ((by rw [hg]; exact Nat.ne_of_lt (blk_lt (g := gb105) (o := .cells #[.int .i64 ((rd_T70 l0 x5_1).f0), .string ((rd_T70 l0 x5_1).f1), .string ((rd_T70 l0 x5_1).f2)] 70 (0, 0)) (pB_ BK105.out)) : gb105 ≠ gb115)); have n7_ := Aside0.mk ((by rw [hg]; exact Nat.ne_of_gt (blk_lt (g := gb105) (o := .cells #[.int .i64 ((rd_T70 l0 x5_1).f0), .string ((rd_T70 l0 x5_1).f1), .string ((rd_T70 l0 x5_1).f2)] 70 (0, 0)) (pB_ BK105.out)) : gb115 ≠ gb105)); clear HO_4; clear BK105; clear HB; have HO_4 := n0_; have BK105 := n1_; have HB := n2_; have BK115 := n3_; have GW115 := n4_; have GE115 := n5_; have NB105_115 := n6_; have NB115_105 := n7_; clear n0_ n1_ n2_ n3_ n4_ n5_ n6_ n7_; clear hb hbox hg; have hnb49 := NB115_105.out; have hnc49 := NB105_115.out; have hcz50_0 := cz_ BK115.out 0 _ rfl; have hcz50_1 := cz_ BK115.out 1 _ rfl; have hcz50_2 := cz_ BK115.out 2 _ rfl; have hfz50_0 := blk_frozen BK115.out 0; have hfz50_1 := blk_frozen BK115.out 1; have hfz50_2 := blk_frozen BK115.out 2) | ((with_reducible refine gate_store (t := 120) (p := 8) rfl ?_); (try (rw [drewN_self w48]; generalize hq_ : World.drewN w48 _ = w48; have n0_ := Aside0.mk (Kd.R_at hq_ HO_4.out); have n1_ := Aside0.mk (blk_at hq_ BK105.out); have n2_ := Aside0.mk (blk_at hq_ BK115.out); have n3_ := Aside0.mk (below_at hq_ HB.out); clear hq_ HO_4 BK105 BK115 HB; have HO_4 := n0_; have BK105 := n1_; have BK115 := n2_; have HB := n3_; clear n0_ n1_ n2_ n3_)); refine store_event (t := 120) (p := 8) (v := ?vo_w51) (w1 := (((w48.setCell ⟨gb115, 0, none⟩ (.string ((rd_T120 x4_1 t106).f0))).setCell ⟨gb115, 1, none⟩ (.string ((rd_T120 x4_1 t106).f1))).setCell ⟨gb115, 2, none⟩ (.bool ((rd_T120 x4_1 t106).f2)))) ?hg ?ho ?hn ?hr ?_; (case ho => rfl); (case hg => rfl); (case hn => rfl); (case hr => first | (go_simp; done) | (go_simp; rfl)); intro w51 hw; have n0_ : Aside0 (Kd.R k120 120 w51 w.heap.size (fun k_ => k_ ≠ gb115) (.slice (some ad114) x4_1.length co10) x4_1) := ⟨(by rw [hw]; exact (by (with_reducible repeat (first | apply Kd.R_alloc | apply Kd.R_drewN | apply Kd.R_drew)); exact Kd.R_mono (Kd.R_far (p := ⟨gb115, 2, none⟩) (Kd.R_far (p := ⟨gb115, 1, none⟩) (Kd.R_far (p := ⟨gb115, 0, none⟩) (Kd.R_mono HO_4.out (fun k_ hk => (⟨hk, hk.2⟩ : _ ∧ k_ ≠ gb115))) (fun _ hk => hk.2) (.string ((rd_T120 x4_1 t106).f0))) (fun _ hk => hk.2) (.string ((rd_T120 x4_1 t106).f1))) (fun _ hk => hk.2) (.bool ((rd_T120 x4_1 t106).f2))) (fun _ hk => hk.1.2)))⟩; have n1_ : Aside0 (w51.heap[gb105]? = some (.cells #[.int .i64 ((rd_T70 l0 x5_1).f0), .string ((rd_T70 l0 x5_1).f1), .string ((rd_T70 l0 x5_1).f2)] 70 (0, 0))) := ⟨(by rw [hw]; exact (by (with_reducible repeat (first | refine blk_drewN ?_ _ | refine blk_drew ?_ | refine blk_alloc ?_ _)); refine blk_far ?_ NB105_115.out _; (with_reducible repeat (first | refine blk_drewN ?_ _ | refine blk_drew ?_ | refine blk_alloc ?_ _)); refine blk_far ?_ NB105_115.out _; (with_reducible repeat (first | refine blk_drewN ?_ _ | refine blk_drew ?_ | refine blk_alloc ?_ _)); refine blk_far ?_ NB105_115.out _; (with_reducible repeat (first | refine blk_drewN ?_ _ | refine blk_drew ?_ | refine blk_alloc ?_ _)); exact BK105.out))⟩; have n2_ : Aside0 (w51.heap[gb115]? = some (.cells #[.string ((rd_T120 x4_1 t106).f0), .string ((rd_T120 x4_1 t106).f1), .bool ((rd_T120 x4_1 t106).f2)] 120 (0, 0))) := ⟨(by rw [hw]; exact (by (with_reducible repeat (first | refine blk_drewN ?_ _ | refine blk_drew ?_ | refine blk_alloc ?_ _)); refine blk_put (cs := #[.string ((rd_T120 x4_1 t106).f0), .string ((rd_T120 x4_1 t106).f1), .bool false]) ?_ 2 _ rfl; (with_reducible repeat (first | refine blk_drewN ?_ _ | refine blk_drew ?_ | refine blk_alloc ?_ _)); refine blk_put (cs := #[.string ((rd_T120 x4_1 t106).f0), .string (⟨#[]⟩ : ByteArray), .bool false]) ?_ 1 _ rfl; (with_reducible repeat (first | refine blk_drewN ?_ _ | refine blk_drew ?_ | refine blk_alloc ?_ _)); refine blk_put (cs := #[.string (⟨#[]⟩ : ByteArray), .string (⟨#[]⟩ : ByteArray), .bool false]) ?_ 0 _ rfl; (with_reducible repeat (first | refine blk_drewN ?_ _ | refine blk_drew ?_ | refine blk_alloc ?_ _)); exact BK115.out))⟩; have n3_ : Aside0 (Below w.heap.size w w51) := ⟨(by rw [hw]; exact (pH_ HB.out))⟩; clear hw; clear HO_4; clear BK105; clear BK115; clear HB; have HO_4 := n0_; have BK105 := n1_; have BK115 := n2_; have HB := n3_; clear n0_ n1_ n2_ n3_; have hcz52_0 := cz_ BK105.out 0 _ rfl; have hcz52_1 := cz_ BK105.out 1 _ rfl; have hcz52_2 := cz_ BK105.out 2 _ rfl; have hfz52_0 := blk_frozen BK105.out 0; have hfz52_1 := blk_frozen BK105.out 1; have hfz52_2 := blk_frozen BK105.out 2; have hcz53_0 := cz_ BK115.out 0 _ rfl; have hcz53_1 := cz_ BK115.out 1 _ rfl; have hcz53_2 := cz_ BK115.out 2 _ rfl; have hfz53_0 := blk_frozen BK115.out 0; have hfz53_1 := blk_frozen BK115.out 1; have hfz53_2 := blk_frozen BK115.out 2) | ((with_reducible refine gate_store (t := 9) (p := 88) rfl ?_); (try (rw [drewN_self w51]; generalize hq_ : World.drewN w51 _ = w51; have n0_ := Aside0.mk (Kd.R_at hq_ HO_4.out); have n1_ := Aside0.mk (blk_at hq_ BK105.out); have n2_ := Aside0.mk (blk_at hq_ BK115.out); have n3_ := Aside0.mk (below_at hq_ HB.out); clear hq_ HO_4 BK105 BK115 HB; have HO_4 := n0_; have BK105 := n1_; have BK115 := n2_; have HB := n3_; clear n0_ n1_ n2_ n3_)); refine store_event (t := 9) (p := 88) (v := ?vo_w54) (w1 := (w51.setCell ⟨gb115, 1, none⟩ (.string ((rd_T70 l0 x5_1).f2)))) ?hg ?ho ?hn ?hr ?_; (case ho => rfl); (case hg => rfl); (case hn => rfl); (case hr => first | (go_simp; done) | (go_simp; rfl)); intro w54 hw; have n0_ : Aside0 (Kd.R k120 120 w54 w.heap.size (fun k_ => k_ ≠ gb115) (.slice (some ad114) x4_1.length co10) x4_1) := ⟨(by rw [hw]; exact (by (with_reducible repeat (first | apply Kd.R_alloc | apply Kd.R_drewN | apply Kd.R_drew)); exact Kd.R_mono (Kd.R_far (p := ⟨gb115, 1, none⟩) (Kd.R_mono HO_4.out (fun k_ hk => (⟨hk, hk⟩ : _ ∧ k_ ≠ gb115))) (fun _ hk => hk.2) (.string ((rd_T70 l0 x5_1).f2))) (fun _ hk => hk.1)))⟩; have n1_ : Aside0 (w54.heap[gb105]? = some (.cells #[.int .i64 ((rd_T70 l0 x5_1).f0), .string ((rd_T70 l0 x5_1).f1), .string ((rd_T70 l0 x5_1).f2)] 70 (0, 0))) := ⟨(by rw [hw]; exact (by (with_reducible repeat (first | refine blk_drewN ?_ _ | refine blk_drew ?_ | refine blk_alloc ?_ _)); refine blk_far ?_ NB105_115.out _; (with_reducible repeat (first | refine blk_drewN ?_ _ | refine blk_drew ?_ | refine blk_alloc ?_ _)); exact BK105.out))⟩; have n2_ : Aside0 (w54.heap[gb115]? = some (.cells #[.string ((rd_T120 x4_1 t106).f0), .string ((rd_T70 l0 x5_1).f2), .bool ((rd_T120 x4_1 t106).f2)] 120 (0, 0))) := ⟨(by rw [hw]; exact (by (with_reducible repeat (first | refine blk_drewN ?_ _ | refine blk_drew ?_ | refine blk_alloc ?_ _)); refine blk_put (cs := #[.string ((rd_T120 x4_1 t106).f0), .string ((rd_T120 x4_1 t106).f1), .bool ((rd_T120 x4_1 t106).f2)]) ?_ 1 _ rfl; (with_reducible repeat (first | refine blk_drewN ?_ _ | refine blk_drew ?_ | refine blk_alloc ?_ _)); exact BK115.out))⟩; have n3_ : Aside0 (Below w.heap.size w w54) := ⟨(by rw [hw]; exact (pH_ HB.out))⟩; clear hw; clear HO_4; clear BK105; clear BK115; clear HB; have HO_4 := n0_; have BK105 := n1_; have BK115 := n2_; have HB := n3_; clear n0_ n1_ n2_ n3_; have hcz55_0 := cz_ BK115.out 0 _ rfl; have hcz55_1 := cz_ BK115.out 1 _ rfl; have hcz55_2 := cz_ BK115.out 2 _ rfl; have hfz55_0 := blk_frozen BK115.out 0; have hfz55_1 := blk_frozen BK115.out 1; have hfz55_2 := blk_frozen BK115.out 2; have p47 : 0 ≤ (t106 : Int) := of_decide_eq_true (by first | (with_reducible assumption) | assumption); have q47 : (t106 : Int) < ((x4_1.length : Int) : Int) := of_decide_eq_true (by first | (with_reducible assumption) | assumption); obtain ⟨go47, co47, eo47, gb47, gl47, cl47, HG47⟩ := Kd.R_form HO_4.out (by omega); (first | cases eo47 | (injection eo47 with ea_ en_ ec_; (first | subst ea_ | (injection ea_ with ea_; subst ea_)); subst ec_; clear en_)); have GB47 := Aside0.mk gb47; have GG47 := Aside0.mk HG47; clear gb47 gl47 HG47; (first | simp only [add_plain] at hx114_0 | skip); (first | simp only [add_plain] at hx114_1 | skip); (first | simp only [add_plain] at hx114_2 | skip); obtain ⟨ce47, hcl47, hM47, hcc47, hfr47⟩ := Kd.R_elem HO_4.out z120 (t106 : Int) p47 q47; obtain rfl := k120_openM hM47; have hx47_0 : w54.cell? ⟨go47, (t106 : Int).toNat * 3, none⟩ = some (.string ((rd_T120 x4_1 t106).f0)) := hcc47 0 _ rfl; have hx47_1 : w54.cell? ⟨go47, (t106 : Int).toNat * 3 + 1, none⟩ = some (.string ((rd_T120 x4_1 t106).f1)) := hcc47 1 _ rfl; have hx47_2 : w54.cell? ⟨go47, (t106 : Int).toNat * 3 + 2, none⟩ = some (.bool ((rd_T120 x4_1 t106).f2)) := hcc47 2 _ rfl; have hf47_0 : w54.frozen? ⟨go47, (t106 : Int).toNat * 3, none⟩ = false := hfr47 0; have hf47_1 : w54.frozen? ⟨go47, (t106 : Int).toNat * 3 + 1, none⟩ = false := hfr47 1; have hf47_2 : w54.frozen? ⟨go47, (t106 : Int).toNat * 3 + 2, none⟩ = false := hfr47 2; clear hcl47 hcc47 hfr47 hM47; replace p47 := eq_true p47; replace q47 := eq_true q47; have HX56 := Aside0.mk (show Kd.R k120 120 w54 w.heap.size (fun k_ => k_ ≠ gb115) (.slice (some ⟨go47, 0, none⟩) x4_1.length co10) x4_1 from (pR_ HO_4.out)); obtain ⟨ce56, hcl56, hM56, hcc56, hfr56⟩ := Kd.R_elem HX56.out z120 (t106 : Int) (of_decide_eq_true (by first | (with_reducible assumption) | assumption)) (by have h_ : (t106 : Int) < ((x4_1.length : Int) : Int) := of_decide_eq_true (by first | (with_reducible assumption) | assumption); first | exact h_ | (have e_ := (Kd.R_reads' HO_4.out).1; omega) | simpa using h_); obtain rfl := k120_openM hM56; have HP56 := Kd.R_seg HX56.out (t106 : Int) (of_decide_eq_true (by first | (with_reducible assumption) | assumption)) (by have h_ : (t106 : Int) < ((x4_1.length : Int) : Int) := of_decide_eq_true (by first | (with_reducible assumption) | assumption); first | exact h_ | (have e_ := (Kd.R_reads' HO_4.out).1; omega) | simpa using h_) (seg := [.string ((rd_T120 x4_1 t106).f0), .string ((rd_T70 l0 x5_1).f2), .bool ((rd_T120 x4_1 t106).f2)]) (j := 0) hcl56 hcc56 (show 3 ≤ 3 from by decide) (x' := (⟨(rd_T120 x4_1 t106).f0, ((rd_T70 l0 x5_1).f2), (rd_T120 x4_1 t106).f2⟩ : S120)) (k120_mkM _ _ _ (⟨(rd_T120 x4_1 t106).f0, ((rd_T70 l0 x5_1).f2), (rd_T120 x4_1 t106).f2⟩ : S120) ) (fun _ hk => hk); have hx56_0 := hcc56 0 _ rfl; (try simp only [show (k120).sz = 3 from rfl, Nat.mul_one, Nat.add_zero] at hx56_0); have hf56_0 := hfr56 0; (try simp only [show (k120).sz = 3 from rfl, Nat.mul_one, Nat.add_zero] at hf56_0); have hx56_1 := hcc56 1 _ rfl; (try simp only [show (k120).sz = 3 from rfl, Nat.mul_one, Nat.add_zero] at hx56_1); have hf56_1 := hfr56 1; (try simp only [show (k120).sz = 3 from rfl, Nat.mul_one, Nat.add_zero] at hf56_1); have hx56_2 := hcc56 2 _ rfl; (try simp only [show (k120).sz = 3 from rfl, Nat.mul_one, Nat.add_zero] at hx56_2); have hf56_2 := hfr56 2; (try simp only [show (k120).sz = 3 from rfl, Nat.mul_one, Nat.add_zero] at hf56_2); clear hcl56 hcc56 hfr56 hM56) | ((with_reducible refine gate_store (t := 120) (p := 96) rfl ?_); (try (rw [drewN_self w54]; generalize hq_ : World.drewN w54 _ = w54; have n0_ := Aside0.mk (Kd.R_at hq_ HO_4.out); have n1_ := Aside0.mk (blk_at hq_ BK105.out); have n2_ := Aside0.mk (blk_at hq_ BK115.out); have n3_ := Aside0.mk (below_at hq_ HB.out); clear hq_ HO_4 BK105 BK115 HB; have HO_4 := n0_; have BK105 := n1_; have BK115 := n2_; have HB := n3_; clear n0_ n1_ n2_ n3_; (try (have HX56 := Aside0.mk (show Kd.R k120 120 w54 w.heap.size (fun k_ => k_ ≠ gb115) (.slice (some ⟨go47, 0, none⟩) x4_1.length co10) x4_1 from (pR_ HO_4.out)))); (try (obtain ⟨ce56, hcl56, hM56, hcc56, hfr56⟩ := Kd.R_elem HX56.out z120 (t106 : Int) (of_decide_eq_true (by first | (with_reducible assumption) | assumption)) (by have h_ : (t106 : Int) < ((x4_1.length : Int) : Int) := of_decide_eq_true (by first | (with_reducible assumption) | assumption); first | exact h_ | (have e_ := (Kd.R_reads' HO_4.out).1; omega) | simpa using h_))); (try (obtain rfl := k120_openM hM56)); (try (have HP56 := Kd.R_seg HX56.out (t106 : Int) (of_decide_eq_true (by first | (with_reducible assumption) | assumption)) (by have h_ : (t106 : Int) < ((x4_1.length : Int) : Int) := of_decide_eq_true (by first | (with_reducible assumption) | assumption); first | exact h_ | (have e_ := (Kd.R_reads' HO_4.out).1; omega) | simpa using h_) (seg := [.string ((rd_T120 x4_1 t106).f0), .string ((rd_T70 l0 x5_1).f2), .bool ((rd_T120 x4_1 t106).f2)]) (j := 0) hcl56 hcc56 (show 3 ≤ 3 from by decide) (x' := (⟨(rd_T120 x4_1 t106).f0, ((rd_T70 l0 x5_1).f2), (rd_T120 x4_1 t106).f2⟩ : S120)) (k120_mkM _ _ _ (⟨(rd_T120 x4_1 t106).f0, ((rd_T70 l0 x5_1).f2), (rd_T120 x4_1 t106).f2⟩ : S120) ) (fun _ hk => hk))); (try (have hx56_0 := hcc56 0 _ rfl)); (try (try simp only [show (k120).sz = 3 from rfl, Nat.mul_one, Nat.add_zero] at hx56_0)); (try (have hf56_0 := hfr56 0)); (try (try simp only [show (k120).sz = 3 from rfl, Nat.mul_one, Nat.add_zero] at hf56_0)); (try (have hx56_1 := hcc56 1 _ rfl)); (try (try simp only [show (k120).sz = 3 from rfl, Nat.mul_one, Nat.add_zero] at hx56_1)); (try (have hf56_1 := hfr56 1)); (try (try simp only [show (k120).sz = 3 from rfl, Nat.mul_one, Nat.add_zero] at hf56_1)); (try (have hx56_2 := hcc56 2 _ rfl)); (try (try simp only [show (k120).sz = 3 from rfl, Nat.mul_one, Nat.add_zero] at hx56_2)); (try (have hf56_2 := hfr56 2)); (try (try simp only [show (k120).sz = 3 from rfl, Nat.mul_one, Nat.add_zero] at hf56_2)); (try (clear hcl56 hcc56 hfr56 hM56)))); refine store_event (t := 120) (p := 96) (v := ?vo_w57) (w1 := (((w54.setCell ⟨go47, (t106 : Int).toNat * 3, none⟩ (.string ((rd_T120 x4_1 t106).f0))).setCell ⟨go47, (t106 : Int).toNat * 3 + 1, none⟩ (.string ((rd_T70 l0 x5_1).f2))).setCell ⟨go47, (t106 : Int).toNat * 3 + 2, none⟩ (.bool ((rd_T120 x4_1 t106).f2)))) ?hg ?ho ?hn ?hr ?_; (case ho => rfl); (case hg => rfl); (case hn => rfl); (case hr => first | (go_simp; done) | (go_simp; rfl)); intro w57 hw; have hg : w54.grownBy w57 (some go47) := (by rw [hw]; exact HP56.2); have hp_ : Kd.R k120 120 w57 w.heap.size (fun k_ => k_ ≠ gb115) (.slice (some ⟨go47, 0, none⟩) x4_1.length co10) y116 := (by rw [hw, Ny116.out]; exact HP56.1); clear HP56; have n0_ := Aside0.mk (hp_); have n1_ := Aside0.mk (blk_grown (g := gb105) (o := .cells #[.int .i64 ((rd_T70 l0 x5_1).f0), .string ((rd_T70 l0 x5_1).f1), .string ((rd_T70 l0 x5_1).f2)] 70 (0, 0)) (pB_ BK105.out) hg (Kd.R_ne HO_4.out BK105.out (by decide))); have n2_ := Aside0.mk (blk_grown (g := gb115) (o := .cells #[.string ((rd_T120 x4_1 t106).f0), .string ((rd_T70 l0 x5_1).f2), .bool ((rd_T120 x4_1 t106).f2)] 120 (0, 0)) (pB_ BK115.out) hg (Kd.R_away HO_4.out (fun _ hk => hk))); have n3_ := Aside0.mk ((by rw [hw]; exact below_set (below_set (below_set (HB.out) GB47.out) GB47.out) GB47.out : Below w.heap.size w w57)); clear HO_4; clear BK105; clear BK115; clear HB; have HO_4 := n0_; have BK105 := n1_; have BK115 := n2_; have HB := n3_; clear n0_ n1_ n2_ n3_; clear hg hw hp_)); try go_wp2_with (first | ((with_reducible refine gate_dst (N := 8) rfl ?_); refine box_event ?hg (N := 8) ?hd (cs := #[.string (⟨#[]⟩ : ByteArray), .string (⟨#[]⟩ : ByteArray), .bool false]) (t := 120) ?hr ?_; (case hd => rfl); (case hg => rfl); (case hr => first | (go_simp; done) | (go_simp; rfl)); intro gb115 hg w48 hbox hb; have n0_ := Aside0.mk (Kd.R_below (Kd.R_elderB (pR_ HO_4.out) gb115 (Nat.le_of_eq hg.symm)) hb); have n1_ := Aside0.mk (blk_below (g := gb105) (o := .cells #[.int .i64 ((rd_T70 l0 x5_1).f0), .string ((rd_T70 l0 x5_1).f1), .string ((rd_T70 l0 x5_1).f2)] 70 (0, 0)) (pB_ BK105.out) hb); have n2_ := Aside0.mk (below_step (pH_ HB.out) hb); have n3_ := Aside0.mk (hbox); have n4_ := Aside0.mk ((by rw [hg]; exact (below_size (pH_ HB.out)) : w.heap.size ≤ gb115)); have n5_ := Aside0.mk ((by rw [hg]; exact (below_size (pH_ HB.out)) : w.heap.size ≤ gb115)); have n6_ := Aside0.mk ((by rw [hg]; exact Nat.ne_of_lt (blk_lt (g := gb105) (o := .cells #[.int .i64 ((rd_T70 l0 x5_1).f0), .string ((rd_T70 l0 x5_1).f1), .string ((rd_T70 l0 x5_1).f2)] 70 (0, 0)) (pB_ BK105.out)) : gb105 ≠ gb115)); have n7_ := Aside0.mk ((by rw [hg]; exact Nat.ne_of_gt (blk_lt (g := gb105) (o := .cells #[.int .i64 ((rd_T70 l0 x5_1).f0), .string ((rd_T70 l0 x5_1).f1), .string ((rd_T70 l0 x5_1).f2)] 70 (0, 0)) (pB_ BK105.out)) : gb115 ≠ gb105)); clear HO_4; clear BK105; clear HB; have HO_4 := n0_; have BK105 := n1_; have HB := n2_; have BK115 := n3_; have GW115 := n4_; have GE115 := n5_; have NB105_115 := n6_; have NB115_105 := n7_; clear n0_ n1_ n2_ n3_ n4_ n5_ n6_ n7_; clear hb hbox hg; have hnb49 := NB115_105.out; have hnc49 := NB105_115.out; have hcz50_0 := cz_ BK115.out 0 _ rfl; have hcz50_1 := cz_ BK115.out 1 _ rfl; have hcz50_2 := cz_ BK115.out 2 _ rfl; have hfz50_0 := blk_frozen BK115.out 0; have hfz50_1 := blk_frozen BK115.out 1; have hfz50_2 := blk_frozen BK115.out 2) | ((with_reducible refine gate_store (t := 120) (p := 8) rfl ?_); (try (rw [drewN_self w48]; generalize hq_ : World.drewN w48 _ = w48; have n0_ := Aside0.mk (Kd.R_at hq_ HO_4.out); have n1_ := Aside0.mk (blk_at hq_ BK105.out); have n2_ := Aside0.mk (blk_at hq_ BK115.out); have n3_ := Aside0.mk (below_at hq_ HB.out); clear hq_ HO_4 BK105 BK115 HB; have HO_4 := n0_; have BK105 := n1_; have BK115 := n2_; have HB := n3_; clear n0_ n1_ n2_ n3_)); refine store_event (t := 120) (p := 8) (v := ?vo_w51) (w1 := (((w48.setCell ⟨gb115, 0, none⟩ (.string ((rd_T120 x4_1 t106).f0))).setCell ⟨gb115, 1, none⟩ (.string ((rd_T120 x4_1 t106).f1))).setCell ⟨gb115, 2, none⟩ (.bool ((rd_T120 x4_1 t106).f2)))) ?hg ?ho ?hn ?hr ?_; (case ho => rfl); (case hg => rfl); (case hn => rfl); (case hr => first | (go_simp; done) | (go_simp; rfl)); intro w51 hw; have n0_ : Aside0 (Kd.R k120 120 w51 w.heap.size (fun k_ => k_ ≠ gb115) (.slice (some ad114) x4_1.length co10) x4_1) := ⟨(by rw [hw]; exact (by (with_reducible repeat (first | apply Kd.R_alloc | apply Kd.R_drewN | apply Kd.R_drew)); exact Kd.R_mono (Kd.R_far (p := ⟨gb115, 2, none⟩) (Kd.R_far (p := ⟨gb115, 1, none⟩) (Kd.R_far (p := ⟨gb115, 0, none⟩) (Kd.R_mono HO_4.out (fun k_ hk => (⟨hk, hk.2⟩ : _ ∧ k_ ≠ gb115))) (fun _ hk => hk.2) (.string ((rd_T120 x4_1 t106).f0))) (fun _ hk => hk.2) (.string ((rd_T120 x4_1 t106).f1))) (fun _ hk => hk.2) (.bool ((rd_T120 x4_1 t106).f2))) (fun _ hk => hk.1.2)))⟩; have n1_ : Aside0 (w51.heap[gb105]? = some (.cells #[.int .i64 ((rd_T70 l0 x5_1).f0), .string ((rd_T70 l0 x5_1).f1), .string ((rd_T70 l0 x5_1).f2)] 70 (0, 0))) := ⟨(by rw [hw]; exact (by (with_reducible repeat (first | refine blk_drewN ?_ _ | refine blk_drew ?_ | refine blk_alloc ?_ _)); refine blk_far ?_ NB105_115.out _; (with_reducible repeat (first | refine blk_drewN ?_ _ | refine blk_drew ?_ | refine blk_alloc ?_ _)); refine blk_far ?_ NB105_115.out _; (with_reducible repeat (first | refine blk_drewN ?_ _ | refine blk_drew ?_ | refine blk_alloc ?_ _)); refine blk_far ?_ NB105_115.out _; (with_reducible repeat (first | refine blk_drewN ?_ _ | refine blk_drew ?_ | refine blk_alloc ?_ _)); exact BK105.out))⟩; have n2_ : Aside0 (w51.heap[gb115]? = some (.cells #[.string ((rd_T120 x4_1 t106).f0), .string ((rd_T120 x4_1 t106).f1), .bool ((rd_T120 x4_1 t106).f2)] 120 (0, 0))) := ⟨(by rw [hw]; exact (by (with_reducible repeat (first | refine blk_drewN ?_ _ | refine blk_drew ?_ | refine blk_alloc ?_ _)); refine blk_put (cs := #[.string ((rd_T120 x4_1 t106).f0), .string ((rd_T120 x4_1 t106).f1), .bool false]) ?_ 2 _ rfl; (with_reducible repeat (first | refine blk_drewN ?_ _ | refine blk_drew ?_ | refine blk_alloc ?_ _)); refine blk_put (cs := #[.string ((rd_T120 x4_1 t106).f0), .string (⟨#[]⟩ : ByteArray), .bool false]) ?_ 1 _ rfl; (with_reducible repeat (first | refine blk_drewN ?_ _ | refine blk_drew ?_ | refine blk_alloc ?_ _)); refine blk_put (cs := #[.string (⟨#[]⟩ : ByteArray), .string (⟨#[]⟩ : ByteArray), .bool false]) ?_ 0 _ rfl; (with_reducible repeat (first | refine blk_drewN ?_ _ | refine blk_drew ?_ | refine blk_alloc ?_ _)); exact BK115.out))⟩; have n3_ : Aside0 (Below w.heap.size w w51) := ⟨(by rw [hw]; exact (pH_ HB.out))⟩; clear hw; clear HO_4; clear BK105; clear BK115; clear HB; have HO_4 := n0_; have BK105 := n1_; have BK115 := n2_; have HB := n3_; clear n0_ n1_ n2_ n3_; have hcz52_0 := cz_ BK105.out 0 _ rfl; have hcz52_1 := cz_ BK105.out 1 _ rfl; have hcz52_2 := cz_ BK105.out 2 _ rfl; have hfz52_0 := blk_frozen BK105.out 0; have hfz52_1 := blk_frozen BK105.out 1; have hfz52_2 := blk_frozen BK105.out 2; have hcz53_0 := cz_ BK115.out 0 _ rfl; have hcz53_1 := cz_ BK115.out 1 _ rfl; have hcz53_2 := cz_ BK115.out 2 _ rfl; have hfz53_0 := blk_frozen BK115.out 0; have hfz53_1 := blk_frozen BK115.out 1; have hfz53_2 := blk_frozen BK115.out 2) | ((with_reducible refine gate_store (t := 9) (p := 88) rfl ?_); (try (rw [drewN_self w51]; generalize hq_ : World.drewN w51 _ = w51; have n0_ := Aside0.mk (Kd.R_at hq_ HO_4.out); have n1_ := Aside0.mk (blk_at hq_ BK105.out); have n2_ := Aside0.mk (blk_at hq_ BK115.out); have n3_ := Aside0.mk (below_at hq_ HB.out); clear hq_ HO_4 BK105 BK115 HB; have HO_4 := n0_; have BK105 := n1_; have BK115 := n2_; have HB := n3_; clear n0_ n1_ n2_ n3_)); refine store_event (t := 9) (p := 88) (v := ?vo_w54) (w1 := (w51.setCell ⟨gb115, 1, none⟩ (.string ((rd_T70 l0 x5_1).f2)))) ?hg ?ho ?hn ?hr ?_; (case ho => rfl); (case hg => rfl); (case hn => rfl); (case hr => first | (go_simp; done) | (go_simp; rfl)); intro w54 hw; have n0_ : Aside0 (Kd.R k120 120 w54 w.heap.size (fun k_ => k_ ≠ gb115) (.slice (some ad114) x4_1.length co10) x4_1) := ⟨(by rw [hw]; exact (by (with_reducible repeat (first | apply Kd.R_alloc | apply Kd.R_drewN | apply Kd.R_drew)); exact Kd.R_mono (Kd.R_far (p := ⟨gb115, 1, none⟩) (Kd.R_mono HO_4.out (fun k_ hk => (⟨hk, hk⟩ : _ ∧ k_ ≠ gb115))) (fun _ hk => hk.2) (.string ((rd_T70 l0 x5_1).f2))) (fun _ hk => hk.1)))⟩; have n1_ : Aside0 (w54.heap[gb105]? = some (.cells #[.int .i64 ((rd_T70 l0 x5_1).f0), .string ((rd_T70 l0 x5_1).f1), .string ((rd_T70 l0 x5_1).f2)] 70 (0, 0))) := ⟨(by rw [hw]; exact (by (with_reducible repeat (first | refine blk_drewN ?_ _ | refine blk_drew ?_ | refine blk_alloc ?_ _)); refine blk_far ?_ NB105_115.out _; (with_reducible repeat (first | refine blk_drewN ?_ _ | refine blk_drew ?_ | refine blk_alloc ?_ _)); exact BK105.out))⟩; have n2_ : Aside0 (w54.heap[gb115]? = some (.cells #[.string ((rd_T120 x4_1 t106).f0), .string ((rd_T70 l0 x5_1).f2), .bool ((rd_T120 x4_1 t106).f2)] 120 (0, 0))) := ⟨(by rw [hw]; exact (by (with_reducible repeat (first | refine blk_drewN ?_ _ | refine blk_drew ?_ | refine blk_alloc ?_ _)); refine blk_put (cs := #[.string ((rd_T120 x4_1 t106).f0), .string ((rd_T120 x4_1 t106).f1), .bool ((rd_T120 x4_1 t106).f2)]) ?_ 1 _ rfl; (with_reducible repeat (first | refine blk_drewN ?_ _ | refine blk_drew ?_ | refine blk_alloc ?_ _)); exact BK115.out))⟩; have n3_ : Aside0 (Below w.heap.size w w54) := ⟨(by rw [hw]; exact (pH_ HB.out))⟩; clear hw; clear HO_4; clear BK105; clear BK115; clear HB; have HO_4 := n0_; have BK105 := n1_; have BK115 := n2_; have HB := n3_; clear n0_ n1_ n2_ n3_; have hcz55_0 := cz_ BK115.out 0 _ rfl; have hcz55_1 := cz_ BK115.out 1 _ rfl; have hcz55_2 := cz_ BK115.out 2 _ rfl; have hfz55_0 := blk_frozen BK115.out 0; have hfz55_1 := blk_frozen BK115.out 1; have hfz55_2 := blk_frozen BK115.out 2; have p47 : 0 ≤ (t106 : Int) := of_decide_eq_true (by first | (with_reducible assumption) | assumption); have q47 : (t106 : Int) < ((x4_1.length : Int) : Int) := of_decide_eq_true (by first | (with_reducible assumption) | assumption); obtain ⟨go47, co47, eo47, gb47, gl47, cl47, HG47⟩ := Kd.R_form HO_4.out (by omega); (first | cases eo47 | (injection eo47 with ea_ en_ ec_; (first | subst ea_ | (injection ea_ with ea_; subst ea_)); subst ec_; clear en_)); have GB47 := Aside0.mk gb47; have GG47 := Aside0.mk HG47; clear gb47 gl47 HG47; (first | simp only [add_plain] at hx114_0 | skip); (first | simp only [add_plain] at hx114_1 | skip); (first | simp only [add_plain] at hx114_2 | skip); obtain ⟨ce47, hcl47, hM47, hcc47, hfr47⟩ := Kd.R_elem HO_4.out z120 (t106 : Int) p47 q47; obtain rfl := k120_openM hM47; have hx47_0 : w54.cell? ⟨go47, (t106 : Int).toNat * 3, none⟩ = some (.string ((rd_T120 x4_1 t106).f0)) := hcc47 0 _ rfl; have hx47_1 : w54.cell? ⟨go47, (t106 : Int).toNat * 3 + 1, none⟩ = some (.string ((rd_T120 x4_1 t106).f1)) := hcc47 1 _ rfl; have hx47_2 : w54.cell? ⟨go47, (t106 : Int).toNat * 3 + 2, none⟩ = some (.bool ((rd_T120 x4_1 t106).f2)) := hcc47 2 _ rfl; have hf47_0 : w54.frozen? ⟨go47, (t106 : Int).toNat * 3, none⟩ = false := hfr47 0; have hf47_1 : w54.frozen? ⟨go47, (t106 : Int).toNat * 3 + 1, none⟩ = false := hfr47 1; have hf47_2 : w54.frozen? ⟨go47, (t106 : Int).toNat * 3 + 2, none⟩ = false := hfr47 2; clear hcl47 hcc47 hfr47 hM47; replace p47 := eq_true p47; replace q47 := eq_true q47; have HX56 := Aside0.mk (show Kd.R k120 120 w54 w.heap.size (fun k_ => k_ ≠ gb115) (.slice (some ⟨go47, 0, none⟩) x4_1.length co10) x4_1 from (pR_ HO_4.out)); obtain ⟨ce56, hcl56, hM56, hcc56, hfr56⟩ := Kd.R_elem HX56.out z120 (t106 : Int) (of_decide_eq_true (by first | (with_reducible assumption) | assumption)) (by have h_ : (t106 : Int) < ((x4_1.length : Int) : Int) := of_decide_eq_true (by first | (with_reducible assumption) | assumption); first | exact h_ | (have e_ := (Kd.R_reads' HO_4.out).1; omega) | simpa using h_); obtain rfl := k120_openM hM56; have HP56 := Kd.R_seg HX56.out (t106 : Int) (of_decide_eq_true (by first | (with_reducible assumption) | assumption)) (by have h_ : (t106 : Int) < ((x4_1.length : Int) : Int) := of_decide_eq_true (by first | (with_reducible assumption) | assumption); first | exact h_ | (have e_ := (Kd.R_reads' HO_4.out).1; omega) | simpa using h_) (seg := [.string ((rd_T120 x4_1 t106).f0), .string ((rd_T70 l0 x5_1).f2), .bool ((rd_T120 x4_1 t106).f2)]) (j := 0) hcl56 hcc56 (show 3 ≤ 3 from by decide) (x' := (⟨(rd_T120 x4_1 t106).f0, ((rd_T70 l0 x5_1).f2), (rd_T120 x4_1 t106).f2⟩ : S120)) (k120_mkM _ _ _ (⟨(rd_T120 x4_1 t106).f0, ((rd_T70 l0 x5_1).f2), (rd_T120 x4_1 t106).f2⟩ : S120) ) (fun _ hk => hk); have hx56_0 := hcc56 0 _ rfl; (try simp only [show (k120).sz = 3 from rfl, Nat.mul_one, Nat.add_zero] at hx56_0); have hf56_0 := hfr56 0; (try simp only [show (k120).sz = 3 from rfl, Nat.mul_one, Nat.add_zero] at hf56_0); have hx56_1 := hcc56 1 _ rfl; (try simp only [show (k120).sz = 3 from rfl, Nat.mul_one, Nat.add_zero] at hx56_1); have hf56_1 := hfr56 1; (try simp only [show (k120).sz = 3 from rfl, Nat.mul_one, Nat.add_zero] at hf56_1); have hx56_2 := hcc56 2 _ rfl; (try simp only [show (k120).sz = 3 from rfl, Nat.mul_one, Nat.add_zero] at hx56_2); have hf56_2 := hfr56 2; (try simp only [show (k120).sz = 3 from rfl, Nat.mul_one, Nat.add_zero] at hf56_2); clear hcl56 hcc56 hfr56 hM56) | ((with_reducible refine gate_store (t := 120) (p := 96) rfl ?_); (try (rw [drewN_self w54]; generalize hq_ : World.drewN w54 _ = w54; have n0_ := Aside0.mk (Kd.R_at hq_ HO_4.out); have n1_ := Aside0.mk (blk_at hq_ BK105.out); have n2_ := Aside0.mk (blk_at hq_ BK115.out); have n3_ := Aside0.mk (below_at hq_ HB.out); clear hq_ HO_4 BK105 BK115 HB; have HO_4 := n0_; have BK105 := n1_; have BK115 := n2_; have HB := n3_; clear n0_ n1_ n2_ n3_; (try (have HX56 := Aside0.mk (show Kd.R k120 120 w54 w.heap.size (fun k_ => k_ ≠ gb115) (.slice (some ⟨go47, 0, none⟩) x4_1.length co10) x4_1 from (pR_ HO_4.out)))); (try (obtain ⟨ce56, hcl56, hM56, hcc56, hfr56⟩ := Kd.R_elem HX56.out z120 (t106 : Int) (of_decide_eq_true (by first | (with_reducible assumption) | assumption)) (by have h_ : (t106 : Int) < ((x4_1.length : Int) : Int) := of_decide_eq_true (by first | (with_reducible assumption) | assumption); first | exact h_ | (have e_ := (Kd.R_reads' HO_4.out).1; omega) | simpa using h_))); (try (obtain rfl := k120_openM hM56)); (try (have HP56 := Kd.R_seg HX56.out (t106 : Int) (of_decide_eq_true (by first | (with_reducible assumption) | assumption)) (by have h_ : (t106 : Int) < ((x4_1.length : Int) : Int) := of_decide_eq_true (by first | (with_reducible assumption) | assumption); first | exact h_ | (have e_ := (Kd.R_reads' HO_4.out).1; omega) | simpa using h_) (seg := [.string ((rd_T120 x4_1 t106).f0), .string ((rd_T70 l0 x5_1).f2), .bool ((rd_T120 x4_1 t106).f2)]) (j := 0) hcl56 hcc56 (show 3 ≤ 3 from by decide) (x' := (⟨(rd_T120 x4_1 t106).f0, ((rd_T70 l0 x5_1).f2), (rd_T120 x4_1 t106).f2⟩ : S120)) (k120_mkM _ _ _ (⟨(rd_T120 x4_1 t106).f0, ((rd_T70 l0 x5_1).f2), (rd_T120 x4_1 t106).f2⟩ : S120) ) (fun _ hk => hk))); (try (have hx56_0 := hcc56 0 _ rfl)); (try (try simp only [show (k120).sz = 3 from rfl, Nat.mul_one, Nat.add_zero] at hx56_0)); (try (have hf56_0 := hfr56 0)); (try (try simp only [show (k120).sz = 3 from rfl, Nat.mul_one, Nat.add_zero] at hf56_0)); (try (have hx56_1 := hcc56 1 _ rfl)); (try (try simp only [show (k120).sz = 3 from rfl, Nat.mul_one, Nat.add_zero] at hx56_1)); (try (have hf56_1 := hfr56 1)); (try (try simp only [show (k120).sz = 3 from rfl, Nat.mul_one, Nat.add_zero] at hf56_1)); (try (have hx56_2 := hcc56 2 _ rfl)); (try (try simp only [show (k120).sz = 3 from rfl, Nat.mul_one, Nat.add_zero] at hx56_2)); (try (have hf56_2 := hfr56 2)); (try (try simp only [show (k120).sz = 3 from rfl, Nat.mul_one, Nat.add_zero] at hf56_2)); (try (clear hcl56 hcc56 hfr56 hM56)))); refine store_event (t := 120) (p := 96) (v := ?vo_w57) (w1 := (((w54.setCell ⟨go47, (t106 : Int).toNat * 3, none⟩ (.string ((rd_T120 x4_1 t106).f0))).setCell ⟨go47, (t106 : Int).toNat * 3 + 1, none⟩ (.string ((rd_T70 l0 x5_1).f2))).setCell ⟨go47, (t106 : Int).toNat * 3 + 2, none⟩ (.bool ((rd_T120 x4_1 t106).f2)))) ?hg ?ho ?hn ?hr ?_; (case ho => rfl); (case hg => rfl); (case hn => rfl); (case hr => first | (go_simp; done) | (go_simp; rfl)); intro w57 hw; have hg : w54.grownBy w57 (some go47) := (by rw [hw]; exact HP56.2); have hp_ : Kd.R k120 120 w57 w.heap.size (fun k_ => k_ ≠ gb115) (.slice (some ⟨go47, 0, none⟩) x4_1.length co10) y116 := (by rw [hw, Ny116.out]; exact HP56.1); clear HP56; have n0_ := Aside0.mk (hp_); have n1_ := Aside0.mk (blk_grown (g := gb105) (o := .cells #[.int .i64 ((rd_T70 l0 x5_1).f0), .string ((rd_T70 l0 x5_1).f1), .string ((rd_T70 l0 x5_1).f2)] 70 (0, 0)) (pB_ BK105.out) hg (Kd.R_ne HO_4.out BK105.out (by decide))); have n2_ := Aside0.mk (blk_grown (g := gb115) (o := .cells #[.string ((rd_T120 x4_1 t106).f0), .string ((rd_T70 l0 x5_1).f2), .bool ((rd_T120 x4_1 t106).f2)] 120 (0, 0)) (pB_ BK115.out) hg (Kd.R_away HO_4.out (fun _ hk => hk))); have n3_ := Aside0.mk ((by rw [hw]; exact below_set (below_set (below_set (HB.out) GB47.out) GB47.out) GB47.out : Below w.heap.size w w57)); clear HO_4; clear BK105; clear BK115; clear HB; have HO_4 := n0_; have BK105 := n1_; have BK115 := n2_; have HB := n3_; clear n0_ n1_ n2_ n3_; clear hg hw hp_)))
            go_roundg kj26
            case measure => have := HK1.out; have := HJ6.out; have := HJ26.out; omega
            case rel => exact ⟨(y116), (wrap64 (x5_1 + 1)), (by first | rfl | (simp; done) | (simp [*]; done) | (simp [beq_nil_, bne_nil_]; done)), H', ⟨by have := HK1.out; have := HJ6.out; have := HJ26.out; omega⟩, ⟨by (with_reducible repeat (first | apply Kd.R_alloc | apply Kd.R_drewN | apply Kd.R_drew)); exact Kd.R_mono HO_4.out (fun _ hk => trivial)⟩, ⟨by repeat (first | (with_reducible first | exact HB.out | apply below_alloc | apply pw_below_drewN | apply below_drew1 | refine below_set ?_ GE105.out | refine below_set ?_ GE115.out) | exact HB.out)⟩⟩
           rw [if_neg c46] at H
           have c46b0 : (((rd_T70 l0 x5_1).f0) == 2) = false := beq_eq_false_iff_ne.mpr c46
           have c46b1 : (((rd_T70 l0 x5_1).f0) != 2) = true := bne_iff_ne.mpr c46
           obtain ⟨y117, hy117⟩ : ∃ y_ : List (S120), y_ = (x4_1.set (t106 : Int).toNat (⟨(rd_T120 x4_1 t106).f0, (rd_T120 x4_1 t106).f1, (((rd_T70 l0 x5_1).f0) == 3)⟩ : S120)) := ⟨_, rfl⟩
           replace H : (spec_l21Play.l0 kj26 l0 y117 (wrap64 (x5_1 + 1))) = some (r1, r2) := by first | (rw [hy117]; with_reducible exact H) | (have H2_ := (Option.bind_some _ _).symm.trans H; rw [hy117]; with_reducible exact H2_) | (have H2_ := (Option.bind_some _ _).symm.trans H; with_reducible exact H2_) | with_reducible exact H | (rw [hy117]; exact H) | exact H
           have Ny117 := Aside0.mk hy117
           clear hy117
           have H' := Aside0.mk H
           clear H
           have p114 : 0 ≤ (t106 : Int) := of_decide_eq_true (by first | (with_reducible assumption) | assumption)
           have q114 : t106 < (x4_1.length : Int) := of_decide_eq_true (by first | (with_reducible assumption) | assumption)
           obtain ⟨ad114, e114, hx114_0, hx114_1, hx114_2⟩ := at_T120 (Kd.R_reads' HO_4.out).2.2 t106 p114 q114
           cases e114
           replace p114 := eq_true p114
           replace q114 := eq_true q114
           go_wp2_with (first | ((with_reducible refine gate_dst (N := 8) rfl ?_); refine box_event ?hg (N := 8) ?hd (cs := #[.string (⟨#[]⟩ : ByteArray), .string (⟨#[]⟩ : ByteArray), .bool false]) (t := 120) ?hr ?_; (case hd => rfl); (case hg => rfl); (case hr => first | (go_simp; done) | (go_simp; rfl)); intro gb115 hg w59 hbox hb; have n0_ := Aside0.mk (Kd.R_below (Kd.R_elderB (pR_ HO_4.out) gb115 (Nat.le_of_eq hg.symm)) hb); have n1_ := Aside0.mk (blk_below (g := gb105) (o := .cells #[.int .i64 ((rd_T70 l0 x5_1).f0), .string ((rd_T70 l0 x5_1).f1), .string ((rd_T70 l0 x5_1).f2)] 70 (0, 0)) (pB_ BK105.out) hb); have n2_ := Aside0.mk (below_step (pH_ HB.out) hb); have n3_ := Aside0.mk (hbox); have n4_ := Aside0.mk ((by rw [hg]; exact (below_size (pH_ HB.out)) : w.heap.size ≤ gb115)); have n5_ := Aside0.mk ((by rw [hg]; exact (below_size (pH_ HB.out)) : w.heap.size ≤ gb115)); have n6_ := Aside0.mk ((by rw [hg]; exact Nat.ne_of_lt (blk_lt (g := gb105) (o := .cells #[.int .i64 ((rd_T70 l0 x5_1).f0), .string ((rd_T70 l0 x5_1).f1), .string ((rd_T70 l0 x5_1).f2)] 70 (0, 0)) (pB_ BK105.out)) : gb105 ≠ gb115)); have n7_ := Aside0.mk ((by rw [hg]; exact Nat.ne_of_gt (blk_lt (g := gb105) (o := .cells #[.int .i64 ((rd_T70 l0 x5_1).f0), .string ((rd_T70 l0 x5_1).f1), .string ((rd_T70 l0 x5_1).f2)] 70 (0, 0)) (pB_ BK105.out)) : gb115 ≠ gb105)); clear HO_4; clear BK105; clear HB; have HO_4 := n0_; have BK105 := n1_; have HB := n2_; have BK115 := n3_; have GW115 := n4_; have GE115 := n5_; have NB105_115 := n6_; have NB115_105 := n7_; clear n0_ n1_ n2_ n3_ n4_ n5_ n6_ n7_; clear hb hbox hg; have hnb60 := NB115_105.out; have hnc60 := NB105_115.out; have hcz61_0 := cz_ BK115.out 0 _ rfl; have hcz61_1 := cz_ BK115.out 1 _ rfl; have hcz61_2 := cz_ BK115.out 2 _ rfl; have hfz61_0 := blk_frozen BK115.out 0; have hfz61_1 := blk_frozen BK115.out 1; have hfz61_2 := blk_frozen BK115.out 2) | ((with_reducible refine gate_store (t := 120) (p := 8) rfl ?_); (try (rw [drewN_self w59]; generalize hq_ : World.drewN w59 _ = w59; have n0_ := Aside0.mk (Kd.R_at hq_ HO_4.out); have n1_ := Aside0.mk (blk_at hq_ BK105.out); have n2_ := Aside0.mk (blk_at hq_ BK115.out); have n3_ := Aside0.mk (below_at hq_ HB.out); clear hq_ HO_4 BK105 BK115 HB; have HO_4 := n0_; have BK105 := n1_; have BK115 := n2_; have HB := n3_; clear n0_ n1_ n2_ n3_)); refine store_event (t := 120) (p := 8) (v := ?vo_w62) (w1 := (((w59.setCell ⟨gb115, 0, none⟩ (.string ((rd_T120 x4_1 t106).f0))).setCell ⟨gb115, 1, none⟩ (.string ((rd_T120 x4_1 t106).f1))).setCell ⟨gb115, 2, none⟩ (.bool ((rd_T120 x4_1 t106).f2)))) ?hg ?ho ?hn ?hr ?_; (case ho => rfl); (case hg => rfl); (case hn => rfl); (case hr => first | (go_simp; done) | (go_simp; rfl)); intro w62 hw; have n0_ : Aside0 (Kd.R k120 120 w62 w.heap.size (fun k_ => k_ ≠ gb115) (.slice (some ad114) x4_1.length co10) x4_1) := ⟨(by rw [hw]; exact (by (with_reducible repeat (first | apply Kd.R_alloc | apply Kd.R_drewN | apply Kd.R_drew)); exact Kd.R_mono (Kd.R_far (p := ⟨gb115, 2, none⟩) (Kd.R_far (p := ⟨gb115, 1, none⟩) (Kd.R_far (p := ⟨gb115, 0, none⟩) (Kd.R_mono HO_4.out (fun k_ hk => (⟨hk, hk.2⟩ : _ ∧ k_ ≠ gb115))) (fun _ hk => hk.2) (.string ((rd_T120 x4_1 t106).f0))) (fun _ hk => hk.2) (.string ((rd_T120 x4_1 t106).f1))) (fun _ hk => hk.2) (.bool ((rd_T120 x4_1 t106).f2))) (fun _ hk => hk.1.2)))⟩; have n1_ : Aside0 (w62.heap[gb105]? = some (.cells #[.int .i64 ((rd_T70 l0 x5_1).f0), .string ((rd_T70 l0 x5_1).f1), .string ((rd_T70 l0 x5_1).f2)] 70 (0, 0))) := ⟨(by rw [hw]; exact (by (with_reducible repeat (first | refine blk_drewN ?_ _ | refine blk_drew ?_ | refine blk_alloc ?_ _)); refine blk_far ?_ NB105_115.out _; (with_reducible repeat (first | refine blk_drewN ?_ _ | refine blk_drew ?_ | refine blk_alloc ?_ _)); refine blk_far ?_ NB105_115.out _; (with_reducible repeat (first | refine blk_drewN ?_ _ | refine blk_drew ?_ | refine blk_alloc ?_ _)); refine blk_far ?_ NB105_115.out _; (with_reducible repeat (first | refine blk_drewN ?_ _ | refine blk_drew ?_ | refine blk_alloc ?_ _)); exact BK105.out))⟩; have n2_ : Aside0 (w62.heap[gb115]? = some (.cells #[.string ((rd_T120 x4_1 t106).f0), .string ((rd_T120 x4_1 t106).f1), .bool ((rd_T120 x4_1 t106).f2)] 120 (0, 0))) := ⟨(by rw [hw]; exact (by (with_reducible repeat (first | refine blk_drewN ?_ _ | refine blk_drew ?_ | refine blk_alloc ?_ _)); refine blk_put (cs := #[.string ((rd_T120 x4_1 t106).f0), .string ((rd_T120 x4_1 t106).f1), .bool false]) ?_ 2 _ rfl; (with_reducible repeat (first | refine blk_drewN ?_ _ | refine blk_drew ?_ | refine blk_alloc ?_ _)); refine blk_put (cs := #[.string ((rd_T120 x4_1 t106).f0), .string (⟨#[]⟩ : ByteArray), .bool false]) ?_ 1 _ rfl; (with_reducible repeat (first | refine blk_drewN ?_ _ | refine blk_drew ?_ | refine blk_alloc ?_ _)); refine blk_put (cs := #[.string (⟨#[]⟩ : ByteArray), .string (⟨#[]⟩ : ByteArray), .bool false]) ?_ 0 _ rfl; (with_reducible repeat (first | refine blk_drewN ?_ _ | refine blk_drew ?_ | refine blk_alloc ?_ _)); exact BK115.out))⟩; have n3_ : Aside0 (Below w.heap.size w w62) := ⟨(by rw [hw]; exact (pH_ HB.out))⟩; clear hw; clear HO_4; clear BK105; clear BK115; clear HB; have HO_4 := n0_; have BK105 := n1_; have BK115 := n2_; have HB := n3_; clear n0_ n1_ n2_ n3_; have hcz63_0 := cz_ BK105.out 0 _ rfl; have hcz63_1 := cz_ BK105.out 1 _ rfl; have hcz63_2 := cz_ BK105.out 2 _ rfl; have hfz63_0 := blk_frozen BK105.out 0; have hfz63_1 := blk_frozen BK105.out 1; have hfz63_2 := blk_frozen BK105.out 2; have hcz64_0 := cz_ BK115.out 0 _ rfl; have hcz64_1 := cz_ BK115.out 1 _ rfl; have hcz64_2 := cz_ BK115.out 2 _ rfl; have hfz64_0 := blk_frozen BK115.out 0; have hfz64_1 := blk_frozen BK115.out 1; have hfz64_2 := blk_frozen BK115.out 2) | ((with_reducible refine gate_store (t := 4) (p := 92) rfl ?_); (try (rw [drewN_self w62]; generalize hq_ : World.drewN w62 _ = w62; have n0_ := Aside0.mk (Kd.R_at hq_ HO_4.out); have n1_ := Aside0.mk (blk_at hq_ BK105.out); have n2_ := Aside0.mk (blk_at hq_ BK115.out); have n3_ := Aside0.mk (below_at hq_ HB.out); clear hq_ HO_4 BK105 BK115 HB; have HO_4 := n0_; have BK105 := n1_; have BK115 := n2_; have HB := n3_; clear n0_ n1_ n2_ n3_)); refine store_event (t := 4) (p := 92) (v := ?vo_w65) (w1 := (w62.setCell ⟨gb115, 2, none⟩ (.bool (((rd_T70 l0 x5_1).f0) == 3)))) ?hg ?ho ?hn ?hr ?_; (case ho => rfl); (case hg => rfl); (case hn => rfl); (case hr => first | (go_simp; done) | (go_simp; rfl)); intro w65 hw; have n0_ : Aside0 (Kd.R k120 120 w65 w.heap.size (fun k_ => k_ ≠ gb115) (.slice (some ad114) x4_1.length co10) x4_1) := ⟨(by rw [hw]; exact (by (with_reducible repeat (first | apply Kd.R_alloc | apply Kd.R_drewN | apply Kd.R_drew)); exact Kd.R_mono (Kd.R_far (p := ⟨gb115, 2, none⟩) (Kd.R_mono HO_4.out (fun k_ hk => (⟨hk, hk⟩ : _ ∧ k_ ≠ gb115))) (fun _ hk => hk.2) (.bool (((rd_T70 l0 x5_1).f0) == 3))) (fun _ hk => hk.1)))⟩; have n1_ : Aside0 (w65.heap[gb105]? = some (.cells #[.int .i64 ((rd_T70 l0 x5_1).f0), .string ((rd_T70 l0 x5_1).f1), .string ((rd_T70 l0 x5_1).f2)] 70 (0, 0))) := ⟨(by rw [hw]; exact (by (with_reducible repeat (first | refine blk_drewN ?_ _ | refine blk_drew ?_ | refine blk_alloc ?_ _)); refine blk_far ?_ NB105_115.out _; (with_reducible repeat (first | refine blk_drewN ?_ _ | refine blk_drew ?_ | refine blk_alloc ?_ _)); exact BK105.out))⟩; have n2_ : Aside0 (w65.heap[gb115]? = some (.cells #[.string ((rd_T120 x4_1 t106).f0), .string ((rd_T120 x4_1 t106).f1), .bool (((rd_T70 l0 x5_1).f0) == 3)] 120 (0, 0))) := ⟨(by rw [hw]; exact (by (with_reducible repeat (first | refine blk_drewN ?_ _ | refine blk_drew ?_ | refine blk_alloc ?_ _)); refine blk_put (cs := #[.string ((rd_T120 x4_1 t106).f0), .string ((rd_T120 x4_1 t106).f1), .bool ((rd_T120 x4_1 t106).f2)]) ?_ 2 _ rfl; (with_reducible repeat (first | refine blk_drewN ?_ _ | refine blk_drew ?_ | refine blk_alloc ?_ _)); exact BK115.out))⟩; have n3_ : Aside0 (Below w.heap.size w w65) := ⟨(by rw [hw]; exact (pH_ HB.out))⟩; clear hw; clear HO_4; clear BK105; clear BK115; clear HB; have HO_4 := n0_; have BK105 := n1_; have BK115 := n2_; have HB := n3_; clear n0_ n1_ n2_ n3_; have hcz66_0 := cz_ BK115.out 0 _ rfl; have hcz66_1 := cz_ BK115.out 1 _ rfl; have hcz66_2 := cz_ BK115.out 2 _ rfl; have hfz66_0 := blk_frozen BK115.out 0; have hfz66_1 := blk_frozen BK115.out 1; have hfz66_2 := blk_frozen BK115.out 2; have p58 : 0 ≤ (t106 : Int) := of_decide_eq_true (by first | (with_reducible assumption) | assumption); have q58 : (t106 : Int) < ((x4_1.length : Int) : Int) := of_decide_eq_true (by first | (with_reducible assumption) | assumption); obtain ⟨go58, co58, eo58, gb58, gl58, cl58, HG58⟩ := Kd.R_form HO_4.out (by omega); (first | cases eo58 | (injection eo58 with ea_ en_ ec_; (first | subst ea_ | (injection ea_ with ea_; subst ea_)); subst ec_; clear en_)); have GB58 := Aside0.mk gb58; have GG58 := Aside0.mk HG58; clear gb58 gl58 HG58; (first | simp only [add_plain] at hx114_0 | skip); (first | simp only [add_plain] at hx114_1 | skip); (first | simp only [add_plain] at hx114_2 | skip); obtain ⟨ce58, hcl58, hM58, hcc58, hfr58⟩ := Kd.R_elem HO_4.out z120 (t106 : Int) p58 q58; obtain rfl := k120_openM hM58; have hx58_0 : w65.cell? ⟨go58, (t106 : Int).toNat * 3, none⟩ = some (.string ((rd_T120 x4_1 t106).f0)) := hcc58 0 _ rfl; have hx58_1 : w65.cell? ⟨go58, (t106 : Int).toNat * 3 + 1, none⟩ = some (.string ((rd_T120 x4_1 t106).f1)) := hcc58 1 _ rfl; have hx58_2 : w65.cell? ⟨go58, (t106 : Int).toNat * 3 + 2, none⟩ = some (.bool ((rd_T120 x4_1 t106).f2)) := hcc58 2 _ rfl; have hf58_0 : w65.frozen? ⟨go58, (t106 : Int).toNat * 3, none⟩ = false := hfr58 0; have hf58_1 : w65.frozen? ⟨go58, (t106 : Int).toNat * 3 + 1, none⟩ = false := hfr58 1; have hf58_2 : w65.frozen? ⟨go58, (t106 : Int).toNat * 3 + 2, none⟩ = false := hfr58 2; clear hcl58 hcc58 hfr58 hM58; replace p58 := eq_true p58; replace q58 := eq_true q58; have HX67 := Aside0.mk (show Kd.R k120 120 w65 w.heap.size (fun k_ => k_ ≠ gb115) (.slice (some ⟨go58, 0, none⟩) x4_1.length co10) x4_1 from (pR_ HO_4.out)); obtain ⟨ce67, hcl67, hM67, hcc67, hfr67⟩ := Kd.R_elem HX67.out z120 (t106 : Int) (of_decide_eq_true (by first | (with_reducible assumption) | assumption)) (by have h_ : (t106 : Int) < ((x4_1.length : Int) : Int) := of_decide_eq_true (by first | (with_reducible assumption) | assumption); first | exact h_ | (have e_ := (Kd.R_reads' HO_4.out).1; omega) | simpa using h_); obtain rfl := k120_openM hM67; have HP67 := Kd.R_seg HX67.out (t106 : Int) (of_decide_eq_true (by first | (with_reducible assumption) | assumption)) (by have h_ : (t106 : Int) < ((x4_1.length : Int) : Int) := of_decide_eq_true (by first | (with_reducible assumption) | assumption); first | exact h_ | (have e_ := (Kd.R_reads' HO_4.out).1; omega) | simpa using h_) (seg := [.string ((rd_T120 x4_1 t106).f0), .string ((rd_T120 x4_1 t106).f1), .bool (((rd_T70 l0 x5_1).f0) == 3)]) (j := 0) hcl67 hcc67 (show 3 ≤ 3 from by decide) (x' := (⟨(rd_T120 x4_1 t106).f0, (rd_T120 x4_1 t106).f1, (((rd_T70 l0 x5_1).f0) == 3)⟩ : S120)) (k120_mkM _ _ _ (⟨(rd_T120 x4_1 t106).f0, (rd_T120 x4_1 t106).f1, (((rd_T70 l0 x5_1).f0) == 3)⟩ : S120) ) (fun _ hk => hk); have hx67_0 := hcc67 0 _ rfl; (try simp only [show (k120).sz = 3 from rfl, Nat.mul_one, Nat.add_zero] at hx67_0); have hf67_0 := hfr67 0; (try simp only [show (k120).sz = 3 from rfl, Nat.mul_one, Nat.add_zero] at hf67_0); have hx67_1 := hcc67 1 _ rfl; (try simp only [show (k120).sz = 3 from rfl, Nat.mul_one, Nat.add_zero] at hx67_1); have hf67_1 := hfr67 1; (try simp only [show (k120).sz = 3 from rfl, Nat.mul_one, Nat.add_zero] at hf67_1); have hx67_2 := hcc67 2 _ rfl; (try simp only [show (k120).sz = 3 from rfl, Nat.mul_one, Nat.add_zero] at hx67_2); have hf67_2 := hfr67 2; (try simp only [show (k120).sz = 3 from rfl, Nat.mul_one, Nat.add_zero] at hf67_2); clear hcl67 hcc67 hfr67 hM67) | ((with_reducible refine gate_store (t := 120) (p := 96) rfl ?_); (try (rw [drewN_self w65]; generalize hq_ : World.drewN w65 _ = w65; have n0_ := Aside0.mk (Kd.R_at hq_ HO_4.out); have n1_ := Aside0.mk (blk_at hq_ BK105.out); have n2_ := Aside0.mk (blk_at hq_ BK115.out); have n3_ := Aside0.mk (below_at hq_ HB.out); clear hq_ HO_4 BK105 BK115 HB; have HO_4 := n0_; have BK105 := n1_; have BK115 := n2_; have HB := n3_; clear n0_ n1_ n2_ n3_; (try (have HX67 := Aside0.mk (show Kd.R k120 120 w65 w.heap.size (fun k_ => k_ ≠ gb115) (.slice (some ⟨go58, 0, none⟩) x4_1.length co10) x4_1 from (pR_ HO_4.out)))); (try (obtain ⟨ce67, hcl67, hM67, hcc67, hfr67⟩ := Kd.R_elem HX67.out z120 (t106 : Int) (of_decide_eq_true (by first | (with_reducible assumption) | assumption)) (by have h_ : (t106 : Int) < ((x4_1.length : Int) : Int) := of_decide_eq_true (by first | (with_reducible assumption) | assumption); first | exact h_ | (have e_ := (Kd.R_reads' HO_4.out).1; omega) | simpa using h_))); (try (obtain rfl := k120_openM hM67)); (try (have HP67 := Kd.R_seg HX67.out (t106 : Int) (of_decide_eq_true (by first | (with_reducible assumption) | assumption)) (by have h_ : (t106 : Int) < ((x4_1.length : Int) : Int) := of_decide_eq_true (by first | (with_reducible assumption) | assumption); first | exact h_ | (have e_ := (Kd.R_reads' HO_4.out).1; omega) | simpa using h_) (seg := [.string ((rd_T120 x4_1 t106).f0), .string ((rd_T120 x4_1 t106).f1), .bool (((rd_T70 l0 x5_1).f0) == 3)]) (j := 0) hcl67 hcc67 (show 3 ≤ 3 from by decide) (x' := (⟨(rd_T120 x4_1 t106).f0, (rd_T120 x4_1 t106).f1, (((rd_T70 l0 x5_1).f0) == 3)⟩ : S120)) (k120_mkM _ _ _ (⟨(rd_T120 x4_1 t106).f0, (rd_T120 x4_1 t106).f1, (((rd_T70 l0 x5_1).f0) == 3)⟩ : S120) ) (fun _ hk => hk))); (try (have hx67_0 := hcc67 0 _ rfl)); (try (try simp only [show (k120).sz = 3 from rfl, Nat.mul_one, Nat.add_zero] at hx67_0)); (try (have hf67_0 := hfr67 0)); (try (try simp only [show (k120).sz = 3 from rfl, Nat.mul_one, Nat.add_zero] at hf67_0)); (try (have hx67_1 := hcc67 1 _ rfl)); (try (try simp only [show (k120).sz = 3 from rfl, Nat.mul_one, Nat.add_zero] at hx67_1)); (try (have hf67_1 := hfr67 1)); (try (try simp only [show (k120).sz = 3 from rfl, Nat.mul_one, Nat.add_zero] at hf67_1)); (try (have hx67_2 := hcc67 2 _ rfl)); (try (try simp only [show (k120).sz = 3 from rfl, Nat.mul_one, Nat.add_zero] at hx67_2)); (try (have hf67_2 := hfr67 2)); (try (try simp only [show (k120).sz = 3 from rfl, Nat.mul_one, Nat.add_zero] at hf67_2)); (try (clear hcl67 hcc67 hfr67 hM67)))); refine store_event (t := 120) (p := 96) (v := ?vo_w68) (w1 := (((w65.setCell ⟨go58, (t106 : Int).toNat * 3, none⟩ (.string ((rd_T120 x4_1 t106).f0))).setCell ⟨go58, (t106 : Int).toNat * 3 + 1, none⟩ (.string ((rd_T120 x4_1 t106).f1))).setCell ⟨go58, (t106 : Int).toNat * 3 + 2, none⟩ (.bool (((rd_T70 l0 x5_1).f0) == 3)))) ?hg ?ho ?hn ?hr ?_; (case ho => rfl); (case hg => rfl); (case hn => rfl); (case hr => first | (go_simp; done) | (go_simp; rfl)); intro w68 hw; have hg : w65.grownBy w68 (some go58) := (by rw [hw]; exact HP67.2); have hp_ : Kd.R k120 120 w68 w.heap.size (fun k_ => k_ ≠ gb115) (.slice (some ⟨go58, 0, none⟩) x4_1.length co10) y117 := (by rw [hw, Ny117.out]; exact HP67.1); clear HP67; have n0_ := Aside0.mk (hp_); have n1_ := Aside0.mk (blk_grown (g := gb105) (o := .cells #[.int .i64 ((rd_T70 l0 x5_1).f0), .string ((rd_T70 l0 x5_1).f1), .string ((rd_T70 l0 x5_1).f2)] 70 (0, 0)) (pB_ BK105.out) hg (Kd.R_ne HO_4.out BK105.out (by decide))); have n2_ := Aside0.mk (blk_grown (g := gb115) (o := .cells #[.string ((rd_T120 x4_1 t106).f0), .string ((rd_T120 x4_1 t106).f1), .bool (((rd_T70 l0 x5_1).f0) == 3)] 120 (0, 0)) (pB_ BK115.out) hg (Kd.R_away HO_4.out (fun _ hk => hk))); have n3_ := Aside0.mk ((by rw [hw]; exact below_set (below_set (below_set (HB.out) GB58.out) GB58.out) GB58.out : Below w.heap.size w w68)); clear HO_4; clear BK105; clear BK115; clear HB; have HO_4 := n0_; have BK105 := n1_; have BK115 := n2_; have HB := n3_; clear n0_ n1_ n2_ n3_; clear hg hw hp_))
           repeat (go_quiet (first | ((with_reducible refine gate_dst (N := 8) rfl ?_); refine box_event ?hg (N := 8) ?hd (cs := #[.string (⟨#[]⟩ : ByteArray), .string (⟨#[]⟩ : ByteArray), .bool false]) (t := 120) ?hr ?_; (case hd => rfl); (case hg => rfl); (case hr => first | (go_simp; done) | (go_simp; rfl)); intro gb115 hg w59 hbox hb; have n0_ := Aside0.mk (Kd.R_below (Kd.R_elderB (pR_ HO_4.out) gb115 (Nat.le_of_eq hg.symm)) hb); have n1_ := Aside0.mk (blk_below (g := gb105) (o := .cells #[.int .i64 ((rd_T70 l0 x5_1).f0), .string ((rd_T70 l0 x5_1).f1), .string ((rd_T70 l0 x5_1).f2)] 70 (0, 0)) (pB_ BK105.out) hb); have n2_ := Aside0.mk (below_step (pH_ HB.out) hb); have n3_ := Aside0.mk (hbox); have n4_ := Aside0.mk ((by rw [hg]; exact (below_size (pH_ HB.out)) : w.heap.size ≤ gb115)); have n5_ := Aside0.mk ((by rw [hg]; exact (below_size (pH_ HB.out)) : w.heap.size ≤ gb115)); have n6_ := Aside0.mk ((by rw [hg]; exact Nat.ne_of_lt (blk_lt (g := gb105) (o := .cells #[.int .i64 ((rd_T70 l0 x5_1).f0), .string ((rd_T70 l0 x5_1).f1), .string ((rd_T70 l0 x5_1).f2)] 70 (0, 0)) (pB_ BK105.out)) : gb105 ≠ gb115)); have n7_ := Aside0.mk ((by rw [hg]; exact Nat.ne_of_gt (blk_lt (g := gb105) (o := .cells #[.int .i64 ((rd_T70 l0 x5_1).f0), .string ((rd_T70 l0 x5_1).f1), .string ((rd_T70 l0 x5_1).f2)] 70 (0, 0)) (pB_ BK105.out)) : gb115 ≠ gb105)); clear HO_4; clear BK105; clear HB; have HO_4 := n0_; have BK105 := n1_; have HB := n2_; have BK115 := n3_; have GW115 := n4_; have GE115 := n5_; have NB105_115 := n6_; have NB115_105 := n7_; clear n0_ n1_ n2_ n3_ n4_ n5_ n6_ n7_; clear hb hbox hg; have hnb60 := NB115_105.out; have hnc60 := NB105_115.out; have hcz61_0 := cz_ BK115.out 0 _ rfl; have hcz61_1 := cz_ BK115.out 1 _ rfl; have hcz61_2 := cz_ BK115.out 2 _ rfl; have hfz61_0 := blk_frozen BK115.out 0; have hfz61_1 := blk_frozen BK115.out 1; have hfz61_2 := blk_frozen BK115.out 2) | ((with_reducible refine gate_store (t := 120) (p := 8) rfl ?_); (try (rw [drewN_self w59]; generalize hq_ : World.drewN w59 _ = w59; have n0_ := Aside0.mk (Kd.R_at hq_ HO_4.out); have n1_ := Aside0.mk (blk_at hq_ BK105.out); have n2_ := Aside0.mk (blk_at hq_ BK115.out); have n3_ := Aside0.mk (below_at hq_ HB.out); clear hq_ HO_4 BK105 BK115 HB; have HO_4 := n0_; have BK105 := n1_; have BK115 := n2_; have HB := n3_; clear n0_ n1_ n2_ n3_)); refine store_event (t := 120) (p := 8) (v := ?vo_w62) (w1 := (((w59.setCell ⟨gb115, 0, none⟩ (.string ((rd_T120 x4_1 t106).f0))).setCell ⟨gb115, 1, none⟩ (.string ((rd_T120 x4_1 t106).f1))).setCell ⟨gb115, 2, none⟩ (.bool ((rd_T120 x4_1 t106).f2)))) ?hg ?ho ?hn ?hr ?_; (case ho => rfl); (case hg => rfl); (case hn => rfl); (case hr => first | (go_simp; done) | (go_simp; rfl)); intro w62 hw; have n0_ : Aside0 (Kd.R k120 120 w62 w.heap.size (fun k_ => k_ ≠ gb115) (.slice (some ad114) x4_1.length co10) x4_1) := ⟨(by rw [hw]; exact (by (with_reducible repeat (first | apply Kd.R_alloc | apply Kd.R_drewN | apply Kd.R_drew)); exact Kd.R_mono (Kd.R_far (p := ⟨gb115, 2, none⟩) (Kd.R_far (p := ⟨gb115, 1, none⟩) (Kd.R_far (p := ⟨gb115, 0, none⟩) (Kd.R_mono HO_4.out (fun k_ hk => (⟨hk, hk.2⟩ : _ ∧ k_ ≠ gb115))) (fun _ hk => hk.2) (.string ((rd_T120 x4_1 t106).f0))) (fun _ hk => hk.2) (.string ((rd_T120 x4_1 t106).f1))) (fun _ hk => hk.2) (.bool ((rd_T120 x4_1 t106).f2))) (fun _ hk => hk.1.2)))⟩; have n1_ : Aside0 (w62.heap[gb105]? = some (.cells #[.int .i64 ((rd_T70 l0 x5_1).f0), .string ((rd_T70 l0 x5_1).f1), .string ((rd_T70 l0 x5_1).f2)] 70 (0, 0))) := ⟨(by rw [hw]; exact (by (with_reducible repeat (first | refine blk_drewN ?_ _ | refine blk_drew ?_ | refine blk_alloc ?_ _)); refine blk_far ?_ NB105_115.out _; (with_reducible repeat (first | refine blk_drewN ?_ _ | refine blk_drew ?_ | refine blk_alloc ?_ _)); refine blk_far ?_ NB105_115.out _; (with_reducible repeat (first | refine blk_drewN ?_ _ | refine blk_drew ?_ | refine blk_alloc ?_ _)); refine blk_far ?_ NB105_115.out _; (with_reducible repeat (first | refine blk_drewN ?_ _ | refine blk_drew ?_ | refine blk_alloc ?_ _)); exact BK105.out))⟩; have n2_ : Aside0 (w62.heap[gb115]? = some (.cells #[.string ((rd_T120 x4_1 t106).f0), .string ((rd_T120 x4_1 t106).f1), .bool ((rd_T120 x4_1 t106).f2)] 120 (0, 0))) := ⟨(by rw [hw]; exact (by (with_reducible repeat (first | refine blk_drewN ?_ _ | refine blk_drew ?_ | refine blk_alloc ?_ _)); refine blk_put (cs := #[.string ((rd_T120 x4_1 t106).f0), .string ((rd_T120 x4_1 t106).f1), .bool false]) ?_ 2 _ rfl; (with_reducible repeat (first | refine blk_drewN ?_ _ | refine blk_drew ?_ | refine blk_alloc ?_ _)); refine blk_put (cs := #[.string ((rd_T120 x4_1 t106).f0), .string (⟨#[]⟩ : ByteArray), .bool false]) ?_ 1 _ rfl; (with_reducible repeat (first | refine blk_drewN ?_ _ | refine blk_drew ?_ | refine blk_alloc ?_ _)); refine blk_put (cs := #[.string (⟨#[]⟩ : ByteArray), .string (⟨#[]⟩ : ByteArray), .bool false]) ?_ 0 _ rfl; (with_reducible repeat (first | refine blk_drewN ?_ _ | refine blk_drew ?_ | refine blk_alloc ?_ _)); exact BK115.out))⟩; have n3_ : Aside0 (Below w.heap.size w w62) := ⟨(by rw [hw]; exact (pH_ HB.out))⟩; clear hw; clear HO_4; clear BK105; clear BK115; clear HB; have HO_4 := n0_; have BK105 := n1_; have BK115 := n2_; have HB := n3_; clear n0_ n1_ n2_ n3_; have hcz63_0 := cz_ BK105.out 0 _ rfl; have hcz63_1 := cz_ BK105.out 1 _ rfl; have hcz63_2 := cz_ BK105.out 2 _ rfl; have hfz63_0 := blk_frozen BK105.out 0; have hfz63_1 := blk_frozen BK105.out 1; have hfz63_2 := blk_frozen BK105.out 2; have hcz64_0 := cz_ BK115.out 0 _ rfl; have hcz64_1 := cz_ BK115.out 1 _ rfl; have hcz64_2 := cz_ BK115.out 2 _ rfl; have hfz64_0 := blk_frozen BK115.out 0; have hfz64_1 := blk_frozen BK115.out 1; have hfz64_2 := blk_frozen BK115.out 2) | ((with_reducible refine gate_store (t := 4) (p := 92) rfl ?_); (try (rw [drewN_self w62]; generalize hq_ : World.drewN w62 _ = w62; have n0_ := Aside0.mk (Kd.R_at hq_ HO_4.out); have n1_ := Aside0.mk (blk_at hq_ BK105.out); have n2_ := Aside0.mk (blk_at hq_ BK115.out); have n3_ := Aside0.mk (below_at hq_ HB.out); clear hq_ HO_4 BK105 BK115 HB; have HO_4 := n0_; have BK105 := n1_; have BK115 := n2_; have HB := n3_; clear n0_ n1_ n2_ n3_)); refine store_event (t := 4) (p := 92) (v := ?vo_w65) (w1 := (w62.setCell ⟨gb115, 2, none⟩ (.bool (((rd_T70 l0 x5_1).f0) == 3)))) ?hg ?ho ?hn ?hr ?_; (case ho => rfl); (case hg => rfl); (case hn => rfl); (case hr => first | (go_simp; done) | (go_simp; rfl)); intro w65 hw; have n0_ : Aside0 (Kd.R k120 120 w65 w.heap.size (fun k_ => k_ ≠ gb115) (.slice (some ad114) x4_1.length co10) x4_1) := ⟨(by rw [hw]; exact (by (with_reducible repeat (first | apply Kd.R_alloc | apply Kd.R_drewN | apply Kd.R_drew)); exact Kd.R_mono (Kd.R_far (p := ⟨gb115, 2, none⟩) (Kd.R_mono HO_4.out (fun k_ hk => (⟨hk, hk⟩ : _ ∧ k_ ≠ gb115))) (fun _ hk => hk.2) (.bool (((rd_T70 l0 x5_1).f0) == 3))) (fun _ hk => hk.1)))⟩; have n1_ : Aside0 (w65.heap[gb105]? = some (.cells #[.int .i64 ((rd_T70 l0 x5_1).f0), .string ((rd_T70 l0 x5_1).f1), .string ((rd_T70 l0 x5_1).f2)] 70 (0, 0))) := ⟨(by rw [hw]; exact (by (with_reducible repeat (first | refine blk_drewN ?_ _ | refine blk_drew ?_ | refine blk_alloc ?_ _)); refine blk_far ?_ NB105_115.out _; (with_reducible repeat (first | refine blk_drewN ?_ _ | refine blk_drew ?_ | refine blk_alloc ?_ _)); exact BK105.out))⟩; have n2_ : Aside0 (w65.heap[gb115]? = some (.cells #[.string ((rd_T120 x4_1 t106).f0), .string ((rd_T120 x4_1 t106).f1), .bool (((rd_T70 l0 x5_1).f0) == 3)] 120 (0, 0))) := ⟨(by rw [hw]; exact (by (with_reducible repeat (first | refine blk_drewN ?_ _ | refine blk_drew ?_ | refine blk_alloc ?_ _)); refine blk_put (cs := #[.string ((rd_T120 x4_1 t106).f0), .string ((rd_T120 x4_1 t106).f1), .bool ((rd_T120 x4_1 t106).f2)]) ?_ 2 _ rfl; (with_reducible repeat (first | refine blk_drewN ?_ _ | refine blk_drew ?_ | refine blk_alloc ?_ _)); exact BK115.out))⟩; have n3_ : Aside0 (Below w.heap.size w w65) := ⟨(by rw [hw]; exact (pH_ HB.out))⟩; clear hw; clear HO_4; clear BK105; clear BK115; clear HB; have HO_4 := n0_; have BK105 := n1_; have BK115 := n2_; have HB := n3_; clear n0_ n1_ n2_ n3_; have hcz66_0 := cz_ BK115.out 0 _ rfl; have hcz66_1 := cz_ BK115.out 1 _ rfl; have hcz66_2 := cz_ BK115.out 2 _ rfl; have hfz66_0 := blk_frozen BK115.out 0; have hfz66_1 := blk_frozen BK115.out 1; have hfz66_2 := blk_frozen BK115.out 2; have p58 : 0 ≤ (t106 : Int) := of_decide_eq_true (by first | (with_reducible assumption) | assumption); have q58 : (t106 : Int) < ((x4_1.length : Int) : Int) := of_decide_eq_true (by first | (with_reducible assumption) | assumption); obtain ⟨go58, co58, eo58, gb58, gl58, cl58, HG58⟩ := Kd.R_form HO_4.out (by omega); (first | cases eo58 | (injection eo58 with ea_ en_ ec_; (first | subst ea_ | (injection ea_ with ea_; subst ea_)); subst ec_; clear en_)); have GB58 := Aside0.mk gb58; have GG58 := Aside0.mk HG58; clear gb58 gl58 HG58; (first | simp only [add_plain] at hx114_0 | skip); (first | simp only [add_plain] at hx114_1 | skip); (first | simp only [add_plain] at hx114_2 | skip); obtain ⟨ce58, hcl58, hM58, hcc58, hfr58⟩ := Kd.R_elem HO_4.out z120 (t106 : Int) p58 q58; obtain rfl := k120_openM hM58; have hx58_0 : w65.cell? ⟨go58, (t106 : Int).toNat * 3, none⟩ = some (.string ((rd_T120 x4_1 t106).f0)) := hcc58 0 _ rfl; have hx58_1 : w65.cell? ⟨go58, (t106 : Int).toNat * 3 + 1, none⟩ = some (.string ((rd_T120 x4_1 t106).f1)) := hcc58 1 _ rfl; have hx58_2 : w65.cell? ⟨go58, (t106 : Int).toNat * 3 + 2, none⟩ = some (.bool ((rd_T120 x4_1 t106).f2)) := hcc58 2 _ rfl; have hf58_0 : w65.frozen? ⟨go58, (t106 : Int).toNat * 3, none⟩ = false := hfr58 0; have hf58_1 : w65.frozen? ⟨go58, (t106 : Int).toNat * 3 + 1, none⟩ = false := hfr58 1; have hf58_2 : w65.frozen? ⟨go58, (t106 : Int).toNat * 3 + 2, none⟩ = false := hfr58 2; clear hcl58 hcc58 hfr58 hM58; replace p58 := eq_true p58; replace q58 := eq_true q58; have HX67 := Aside0.mk (show Kd.R k120 120 w65 w.heap.size (fun k_ => k_ ≠ gb115) (.slice (some ⟨go58, 0, none⟩) x4_1.length co10) x4_1 from (pR_ HO_4.out)); obtain ⟨ce67, hcl67, hM67, hcc67, hfr67⟩ := Kd.R_elem HX67.out z120 (t106 : Int) (of_decide_eq_true (by first | (with_reducible assumption) | assumption)) (by have h_ : (t106 : Int) < ((x4_1.length : Int) : Int) := of_decide_eq_true (by first | (with_reducible assumption) | assumption); first | exact h_ | (have e_ := (Kd.R_reads' HO_4.out).1; omega) | simpa using h_); obtain rfl := k120_openM hM67; have HP67 := Kd.R_seg HX67.out (t106 : Int) (of_decide_eq_true (by first | (with_reducible assumption) | assumption)) (by have h_ : (t106 : Int) < ((x4_1.length : Int) : Int) := of_decide_eq_true (by first | (with_reducible assumption) | assumption); first | exact h_ | (have e_ := (Kd.R_reads' HO_4.out).1; omega) | simpa using h_) (seg := [.string ((rd_T120 x4_1 t106).f0), .string ((rd_T120 x4_1 t106).f1), .bool (((rd_T70 l0 x5_1).f0) == 3)]) (j := 0) hcl67 hcc67 (show 3 ≤ 3 from by decide) (x' := (⟨(rd_T120 x4_1 t106).f0, (rd_T120 x4_1 t106).f1, (((rd_T70 l0 x5_1).f0) == 3)⟩ : S120)) (k120_mkM _ _ _ (⟨(rd_T120 x4_1 t106).f0, (rd_T120 x4_1 t106).f1, (((rd_T70 l0 x5_1).f0) == 3)⟩ : S120) ) (fun _ hk => hk); have hx67_0 := hcc67 0 _ rfl; (try simp only [show (k120).sz = 3 from rfl, Nat.mul_one, Nat.add_zero] at hx67_0); have hf67_0 := hfr67 0; (try simp only [show (k120).sz = 3 from rfl, Nat.mul_one, Nat.add_zero] at hf67_0); have hx67_1 := hcc67 1 _ rfl; (try simp only [show (k120).sz = 3 from rfl, Nat.mul_one, Nat.add_zero] at hx67_1); have hf67_1 := hfr67 1; (try simp only [show (k120).sz = 3 from rfl, Nat.mul_one, Nat.add_zero] at hf67_1); have hx67_2 := hcc67 2 _ rfl; (try simp only [show (k120).sz = 3 from rfl, Nat.mul_one, Nat.add_zero] at hx67_2); have hf67_2 := hfr67 2; (try simp only [show (k120).sz = 3 from rfl, Nat.mul_one, Nat.add_zero] at hf67_2); clear hcl67 hcc67 hfr67 hM67) | ((with_reducible refine gate_store (t := 120) (p := 96) rfl ?_); (try (rw [drewN_self w65]; generalize hq_ : World.drewN w65 _ = w65; have n0_ := Aside0.mk (Kd.R_at hq_ HO_4.out); have n1_ := Aside0.mk (blk_at hq_ BK105.out); have n2_ := Aside0.mk (blk_at hq_ BK115.out); have n3_ := Aside0.mk (below_at hq_ HB.out); clear hq_ HO_4 BK105 BK115 HB; have HO_4 := n0_; have BK105 := n1_; have BK115 := n2_; have HB := n3_; clear n0_ n1_ n2_ n3_; (try (have HX67 := Aside0.mk (show Kd.R k120 120 w65 w.heap.size (fun k_ => k_ ≠ gb115) (.slice (some ⟨go58, 0, none⟩) x4_1.length co10) x4_1 from (pR_ HO_4.out)))); (try (obtain ⟨ce67, hcl67, hM67, hcc67, hfr67⟩ := Kd.R_elem HX67.out z120 (t106 : Int) (of_decide_eq_true (by first | (with_reducible assumption) | assumption)) (by have h_ : (t106 : Int) < ((x4_1.length : Int) : Int) := of_decide_eq_true (by first | (with_reducible assumption) | assumption); first | exact h_ | (have e_ := (Kd.R_reads' HO_4.out).1; omega) | simpa using h_))); (try (obtain rfl := k120_openM hM67)); (try (have HP67 := Kd.R_seg HX67.out (t106 : Int) (of_decide_eq_true (by first | (with_reducible assumption) | assumption)) (by have h_ : (t106 : Int) < ((x4_1.length : Int) : Int) := of_decide_eq_true (by first | (with_reducible assumption) | assumption); first | exact h_ | (have e_ := (Kd.R_reads' HO_4.out).1; omega) | simpa using h_) (seg := [.string ((rd_T120 x4_1 t106).f0), .string ((rd_T120 x4_1 t106).f1), .bool (((rd_T70 l0 x5_1).f0) == 3)]) (j := 0) hcl67 hcc67 (show 3 ≤ 3 from by decide) (x' := (⟨(rd_T120 x4_1 t106).f0, (rd_T120 x4_1 t106).f1, (((rd_T70 l0 x5_1).f0) == 3)⟩ : S120)) (k120_mkM _ _ _ (⟨(rd_T120 x4_1 t106).f0, (rd_T120 x4_1 t106).f1, (((rd_T70 l0 x5_1).f0) == 3)⟩ : S120) ) (fun _ hk => hk))); (try (have hx67_0 := hcc67 0 _ rfl)); (try (try simp only [show (k120).sz = 3 from rfl, Nat.mul_one, Nat.add_zero] at hx67_0)); (try (have hf67_0 := hfr67 0)); (try (try simp only [show (k120).sz = 3 from rfl, Nat.mul_one, Nat.add_zero] at hf67_0)); (try (have hx67_1 := hcc67 1 _ rfl)); (try (try simp only [show (k120).sz = 3 from rfl, Nat.mul_one, Nat.add_zero] at hx67_1)); (try (have hf67_1 := hfr67 1)); (try (try simp only [show (k120).sz = 3 from rfl, Nat.mul_one, Nat.add_zero] at hf67_1)); (try (have hx67_2 := hcc67 2 _ rfl)); (try (try simp only [show (k120).sz = 3 from rfl, Nat.mul_one, Nat.add_zero] at hx67_2)); (try (have hf67_2 := hfr67 2)); (try (try simp only [show (k120).sz = 3 from rfl, Nat.mul_one, Nat.add_zero] at hf67_2)); (try (clear hcl67 hcc67 hfr67 hM67)))); refine store_event (t := 120) (p := 96) (v := ?vo_w68) (w1 := (((w65.setCell ⟨go58, (t106 : Int).toNat * 3, none⟩ (.string ((rd_T120 x4_1 t106).f0))).setCell ⟨go58, (t106 : Int).toNat * 3 + 1, none⟩ (.string ((rd_T120 x4_1 t106).f1))).setCell ⟨go58, (t106 : Int).toNat * 3 + 2, none⟩ (.bool (((rd_T70 l0 x5_1).f0) == 3)))) ?hg ?ho ?hn ?hr ?_; (case ho => rfl); (case hg => rfl); (case hn => rfl); (case hr => first | (go_simp; done) | (go_simp; rfl)); intro w68 hw; have hg : w65.grownBy w68 (some go58) := (by rw [hw]; exact HP67.2); have hp_ : Kd.R k120 120 w68 w.heap.size (fun k_ => k_ ≠ gb115) (.slice (some ⟨go58, 0, none⟩) x4_1.length co10) y117 := (by rw [hw, Ny117.out]; exact HP67.1); clear HP67; have n0_ := Aside0.mk (hp_); have n1_ := Aside0.mk (blk_grown (g := gb105) (o := .cells #[.int .i64 ((rd_T70 l0 x5_1).f0), .string ((rd_T70 l0 x5_1).f1), .string ((rd_T70 l0 x5_1).f2)] 70 (0, 0)) (pB_ BK105.out) hg (Kd.R_ne HO_4.out BK105.out (by decide))); have n2_ := Aside0.mk (blk_grown (g := gb115) (o := .cells #[.string ((rd_T120 x4_1 t106).f0), .string ((rd_T120 x4_1 t106).f1), .bool (((rd_T70 l0 x5_1).f0) == 3)] 120 (0, 0)) (pB_ BK115.out) hg (Kd.R_away HO_4.out (fun _ hk => hk))); have n3_ := Aside0.mk ((by rw [hw]; exact below_set (below_set (below_set (HB.out) GB58.out) GB58.out) GB58.out : Below w.heap.size w w68)); clear HO_4; clear BK105; clear BK115; clear HB; have HO_4 := n0_; have BK105 := n1_; have BK115 := n2_; have HB := n3_; clear n0_ n1_ n2_ n3_; clear hg hw hp_)); try go_wp2_with (first | ((with_reducible refine gate_dst (N := 8) rfl ?_); refine box_event ?hg (N := 8) ?hd (cs := #[.string (⟨#[]⟩ : ByteArray), .string (⟨#[]⟩ : ByteArray), .bool false]) (t := 120) ?hr ?_; (case hd => rfl); (case hg => rfl); (case hr => first | (go_simp; done) | (go_simp; rfl)); intro gb115 hg w59 hbox hb; have n0_ := Aside0.mk (Kd.R_below (Kd.R_elderB (pR_ HO_4.out) gb115 (Nat.le_of_eq hg.symm)) hb); have n1_ := Aside0.mk (blk_below (g := gb105) (o := .cells #[.int .i64 ((rd_T70 l0 x5_1).f0), .string ((rd_T70 l0 x5_1).f1), .string ((rd_T70 l0 x5_1).f2)] 70 (0, 0)) (pB_ BK105.out) hb); have n2_ := Aside0.mk (below_step (pH_ HB.out) hb); have n3_ := Aside0.mk (hbox); have n4_ := Aside0.mk ((by rw [hg]; exact (below_size (pH_ HB.out)) : w.heap.size ≤ gb115)); have n5_ := Aside0.mk ((by rw [hg]; exact (below_size (pH_ HB.out)) : w.heap.size ≤ gb115)); have n6_ := Aside0.mk ((by rw [hg]; exact Nat.ne_of_lt (blk_lt (g := gb105) (o := .cells #[.int .i64 ((rd_T70 l0 x5_1).f0), .string ((rd_T70 l0 x5_1).f1), .string ((rd_T70 l0 x5_1).f2)] 70 (0, 0)) (pB_ BK105.out)) : gb105 ≠ gb115)); have n7_ := Aside0.mk ((by rw [hg]; exact Nat.ne_of_gt (blk_lt (g := gb105) (o := .cells #[.int .i64 ((rd_T70 l0 x5_1).f0), .string ((rd_T70 l0 x5_1).f1), .string ((rd_T70 l0 x5_1).f2)] 70 (0, 0)) (pB_ BK105.out)) : gb115 ≠ gb105)); clear HO_4; clear BK105; clear HB; have HO_4 := n0_; have BK105 := n1_; have HB := n2_; have BK115 := n3_; have GW115 := n4_; have GE115 := n5_; have NB105_115 := n6_; have NB115_105 := n7_; clear n0_ n1_ n2_ n3_ n4_ n5_ n6_ n7_; clear hb hbox hg; have hnb60 := NB115_105.out; have hnc60 := NB105_115.out; have hcz61_0 := cz_ BK115.out 0 _ rfl; have hcz61_1 := cz_ BK115.out 1 _ rfl; have hcz61_2 := cz_ BK115.out 2 _ rfl; have hfz61_0 := blk_frozen BK115.out 0; have hfz61_1 := blk_frozen BK115.out 1; have hfz61_2 := blk_frozen BK115.out 2) | ((with_reducible refine gate_store (t := 120) (p := 8) rfl ?_); (try (rw [drewN_self w59]; generalize hq_ : World.drewN w59 _ = w59; have n0_ := Aside0.mk (Kd.R_at hq_ HO_4.out); have n1_ := Aside0.mk (blk_at hq_ BK105.out); have n2_ := Aside0.mk (blk_at hq_ BK115.out); have n3_ := Aside0.mk (below_at hq_ HB.out); clear hq_ HO_4 BK105 BK115 HB; have HO_4 := n0_; have BK105 := n1_; have BK115 := n2_; have HB := n3_; clear n0_ n1_ n2_ n3_)); refine store_event (t := 120) (p := 8) (v := ?vo_w62) (w1 := (((w59.setCell ⟨gb115, 0, none⟩ (.string ((rd_T120 x4_1 t106).f0))).setCell ⟨gb115, 1, none⟩ (.string ((rd_T120 x4_1 t106).f1))).setCell ⟨gb115, 2, none⟩ (.bool ((rd_T120 x4_1 t106).f2)))) ?hg ?ho ?hn ?hr ?_; (case ho => rfl); (case hg => rfl); (case hn => rfl); (case hr => first | (go_simp; done) | (go_simp; rfl)); intro w62 hw; have n0_ : Aside0 (Kd.R k120 120 w62 w.heap.size (fun k_ => k_ ≠ gb115) (.slice (some ad114) x4_1.length co10) x4_1) := ⟨(by rw [hw]; exact (by (with_reducible repeat (first | apply Kd.R_alloc | apply Kd.R_drewN | apply Kd.R_drew)); exact Kd.R_mono (Kd.R_far (p := ⟨gb115, 2, none⟩) (Kd.R_far (p := ⟨gb115, 1, none⟩) (Kd.R_far (p := ⟨gb115, 0, none⟩) (Kd.R_mono HO_4.out (fun k_ hk => (⟨hk, hk.2⟩ : _ ∧ k_ ≠ gb115))) (fun _ hk => hk.2) (.string ((rd_T120 x4_1 t106).f0))) (fun _ hk => hk.2) (.string ((rd_T120 x4_1 t106).f1))) (fun _ hk => hk.2) (.bool ((rd_T120 x4_1 t106).f2))) (fun _ hk => hk.1.2)))⟩; have n1_ : Aside0 (w62.heap[gb105]? = some (.cells #[.int .i64 ((rd_T70 l0 x5_1).f0), .string ((rd_T70 l0 x5_1).f1), .string ((rd_T70 l0 x5_1).f2)] 70 (0, 0))) := ⟨(by rw [hw]; exact (by (with_reducible repeat (first | refine blk_drewN ?_ _ | refine blk_drew ?_ | refine blk_alloc ?_ _)); refine blk_far ?_ NB105_115.out _; (with_reducible repeat (first | refine blk_drewN ?_ _ | refine blk_drew ?_ | refine blk_alloc ?_ _)); refine blk_far ?_ NB105_115.out _; (with_reducible repeat (first | refine blk_drewN ?_ _ | refine blk_drew ?_ | refine blk_alloc ?_ _)); refine blk_far ?_ NB105_115.out _; (with_reducible repeat (first | refine blk_drewN ?_ _ | refine blk_drew ?_ | refine blk_alloc ?_ _)); exact BK105.out))⟩; have n2_ : Aside0 (w62.heap[gb115]? = some (.cells #[.string ((rd_T120 x4_1 t106).f0), .string ((rd_T120 x4_1 t106).f1), .bool ((rd_T120 x4_1 t106).f2)] 120 (0, 0))) := ⟨(by rw [hw]; exact (by (with_reducible repeat (first | refine blk_drewN ?_ _ | refine blk_drew ?_ | refine blk_alloc ?_ _)); refine blk_put (cs := #[.string ((rd_T120 x4_1 t106).f0), .string ((rd_T120 x4_1 t106).f1), .bool false]) ?_ 2 _ rfl; (with_reducible repeat (first | refine blk_drewN ?_ _ | refine blk_drew ?_ | refine blk_alloc ?_ _)); refine blk_put (cs := #[.string ((rd_T120 x4_1 t106).f0), .string (⟨#[]⟩ : ByteArray), .bool false]) ?_ 1 _ rfl; (with_reducible repeat (first | refine blk_drewN ?_ _ | refine blk_drew ?_ | refine blk_alloc ?_ _)); refine blk_put (cs := #[.string (⟨#[]⟩ : ByteArray), .string (⟨#[]⟩ : ByteArray), .bool false]) ?_ 0 _ rfl; (with_reducible repeat (first | refine blk_drewN ?_ _ | refine blk_drew ?_ | refine blk_alloc ?_ _)); exact BK115.out))⟩; have n3_ : Aside0 (Below w.heap.size w w62) := ⟨(by rw [hw]; exact (pH_ HB.out))⟩; clear hw; clear HO_4; clear BK105; clear BK115; clear HB; have HO_4 := n0_; have BK105 := n1_; have BK115 := n2_; have HB := n3_; clear n0_ n1_ n2_ n3_; have hcz63_0 := cz_ BK105.out 0 _ rfl; have hcz63_1 := cz_ BK105.out 1 _ rfl; have hcz63_2 := cz_ BK105.out 2 _ rfl; have hfz63_0 := blk_frozen BK105.out 0; have hfz63_1 := blk_frozen BK105.out 1; have hfz63_2 := blk_frozen BK105.out 2; have hcz64_0 := cz_ BK115.out 0 _ rfl; have hcz64_1 := cz_ BK115.out 1 _ rfl; have hcz64_2 := cz_ BK115.out 2 _ rfl; have hfz64_0 := blk_frozen BK115.out 0; have hfz64_1 := blk_frozen BK115.out 1; have hfz64_2 := blk_frozen BK115.out 2) | ((with_reducible refine gate_store (t := 4) (p := 92) rfl ?_); (try (rw [drewN_self w62]; generalize hq_ : World.drewN w62 _ = w62; have n0_ := Aside0.mk (Kd.R_at hq_ HO_4.out); have n1_ := Aside0.mk (blk_at hq_ BK105.out); have n2_ := Aside0.mk (blk_at hq_ BK115.out); have n3_ := Aside0.mk (below_at hq_ HB.out); clear hq_ HO_4 BK105 BK115 HB; have HO_4 := n0_; have BK105 := n1_; have BK115 := n2_; have HB := n3_; clear n0_ n1_ n2_ n3_)); refine store_event (t := 4) (p := 92) (v := ?vo_w65) (w1 := (w62.setCell ⟨gb115, 2, none⟩ (.bool (((rd_T70 l0 x5_1).f0) == 3)))) ?hg ?ho ?hn ?hr ?_; (case ho => rfl); (case hg => rfl); (case hn => rfl); (case hr => first | (go_simp; done) | (go_simp; rfl)); intro w65 hw; have n0_ : Aside0 (Kd.R k120 120 w65 w.heap.size (fun k_ => k_ ≠ gb115) (.slice (some ad114) x4_1.length co10) x4_1) := ⟨(by rw [hw]; exact (by (with_reducible repeat (first | apply Kd.R_alloc | apply Kd.R_drewN | apply Kd.R_drew)); exact Kd.R_mono (Kd.R_far (p := ⟨gb115, 2, none⟩) (Kd.R_mono HO_4.out (fun k_ hk => (⟨hk, hk⟩ : _ ∧ k_ ≠ gb115))) (fun _ hk => hk.2) (.bool (((rd_T70 l0 x5_1).f0) == 3))) (fun _ hk => hk.1)))⟩; have n1_ : Aside0 (w65.heap[gb105]? = some (.cells #[.int .i64 ((rd_T70 l0 x5_1).f0), .string ((rd_T70 l0 x5_1).f1), .string ((rd_T70 l0 x5_1).f2)] 70 (0, 0))) := ⟨(by rw [hw]; exact (by (with_reducible repeat (first | refine blk_drewN ?_ _ | refine blk_drew ?_ | refine blk_alloc ?_ _)); refine blk_far ?_ NB105_115.out _; (with_reducible repeat (first | refine blk_drewN ?_ _ | refine blk_drew ?_ | refine blk_alloc ?_ _)); exact BK105.out))⟩; have n2_ : Aside0 (w65.heap[gb115]? = some (.cells #[.string ((rd_T120 x4_1 t106).f0), .string ((rd_T120 x4_1 t106).f1), .bool (((rd_T70 l0 x5_1).f0) == 3)] 120 (0, 0))) := ⟨(by rw [hw]; exact (by (with_reducible repeat (first | refine blk_drewN ?_ _ | refine blk_drew ?_ | refine blk_alloc ?_ _)); refine blk_put (cs := #[.string ((rd_T120 x4_1 t106).f0), .string ((rd_T120 x4_1 t106).f1), .bool ((rd_T120 x4_1 t106).f2)]) ?_ 2 _ rfl; (with_reducible repeat (first | refine blk_drewN ?_ _ | refine blk_drew ?_ | refine blk_alloc ?_ _)); exact BK115.out))⟩; have n3_ : Aside0 (Below w.heap.size w w65) := ⟨(by rw [hw]; exact (pH_ HB.out))⟩; clear hw; clear HO_4; clear BK105; clear BK115; clear HB; have HO_4 := n0_; have BK105 := n1_; have BK115 := n2_; have HB := n3_; clear n0_ n1_ n2_ n3_; have hcz66_0 := cz_ BK115.out 0 _ rfl; have hcz66_1 := cz_ BK115.out 1 _ rfl; have hcz66_2 := cz_ BK115.out 2 _ rfl; have hfz66_0 := blk_frozen BK115.out 0; have hfz66_1 := blk_frozen BK115.out 1; have hfz66_2 := blk_frozen BK115.out 2; have p58 : 0 ≤ (t106 : Int) := of_decide_eq_true (by first | (with_reducible assumption) | assumption); have q58 : (t106 : Int) < ((x4_1.length : Int) : Int) := of_decide_eq_true (by first | (with_reducible assumption) | assumption); obtain ⟨go58, co58, eo58, gb58, gl58, cl58, HG58⟩ := Kd.R_form HO_4.out (by omega); (first | cases eo58 | (injection eo58 with ea_ en_ ec_; (first | subst ea_ | (injection ea_ with ea_; subst ea_)); subst ec_; clear en_)); have GB58 := Aside0.mk gb58; have GG58 := Aside0.mk HG58; clear gb58 gl58 HG58; (first | simp only [add_plain] at hx114_0 | skip); (first | simp only [add_plain] at hx114_1 | skip); (first | simp only [add_plain] at hx114_2 | skip); obtain ⟨ce58, hcl58, hM58, hcc58, hfr58⟩ := Kd.R_elem HO_4.out z120 (t106 : Int) p58 q58; obtain rfl := k120_openM hM58; have hx58_0 : w65.cell? ⟨go58, (t106 : Int).toNat * 3, none⟩ = some (.string ((rd_T120 x4_1 t106).f0)) := hcc58 0 _ rfl; have hx58_1 : w65.cell? ⟨go58, (t106 : Int).toNat * 3 + 1, none⟩ = some (.string ((rd_T120 x4_1 t106).f1)) := hcc58 1 _ rfl; have hx58_2 : w65.cell? ⟨go58, (t106 : Int).toNat * 3 + 2, none⟩ = some (.bool ((rd_T120 x4_1 t106).f2)) := hcc58 2 _ rfl; have hf58_0 : w65.frozen? ⟨go58, (t106 : Int).toNat * 3, none⟩ = false := hfr58 0; have hf58_1 : w65.frozen? ⟨go58, (t106 : Int).toNat * 3 + 1, none⟩ = false := hfr58 1; have hf58_2 : w65.frozen? ⟨go58, (t106 : Int).toNat * 3 + 2, none⟩ = false := hfr58 2; clear hcl58 hcc58 hfr58 hM58; replace p58 := eq_true p58; replace q58 := eq_true q58; have HX67 := Aside0.mk (show Kd.R k120 120 w65 w.heap.size (fun k_ => k_ ≠ gb115) (.slice (some ⟨go58, 0, none⟩) x4_1.length co10) x4_1 from (pR_ HO_4.out)); obtain ⟨ce67, hcl67, hM67, hcc67, hfr67⟩ := Kd.R_elem HX67.out z120 (t106 : Int) (of_decide_eq_true (by first | (with_reducible assumption) | assumption)) (by have h_ : (t106 : Int) < ((x4_1.length : Int) : Int) := of_decide_eq_true (by first | (with_reducible assumption) | assumption); first | exact h_ | (have e_ := (Kd.R_reads' HO_4.out).1; omega) | simpa using h_); obtain rfl := k120_openM hM67; have HP67 := Kd.R_seg HX67.out (t106 : Int) (of_decide_eq_true (by first | (with_reducible assumption) | assumption)) (by have h_ : (t106 : Int) < ((x4_1.length : Int) : Int) := of_decide_eq_true (by first | (with_reducible assumption) | assumption); first | exact h_ | (have e_ := (Kd.R_reads' HO_4.out).1; omega) | simpa using h_) (seg := [.string ((rd_T120 x4_1 t106).f0), .string ((rd_T120 x4_1 t106).f1), .bool (((rd_T70 l0 x5_1).f0) == 3)]) (j := 0) hcl67 hcc67 (show 3 ≤ 3 from by decide) (x' := (⟨(rd_T120 x4_1 t106).f0, (rd_T120 x4_1 t106).f1, (((rd_T70 l0 x5_1).f0) == 3)⟩ : S120)) (k120_mkM _ _ _ (⟨(rd_T120 x4_1 t106).f0, (rd_T120 x4_1 t106).f1, (((rd_T70 l0 x5_1).f0) == 3)⟩ : S120) ) (fun _ hk => hk); have hx67_0 := hcc67 0 _ rfl; (try simp only [show (k120).sz = 3 from rfl, Nat.mul_one, Nat.add_zero] at hx67_0); have hf67_0 := hfr67 0; (try simp only [show (k120).sz = 3 from rfl, Nat.mul_one, Nat.add_zero] at hf67_0); have hx67_1 := hcc67 1 _ rfl; (try simp only [show (k120).sz = 3 from rfl, Nat.mul_one, Nat.add_zero] at hx67_1); have hf67_1 := hfr67 1; (try simp only [show (k120).sz = 3 from rfl, Nat.mul_one, Nat.add_zero] at hf67_1); have hx67_2 := hcc67 2 _ rfl; (try simp only [show (k120).sz = 3 from rfl, Nat.mul_one, Nat.add_zero] at hx67_2); have hf67_2 := hfr67 2; (try simp only [show (k120).sz = 3 from rfl, Nat.mul_one, Nat.add_zero] at hf67_2); clear hcl67 hcc67 hfr67 hM67) | ((with_reducible refine gate_store (t := 120) (p := 96) rfl ?_); (try (rw [drewN_self w65]; generalize hq_ : World.drewN w65 _ = w65; have n0_ := Aside0.mk (Kd.R_at hq_ HO_4.out); have n1_ := Aside0.mk (blk_at hq_ BK105.out); have n2_ := Aside0.mk (blk_at hq_ BK115.out); have n3_ := Aside0.mk (below_at hq_ HB.out); clear hq_ HO_4 BK105 BK115 HB; have HO_4 := n0_; have BK105 := n1_; have BK115 := n2_; have HB := n3_; clear n0_ n1_ n2_ n3_; (try (have HX67 := Aside0.mk (show Kd.R k120 120 w65 w.heap.size (fun k_ => k_ ≠ gb115) (.slice (some ⟨go58, 0, none⟩) x4_1.length co10) x4_1 from (pR_ HO_4.out)))); (try (obtain ⟨ce67, hcl67, hM67, hcc67, hfr67⟩ := Kd.R_elem HX67.out z120 (t106 : Int) (of_decide_eq_true (by first | (with_reducible assumption) | assumption)) (by have h_ : (t106 : Int) < ((x4_1.length : Int) : Int) := of_decide_eq_true (by first | (with_reducible assumption) | assumption); first | exact h_ | (have e_ := (Kd.R_reads' HO_4.out).1; omega) | simpa using h_))); (try (obtain rfl := k120_openM hM67)); (try (have HP67 := Kd.R_seg HX67.out (t106 : Int) (of_decide_eq_true (by first | (with_reducible assumption) | assumption)) (by have h_ : (t106 : Int) < ((x4_1.length : Int) : Int) := of_decide_eq_true (by first | (with_reducible assumption) | assumption); first | exact h_ | (have e_ := (Kd.R_reads' HO_4.out).1; omega) | simpa using h_) (seg := [.string ((rd_T120 x4_1 t106).f0), .string ((rd_T120 x4_1 t106).f1), .bool (((rd_T70 l0 x5_1).f0) == 3)]) (j := 0) hcl67 hcc67 (show 3 ≤ 3 from by decide) (x' := (⟨(rd_T120 x4_1 t106).f0, (rd_T120 x4_1 t106).f1, (((rd_T70 l0 x5_1).f0) == 3)⟩ : S120)) (k120_mkM _ _ _ (⟨(rd_T120 x4_1 t106).f0, (rd_T120 x4_1 t106).f1, (((rd_T70 l0 x5_1).f0) == 3)⟩ : S120) ) (fun _ hk => hk))); (try (have hx67_0 := hcc67 0 _ rfl)); (try (try simp only [show (k120).sz = 3 from rfl, Nat.mul_one, Nat.add_zero] at hx67_0)); (try (have hf67_0 := hfr67 0)); (try (try simp only [show (k120).sz = 3 from rfl, Nat.mul_one, Nat.add_zero] at hf67_0)); (try (have hx67_1 := hcc67 1 _ rfl)); (try (try simp only [show (k120).sz = 3 from rfl, Nat.mul_one, Nat.add_zero] at hx67_1)); (try (have hf67_1 := hfr67 1)); (try (try simp only [show (k120).sz = 3 from rfl, Nat.mul_one, Nat.add_zero] at hf67_1)); (try (have hx67_2 := hcc67 2 _ rfl)); (try (try simp only [show (k120).sz = 3 from rfl, Nat.mul_one, Nat.add_zero] at hx67_2)); (try (have hf67_2 := hfr67 2)); (try (try simp only [show (k120).sz = 3 from rfl, Nat.mul_one, Nat.add_zero] at hf67_2)); (try (clear hcl67 hcc67 hfr67 hM67)))); refine store_event (t := 120) (p := 96) (v := ?vo_w68) (w1 := (((w65.setCell ⟨go58, (t106 : Int).toNat * 3, none⟩ (.string ((rd_T120 x4_1 t106).f0))).setCell ⟨go58, (t106 : Int).toNat * 3 + 1, none⟩ (.string ((rd_T120 x4_1 t106).f1))).setCell ⟨go58, (t106 : Int).toNat * 3 + 2, none⟩ (.bool (((rd_T70 l0 x5_1).f0) == 3)))) ?hg ?ho ?hn ?hr ?_; (case ho => rfl); (case hg => rfl); (case hn => rfl); (case hr => first | (go_simp; done) | (go_simp; rfl)); intro w68 hw; have hg : w65.grownBy w68 (some go58) := (by rw [hw]; exact HP67.2); have hp_ : Kd.R k120 120 w68 w.heap.size (fun k_ => k_ ≠ gb115) (.slice (some ⟨go58, 0, none⟩) x4_1.length co10) y117 := (by rw [hw, Ny117.out]; exact HP67.1); clear HP67; have n0_ := Aside0.mk (hp_); have n1_ := Aside0.mk (blk_grown (g := gb105) (o := .cells #[.int .i64 ((rd_T70 l0 x5_1).f0), .string ((rd_T70 l0 x5_1).f1), .string ((rd_T70 l0 x5_1).f2)] 70 (0, 0)) (pB_ BK105.out) hg (Kd.R_ne HO_4.out BK105.out (by decide))); have n2_ := Aside0.mk (blk_grown (g := gb115) (o := .cells #[.string ((rd_T120 x4_1 t106).f0), .string ((rd_T120 x4_1 t106).f1), .bool (((rd_T70 l0 x5_1).f0) == 3)] 120 (0, 0)) (pB_ BK115.out) hg (Kd.R_away HO_4.out (fun _ hk => hk))); have n3_ := Aside0.mk ((by rw [hw]; exact below_set (below_set (below_set (HB.out) GB58.out) GB58.out) GB58.out : Below w.heap.size w w68)); clear HO_4; clear BK105; clear BK115; clear HB; have HO_4 := n0_; have BK105 := n1_; have BK115 := n2_; have HB := n3_; clear n0_ n1_ n2_ n3_; clear hg hw hp_)))
           go_roundg kj26
           case measure => have := HK1.out; have := HJ6.out; have := HJ26.out; omega
           case rel => exact ⟨(y117), (wrap64 (x5_1 + 1)), (by first | rfl | (simp; done) | (simp [*]; done) | (simp [beq_nil_, bne_nil_]; done)), H', ⟨by have := HK1.out; have := HJ6.out; have := HJ26.out; omega⟩, ⟨by (with_reducible repeat (first | apply Kd.R_alloc | apply Kd.R_drewN | apply Kd.R_drew)); exact Kd.R_mono HO_4.out (fun _ hk => trivial)⟩, ⟨by repeat (first | (with_reducible first | exact HB.out | apply below_alloc | apply pw_below_drewN | apply below_drew1 | refine below_set ?_ GE105.out | refine below_set ?_ GE115.out) | exact HB.out)⟩⟩
          rw [if_neg c45] at H
          exact absurd H (by simp)
         rw [if_neg c44] at H
         exact absurd H (by simp)
    rw [if_neg c5] at H
    exact absurd H (by simp)
   rw [if_neg c4] at H
   have c4b0 : decide (x5_1 < (l0.length : Int)) = false := decide_eq_false c4
   clear c4
   simp only [Option.some.injEq, Prod.mk.injEq] at H
   obtain ⟨rfl, rfl⟩ := H
   go_wp2
   repeat (go_quiet (fail); try go_wp2)
   go_ret2
   exact ⟨_, by first | rfl | (simp [errW_none, errW_some] <;> rfl) | (simp [*, errW_none, errW_some] <;> rfl), by (with_reducible repeat (first | apply Kd.R_alloc | apply Kd.R_drewN | apply Kd.R_drew)); exact HO_4.out, by repeat (first | (with_reducible first | exact HB.out | apply below_alloc | apply pw_below_drewN | apply below_drew1) | exact HB.out)⟩
end
section
/-! ### spec_l21Good: function 88 -/
def spec_l21Good.f (k : Nat) (l0 : List (S70)) : Option (Bool) := if (l0.length : Int) > 40 then (some false) else ((spec_l21Play.f k l0).bind fun bt101 => (some bt101.2))
theorem spec_l21Good.mono : ∀ a0 k, LeO (spec_l21Good.f k a0) (spec_l21Good.f (k + 1) a0) := by
 intro a0 k
 unfold spec_l21Good.f
 repeat' first
   | (with_reducible exact spec_l21Play.mono _ _)
   | (with_reducible exact LeO.refl _)
   | (with_reducible exact LeO.none _)
   | (with_reducible refine LeO.ite ?_ ?_)
   | (with_reducible refine LeO.bind ?_ (fun _ => ?_))
   | exact spec_l21Play.mono _ _
   | exact LeO.none _
   | refine LeO.ite ?_ ?_
   | refine LeO.bind ?_ (fun _ => ?_)
set_option maxHeartbeats 8000000 in
set_option maxRecDepth 100000 in
theorem spec_l21Good.calls (k : Nat) (A0 : Option Addr) (c0 : Nat) (l0 : List (S70)) (r : Bool) (w : World) (hr0 : Kd.C k70 w A0 l0.length l0) (hc0 : l0.length ≤ c0) (h : spec_l21Good.f k l0 = some r) :
  Calls Try.prog 88 #[.slice A0 l0.length c0] w fun e w' => e = .returned (.bool r) ∧ Below w.heap.size w w' := by
 have HR0 := Aside0.mk hr0
 have HC0 := Aside0.mk hc0
 clear hr0 hc0
 have HB := Aside0.mk (Below.refl w.heap.size w)
 have H : (if (l0.length : Int) > 40 then (some false) else ((spec_l21Play.f k l0).bind fun bt101 => (some bt101.2))) = some r := h
 clear h
 by_cases c2 : (l0.length : Int) > 40
 ·rw [if_pos c2] at H
  have c2b0 : decide (40 < (l0.length : Int)) = true := decide_eq_true c2
  have c2b1 : decide (40 < l0.length) = true := decide_eq_true (by omega)
  clear c2
  obtain rfl := Option.some.inj H
  go_enter Try.func88, Try.ntmps88
  go_wp2
  go_ret
  exact ⟨by first | rfl | (simp [errW_none, errW_some] <;> rfl) | (simp [*, errW_none, errW_some] <;> rfl), by repeat (first | (with_reducible first | exact HB.out | apply below_alloc | apply pw_below_drewN | apply below_drew1) | exact HB.out)⟩
 rw [if_neg c2] at H
 have c2b0 : decide (40 < (l0.length : Int)) = false := decide_eq_false c2
 have c2b1 : decide (40 < l0.length) = false := decide_eq_false (by omega)
 clear c2
 replace H := Option.bind_eq_some_iff.mp H
 obtain ⟨⟨t101, t102⟩, A30, H⟩ := H
 replace H : (some t102) = some r := H
 have A3 := Aside0.mk A30
 clear A30
 obtain rfl := Option.some.inj H
 go_enter Try.func88, Try.ntmps88
 go_wp2_with (first | ((with_reducible refine gate_callee (f := 91) rfl ?_); refine goesL_ (some 10) rfl rfl Try.func91 (by kernel_rfl) rfl #[.slice A0 l0.length c0] rfl (by (try simp only [List.map_toArray, List.map_cons, List.map_nil]); first | done | rfl | (simp only [List.length_drop, List.length_take]; rfl)) ?_; (with_reducible refine (spec_l21Play.calls k _ _ l0 t101 t102 _ ?side1 ?side2 A3.out).mono ?_); (case side1 => repeat (first | exact HR0.out | (with_reducible refine Kd.C_alloc ?_ _) | (with_reducible refine Kd.C_drewN ?_ _) | (with_reducible refine Kd.C_drew ?_))); (case side2 => exact HC0.out); rintro e w4 ⟨v103, rfl, ho0, hb⟩; refine ⟨_, rfl, ?_⟩; have n0_ := Aside0.mk (Kd.R_lower ho0 (below_size (pH_ HB.out))); have n1_ := Aside0.mk (below_step (pH_ HB.out) hb); clear HB; have HO104 := n0_; have HB := n1_; clear n0_ n1_; (try clear hb); (try clear hb2); (try clear hk); (try clear hi); (try clear ho0)))
 go_ret
 exact ⟨by first | rfl | (simp [errW_none, errW_some] <;> rfl) | (simp [*, errW_none, errW_some] <;> rfl), by repeat (first | (with_reducible first | exact HB.out | apply below_alloc | apply pw_below_drewN | apply below_drew1) | exact HB.out)⟩
end
section
attribute [local go_sem high] eqA120
/-! ### spec_ChangedItems: function 60 -/
mutual
def spec_ChangedItems.j0 : Nat → List (S70) → Int → List ByteArray → Bool → Option (List ByteArray × Bool)
 | 0, _, _, _, _ => none
 | k + 1, x0, x1, x6, x22 => if x22 = true then (some (x6, false)) else (if 0 ≤ x1 then (if x1 ≤ (x0.length : Int) then ((spec_l21Play.f k (x0.take (x1 : Int).toNat)).bind fun bt110 => ((spec_l21Play.f k x0).bind fun bt114 => (spec_ChangedItems.l0 k x6 bt110.1 bt114.1 0))) else (none)) else (none))
def spec_ChangedItems.l0 : Nat → List ByteArray → List (S120) → List (S120) → Int → Option (List ByteArray × Bool)
 | 0, _, _, _, _ => none
 | k + 1, x6, x7, x9, x11 => if x11 < (x9.length : Int) then (if x11 ≥ (x7.length : Int) then (if 0 ≤ x11 then (if x6.length < 8796093022208 then (spec_ChangedItems.l0 k (x6 ++ [(rd_T120 x9 x11).f0]) x7 x9 (wrap64 (x11 + 1))) else (none)) else (none)) else (if 0 ≤ x11 then (if x11 < (x7.length : Int) then (if (!((((rd_T120 x7 x11).f0).toList) == (((rd_T120 x9 x11).f0).toList)) || (!((((rd_T120 x7 x11).f1).toList) == (((rd_T120 x9 x11).f1).toList)) || (!(((rd_T120 x7 x11).f2) == ((rd_T120 x9 x11).f2))))) = true then (if x6.length < 8796093022208 then (spec_ChangedItems.l0 k (x6 ++ [(rd_T120 x9 x11).f0]) x7 x9 (wrap64 (x11 + 1))) else (none)) else (spec_ChangedItems.l0 k x6 x7 x9 (wrap64 (x11 + 1)))) else (none)) else (none))) else (some (x6, true))
end
def spec_ChangedItems.f (k : Nat) (l0 : List (S70)) (a1 : Int) : Option (List ByteArray × Bool) := (some (([] : List ByteArray) : List ByteArray)).bind fun y101 => ((spec_l21Good.f k l0).bind fun t104 => (if t104 = true then ((spec_l1In.f a1 0 (l0.length : Int)).bind fun t105 => (spec_ChangedItems.j0 k l0 a1 y101 (!t105))) else (spec_ChangedItems.j0 k l0 a1 y101 true)))
theorem spec_ChangedItems.mono_l : ∀ k, (∀ y0 y1 y2 y3, LeO (spec_ChangedItems.j0 k y0 y1 y2 y3) (spec_ChangedItems.j0 (k + 1) y0 y1 y2 y3)) ∧ (∀ y0 y1 y2 y3, LeO (spec_ChangedItems.l0 k y0 y1 y2 y3) (spec_ChangedItems.l0 (k + 1) y0 y1 y2 y3))
 | 0 => ⟨fun _ _ _ _ r h => by simp [spec_ChangedItems.j0] at h, fun _ _ _ _ r h => by simp [spec_ChangedItems.l0] at h⟩
 | k + 1 => by
  obtain ⟨ih0, ih1⟩ := spec_ChangedItems.mono_l k
  refine ⟨?_, ?_⟩
  ·intro y0 y1 y2 y3
   unfold spec_ChangedItems.j0
   repeat' first
   | (with_reducible exact ih0 _ _ _ _)
   | (with_reducible exact ih1 _ _ _ _)
   | (with_reducible exact spec_l21Good.mono _ _)
   | (with_reducible exact spec_l21Play.mono _ _)
   | (with_reducible exact LeO.refl _)
   | (with_reducible exact LeO.none _)
   | (with_reducible refine LeO.ite ?_ ?_)
   | (with_reducible refine LeO.bind ?_ (fun _ => ?_))
   | exact ih0 _ _ _ _
   | exact ih1 _ _ _ _
   | exact spec_l21Good.mono _ _
   | exact spec_l21Play.mono _ _
   | exact LeO.none _
   | refine LeO.ite ?_ ?_
   | refine LeO.bind ?_ (fun _ => ?_)
  intro y0 y1 y2 y3
  unfold spec_ChangedItems.l0
  repeat' first
  | (with_reducible exact ih0 _ _ _ _)
  | (with_reducible exact ih1 _ _ _ _)
  | (with_reducible exact spec_l21Good.mono _ _)
  | (with_reducible exact spec_l21Play.mono _ _)
  | (with_reducible exact LeO.refl _)
  | (with_reducible exact LeO.none _)
  | (with_reducible refine LeO.ite ?_ ?_)
  | (with_reducible refine LeO.bind ?_ (fun _ => ?_))
  | exact ih0 _ _ _ _
  | exact ih1 _ _ _ _
  | exact spec_l21Good.mono _ _
  | exact spec_l21Play.mono _ _
  | exact LeO.none _
  | refine LeO.ite ?_ ?_
  | refine LeO.bind ?_ (fun _ => ?_)
theorem spec_ChangedItems.mono : ∀ a0 a1 k, LeO (spec_ChangedItems.f k a0 a1) (spec_ChangedItems.f (k + 1) a0 a1) := by
 intro a0 a1 k
 obtain ⟨ih0, ih1⟩ := spec_ChangedItems.mono_l k
 unfold spec_ChangedItems.f
 repeat' first
   | (with_reducible exact ih0 _ _ _ _)
   | (with_reducible exact ih1 _ _ _ _)
   | (with_reducible exact spec_l21Good.mono _ _)
   | (with_reducible exact spec_l21Play.mono _ _)
   | (with_reducible exact LeO.refl _)
   | (with_reducible exact LeO.none _)
   | (with_reducible refine LeO.ite ?_ ?_)
   | (with_reducible refine LeO.bind ?_ (fun _ => ?_))
   | exact ih0 _ _ _ _
   | exact ih1 _ _ _ _
   | exact spec_l21Good.mono _ _
   | exact spec_l21Play.mono _ _
   | exact LeO.none _
   | refine LeO.ite ?_ ?_
   | refine LeO.bind ?_ (fun _ => ?_)
set_option maxHeartbeats 8000000 in
set_option maxRecDepth 100000 in
theorem spec_ChangedItems.calls (k : Nat) (A0 : Option Addr) (c0 : Nat) (l0 : List (S70)) (a1 : Int) (r1 : List ByteArray) (r2 : Bool) (w : World) (hr0 : Kd.C k70 w A0 l0.length l0) (hc0 : l0.length ≤ c0) (h : spec_ChangedItems.f k l0 a1 = some (r1, r2)) :
  Calls Try.prog 60 #[.slice A0 l0.length c0, .int .i64 a1] w fun e w' => ∃ v0_ : Value, e = .returned (.tuple #[v0_, .bool r2]) ∧ Kd.R Kd.string 9 w' w.heap.size (fun _ => True) v0_ r1 ∧ Below w.heap.size w w' := by
 have hu120 := Try.underlying120
 have HR0 := Aside0.mk hr0
 have HC0 := Aside0.mk hc0
 clear hr0 hc0
 have HB := Aside0.mk (Below.refl w.heap.size w)
 have H : ((some (([] : List ByteArray) : List ByteArray)).bind fun y101 => ((spec_l21Good.f k l0).bind fun t104 => (if t104 = true then ((spec_l1In.f a1 0 (l0.length : Int)).bind fun t105 => (spec_ChangedItems.j0 k l0 a1 y101 (!t105))) else (spec_ChangedItems.j0 k l0 a1 y101 true)))) = some (r1, r2) := h
 clear h
 obtain ⟨y101, hy101⟩ : ∃ y_ : List ByteArray, y_ = (([] : List ByteArray)) := ⟨_, rfl⟩
 replace H : ((spec_l21Good.f k l0).bind fun t104 => (if t104 = true then ((spec_l1In.f a1 0 (l0.length : Int)).bind fun t105 => (spec_ChangedItems.j0 k l0 a1 y101 (!t105))) else (spec_ChangedItems.j0 k l0 a1 y101 true))) = some (r1, r2) := by first | (rw [hy101]; with_reducible exact H) | (have H2_ := (Option.bind_some _ _).symm.trans H; rw [hy101]; with_reducible exact H2_) | (have H2_ := (Option.bind_some _ _).symm.trans H; with_reducible exact H2_) | with_reducible exact H | (rw [hy101]; exact H) | exact H
 have Ny101 := Aside0.mk hy101
 clear hy101
 have HC3 := Aside0.mk H
 clear H
 go_enter Try.func60, Try.ntmps60
 go_upto_region 2 with (first | ((with_reducible refine gate_dst (N := 12) rfl ?_); (try (refine gate_guard (by rfl) ?_; dsimp only)); refine Kd.R_lit Kd.string _ 9 ?hg (N := 12) ?hd (xs := ([] : List ByteArray)) (inner := []) (ok := fun _ => True) (okp := fun _ => True) ?hr ?hp (fun _ hk => hk) trivial (Below.refl _ _) (Nat.le_refl _) (by simp) ?_; (case hd => rfl); (case hg => rfl); (case hr => first | (go_simp; done) | (go_simp; rfl)); (case hp => exact (Reps.none _ _)); intro v102 w4 ho5 hb hg_ hnew_; clear hg_ hnew_; (first | rw [← Ny101.out] at ho5 | (simp only [Int.reduceToNat] at ho5; rw [← Ny101.out] at ho5)); have n0_ := Aside0.mk (Kd.R_lower ho5 (below_size (pH_ HB.out))); have n1_ := Aside0.mk (below_step (pH_ HB.out) hb); clear HB; have HO103 := n0_; have HB := n1_; clear n0_ n1_; clear hb ho5))
 repeat (go_quiet (first | ((with_reducible refine gate_dst (N := 12) rfl ?_); (try (refine gate_guard (by rfl) ?_; dsimp only)); refine Kd.R_lit Kd.string _ 9 ?hg (N := 12) ?hd (xs := ([] : List ByteArray)) (inner := []) (ok := fun _ => True) (okp := fun _ => True) ?hr ?hp (fun _ hk => hk) trivial (Below.refl _ _) (Nat.le_refl _) (by simp) ?_; (case hd => rfl); (case hg => rfl); (case hr => first | (go_simp; done) | (go_simp; rfl)); (case hp => exact (Reps.none _ _)); intro v102 w4 ho5 hb hg_ hnew_; clear hg_ hnew_; (first | rw [← Ny101.out] at ho5 | (simp only [Int.reduceToNat] at ho5; rw [← Ny101.out] at ho5)); have n0_ := Aside0.mk (Kd.R_lower ho5 (below_size (pH_ HB.out))); have n1_ := Aside0.mk (below_step (pH_ HB.out) hb); clear HB; have HO103 := n0_; have HB := n1_; clear n0_ n1_; clear hb ho5)); go_upto_region 2 with (first | ((with_reducible refine gate_dst (N := 12) rfl ?_); (try (refine gate_guard (by rfl) ?_; dsimp only)); refine Kd.R_lit Kd.string _ 9 ?hg (N := 12) ?hd (xs := ([] : List ByteArray)) (inner := []) (ok := fun _ => True) (okp := fun _ => True) ?hr ?hp (fun _ hk => hk) trivial (Below.refl _ _) (Nat.le_refl _) (by simp) ?_; (case hd => rfl); (case hg => rfl); (case hr => first | (go_simp; done) | (go_simp; rfl)); (case hp => exact (Reps.none _ _)); intro v102 w4 ho5 hb hg_ hnew_; clear hg_ hnew_; (first | rw [← Ny101.out] at ho5 | (simp only [Int.reduceToNat] at ho5; rw [← Ny101.out] at ho5)); have n0_ := Aside0.mk (Kd.R_lower ho5 (below_size (pH_ HB.out))); have n1_ := Aside0.mk (below_step (pH_ HB.out) hb); clear HB; have HO103 := n0_; have HB := n1_; clear n0_ n1_; clear hb ho5)))
 (try simp only [Act.put, List.setIfInBounds_toArray, List.set_cons_zero, List.set_cons_succ])
 go_cut [22] (fun v22 wc => ∃ (kq : Nat) (x22_2 : Bool), v22 = .bool x22_2 ∧ Aside0 (spec_ChangedItems.j0 kq l0 a1 y101 x22_2 = some (r1, r2)) ∧ Aside0 (kq ≤ k) ∧ Aside0 (Kd.R Kd.string 9 wc w.heap.size (fun _ => True) v102 y101) ∧ Aside0 (Below w.heap.size w wc))
 case first =>
  have H := HC3.out
  clear HC3
  replace H := Option.bind_eq_some_iff.mp H
  obtain ⟨t104, A60, H⟩ := H
  replace H : (if t104 = true then ((spec_l1In.f a1 0 (l0.length : Int)).bind fun t105 => (spec_ChangedItems.j0 k l0 a1 y101 (!t105))) else (spec_ChangedItems.j0 k l0 a1 y101 true)) = some (r1, r2) := H
  have A6 := Aside0.mk A60
  clear A60
  by_cases c7 : t104 = true
  ·subst c7
   have H1 : ((spec_l1In.f a1 0 (l0.length : Int)).bind fun t105 => (spec_ChangedItems.j0 k l0 a1 y101 (!t105))) = some (r1, r2) := by rw [if_pos rfl] at H; exact H
   clear H
   have H := H1
   clear H1
   replace H := Option.bind_eq_some_iff.mp H
   obtain ⟨t105, A80, H⟩ := H
   replace H : (spec_ChangedItems.j0 k l0 a1 y101 (!t105)) = some (r1, r2) := H
   have A8 := Aside0.mk A80
   clear A80
   have H' := Aside0.mk H
   clear H
   go_wp2_with (first | (go_at_call 88; (try simp only [i64_w, i32_w]); (with_reducible refine (spec_l21Good.calls k _ _ l0 true _ ?side1 ?side2 A6.out).mono ?_); (case side1 => repeat (first | exact (Kd.C_below HR0.out HB.out) | (with_reducible refine Kd.C_alloc ?_ _) | (with_reducible refine Kd.C_drewN ?_ _) | (with_reducible refine Kd.C_drew ?_))); (case side2 => exact HC0.out); rintro e w9 ⟨rfl, hb⟩; have n0_ := Aside0.mk (Kd.R_below (pR_ HO103.out) hb); have n1_ := Aside0.mk (below_step (pH_ HB.out) hb); clear HO103; clear HB; have HO103 := n0_; have HB := n1_; clear n0_ n1_; (try clear hb); (try clear hb2); (try clear hk); (try clear hi)) | (go_at_call 95; (try simp only [i64_w, i32_w]); (with_reducible refine (spec_l1In.calls a1 0 (l0.length : Int) t105 _ A8.out).mono ?_); rintro e w' ⟨rfl, ⟨nd, rfl⟩⟩; (try first | exact ⟨rfl, _, World.drewN_drewN _ _ _⟩ | exact ⟨rfl, _, Eq.trans (World.drewN_drewN _ _ _) (congrArg (World.drewN _) (Nat.add_assoc _ _ _))⟩)))
   repeat (go_quiet (first | (go_at_call 88; (try simp only [i64_w, i32_w]); (with_reducible refine (spec_l21Good.calls k _ _ l0 true _ ?side1 ?side2 A6.out).mono ?_); (case side1 => repeat (first | exact (Kd.C_below HR0.out HB.out) | (with_reducible refine Kd.C_alloc ?_ _) | (with_reducible refine Kd.C_drewN ?_ _) | (with_reducible refine Kd.C_drew ?_))); (case side2 => exact HC0.out); rintro e w9 ⟨rfl, hb⟩; have n0_ := Aside0.mk (Kd.R_below (pR_ HO103.out) hb); have n1_ := Aside0.mk (below_step (pH_ HB.out) hb); clear HO103; clear HB; have HO103 := n0_; have HB := n1_; clear n0_ n1_; (try clear hb); (try clear hb2); (try clear hk); (try clear hi)) | (go_at_call 95; (try simp only [i64_w, i32_w]); (with_reducible refine (spec_l1In.calls a1 0 (l0.length : Int) t105 _ A8.out).mono ?_); rintro e w' ⟨rfl, ⟨nd, rfl⟩⟩; (try first | exact ⟨rfl, _, World.drewN_drewN _ _ _⟩ | exact ⟨rfl, _, Eq.trans (World.drewN_drewN _ _ _) (congrArg (World.drewN _) (Nat.add_assoc _ _ _))⟩))); try go_wp2_with (first | (go_at_call 88; (try simp only [i64_w, i32_w]); (with_reducible refine (spec_l21Good.calls k _ _ l0 true _ ?side1 ?side2 A6.out).mono ?_); (case side1 => repeat (first | exact (Kd.C_below HR0.out HB.out) | (with_reducible refine Kd.C_alloc ?_ _) | (with_reducible refine Kd.C_drewN ?_ _) | (with_reducible refine Kd.C_drew ?_))); (case side2 => exact HC0.out); rintro e w9 ⟨rfl, hb⟩; have n0_ := Aside0.mk (Kd.R_below (pR_ HO103.out) hb); have n1_ := Aside0.mk (below_step (pH_ HB.out) hb); clear HO103; clear HB; have HO103 := n0_; have HB := n1_; clear n0_ n1_; (try clear hb); (try clear hb2); (try clear hk); (try clear hi)) | (go_at_call 95; (try simp only [i64_w, i32_w]); (with_reducible refine (spec_l1In.calls a1 0 (l0.length : Int) t105 _ A8.out).mono ?_); rintro e w' ⟨rfl, ⟨nd, rfl⟩⟩; (try first | exact ⟨rfl, _, World.drewN_drewN _ _ _⟩ | exact ⟨rfl, _, Eq.trans (World.drewN_drewN _ _ _) (congrArg (World.drewN _) (Nat.add_assoc _ _ _))⟩))))
   go_meet
   case rel => exact ⟨_, (!t105), (by first | rfl | (simp; done) | (simp [*]; done) | (simp [beq_nil_, bne_nil_]; done)), H', ⟨by first | omega | exact Nat.le_refl _⟩, ⟨by (with_reducible repeat (first | apply Kd.R_alloc | apply Kd.R_drewN | apply Kd.R_drew)); exact HO103.out⟩, ⟨by repeat (first | (with_reducible first | exact HB.out | apply below_alloc | apply pw_below_drewN | apply below_drew1) | exact HB.out)⟩⟩
  replace c7 := Bool.eq_false_iff.mpr c7
  subst c7
  have H1 : (spec_ChangedItems.j0 k l0 a1 y101 true) = some (r1, r2) := by rw [if_neg (show ¬ (false = true) by decide)] at H; exact H
  clear H
  have H := H1
  clear H1
  have H' := Aside0.mk H
  clear H
  go_wp2_with (first | (go_at_call 88; (try simp only [i64_w, i32_w]); (with_reducible refine (spec_l21Good.calls k _ _ l0 false _ ?side1 ?side2 A6.out).mono ?_); (case side1 => repeat (first | exact (Kd.C_below HR0.out HB.out) | (with_reducible refine Kd.C_alloc ?_ _) | (with_reducible refine Kd.C_drewN ?_ _) | (with_reducible refine Kd.C_drew ?_))); (case side2 => exact HC0.out); rintro e w10 ⟨rfl, hb⟩; have n0_ := Aside0.mk (Kd.R_below (pR_ HO103.out) hb); have n1_ := Aside0.mk (below_step (pH_ HB.out) hb); clear HO103; clear HB; have HO103 := n0_; have HB := n1_; clear n0_ n1_; (try clear hb); (try clear hb2); (try clear hk); (try clear hi)))
  repeat (go_quiet (first | (go_at_call 88; (try simp only [i64_w, i32_w]); (with_reducible refine (spec_l21Good.calls k _ _ l0 false _ ?side1 ?side2 A6.out).mono ?_); (case side1 => repeat (first | exact (Kd.C_below HR0.out HB.out) | (with_reducible refine Kd.C_alloc ?_ _) | (with_reducible refine Kd.C_drewN ?_ _) | (with_reducible refine Kd.C_drew ?_))); (case side2 => exact HC0.out); rintro e w10 ⟨rfl, hb⟩; have n0_ := Aside0.mk (Kd.R_below (pR_ HO103.out) hb); have n1_ := Aside0.mk (below_step (pH_ HB.out) hb); clear HO103; clear HB; have HO103 := n0_; have HB := n1_; clear n0_ n1_; (try clear hb); (try clear hb2); (try clear hk); (try clear hi))); try go_wp2_with (first | (go_at_call 88; (try simp only [i64_w, i32_w]); (with_reducible refine (spec_l21Good.calls k _ _ l0 false _ ?side1 ?side2 A6.out).mono ?_); (case side1 => repeat (first | exact (Kd.C_below HR0.out HB.out) | (with_reducible refine Kd.C_alloc ?_ _) | (with_reducible refine Kd.C_drewN ?_ _) | (with_reducible refine Kd.C_drew ?_))); (case side2 => exact HC0.out); rintro e w10 ⟨rfl, hb⟩; have n0_ := Aside0.mk (Kd.R_below (pR_ HO103.out) hb); have n1_ := Aside0.mk (below_step (pH_ HB.out) hb); clear HO103; clear HB; have HO103 := n0_; have HB := n1_; clear n0_ n1_; (try clear hb); (try clear hb2); (try clear hk); (try clear hi))))
  go_meet
  case rel => exact ⟨_, (true), (by first | rfl | (simp; done) | (simp [*]; done) | (simp [beq_nil_, bne_nil_]; done)), H', ⟨by first | omega | exact Nat.le_refl _⟩, ⟨by (with_reducible repeat (first | apply Kd.R_alloc | apply Kd.R_drewN | apply Kd.R_drew)); exact HO103.out⟩, ⟨by repeat (first | (with_reducible first | exact HB.out | apply below_alloc | apply pw_below_drewN | apply below_drew1) | exact HB.out)⟩⟩
 case rest =>
  clear HC3
  try clear p2
  try clear c6
  try clear c7
  obtain ⟨kq, x22_2, rfl, HA, HJ2, HO_6, HB⟩ := hcut
  cases kq with
  | zero => exact absurd HA.out (by simp [spec_ChangedItems.j0])
  | succ kj2 =>
   have H := HA.out
   clear HA
   simp only [spec_ChangedItems.j0] at H
   by_cases c11 : x22_2 = true
   ·subst c11
    have H1 : (some (y101, false)) = some (r1, r2) := by rw [if_pos rfl] at H; exact H
    clear H
    have H := H1
    clear H1
    simp only [Option.some.injEq, Prod.mk.injEq] at H
    obtain ⟨rfl, rfl⟩ := H
    go_wp2
    repeat (go_quiet (fail); try go_wp2)
    go_ret2
    exact ⟨_, by first | rfl | (simp [errW_none, errW_some] <;> rfl) | (simp [*, errW_none, errW_some] <;> rfl), by (with_reducible repeat (first | apply Kd.R_alloc | apply Kd.R_drewN | apply Kd.R_drew)); exact HO_6.out, by repeat (first | (with_reducible first | exact HB.out | apply below_alloc | apply pw_below_drewN | apply below_drew1) | exact HB.out)⟩
   replace c11 := Bool.eq_false_iff.mpr c11
   subst c11
   have H1 : (if 0 ≤ a1 then (if a1 ≤ (l0.length : Int) then ((spec_l21Play.f kj2 (l0.take (a1 : Int).toNat)).bind fun bt110 => ((spec_l21Play.f kj2 l0).bind fun bt114 => (spec_ChangedItems.l0 kj2 y101 bt110.1 bt114.1 0))) else (none)) else (none)) = some (r1, r2) := by rw [if_neg (show ¬ (false = true) by decide)] at H; exact H
   clear H
   have H := H1
   clear H1
   by_cases c12 : 0 ≤ a1
   ·rw [if_pos c12] at H
    have c12b0 := eq_true c12
    have c12b1 : decide (0 ≤ a1) = true := decide_eq_true c12
    clear c12
    by_cases c13 : a1 ≤ (l0.length : Int)
    ·rw [if_pos c13] at H
     have c13b0 := eq_true c13
     have c13b1 : decide (a1 ≤ (l0.length : Int)) = true := decide_eq_true c13
     clear c13
     obtain ⟨y106, hy106⟩ : ∃ y_ : List (S70), y_ = (l0.take (a1 : Int).toNat) := ⟨_, rfl⟩
     replace H : ((spec_l21Play.f kj2 y106).bind fun bt110 => ((spec_l21Play.f kj2 l0).bind fun bt114 => (spec_ChangedItems.l0 kj2 y101 bt110.1 bt114.1 0))) = some (r1, r2) := by first | (rw [hy106]; with_reducible exact H) | (have H2_ := (Option.bind_some _ _).symm.trans H; rw [hy106]; with_reducible exact H2_) | (have H2_ := (Option.bind_some _ _).symm.trans H; with_reducible exact H2_) | with_reducible exact H | (rw [hy106]; exact H) | exact H
     have Ny106 := Aside0.mk hy106
     clear hy106
     replace H := Option.bind_eq_some_iff.mp H
     obtain ⟨⟨t110, t111⟩, A140, H⟩ := H
     replace H : ((spec_l21Play.f kj2 l0).bind fun bt114 => (spec_ChangedItems.l0 kj2 y101 t110 bt114.1 0)) = some (r1, r2) := H
     have A14 := Aside0.mk A140
     clear A140
     replace H := Option.bind_eq_some_iff.mp H
     obtain ⟨⟨t114, t115⟩, A150, H⟩ := H
     replace H : (spec_ChangedItems.l0 kj2 y101 t110 t114 0) = some (r1, r2) := H
     have A15 := Aside0.mk A150
     clear A150
     have H' := Aside0.mk H
     clear H
     have q16 : (a1 : Int) ≤ ((l0.length : Int) : Int) := of_decide_eq_true (by first | (with_reducible assumption) | assumption)
     obtain ⟨i016, hi016, _, hsz16, _⟩ := info_parts info70
     have hroom16 : l0.length ≤ c0 := HC0.out
     have hC16 : Kd.C k70 _ A0 l0.length l0 := HR0.out
     have hcut16 := cut_to (P := Try.prog) 54 70 .i64 Try.underlying54 hi016 A0 l0.length c0 a1 (of_decide_eq_true (by first | (with_reducible assumption) | assumption)) q16 hroom16
     have hr16 := Kd.C_take (m := (a1 : Int).toNat) hC16 (by omega)
     have hy16 : y106.length = (a1 : Int).toNat := (by rw [Ny106.out, List.length_take]; omega)
     rw [← Ny106.out] at hr16
     rw [← hy16] at hcut16
     have HR109 := Aside0.mk hr16
     have HC109 := Aside0.mk (show y106.length ≤ c0 from by omega)
     clear hr16 hC16 hroom16 hi016 hsz16
     have KY16 := Aside0.mk hy16
     clear hy16
     replace q16 := eq_true q16
     go_wp2_with (first | (go_at_call 91; (try simp only [i64_w, i32_w]); (with_reducible refine (spec_l21Play.calls kj2 _ _ y106 t110 t111 _ ?side1 ?side2 A14.out).mono ?_); (case side1 => repeat (first | exact (Kd.C_below HR109.out HB.out) | (with_reducible refine Kd.C_alloc ?_ _) | (with_reducible refine Kd.C_drewN ?_ _) | (with_reducible refine Kd.C_drew ?_))); (case side2 => exact HC109.out); rintro e w17 ⟨v112, rfl, ho0, hb⟩; have n0_ := Aside0.mk (Kd.R_below (pR_ HO_6.out) hb); have n1_ := Aside0.mk (Kd.R_lower ho0 (below_size (pH_ HB.out))); have n2_ := Aside0.mk (below_step (pH_ HB.out) hb); clear HO_6; clear HB; have HO_6 := n0_; have HO113 := n1_; have HB := n2_; clear n0_ n1_ n2_; (try clear hb); (try clear hb2); (try clear hk); (try clear hi); (try clear ho0)) | (go_at_call 91; (try simp only [i64_w, i32_w]); (with_reducible refine (spec_l21Play.calls kj2 _ _ l0 t114 t115 _ ?side1 ?side2 A15.out).mono ?_); (case side1 => repeat (first | exact (Kd.C_below HR0.out HB.out) | (with_reducible refine Kd.C_alloc ?_ _) | (with_reducible refine Kd.C_drewN ?_ _) | (with_reducible refine Kd.C_drew ?_))); (case side2 => exact HC0.out); rintro e w18 ⟨v116, rfl, ho0, hb⟩; have n0_ := Aside0.mk (Kd.R_below (pR_ HO_6.out) hb); have n1_ := Aside0.mk (Kd.R_elder' (pR_ HO113.out) (Kd.R_base ho0) hb); have n2_ := Aside0.mk (Kd.R_lower (Kd.R_new' ho0 (Kd.R_lt (pR_ HO113.out))) (below_size (pH_ HB.out))); have n3_ := Aside0.mk (below_step (pH_ HB.out) hb); clear HO_6; clear HO113; clear HB; have HO_6 := n0_; have HO113 := n1_; have HO117 := n2_; have HB := n3_; clear n0_ n1_ n2_ n3_; (try clear hb); (try clear hb2); (try clear hk); (try clear hi); (try clear ho0)))
     repeat (go_quiet (first | (go_at_call 91; (try simp only [i64_w, i32_w]); (with_reducible refine (spec_l21Play.calls kj2 _ _ y106 t110 t111 _ ?side1 ?side2 A14.out).mono ?_); (case side1 => repeat (first | exact (Kd.C_below HR109.out HB.out) | (with_reducible refine Kd.C_alloc ?_ _) | (with_reducible refine Kd.C_drewN ?_ _) | (with_reducible refine Kd.C_drew ?_))); (case side2 => exact HC109.out); rintro e w17 ⟨v112, rfl, ho0, hb⟩; have n0_ := Aside0.mk (Kd.R_below (pR_ HO_6.out) hb); have n1_ := Aside0.mk (Kd.R_lower ho0 (below_size (pH_ HB.out))); have n2_ := Aside0.mk (below_step (pH_ HB.out) hb); clear HO_6; clear HB; have HO_6 := n0_; have HO113 := n1_; have HB := n2_; clear n0_ n1_ n2_; (try clear hb); (try clear hb2); (try clear hk); (try clear hi); (try clear ho0)) | (go_at_call 91; (try simp only [i64_w, i32_w]); (with_reducible refine (spec_l21Play.calls kj2 _ _ l0 t114 t115 _ ?side1 ?side2 A15.out).mono ?_); (case side1 => repeat (first | exact (Kd.C_below HR0.out HB.out) | (with_reducible refine Kd.C_alloc ?_ _) | (with_reducible refine Kd.C_drewN ?_ _) | (with_reducible refine Kd.C_drew ?_))); (case side2 => exact HC0.out); rintro e w18 ⟨v116, rfl, ho0, hb⟩; have n0_ := Aside0.mk (Kd.R_below (pR_ HO_6.out) hb); have n1_ := Aside0.mk (Kd.R_elder' (pR_ HO113.out) (Kd.R_base ho0) hb); have n2_ := Aside0.mk (Kd.R_lower (Kd.R_new' ho0 (Kd.R_lt (pR_ HO113.out))) (below_size (pH_ HB.out))); have n3_ := Aside0.mk (below_step (pH_ HB.out) hb); clear HO_6; clear HO113; clear HB; have HO_6 := n0_; have HO113 := n1_; have HO117 := n2_; have HB := n3_; clear n0_ n1_ n2_ n3_; (try clear hb); (try clear hb2); (try clear hk); (try clear hi); (try clear ho0))); try go_wp2_with (first | (go_at_call 91; (try simp only [i64_w, i32_w]); (with_reducible refine (spec_l21Play.calls kj2 _ _ y106 t110 t111 _ ?side1 ?side2 A14.out).mono ?_); (case side1 => repeat (first | exact (Kd.C_below HR109.out HB.out) | (with_reducible refine Kd.C_alloc ?_ _) | (with_reducible refine Kd.C_drewN ?_ _) | (with_reducible refine Kd.C_drew ?_))); (case side2 => exact HC109.out); rintro e w17 ⟨v112, rfl, ho0, hb⟩; have n0_ := Aside0.mk (Kd.R_below (pR_ HO_6.out) hb); have n1_ := Aside0.mk (Kd.R_lower ho0 (below_size (pH_ HB.out))); have n2_ := Aside0.mk (below_step (pH_ HB.out) hb); clear HO_6; clear HB; have HO_6 := n0_; have HO113 := n1_; have HB := n2_; clear n0_ n1_ n2_; (try clear hb); (try clear hb2); (try clear hk); (try clear hi); (try clear ho0)) | (go_at_call 91; (try simp only [i64_w, i32_w]); (with_reducible refine (spec_l21Play.calls kj2 _ _ l0 t114 t115 _ ?side1 ?side2 A15.out).mono ?_); (case side1 => repeat (first | exact (Kd.C_below HR0.out HB.out) | (with_reducible refine Kd.C_alloc ?_ _) | (with_reducible refine Kd.C_drewN ?_ _) | (with_reducible refine Kd.C_drew ?_))); (case side2 => exact HC0.out); rintro e w18 ⟨v116, rfl, ho0, hb⟩; have n0_ := Aside0.mk (Kd.R_below (pR_ HO_6.out) hb); have n1_ := Aside0.mk (Kd.R_elder' (pR_ HO113.out) (Kd.R_base ho0) hb); have n2_ := Aside0.mk (Kd.R_lower (Kd.R_new' ho0 (Kd.R_lt (pR_ HO113.out))) (below_size (pH_ HB.out))); have n3_ := Aside0.mk (below_step (pH_ HB.out) hb); clear HO_6; clear HO113; clear HB; have HO_6 := n0_; have HO113 := n1_; have HO117 := n2_; have HB := n3_; clear n0_ n1_ n2_ n3_; (try clear hb); (try clear hb2); (try clear hk); (try clear hi); (try clear ho0))))
     go_loopg [6, 11] kj2 (fun kq v6 v11 w' => ∃ (x6_2 : List ByteArray) (x11_2 : Int), v11 = .int .i64 x11_2 ∧ Aside0 (spec_ChangedItems.l0 kq x6_2 t110 t114 x11_2 = some (r1, r2)) ∧ Aside0 (kq ≤ kj2) ∧ Aside0 (Kd.R Kd.string 9 w' w.heap.size (fun _ => True) v6 x6_2) ∧ Aside0 (Kd.R k120 120 w' w.heap.size (fun k_ => some k_ ≠ (v116 : Value).ownBlock) v112 t110) ∧ Aside0 (Kd.R k120 120 w' w.heap.size (fun k_ => some k_ ≠ (v112 : Value).ownBlock) v116 t114) ∧ Aside0 (Below w.heap.size w w'))
     case atStart => exact ⟨(y101), (0), (by first | rfl | (simp; done) | (simp [*]; done) | (simp [beq_nil_, bne_nil_]; done)), H', ⟨Nat.le_refl _⟩, ⟨by (with_reducible repeat (first | apply Kd.R_alloc | apply Kd.R_drewN | apply Kd.R_drew)); exact HO_6.out⟩, ⟨by (with_reducible repeat (first | apply Kd.R_alloc | apply Kd.R_drewN | apply Kd.R_drew)); exact Kd.R_mono HO113.out (fun _ hk => hk.2)⟩, ⟨by (with_reducible repeat (first | apply Kd.R_alloc | apply Kd.R_drewN | apply Kd.R_drew)); exact Kd.R_mono HO117.out (fun _ hk => hk.2)⟩, ⟨by repeat (first | (with_reducible first | exact HB.out | apply below_alloc | apply pw_below_drewN | apply below_drew1) | exact HB.out)⟩⟩
     case round =>
      clear H'
      try clear c1
      try clear q1
      try clear p2
      try clear c6
      try clear c7
      try clear c11
      try clear c12
      try clear c12b0
      try clear c12b1
      try clear c13
      try clear c13b0
      try clear c13b1
      try clear q16
      try clear p2
      try clear q16
      obtain ⟨x6_2, x11_2, rfl, HA, HK2, HO_6, HO_7, HO_9, HB⟩ := hrel
      cases gk with
      | zero => exact absurd HA.out (by simp [spec_ChangedItems.l0])
      | succ k2 =>
       have H := HA.out
       clear HA
       simp only [spec_ChangedItems.l0] at H
       by_cases c19 : x11_2 < (t114.length : Int)
       ·rw [if_pos c19] at H
        have c19b0 : decide (x11_2 < (t114.length : Int)) = true := decide_eq_true c19
        clear c19
        by_cases c20 : x11_2 ≥ (t110.length : Int)
        ·rw [if_pos c20] at H
         have c20b0 : decide ((t110.length : Int) ≤ x11_2) = true := decide_eq_true c20
         clear c20
         by_cases c21 : 0 ≤ x11_2
         ·rw [if_pos c21] at H
          have c21b0 : decide (0 ≤ x11_2) = true := decide_eq_true c21
          clear c21
          by_cases c22 : x6_2.length < 8796093022208
          ·rw [if_pos c22] at H
           have LMc22 := Aside0.mk c22
           clear c22
           obtain ⟨y119, hy119⟩ : ∃ y_ : List ByteArray, y_ = (x6_2 ++ [(rd_T120 t114 x11_2).f0]) := ⟨_, rfl⟩
           replace H : (spec_ChangedItems.l0 k2 y119 t110 t114 (wrap64 (x11_2 + 1))) = some (r1, r2) := by first | (rw [hy119]; with_reducible exact H) | (have H2_ := (Option.bind_some _ _).symm.trans H; rw [hy119]; with_reducible exact H2_) | (have H2_ := (Option.bind_some _ _).symm.trans H; with_reducible exact H2_) | with_reducible exact H | (rw [hy119]; exact H) | exact H
           have Ny119 := Aside0.mk hy119
           clear hy119
           have H' := Aside0.mk H
           clear H
           obtain ⟨Ao23, co23, eo23⟩ := Kd.R_slice HO_9.out
           subst eo23
           obtain ⟨Ao24, co24, eo24⟩ := Kd.R_slice HO_7.out
           subst eo24
           have p118 : 0 ≤ (x11_2 : Int) := of_decide_eq_true (by first | (with_reducible assumption) | assumption)
           have q118 : x11_2 < (t114.length : Int) := of_decide_eq_true (by first | (with_reducible assumption) | assumption)
           obtain ⟨ad118, e118, hx118_0, hx118_1, hx118_2⟩ := at_T120 (Kd.R_reads' HO_9.out).2.2 x11_2 p118 q118
           cases e118
           replace p118 := eq_true p118
           replace q118 := eq_true q118
           go_wp2_with (first | ((with_reducible refine gate_builtin (b := .append) (xs := #[.tmp 57, .tmp 63]) rfl ?_); (try (refine gate_guard (by rfl) ?_; dsimp only)); at_builtin; refine Kd.R_append Kd.string (w0 := w) w.heap.size rfl (.tmp 57) (.tmp 63) 73 9 (.string ⟨#[]⟩) 16 rfl Try.underlying73 info9 rfl (by decide) (by omega) u6 x6_2 ((rd_T120 t114 x11_2).f0) [.string ((rd_T120 t114 x11_2).f0)] (fun _ => True) (fun _ => False) rfl rfl ?aP (fun _ hk => hk.elim) ?aF ?aO ?aB ?aS ?aL ?_; (case aP => exact rfl); (case aB => exact (pH_ HB.out)); (case aF => exact (fun _ _ => trivial)); (case aO => exact (pR_ HO_6.out)); (case aS => exact (below_size (pH_ HB.out))); (case aL => have := LMc22.out; omega); intro v120 w25 ho hb hg hat; rw [← Ny119.out] at ho; have n0_ := Aside0.mk (Kd.R_over' (pR_ HO_7.out) (Kd.R_typed (pR_ HO_6.out)) (by decide) hg); have n1_ := Aside0.mk (Kd.R_over' (pR_ HO_9.out) (Kd.R_typed (pR_ HO_6.out)) (by decide) hg); have n2_ := Aside0.mk (hb); have n3_ := Aside0.mk (ho); clear HO_7; clear HO_9; clear HB; clear HO_6; have HO_7 := n0_; have HO_9 := n1_; have HB := n2_; have HO121 := n3_; clear n0_ n1_ n2_ n3_; clear ho hb hg hat))
           repeat (go_quiet (first | ((with_reducible refine gate_builtin (b := .append) (xs := #[.tmp 57, .tmp 63]) rfl ?_); (try (refine gate_guard (by rfl) ?_; dsimp only)); at_builtin; refine Kd.R_append Kd.string (w0 := w) w.heap.size rfl (.tmp 57) (.tmp 63) 73 9 (.string ⟨#[]⟩) 16 rfl Try.underlying73 info9 rfl (by decide) (by omega) u6 x6_2 ((rd_T120 t114 x11_2).f0) [.string ((rd_T120 t114 x11_2).f0)] (fun _ => True) (fun _ => False) rfl rfl ?aP (fun _ hk => hk.elim) ?aF ?aO ?aB ?aS ?aL ?_; (case aP => exact rfl); (case aB => exact (pH_ HB.out)); (case aF => exact (fun _ _ => trivial)); (case aO => exact (pR_ HO_6.out)); (case aS => exact (below_size (pH_ HB.out))); (case aL => have := LMc22.out; omega); intro v120 w25 ho hb hg hat; rw [← Ny119.out] at ho; have n0_ := Aside0.mk (Kd.R_over' (pR_ HO_7.out) (Kd.R_typed (pR_ HO_6.out)) (by decide) hg); have n1_ := Aside0.mk (Kd.R_over' (pR_ HO_9.out) (Kd.R_typed (pR_ HO_6.out)) (by decide) hg); have n2_ := Aside0.mk (hb); have n3_ := Aside0.mk (ho); clear HO_7; clear HO_9; clear HB; clear HO_6; have HO_7 := n0_; have HO_9 := n1_; have HB := n2_; have HO121 := n3_; clear n0_ n1_ n2_ n3_; clear ho hb hg hat)); try go_wp2_with (first | ((with_reducible refine gate_builtin (b := .append) (xs := #[.tmp 57, .tmp 63]) rfl ?_); (try (refine gate_guard (by rfl) ?_; dsimp only)); at_builtin; refine Kd.R_append Kd.string (w0 := w) w.heap.size rfl (.tmp 57) (.tmp 63) 73 9 (.string ⟨#[]⟩) 16 rfl Try.underlying73 info9 rfl (by decide) (by omega) u6 x6_2 ((rd_T120 t114 x11_2).f0) [.string ((rd_T120 t114 x11_2).f0)] (fun _ => True) (fun _ => False) rfl rfl ?aP (fun _ hk => hk.elim) ?aF ?aO ?aB ?aS ?aL ?_; (case aP => exact rfl); (case aB => exact (pH_ HB.out)); (case aF => exact (fun _ _ => trivial)); (case aO => exact (pR_ HO_6.out)); (case aS => exact (below_size (pH_ HB.out))); (case aL => have := LMc22.out; omega); intro v120 w25 ho hb hg hat; rw [← Ny119.out] at ho; have n0_ := Aside0.mk (Kd.R_over' (pR_ HO_7.out) (Kd.R_typed (pR_ HO_6.out)) (by decide) hg); have n1_ := Aside0.mk (Kd.R_over' (pR_ HO_9.out) (Kd.R_typed (pR_ HO_6.out)) (by decide) hg); have n2_ := Aside0.mk (hb); have n3_ := Aside0.mk (ho); clear HO_7; clear HO_9; clear HB; clear HO_6; have HO_7 := n0_; have HO_9 := n1_; have HB := n2_; have HO121 := n3_; clear n0_ n1_ n2_ n3_; clear ho hb hg hat)))
           go_roundg k2
           case measure => have := HJ2.out; have := HK2.out; omega
           case rel => exact ⟨(y119), (wrap64 (x11_2 + 1)), (by first | rfl | (simp; done) | (simp [*]; done) | (simp [beq_nil_, bne_nil_]; done)), H', ⟨by have := HJ2.out; have := HK2.out; omega⟩, ⟨by (with_reducible repeat (first | apply Kd.R_alloc | apply Kd.R_drewN | apply Kd.R_drew)); exact HO121.out⟩, ⟨by (with_reducible repeat (first | apply Kd.R_alloc | apply Kd.R_drewN | apply Kd.R_drew)); exact HO_7.out⟩, ⟨by (with_reducible repeat (first | apply Kd.R_alloc | apply Kd.R_drewN | apply Kd.R_drew)); exact HO_9.out⟩, ⟨by repeat (first | (with_reducible first | exact HB.out | apply below_alloc | apply pw_below_drewN | apply below_drew1) | exact HB.out)⟩⟩
          rw [if_neg c22] at H
          exact absurd H (by simp)
         rw [if_neg c21] at H
         exact absurd H (by simp)
        rw [if_neg c20] at H
        have c20b0 : decide ((t110.length : Int) ≤ x11_2) = false := decide_eq_false c20
        clear c20
        by_cases c26 : 0 ≤ x11_2
        ·rw [if_pos c26] at H
         have c26b0 : decide (0 ≤ x11_2) = true := decide_eq_true c26
         clear c26
         by_cases c27 : x11_2 < (t110.length : Int)
         ·rw [if_pos c27] at H
          have c27b0 : decide (x11_2 < (t110.length : Int)) = true := decide_eq_true c27
          clear c27
          by_cases c28 : (!((((rd_T120 t110 x11_2).f0).toList) == (((rd_T120 t114 x11_2).f0).toList)) || (!((((rd_T120 t110 x11_2).f1).toList) == (((rd_T120 t114 x11_2).f1).toList)) || (!(((rd_T120 t110 x11_2).f2) == ((rd_T120 t114 x11_2).f2))))) = true
          ·rw [if_pos c28] at H
           have c28b0 : (!((((rd_T120 t110 x11_2).f0).toList) == (((rd_T120 t114 x11_2).f0).toList)) || (!((((rd_T120 t110 x11_2).f1).toList) == (((rd_T120 t114 x11_2).f1).toList)) || (!(((rd_T120 t110 x11_2).f2) == ((rd_T120 t114 x11_2).f2))))) = true := c28
           clear c28
           by_cases c29 : x6_2.length < 8796093022208
           ·rw [if_pos c29] at H
            have LMc29 := Aside0.mk c29
            clear c29
            obtain ⟨y125, hy125⟩ : ∃ y_ : List ByteArray, y_ = (x6_2 ++ [(rd_T120 t114 x11_2).f0]) := ⟨_, rfl⟩
            replace H : (spec_ChangedItems.l0 k2 y125 t110 t114 (wrap64 (x11_2 + 1))) = some (r1, r2) := by first | (rw [hy125]; with_reducible exact H) | (have H2_ := (Option.bind_some _ _).symm.trans H; rw [hy125]; with_reducible exact H2_) | (have H2_ := (Option.bind_some _ _).symm.trans H; with_reducible exact H2_) | with_reducible exact H | (rw [hy125]; exact H) | exact H
            have Ny125 := Aside0.mk hy125
            clear hy125
            have H' := Aside0.mk H
            clear H
            obtain ⟨Ao30, co30, eo30⟩ := Kd.R_slice HO_9.out
            subst eo30
            obtain ⟨Ao31, co31, eo31⟩ := Kd.R_slice HO_7.out
            subst eo31
            have p122 : 0 ≤ (x11_2 : Int) := of_decide_eq_true (by first | (with_reducible assumption) | assumption)
            have q122 : x11_2 < (t110.length : Int) := of_decide_eq_true (by first | (with_reducible assumption) | assumption)
            obtain ⟨ad122, e122, hx122_0, hx122_1, hx122_2⟩ := at_T120 (Kd.R_reads' HO_7.out).2.2 x11_2 p122 q122
            cases e122
            replace p122 := eq_true p122
            replace q122 := eq_true q122
            have p123 : 0 ≤ (x11_2 : Int) := of_decide_eq_true (by first | (with_reducible assumption) | assumption)
            have q123 : x11_2 < (t114.length : Int) := of_decide_eq_true (by first | (with_reducible assumption) | assumption)
            obtain ⟨ad123, e123, hx123_0, hx123_1, hx123_2⟩ := at_T120 (Kd.R_reads' HO_9.out).2.2 x11_2 p123 q123
            cases e123
            replace p123 := eq_true p123
            replace q123 := eq_true q123
            have p124 : 0 ≤ (x11_2 : Int) := of_decide_eq_true (by first | (with_reducible assumption) | assumption)
            have q124 : x11_2 < (t114.length : Int) := of_decide_eq_true (by first | (with_reducible assumption) | assumption)
            obtain ⟨ad124, e124, hx124_0, hx124_1, hx124_2⟩ := at_T120 (Kd.R_reads' HO_9.out).2.2 x11_2 p124 q124
            obtain rfl : ad123 = ad124 := (by injection e124)
            replace p124 := eq_true p124
            replace q124 := eq_true q124
            go_wp2_with (first | ((with_reducible refine gate_builtin (b := .append) (xs := #[.tmp 57, .tmp 63]) rfl ?_); (try (refine gate_guard (by rfl) ?_; dsimp only)); at_builtin; refine Kd.R_append Kd.string (w0 := w) w.heap.size rfl (.tmp 57) (.tmp 63) 73 9 (.string ⟨#[]⟩) 16 rfl Try.underlying73 info9 rfl (by decide) (by omega) u6 x6_2 ((rd_T120 t114 x11_2).f0) [.string ((rd_T120 t114 x11_2).f0)] (fun _ => True) (fun _ => False) rfl rfl ?aP (fun _ hk => hk.elim) ?aF ?aO ?aB ?aS ?aL ?_; (case aP => exact rfl); (case aB => exact (pH_ HB.out)); (case aF => exact (fun _ _ => trivial)); (case aO => exact (pR_ HO_6.out)); (case aS => exact (below_size (pH_ HB.out))); (case aL => have := LMc29.out; omega); intro v126 w32 ho hb hg hat; rw [← Ny125.out] at ho; have n0_ := Aside0.mk (Kd.R_over' (pR_ HO_7.out) (Kd.R_typed (pR_ HO_6.out)) (by decide) hg); have n1_ := Aside0.mk (Kd.R_over' (pR_ HO_9.out) (Kd.R_typed (pR_ HO_6.out)) (by decide) hg); have n2_ := Aside0.mk (hb); have n3_ := Aside0.mk (ho); clear HO_7; clear HO_9; clear HB; clear HO_6; have HO_7 := n0_; have HO_9 := n1_; have HB := n2_; have HO127 := n3_; clear n0_ n1_ n2_ n3_; clear ho hb hg hat))
            repeat (go_quiet (first | ((with_reducible refine gate_builtin (b := .append) (xs := #[.tmp 57, .tmp 63]) rfl ?_); (try (refine gate_guard (by rfl) ?_; dsimp only)); at_builtin; refine Kd.R_append Kd.string (w0 := w) w.heap.size rfl (.tmp 57) (.tmp 63) 73 9 (.string ⟨#[]⟩) 16 rfl Try.underlying73 info9 rfl (by decide) (by omega) u6 x6_2 ((rd_T120 t114 x11_2).f0) [.string ((rd_T120 t114 x11_2).f0)] (fun _ => True) (fun _ => False) rfl rfl ?aP (fun _ hk => hk.elim) ?aF ?aO ?aB ?aS ?aL ?_; (case aP => exact rfl); (case aB => exact (pH_ HB.out)); (case aF => exact (fun _ _ => trivial)); (case aO => exact (pR_ HO_6.out)); (case aS => exact (below_size (pH_ HB.out))); (case aL => have := LMc29.out; omega); intro v126 w32 ho hb hg hat; rw [← Ny125.out] at ho; have n0_ := Aside0.mk (Kd.R_over' (pR_ HO_7.out) (Kd.R_typed (pR_ HO_6.out)) (by decide) hg); have n1_ := Aside0.mk (Kd.R_over' (pR_ HO_9.out) (Kd.R_typed (pR_ HO_6.out)) (by decide) hg); have n2_ := Aside0.mk (hb); have n3_ := Aside0.mk (ho); clear HO_7; clear HO_9; clear HB; clear HO_6; have HO_7 := n0_; have HO_9 := n1_; have HB := n2_; have HO127 := n3_; clear n0_ n1_ n2_ n3_; clear ho hb hg hat)); try go_wp2_with (first | ((with_reducible refine gate_builtin (b := .append) (xs := #[.tmp 57, .tmp 63]) rfl ?_); (try (refine gate_guard (by rfl) ?_; dsimp only)); at_builtin; refine Kd.R_append Kd.string (w0 := w) w.heap.size rfl (.tmp 57) (.tmp 63) 73 9 (.string ⟨#[]⟩) 16 rfl Try.underlying73 info9 rfl (by decide) (by omega) u6 x6_2 ((rd_T120 t114 x11_2).f0) [.string ((rd_T120 t114 x11_2).f0)] (fun _ => True) (fun _ => False) rfl rfl ?aP (fun _ hk => hk.elim) ?aF ?aO ?aB ?aS ?aL ?_; (case aP => exact rfl); (case aB => exact (pH_ HB.out)); (case aF => exact (fun _ _ => trivial)); (case aO => exact (pR_ HO_6.out)); (case aS => exact (below_size (pH_ HB.out))); (case aL => have := LMc29.out; omega); intro v126 w32 ho hb hg hat; rw [← Ny125.out] at ho; have n0_ := Aside0.mk (Kd.R_over' (pR_ HO_7.out) (Kd.R_typed (pR_ HO_6.out)) (by decide) hg); have n1_ := Aside0.mk (Kd.R_over' (pR_ HO_9.out) (Kd.R_typed (pR_ HO_6.out)) (by decide) hg); have n2_ := Aside0.mk (hb); have n3_ := Aside0.mk (ho); clear HO_7; clear HO_9; clear HB; clear HO_6; have HO_7 := n0_; have HO_9 := n1_; have HB := n2_; have HO127 := n3_; clear n0_ n1_ n2_ n3_; clear ho hb hg hat)))
            go_roundg k2
            case measure => have := HJ2.out; have := HK2.out; omega
            case rel => exact ⟨(y125), (wrap64 (x11_2 + 1)), (by first | rfl | (simp; done) | (simp [*]; done) | (simp [beq_nil_, bne_nil_]; done)), H', ⟨by have := HJ2.out; have := HK2.out; omega⟩, ⟨by (with_reducible repeat (first | apply Kd.R_alloc | apply Kd.R_drewN | apply Kd.R_drew)); exact HO127.out⟩, ⟨by (with_reducible repeat (first | apply Kd.R_alloc | apply Kd.R_drewN | apply Kd.R_drew)); exact HO_7.out⟩, ⟨by (with_reducible repeat (first | apply Kd.R_alloc | apply Kd.R_drewN | apply Kd.R_drew)); exact HO_9.out⟩, ⟨by repeat (first | (with_reducible first | exact HB.out | apply below_alloc | apply pw_below_drewN | apply below_drew1) | exact HB.out)⟩⟩
           rw [if_neg c29] at H
           exact absurd H (by simp)
          rw [if_neg c28] at H
          have c28b0 : (!((((rd_T120 t110 x11_2).f0).toList) == (((rd_T120 t114 x11_2).f0).toList)) || (!((((rd_T120 t110 x11_2).f1).toList) == (((rd_T120 t114 x11_2).f1).toList)) || (!(((rd_T120 t110 x11_2).f2) == ((rd_T120 t114 x11_2).f2))))) = false := by simpa using c28
          clear c28
          have H' := Aside0.mk H
          clear H
          obtain ⟨Ao33, co33, eo33⟩ := Kd.R_slice HO_9.out
          subst eo33
          obtain ⟨Ao34, co34, eo34⟩ := Kd.R_slice HO_7.out
          subst eo34
          have p122 : 0 ≤ (x11_2 : Int) := of_decide_eq_true (by first | (with_reducible assumption) | assumption)
          have q122 : x11_2 < (t110.length : Int) := of_decide_eq_true (by first | (with_reducible assumption) | assumption)
          obtain ⟨ad122, e122, hx122_0, hx122_1, hx122_2⟩ := at_T120 (Kd.R_reads' HO_7.out).2.2 x11_2 p122 q122
          cases e122
          replace p122 := eq_true p122
          replace q122 := eq_true q122
          have p123 : 0 ≤ (x11_2 : Int) := of_decide_eq_true (by first | (with_reducible assumption) | assumption)
          have q123 : x11_2 < (t114.length : Int) := of_decide_eq_true (by first | (with_reducible assumption) | assumption)
          obtain ⟨ad123, e123, hx123_0, hx123_1, hx123_2⟩ := at_T120 (Kd.R_reads' HO_9.out).2.2 x11_2 p123 q123
          cases e123
          replace p123 := eq_true p123
          replace q123 := eq_true q123
          go_wp2
          repeat (go_quiet (fail); try go_wp2)
          go_roundg k2
          case measure => have := HJ2.out; have := HK2.out; omega
          case rel => exact ⟨(x6_2), (wrap64 (x11_2 + 1)), (by first | rfl | (simp; done) | (simp [*]; done) | (simp [beq_nil_, bne_nil_]; done)), H', ⟨by have := HJ2.out; have := HK2.out; omega⟩, ⟨by (with_reducible repeat (first | apply Kd.R_alloc | apply Kd.R_drewN | apply Kd.R_drew)); exact HO_6.out⟩, ⟨by (with_reducible repeat (first | apply Kd.R_alloc | apply Kd.R_drewN | apply Kd.R_drew)); exact HO_7.out⟩, ⟨by (with_reducible repeat (first | apply Kd.R_alloc | apply Kd.R_drewN | apply Kd.R_drew)); exact HO_9.out⟩, ⟨by repeat (first | (with_reducible first | exact HB.out | apply below_alloc | apply pw_below_drewN | apply below_drew1) | exact HB.out)⟩⟩
         rw [if_neg c27] at H
         exact absurd H (by simp)
        rw [if_neg c26] at H
        exact absurd H (by simp)
       rw [if_neg c19] at H
       have c19b0 : decide (x11_2 < (t114.length : Int)) = false := decide_eq_false c19
       clear c19
       simp only [Option.some.injEq, Prod.mk.injEq] at H
       obtain ⟨rfl, rfl⟩ := H
       obtain ⟨Ao35, co35, eo35⟩ := Kd.R_slice HO_9.out
       subst eo35
       go_wp2
       repeat (go_quiet (fail); try go_wp2)
       go_ret2
       exact ⟨_, by first | rfl | (simp [errW_none, errW_some] <;> rfl) | (simp [*, errW_none, errW_some] <;> rfl), by (with_reducible repeat (first | apply Kd.R_alloc | apply Kd.R_drewN | apply Kd.R_drew)); exact HO_6.out, by repeat (first | (with_reducible first | exact HB.out | apply below_alloc | apply pw_below_drewN | apply below_drew1) | exact HB.out)⟩
    rw [if_neg c13] at H
    exact absurd H (by simp)
   rw [if_neg c12] at H
   exact absurd H (by simp)
end
section
/-! ### impl_within: function 76 -/
def impl_within.f (a0 : Int) (a1 : Int) (a2 : Int) : Option (Bool) := if a0 ≥ a1 then (some (decide (a0 ≤ a2))) else (some false)
set_option maxHeartbeats 8000000 in
set_option maxRecDepth 100000 in
theorem impl_within.calls (a0 : Int) (a1 : Int) (a2 : Int) (r : Bool) (w : World) (h : impl_within.f a0 a1 a2 = some r) :
  Calls Try.prog 76 #[.int .i64 a0, .int .i64 a1, .int .i64 a2] w fun e w' => e = .returned (.bool r) ∧ Drawn0 w w' := by
 have H : (if a0 ≥ a1 then (some (decide (a0 ≤ a2))) else (some false)) = some r := h
 clear h
 by_cases c4 : a0 ≥ a1
 ·rw [if_pos c4] at H
  have c4b0 : decide (a1 ≤ a0) = true := decide_eq_true c4
  clear c4
  obtain rfl := Option.some.inj H
  go_enter Try.func76, Try.ntmps76
  go_wp2
  go_ret
  exact ⟨by first | rfl | (simp; done) | (simp [*]; done) | (simp [beq_nil_, bne_nil_]; done), by repeat (first | exact Drawn0.refl _ | apply Drawn0.step)⟩
 rw [if_neg c4] at H
 have c4b0 : decide (a1 ≤ a0) = false := decide_eq_false c4
 clear c4
 obtain rfl := Option.some.inj H
 go_enter Try.func76, Try.ntmps76
 go_wp2
 go_ret
 exact ⟨by first | rfl | (simp; done) | (simp [*]; done) | (simp [beq_nil_, bne_nil_]; done), by repeat (first | exact Drawn0.refl _ | apply Drawn0.step)⟩
end
section
/-! ### impl_isName: function 111 -/
def impl_isName.l0 : Nat → ByteArray → Int → Int → Option (Bool)
 | 0, _, _, _ => none
 | k + 1, x0, x7, x8 => if x8 < x7 then (if 0 ≤ x8 then (if x8 < (x0.size : Int) then (if (bt x0 x8) ≥ 97 then (if (bt x0 x8) ≥ 48 then (if ((bt x0 x8) ≤ 122) then (impl_isName.l0 k x0 x7 (wrap64 (x8 + 1))) else (if x8 = 0 then (some false) else (if ((bt x0 x8) ≤ 57) then (impl_isName.l0 k x0 x7 (wrap64 (x8 + 1))) else (some false)))) else (if ((bt x0 x8) ≤ 122) then (impl_isName.l0 k x0 x7 (wrap64 (x8 + 1))) else (if x8 = 0 then (some false) else (some false)))) else (if (bt x0 x8) ≥ 48 then (if x8 = 0 then (some false) else (if ((bt x0 x8) ≤ 57) then (impl_isName.l0 k x0 x7 (wrap64 (x8 + 1))) else (some false))) else (if x8 = 0 then (some false) else (some false)))) else (none)) else (none)) else ((impl_within.f (x0.size : Int) 1 8).bind fun t101 => (some t101))
def impl_isName.f (k : Nat) (a0 : ByteArray) : Option (Bool) := impl_isName.l0 k a0 (a0.size : Int) 0
theorem impl_isName.mono_l : ∀ k, (∀ y0 y1 y2, LeO (impl_isName.l0 k y0 y1 y2) (impl_isName.l0 (k + 1) y0 y1 y2))
 | 0 => fun _ _ _ r h => by simp [impl_isName.l0] at h
 | k + 1 => by
  have ih0 := impl_isName.mono_l k
  ·intro y0 y1 y2
   unfold impl_isName.l0
   repeat' first
   | (with_reducible exact ih0 _ _ _)
   | (with_reducible exact LeO.refl _)
   | (with_reducible exact LeO.none _)
   | (with_reducible refine LeO.ite ?_ ?_)
   | (with_reducible refine LeO.bind ?_ (fun _ => ?_))
   | exact ih0 _ _ _
   | exact LeO.none _
   | refine LeO.ite ?_ ?_
   | refine LeO.bind ?_ (fun _ => ?_)
theorem impl_isName.mono : ∀ a0 k, LeO (impl_isName.f k a0) (impl_isName.f (k + 1) a0) := by
 intro a0 k
 have ih0 := impl_isName.mono_l k
 unfold impl_isName.f
 repeat' first
   | (with_reducible exact ih0 _ _ _)
   | (with_reducible exact LeO.refl _)
   | (with_reducible exact LeO.none _)
   | (with_reducible refine LeO.ite ?_ ?_)
   | (with_reducible refine LeO.bind ?_ (fun _ => ?_))
   | exact ih0 _ _ _
   | exact LeO.none _
   | refine LeO.ite ?_ ?_
   | refine LeO.bind ?_ (fun _ => ?_)
set_option maxHeartbeats 8000000 in
set_option maxRecDepth 100000 in
theorem impl_isName.calls (k : Nat) (a0 : ByteArray) (r : Bool) (w : World) (h : impl_isName.f k a0 = some r) :
  Calls Try.prog 111 #[.string a0] w fun e w' => e = .returned (.bool r) ∧ Drawn0 w w' := by
 have H : (impl_isName.l0 k a0 (a0.size : Int) 0) = some r := h
 clear h
 have H' := Aside0.mk H
 clear H
 go_enter Try.func111, Try.ntmps111
 go_wp2
 go_loopg [8] k (fun kq v8 w' => ∃ (x8_1 : Int), v8 = .int .i64 x8_1 ∧ Aside0 (impl_isName.l0 kq a0 (a0.size : Int) x8_1 = some r) ∧ Aside0 (kq ≤ k) ∧ Drawn0 w w')
 case atStart => exact ⟨(0), (by first | rfl | (simp; done) | (simp [*]; done) | (simp [beq_nil_, bne_nil_]; done)), H', ⟨Nat.le_refl _⟩, by repeat (first | exact Drawn0.refl _ | apply Drawn0.step)⟩
 case round =>
  clear H'
  try clear c1
  obtain ⟨x8_1, rfl, HA, HK1, ⟨m1, rfl⟩⟩ := hrel
  cases gk with
  | zero => exact absurd HA.out (by simp [impl_isName.l0])
  | succ k1 =>
   have H := HA.out
   clear HA
   simp only [impl_isName.l0] at H
   by_cases c2 : x8_1 < (a0.size : Int)
   ·rw [if_pos c2] at H
    have c2b0 : decide (x8_1 < (a0.size : Int)) = true := decide_eq_true c2
    clear c2
    by_cases c3 : 0 ≤ x8_1
    ·rw [if_pos c3] at H
     have c3b0 : decide (0 ≤ x8_1) = true := decide_eq_true c3
     clear c3
     by_cases c4 : x8_1 < (a0.size : Int)
     ·rw [if_pos c4] at H
      have c4b0 : decide (x8_1 < (a0.size : Int)) = true := decide_eq_true c4
      clear c4
      by_cases c6 : (bt a0 x8_1) ≥ 97
      ·rw [if_pos c6] at H
       have c6b0 : decide (97 ≤ (bt a0 x8_1)) = true := decide_eq_true c6
       clear c6
       by_cases c9 : (bt a0 x8_1) ≥ 48
       ·rw [if_pos c9] at H
        have c9b0 : decide (48 ≤ (bt a0 x8_1)) = true := decide_eq_true c9
        clear c9
        by_cases c11 : ((bt a0 x8_1) ≤ 122)
        ·rw [if_pos c11] at H
         have c11b0 : decide ((bt a0 x8_1) ≤ 122) = true := decide_eq_true c11
         clear c11
         have H' := Aside0.mk H
         clear H
         have p5 : 0 ≤ (x8_1 : Int) := of_decide_eq_true (by first | (with_reducible assumption) | assumption)
         have q5 : x8_1 < (a0.size : Int) := of_decide_eq_true (by first | (with_reducible assumption) | assumption)
         have hx5 := bt_at a0 x8_1
         replace p5 := eq_true p5
         replace q5 := eq_true q5
         have p7 : 0 ≤ (x8_1 : Int) := of_decide_eq_true (by first | (with_reducible assumption) | assumption)
         have q7 : x8_1 < (a0.size : Int) := of_decide_eq_true (by first | (with_reducible assumption) | assumption)
         have hx7 := bt_at a0 x8_1
         replace p7 := eq_true p7
         replace q7 := eq_true q7
         have p8 : 0 ≤ (x8_1 : Int) := of_decide_eq_true (by first | (with_reducible assumption) | assumption)
         have q8 : x8_1 < (a0.size : Int) := of_decide_eq_true (by first | (with_reducible assumption) | assumption)
         have hx8 := bt_at a0 x8_1
         replace p8 := eq_true p8
         replace q8 := eq_true q8
         have p10 : 0 ≤ (x8_1 : Int) := of_decide_eq_true (by first | (with_reducible assumption) | assumption)
         have q10 : x8_1 < (a0.size : Int) := of_decide_eq_true (by first | (with_reducible assumption) | assumption)
         have hx10 := bt_at a0 x8_1
         replace p10 := eq_true p10
         replace q10 := eq_true q10
         go_wp2
         go_roundg k1
         case measure => have := HK1.out; omega
         case rel => exact ⟨(wrap64 (x8_1 + 1)), (by first | rfl | (simp; done) | (simp [*]; done) | (simp [beq_nil_, bne_nil_]; done)), H', ⟨by have := HK1.out; omega⟩, by repeat (first | exact Drawn0.refl _ | apply Drawn0.step)⟩
        rw [if_neg c11] at H
        have c11b0 : decide ((bt a0 x8_1) ≤ 122) = false := decide_eq_false c11
        clear c11
        by_cases c12 : x8_1 = 0
        ·rw [if_pos c12] at H
         have c12b0 : (x8_1 == 0) = true := beq_iff_eq.mpr c12
         have c12b1 : (x8_1 != 0) = false := bne_eq_false_iff_eq.mpr c12
         clear c12
         obtain rfl := Option.some.inj H
         have p5 : 0 ≤ (x8_1 : Int) := of_decide_eq_true (by first | (with_reducible assumption) | assumption)
         have q5 : x8_1 < (a0.size : Int) := of_decide_eq_true (by first | (with_reducible assumption) | assumption)
         have hx5 := bt_at a0 x8_1
         replace p5 := eq_true p5
         replace q5 := eq_true q5
         have p7 : 0 ≤ (x8_1 : Int) := of_decide_eq_true (by first | (with_reducible assumption) | assumption)
         have q7 : x8_1 < (a0.size : Int) := of_decide_eq_true (by first | (with_reducible assumption) | assumption)
         have hx7 := bt_at a0 x8_1
         replace p7 := eq_true p7
         replace q7 := eq_true q7
         have p8 : 0 ≤ (x8_1 : Int) := of_decide_eq_true (by first | (with_reducible assumption) | assumption)
         have q8 : x8_1 < (a0.size : Int) := of_decide_eq_true (by first | (with_reducible assumption) | assumption)
         have hx8 := bt_at a0 x8_1
         replace p8 := eq_true p8
         replace q8 := eq_true q8
         have p10 : 0 ≤ (x8_1 : Int) := of_decide_eq_true (by first | (with_reducible assumption) | assumption)
         have q10 : x8_1 < (a0.size : Int) := of_decide_eq_true (by first | (with_reducible assumption) | assumption)
         have hx10 := bt_at a0 x8_1
         replace p10 := eq_true p10
         replace q10 := eq_true q10
         go_wp2
         go_ret
         exact ⟨by first | rfl | (simp; done) | (simp [*]; done) | (simp [beq_nil_, bne_nil_]; done), by repeat (first | exact Drawn0.refl _ | apply Drawn0.step)⟩
        rw [if_neg c12] at H
        have c12b0 : (x8_1 == 0) = false := beq_eq_false_iff_ne.mpr c12
        have c12b1 : (x8_1 != 0) = true := bne_iff_ne.mpr c12
        by_cases c13 : ((bt a0 x8_1) ≤ 57)
        ·rw [if_pos c13] at H
         have c13b0 : decide ((bt a0 x8_1) ≤ 57) = true := decide_eq_true c13
         clear c13
         have H' := Aside0.mk H
         clear H
         have p5 : 0 ≤ (x8_1 : Int) := of_decide_eq_true (by first | (with_reducible assumption) | assumption)
         have q5 : x8_1 < (a0.size : Int) := of_decide_eq_true (by first | (with_reducible assumption) | assumption)
         have hx5 := bt_at a0 x8_1
         replace p5 := eq_true p5
         replace q5 := eq_true q5
         have p7 : 0 ≤ (x8_1 : Int) := of_decide_eq_true (by first | (with_reducible assumption) | assumption)
         have q7 : x8_1 < (a0.size : Int) := of_decide_eq_true (by first | (with_reducible assumption) | assumption)
         have hx7 := bt_at a0 x8_1
         replace p7 := eq_true p7
         replace q7 := eq_true q7
         have p8 : 0 ≤ (x8_1 : Int) := of_decide_eq_true (by first | (with_reducible assumption) | assumption)
         have q8 : x8_1 < (a0.size : Int) := of_decide_eq_true (by first | (with_reducible assumption) | assumption)
         have hx8 := bt_at a0 x8_1
         replace p8 := eq_true p8
         replace q8 := eq_true q8
         have p10 : 0 ≤ (x8_1 : Int) := of_decide_eq_true (by first | (with_reducible assumption) | assumption)
         have q10 : x8_1 < (a0.size : Int) := of_decide_eq_true (by first | (with_reducible assumption) | assumption)
         have hx10 := bt_at a0 x8_1
         replace p10 := eq_true p10
         replace q10 := eq_true q10
         go_wp2
         go_roundg k1
         case measure => have := HK1.out; omega
         case rel => exact ⟨(wrap64 (x8_1 + 1)), (by first | rfl | (simp; done) | (simp [*]; done) | (simp [beq_nil_, bne_nil_]; done)), H', ⟨by have := HK1.out; omega⟩, by repeat (first | exact Drawn0.refl _ | apply Drawn0.step)⟩
        rw [if_neg c13] at H
        have c13b0 : decide ((bt a0 x8_1) ≤ 57) = false := decide_eq_false c13
        clear c13
        obtain rfl := Option.some.inj H
        have p5 : 0 ≤ (x8_1 : Int) := of_decide_eq_true (by first | (with_reducible assumption) | assumption)
        have q5 : x8_1 < (a0.size : Int) := of_decide_eq_true (by first | (with_reducible assumption) | assumption)
        have hx5 := bt_at a0 x8_1
        replace p5 := eq_true p5
        replace q5 := eq_true q5
        have p7 : 0 ≤ (x8_1 : Int) := of_decide_eq_true (by first | (with_reducible assumption) | assumption)
        have q7 : x8_1 < (a0.size : Int) := of_decide_eq_true (by first | (with_reducible assumption) | assumption)
        have hx7 := bt_at a0 x8_1
        replace p7 := eq_true p7
        replace q7 := eq_true q7
        have p8 : 0 ≤ (x8_1 : Int) := of_decide_eq_true (by first | (with_reducible assumption) | assumption)
        have q8 : x8_1 < (a0.size : Int) := of_decide_eq_true (by first | (with_reducible assumption) | assumption)
        have hx8 := bt_at a0 x8_1
        replace p8 := eq_true p8
        replace q8 := eq_true q8
        have p10 : 0 ≤ (x8_1 : Int) := of_decide_eq_true (by first | (with_reducible assumption) | assumption)
        have q10 : x8_1 < (a0.size : Int) := of_decide_eq_true (by first | (with_reducible assumption) | assumption)
        have hx10 := bt_at a0 x8_1
        replace p10 := eq_true p10
        replace q10 := eq_true q10
        go_wp2
        go_ret
        exact ⟨by first | rfl | (simp; done) | (simp [*]; done) | (simp [beq_nil_, bne_nil_]; done), by repeat (first | exact Drawn0.refl _ | apply Drawn0.step)⟩
       rw [if_neg c9] at H
       have c9b0 : decide (48 ≤ (bt a0 x8_1)) = false := decide_eq_false c9
       clear c9
       by_cases c14 : ((bt a0 x8_1) ≤ 122)
       ·rw [if_pos c14] at H
        have c14b0 : decide ((bt a0 x8_1) ≤ 122) = true := decide_eq_true c14
        clear c14
        have H' := Aside0.mk H
        clear H
        have p5 : 0 ≤ (x8_1 : Int) := of_decide_eq_true (by first | (with_reducible assumption) | assumption)
        have q5 : x8_1 < (a0.size : Int) := of_decide_eq_true (by first | (with_reducible assumption) | assumption)
        have hx5 := bt_at a0 x8_1
        replace p5 := eq_true p5
        replace q5 := eq_true q5
        have p7 : 0 ≤ (x8_1 : Int) := of_decide_eq_true (by first | (with_reducible assumption) | assumption)
        have q7 : x8_1 < (a0.size : Int) := of_decide_eq_true (by first | (with_reducible assumption) | assumption)
        have hx7 := bt_at a0 x8_1
        replace p7 := eq_true p7
        replace q7 := eq_true q7
        have p8 : 0 ≤ (x8_1 : Int) := of_decide_eq_true (by first | (with_reducible assumption) | assumption)
        have q8 : x8_1 < (a0.size : Int) := of_decide_eq_true (by first | (with_reducible assumption) | assumption)
        have hx8 := bt_at a0 x8_1
        replace p8 := eq_true p8
        replace q8 := eq_true q8
        go_wp2
        go_roundg k1
        case measure => have := HK1.out; omega
        case rel => exact ⟨(wrap64 (x8_1 + 1)), (by first | rfl | (simp; done) | (simp [*]; done) | (simp [beq_nil_, bne_nil_]; done)), H', ⟨by have := HK1.out; omega⟩, by repeat (first | exact Drawn0.refl _ | apply Drawn0.step)⟩
       rw [if_neg c14] at H
       have c14b0 : decide ((bt a0 x8_1) ≤ 122) = false := decide_eq_false c14
       clear c14
       by_cases c15 : x8_1 = 0
       ·rw [if_pos c15] at H
        have c15b0 : (x8_1 == 0) = true := beq_iff_eq.mpr c15
        have c15b1 : (x8_1 != 0) = false := bne_eq_false_iff_eq.mpr c15
        clear c15
        obtain rfl := Option.some.inj H
        have p5 : 0 ≤ (x8_1 : Int) := of_decide_eq_true (by first | (with_reducible assumption) | assumption)
        have q5 : x8_1 < (a0.size : Int) := of_decide_eq_true (by first | (with_reducible assumption) | assumption)
        have hx5 := bt_at a0 x8_1
        replace p5 := eq_true p5
        replace q5 := eq_true q5
        have p7 : 0 ≤ (x8_1 : Int) := of_decide_eq_true (by first | (with_reducible assumption) | assumption)
        have q7 : x8_1 < (a0.size : Int) := of_decide_eq_true (by first | (with_reducible assumption) | assumption)
        have hx7 := bt_at a0 x8_1
        replace p7 := eq_true p7
        replace q7 := eq_true q7
        have p8 : 0 ≤ (x8_1 : Int) := of_decide_eq_true (by first | (with_reducible assumption) | assumption)
        have q8 : x8_1 < (a0.size : Int) := of_decide_eq_true (by first | (with_reducible assumption) | assumption)
        have hx8 := bt_at a0 x8_1
        replace p8 := eq_true p8
        replace q8 := eq_true q8
        go_wp2
        go_ret
        exact ⟨by first | rfl | (simp; done) | (simp [*]; done) | (simp [beq_nil_, bne_nil_]; done), by repeat (first | exact Drawn0.refl _ | apply Drawn0.step)⟩
       rw [if_neg c15] at H
       have c15b0 : (x8_1 == 0) = false := beq_eq_false_iff_ne.mpr c15
       have c15b1 : (x8_1 != 0) = true := bne_iff_ne.mpr c15
       obtain rfl := Option.some.inj H
       have p5 : 0 ≤ (x8_1 : Int) := of_decide_eq_true (by first | (with_reducible assumption) | assumption)
       have q5 : x8_1 < (a0.size : Int) := of_decide_eq_true (by first | (with_reducible assumption) | assumption)
       have hx5 := bt_at a0 x8_1
       replace p5 := eq_true p5
       replace q5 := eq_true q5
       have p7 : 0 ≤ (x8_1 : Int) := of_decide_eq_true (by first | (with_reducible assumption) | assumption)
       have q7 : x8_1 < (a0.size : Int) := of_decide_eq_true (by first | (with_reducible assumption) | assumption)
       have hx7 := bt_at a0 x8_1
       replace p7 := eq_true p7
       replace q7 := eq_true q7
       have p8 : 0 ≤ (x8_1 : Int) := of_decide_eq_true (by first | (with_reducible assumption) | assumption)
       have q8 : x8_1 < (a0.size : Int) := of_decide_eq_true (by first | (with_reducible assumption) | assumption)
       have hx8 := bt_at a0 x8_1
       replace p8 := eq_true p8
       replace q8 := eq_true q8
       go_wp2
       go_ret
       exact ⟨by first | rfl | (simp; done) | (simp [*]; done) | (simp [beq_nil_, bne_nil_]; done), by repeat (first | exact Drawn0.refl _ | apply Drawn0.step)⟩
      rw [if_neg c6] at H
      have c6b0 : decide (97 ≤ (bt a0 x8_1)) = false := decide_eq_false c6
      clear c6
      by_cases c17 : (bt a0 x8_1) ≥ 48
      ·rw [if_pos c17] at H
       have c17b0 : decide (48 ≤ (bt a0 x8_1)) = true := decide_eq_true c17
       clear c17
       by_cases c19 : x8_1 = 0
       ·rw [if_pos c19] at H
        have c19b0 : (x8_1 == 0) = true := beq_iff_eq.mpr c19
        have c19b1 : (x8_1 != 0) = false := bne_eq_false_iff_eq.mpr c19
        clear c19
        obtain rfl := Option.some.inj H
        have p5 : 0 ≤ (x8_1 : Int) := of_decide_eq_true (by first | (with_reducible assumption) | assumption)
        have q5 : x8_1 < (a0.size : Int) := of_decide_eq_true (by first | (with_reducible assumption) | assumption)
        have hx5 := bt_at a0 x8_1
        replace p5 := eq_true p5
        replace q5 := eq_true q5
        have p16 : 0 ≤ (x8_1 : Int) := of_decide_eq_true (by first | (with_reducible assumption) | assumption)
        have q16 : x8_1 < (a0.size : Int) := of_decide_eq_true (by first | (with_reducible assumption) | assumption)
        have hx16 := bt_at a0 x8_1
        replace p16 := eq_true p16
        replace q16 := eq_true q16
        have p18 : 0 ≤ (x8_1 : Int) := of_decide_eq_true (by first | (with_reducible assumption) | assumption)
        have q18 : x8_1 < (a0.size : Int) := of_decide_eq_true (by first | (with_reducible assumption) | assumption)
        have hx18 := bt_at a0 x8_1
        replace p18 := eq_true p18
        replace q18 := eq_true q18
        go_wp2
        go_ret
        exact ⟨by first | rfl | (simp; done) | (simp [*]; done) | (simp [beq_nil_, bne_nil_]; done), by repeat (first | exact Drawn0.refl _ | apply Drawn0.step)⟩
       rw [if_neg c19] at H
       have c19b0 : (x8_1 == 0) = false := beq_eq_false_iff_ne.mpr c19
       have c19b1 : (x8_1 != 0) = true := bne_iff_ne.mpr c19
       by_cases c20 : ((bt a0 x8_1) ≤ 57)
       ·rw [if_pos c20] at H
        have c20b0 : decide ((bt a0 x8_1) ≤ 57) = true := decide_eq_true c20
        clear c20
        have H' := Aside0.mk H
        clear H
        have p5 : 0 ≤ (x8_1 : Int) := of_decide_eq_true (by first | (with_reducible assumption) | assumption)
        have q5 : x8_1 < (a0.size : Int) := of_decide_eq_true (by first | (with_reducible assumption) | assumption)
        have hx5 := bt_at a0 x8_1
        replace p5 := eq_true p5
        replace q5 := eq_true q5
        have p16 : 0 ≤ (x8_1 : Int) := of_decide_eq_true (by first | (with_reducible assumption) | assumption)
        have q16 : x8_1 < (a0.size : Int) := of_decide_eq_true (by first | (with_reducible assumption) | assumption)
        have hx16 := bt_at a0 x8_1
        replace p16 := eq_true p16
        replace q16 := eq_true q16
        have p18 : 0 ≤ (x8_1 : Int) := of_decide_eq_true (by first | (with_reducible assumption) | assumption)
        have q18 : x8_1 < (a0.size : Int) := of_decide_eq_true (by first | (with_reducible assumption) | assumption)
        have hx18 := bt_at a0 x8_1
        replace p18 := eq_true p18
        replace q18 := eq_true q18
        go_wp2
        go_roundg k1
        case measure => have := HK1.out; omega
        case rel => exact ⟨(wrap64 (x8_1 + 1)), (by first | rfl | (simp; done) | (simp [*]; done) | (simp [beq_nil_, bne_nil_]; done)), H', ⟨by have := HK1.out; omega⟩, by repeat (first | exact Drawn0.refl _ | apply Drawn0.step)⟩
       rw [if_neg c20] at H
       have c20b0 : decide ((bt a0 x8_1) ≤ 57) = false := decide_eq_false c20
       clear c20
       obtain rfl := Option.some.inj H
       have p5 : 0 ≤ (x8_1 : Int) := of_decide_eq_true (by first | (with_reducible assumption) | assumption)
       have q5 : x8_1 < (a0.size : Int) := of_decide_eq_true (by first | (with_reducible assumption) | assumption)
       have hx5 := bt_at a0 x8_1
       replace p5 := eq_true p5
       replace q5 := eq_true q5
       have p16 : 0 ≤ (x8_1 : Int) := of_decide_eq_true (by first | (with_reducible assumption) | assumption)
       have q16 : x8_1 < (a0.size : Int) := of_decide_eq_true (by first | (with_reducible assumption) | assumption)
       have hx16 := bt_at a0 x8_1
       replace p16 := eq_true p16
       replace q16 := eq_true q16
       have p18 : 0 ≤ (x8_1 : Int) := of_decide_eq_true (by first | (with_reducible assumption) | assumption)
       have q18 : x8_1 < (a0.size : Int) := of_decide_eq_true (by first | (with_reducible assumption) | assumption)
       have hx18 := bt_at a0 x8_1
       replace p18 := eq_true p18
       replace q18 := eq_true q18
       go_wp2
       go_ret
       exact ⟨by first | rfl | (simp; done) | (simp [*]; done) | (simp [beq_nil_, bne_nil_]; done), by repeat (first | exact Drawn0.refl _ | apply Drawn0.step)⟩
      rw [if_neg c17] at H
      have c17b0 : decide (48 ≤ (bt a0 x8_1)) = false := decide_eq_false c17
      clear c17
      by_cases c21 : x8_1 = 0
      ·rw [if_pos c21] at H
       have c21b0 : (x8_1 == 0) = true := beq_iff_eq.mpr c21
       have c21b1 : (x8_1 != 0) = false := bne_eq_false_iff_eq.mpr c21
       clear c21
       obtain rfl := Option.some.inj H
       have p5 : 0 ≤ (x8_1 : Int) := of_decide_eq_true (by first | (with_reducible assumption) | assumption)
       have q5 : x8_1 < (a0.size : Int) := of_decide_eq_true (by first | (with_reducible assumption) | assumption)
       have hx5 := bt_at a0 x8_1
       replace p5 := eq_true p5
       replace q5 := eq_true q5
       have p16 : 0 ≤ (x8_1 : Int) := of_decide_eq_true (by first | (with_reducible assumption) | assumption)
       have q16 : x8_1 < (a0.size : Int) := of_decide_eq_true (by first | (with_reducible assumption) | assumption)
       have hx16 := bt_at a0 x8_1
       replace p16 := eq_true p16
       replace q16 := eq_true q16
       go_wp2
       go_ret
       exact ⟨by first | rfl | (simp; done) | (simp [*]; done) | (simp [beq_nil_, bne_nil_]; done), by repeat (first | exact Drawn0.refl _ | apply Drawn0.step)⟩
      rw [if_neg c21] at H
      have c21b0 : (x8_1 == 0) = false := beq_eq_false_iff_ne.mpr c21
      have c21b1 : (x8_1 != 0) = true := bne_iff_ne.mpr c21
      obtain rfl := Option.some.inj H
      have p5 : 0 ≤ (x8_1 : Int) := of_decide_eq_true (by first | (with_reducible assumption) | assumption)
      have q5 : x8_1 < (a0.size : Int) := of_decide_eq_true (by first | (with_reducible assumption) | assumption)
      have hx5 := bt_at a0 x8_1
      replace p5 := eq_true p5
      replace q5 := eq_true q5
      have p16 : 0 ≤ (x8_1 : Int) := of_decide_eq_true (by first | (with_reducible assumption) | assumption)
      have q16 : x8_1 < (a0.size : Int) := of_decide_eq_true (by first | (with_reducible assumption) | assumption)
      have hx16 := bt_at a0 x8_1
      replace p16 := eq_true p16
      replace q16 := eq_true q16
      go_wp2
      go_ret
      exact ⟨by first | rfl | (simp; done) | (simp [*]; done) | (simp [beq_nil_, bne_nil_]; done), by repeat (first | exact Drawn0.refl _ | apply Drawn0.step)⟩
     rw [if_neg c4] at H
     exact absurd H (by simp)
    rw [if_neg c3] at H
    exact absurd H (by simp)
   rw [if_neg c2] at H
   have c2b0 : decide (x8_1 < (a0.size : Int)) = false := decide_eq_false c2
   clear c2
   replace H := Option.bind_eq_some_iff.mp H
   obtain ⟨t101, A220, H⟩ := H
   replace H : (some t101) = some r := H
   have A22 := Aside0.mk A220
   clear A220
   obtain rfl := Option.some.inj H
   go_wp2_with (first | ((with_reducible refine gate_callee (f := 76) rfl ?_); refine goesL_ (some 44) rfl rfl Try.func76 (by kernel_rfl) rfl #[.int .i64 (a0.size : Int), .int .i64 1, .int .i64 8] rfl (by (try simp only [List.map_toArray, List.map_cons, List.map_nil]); first | done | rfl | (simp only [List.length_drop, List.length_take]; rfl)) ?_; (with_reducible refine (impl_within.calls (a0.size : Int) 1 8 t101 _ A22.out).mono ?_); rintro e w' ⟨rfl, ⟨nd, rfl⟩⟩; refine ⟨_, rfl, ?_⟩))
   go_ret
   exact ⟨by first | rfl | (simp; done) | (simp [*]; done) | (simp [beq_nil_, bne_nil_]; done), by repeat (first | exact Drawn0.refl _ | apply Drawn0.step)⟩
end
section
/-! ### impl_isText: function 113 -/
def impl_isText.l0 : Nat → ByteArray → Int → Int → Option (Bool)
 | 0, _, _, _ => none
 | k + 1, x0, x5, x6 => if x6 < x5 then (if 0 ≤ x6 then (if x6 < (x0.size : Int) then (if (bt x0 x6) < 32 then (some false) else (if (bt x0 x6) > 126 then (some false) else (impl_isText.l0 k x0 x5 (wrap64 (x6 + 1))))) else (none)) else (none)) else (some (decide ((x0.size : Int) ≤ 40)))
def impl_isText.f (k : Nat) (a0 : ByteArray) : Option (Bool) := impl_isText.l0 k a0 (a0.size : Int) 0
theorem impl_isText.mono_l : ∀ k, (∀ y0 y1 y2, LeO (impl_isText.l0 k y0 y1 y2) (impl_isText.l0 (k + 1) y0 y1 y2))
 | 0 => fun _ _ _ r h => by simp [impl_isText.l0] at h
 | k + 1 => by
  have ih0 := impl_isText.mono_l k
  ·intro y0 y1 y2
   unfold impl_isText.l0
   repeat' first
   | (with_reducible exact ih0 _ _ _)
   | (with_reducible exact LeO.refl _)
   | (with_reducible exact LeO.none _)
   | (with_reducible refine LeO.ite ?_ ?_)
   | (with_reducible refine LeO.bind ?_ (fun _ => ?_))
   | exact ih0 _ _ _
   | exact LeO.none _
   | refine LeO.ite ?_ ?_
   | refine LeO.bind ?_ (fun _ => ?_)
theorem impl_isText.mono : ∀ a0 k, LeO (impl_isText.f k a0) (impl_isText.f (k + 1) a0) := by
 intro a0 k
 have ih0 := impl_isText.mono_l k
 unfold impl_isText.f
 repeat' first
   | (with_reducible exact ih0 _ _ _)
   | (with_reducible exact LeO.refl _)
   | (with_reducible exact LeO.none _)
   | (with_reducible refine LeO.ite ?_ ?_)
   | (with_reducible refine LeO.bind ?_ (fun _ => ?_))
   | exact ih0 _ _ _
   | exact LeO.none _
   | refine LeO.ite ?_ ?_
   | refine LeO.bind ?_ (fun _ => ?_)
set_option maxHeartbeats 8000000 in
set_option maxRecDepth 100000 in
theorem impl_isText.calls (k : Nat) (a0 : ByteArray) (r : Bool) (w : World) (h : impl_isText.f k a0 = some r) :
  Calls Try.prog 113 #[.string a0] w fun e w' => e = .returned (.bool r) ∧ Drawn0 w w' := by
 have H : (impl_isText.l0 k a0 (a0.size : Int) 0) = some r := h
 clear h
 have H' := Aside0.mk H
 clear H
 go_enter Try.func113, Try.ntmps113
 go_wp2
 go_loopg [6] k (fun kq v6 w' => ∃ (x6_1 : Int), v6 = .int .i64 x6_1 ∧ Aside0 (impl_isText.l0 kq a0 (a0.size : Int) x6_1 = some r) ∧ Aside0 (kq ≤ k) ∧ Drawn0 w w')
 case atStart => exact ⟨(0), (by first | rfl | (simp; done) | (simp [*]; done) | (simp [beq_nil_, bne_nil_]; done)), H', ⟨Nat.le_refl _⟩, by repeat (first | exact Drawn0.refl _ | apply Drawn0.step)⟩
 case round =>
  clear H'
  try clear c1
  obtain ⟨x6_1, rfl, HA, HK1, ⟨m1, rfl⟩⟩ := hrel
  cases gk with
  | zero => exact absurd HA.out (by simp [impl_isText.l0])
  | succ k1 =>
   have H := HA.out
   clear HA
   simp only [impl_isText.l0] at H
   by_cases c2 : x6_1 < (a0.size : Int)
   ·rw [if_pos c2] at H
    have c2b0 : decide (x6_1 < (a0.size : Int)) = true := decide_eq_true c2
    clear c2
    by_cases c3 : 0 ≤ x6_1
    ·rw [if_pos c3] at H
     have c3b0 : decide (0 ≤ x6_1) = true := decide_eq_true c3
     clear c3
     by_cases c4 : x6_1 < (a0.size : Int)
     ·rw [if_pos c4] at H
      have c4b0 : decide (x6_1 < (a0.size : Int)) = true := decide_eq_true c4
      clear c4
      by_cases c6 : (bt a0 x6_1) < 32
      ·rw [if_pos c6] at H
       have c6b0 : decide ((bt a0 x6_1) < 32) = true := decide_eq_true c6
       clear c6
       obtain rfl := Option.some.inj H
       have p5 : 0 ≤ (x6_1 : Int) := of_decide_eq_true (by first | (with_reducible assumption) | assumption)
       have q5 : x6_1 < (a0.size : Int) := of_decide_eq_true (by first | (with_reducible assumption) | assumption)
       have hx5 := bt_at a0 x6_1
       replace p5 := eq_true p5
       replace q5 := eq_true q5
       go_wp2
       go_ret
       exact ⟨by first | rfl | (simp; done) | (simp [*]; done) | (simp [beq_nil_, bne_nil_]; done), by repeat (first | exact Drawn0.refl _ | apply Drawn0.step)⟩
      rw [if_neg c6] at H
      have c6b0 : decide ((bt a0 x6_1) < 32) = false := decide_eq_false c6
      clear c6
      by_cases c8 : (bt a0 x6_1) > 126
      ·rw [if_pos c8] at H
       have c8b0 : decide (126 < (bt a0 x6_1)) = true := decide_eq_true c8
       clear c8
       obtain rfl := Option.some.inj H
       have p5 : 0 ≤ (x6_1 : Int) := of_decide_eq_true (by first | (with_reducible assumption) | assumption)
       have q5 : x6_1 < (a0.size : Int) := of_decide_eq_true (by first | (with_reducible assumption) | assumption)
       have hx5 := bt_at a0 x6_1
       replace p5 := eq_true p5
       replace q5 := eq_true q5
       have p7 : 0 ≤ (x6_1 : Int) := of_decide_eq_true (by first | (with_reducible assumption) | assumption)
       have q7 : x6_1 < (a0.size : Int) := of_decide_eq_true (by first | (with_reducible assumption) | assumption)
       have hx7 := bt_at a0 x6_1
       replace p7 := eq_true p7
       replace q7 := eq_true q7
       go_wp2
       go_ret
       exact ⟨by first | rfl | (simp; done) | (simp [*]; done) | (simp [beq_nil_, bne_nil_]; done), by repeat (first | exact Drawn0.refl _ | apply Drawn0.step)⟩
      rw [if_neg c8] at H
      have c8b0 : decide (126 < (bt a0 x6_1)) = false := decide_eq_false c8
      clear c8
      have H' := Aside0.mk H
      clear H
      have p5 : 0 ≤ (x6_1 : Int) := of_decide_eq_true (by first | (with_reducible assumption) | assumption)
      have q5 : x6_1 < (a0.size : Int) := of_decide_eq_true (by first | (with_reducible assumption) | assumption)
      have hx5 := bt_at a0 x6_1
      replace p5 := eq_true p5
      replace q5 := eq_true q5
      have p7 : 0 ≤ (x6_1 : Int) := of_decide_eq_true (by first | (with_reducible assumption) | assumption)
      have q7 : x6_1 < (a0.size : Int) := of_decide_eq_true (by first | (with_reducible assumption) | assumption)
      have hx7 := bt_at a0 x6_1
      replace p7 := eq_true p7
      replace q7 := eq_true q7
      go_wp2
      go_roundg k1
      case measure => have := HK1.out; omega
      case rel => exact ⟨(wrap64 (x6_1 + 1)), (by first | rfl | (simp; done) | (simp [*]; done) | (simp [beq_nil_, bne_nil_]; done)), H', ⟨by have := HK1.out; omega⟩, by repeat (first | exact Drawn0.refl _ | apply Drawn0.step)⟩
     rw [if_neg c4] at H
     exact absurd H (by simp)
    rw [if_neg c3] at H
    exact absurd H (by simp)
   rw [if_neg c2] at H
   have c2b0 : decide (x6_1 < (a0.size : Int)) = false := decide_eq_false c2
   clear c2
   obtain rfl := Option.some.inj H
   go_wp2
   go_ret
   exact ⟨by first | rfl | (simp; done) | (simp [*]; done) | (simp [beq_nil_, bne_nil_]; done), by repeat (first | exact Drawn0.refl _ | apply Drawn0.step)⟩
end
section
/-! ### impl_replayed_1_c: function 114 -/
def impl_replayed_1_c.f (a0_0 : ByteArray) (a0_1 : ByteArray) (a0_2 : Bool) (a1_0_0 : Int) (a1_0_1 : ByteArray) (a1_0_2 : ByteArray) : Option (Bool) := some (a0_0.toList == a1_0_1.toList)
set_option maxHeartbeats 8000000 in
set_option maxRecDepth 100000 in
theorem impl_replayed_1_c.calls (a0_0 : ByteArray) (a0_1 : ByteArray) (a0_2 : Bool) (gk28 : Nat) (a1_0_0 : Int) (a1_0_1 : ByteArray) (a1_0_2 : ByteArray) (r : Bool) (w : World) (hbk28 : w.heap[gk28]? = some (.cells #[.int .i64 a1_0_0, .string a1_0_1, .string a1_0_2] 70 (0, 0))) (h : impl_replayed_1_c.f a0_0 a0_1 a0_2 a1_0_0 a1_0_1 a1_0_2 = some r) :
  Calls Try.prog 114 #[.agg #[.string a0_0, .string a0_1, .bool a0_2], .pointer (some ⟨gk28, 0, none⟩)] w fun e w' => e = .returned (.bool r) ∧ Below w.heap.size w w' := by
 have hu123 := Try.underlying123
 have BK28 := Aside0.mk hbk28
 clear hbk28
 have HB := Aside0.mk (Below.refl w.heap.size w)
 have H : (some (a0_0.toList == a1_0_1.toList)) = some r := h
 clear h
 obtain rfl := Option.some.inj H
 go_enter Try.func114, Try.ntmps114
 go_wp2_with (first | ((with_reducible refine gate_dst (N := 2) rfl ?_); refine box_event ?hg (N := 2) ?hd (cs := #[.string a0_0, .string a0_1, .bool a0_2]) (t := 123) ?hr ?_; (case hd => rfl); (case hg => rfl); (case hr => first | (go_simp; done) | (go_simp; rfl)); intro gb101 hg w3 hbox hb; have n0_ := Aside0.mk (blk_below (g := gk28) (o := .cells #[.int .i64 a1_0_0, .string a1_0_1, .string a1_0_2] 70 (0, 0)) (pB_ BK28.out) hb); have n1_ := Aside0.mk (below_step (pH_ HB.out) hb); have n2_ := Aside0.mk (hbox); have n3_ := Aside0.mk ((by rw [hg]; exact (below_size (pH_ HB.out)) : w.heap.size ≤ gb101)); have n4_ := Aside0.mk ((by rw [hg]; exact (below_size (pH_ HB.out)) : w.heap.size ≤ gb101)); have n5_ := Aside0.mk ((by rw [hg]; exact Nat.ne_of_lt (blk_lt (g := gk28) (o := .cells #[.int .i64 a1_0_0, .string a1_0_1, .string a1_0_2] 70 (0, 0)) (pB_ BK28.out)) : gk28 ≠ gb101)); have n6_ := Aside0.mk ((by rw [hg]; exact Nat.ne_of_gt (blk_lt (g := gk28) (o := .cells #[.int .i64 a1_0_0, .string a1_0_1, .string a1_0_2] 70 (0, 0)) (pB_ BK28.out)) : gb101 ≠ gk28)); clear BK28; clear HB; have BK28 := n0_; have HB := n1_; have BK101 := n2_; have GW101 := n3_; have GE101 := n4_; have NB28_101 := n5_; have NB101_28 := n6_; clear n0_ n1_ n2_ n3_ n4_ n5_ n6_; clear hb hbox hg; have hnb4 := NB101_28.out; have hnc4 := NB28_101.out; have hcz5_0 := cz_ BK101.out 0 _ rfl; have hcz5_1 := cz_ BK101.out 1 _ rfl; have hcz5_2 := cz_ BK101.out 2 _ rfl; have hfz5_0 := blk_frozen BK101.out 0; have hfz5_1 := blk_frozen BK101.out 1; have hfz5_2 := blk_frozen BK101.out 2; have hcz6_0 := cz_ BK28.out 0 _ rfl; have hcz6_1 := cz_ BK28.out 1 _ rfl; have hcz6_2 := cz_ BK28.out 2 _ rfl; have hfz6_0 := blk_frozen BK28.out 0; have hfz6_1 := blk_frozen BK28.out 1; have hfz6_2 := blk_frozen BK28.out 2))
 go_ret
 exact ⟨by first | rfl | (simp [errW_none, errW_some] <;> rfl) | (simp [*, errW_none, errW_some] <;> rfl), by repeat (first | (with_reducible first | exact HB.out | apply below_alloc | apply pw_below_drewN | apply below_drew1 | refine below_set ?_ GE28.out | refine below_set ?_ GE101.out) | exact HB.out)⟩
end
section
/-! ### impl_item_at114: function 93 -/
def impl_item_at114.l0 : Nat → List (S123) → Int → Int → Int → ByteArray → ByteArray → Option (Int)
 | 0, _, _, _, _, _, _ => none
 | k + 1, x0, x7, x8, x29000, x29001, x29002 => if x8 < x7 then (if 0 ≤ x8 then (if x8 < (x0.length : Int) then ((impl_replayed_1_c.f ((rd_T123 x0 x8).f0) ((rd_T123 x0 x8).f1) ((rd_T123 x0 x8).f2) x29000 x29001 x29002).bind fun t102 => (if t102 = true then (some x8) else (impl_item_at114.l0 k x0 x7 (wrap64 (x8 + 1)) x29000 x29001 x29002))) else (none)) else (none)) else (some (-1))
def impl_item_at114.f (k : Nat) (l0 : List (S123)) (a1_0_0 : Int) (a1_0_1 : ByteArray) (a1_0_2 : ByteArray) : Option (Int) := impl_item_at114.l0 k l0 (l0.length : Int) 0 a1_0_0 a1_0_1 a1_0_2
theorem impl_item_at114.mono_l : ∀ k, (∀ y0 y1 y2 y3 y4 y5, LeO (impl_item_at114.l0 k y0 y1 y2 y3 y4 y5) (impl_item_at114.l0 (k + 1) y0 y1 y2 y3 y4 y5))
 | 0 => fun _ _ _ _ _ _ r h => by simp [impl_item_at114.l0] at h
 | k + 1 => by
  have ih0 := impl_item_at114.mono_l k
  ·intro y0 y1 y2 y3 y4 y5
   unfold impl_item_at114.l0
   repeat' first
   | (with_reducible exact ih0 _ _ _ _ _ _)
   | (with_reducible exact LeO.refl _)
   | (with_reducible exact LeO.none _)
   | (with_reducible refine LeO.ite ?_ ?_)
   | (with_reducible refine LeO.bind ?_ (fun _ => ?_))
   | exact ih0 _ _ _ _ _ _
   | exact LeO.none _
   | refine LeO.ite ?_ ?_
   | refine LeO.bind ?_ (fun _ => ?_)
theorem impl_item_at114.mono : ∀ a0 a1 a2 a3 k, LeO (impl_item_at114.f k a0 a1 a2 a3) (impl_item_at114.f (k + 1) a0 a1 a2 a3) := by
 intro a0 a1 a2 a3 k
 have ih0 := impl_item_at114.mono_l k
 unfold impl_item_at114.f
 repeat' first
   | (with_reducible exact ih0 _ _ _ _ _ _)
   | (with_reducible exact LeO.refl _)
   | (with_reducible exact LeO.none _)
   | (with_reducible refine LeO.ite ?_ ?_)
   | (with_reducible refine LeO.bind ?_ (fun _ => ?_))
   | exact ih0 _ _ _ _ _ _
   | exact LeO.none _
   | refine LeO.ite ?_ ?_
   | refine LeO.bind ?_ (fun _ => ?_)
set_option maxHeartbeats 8000000 in
set_option maxRecDepth 100000 in
theorem impl_item_at114.calls (k : Nat) (A0 : Option Addr) (c0 : Nat) (l0 : List (S123)) (gk28 : Nat) (a1_0_0 : Int) (a1_0_1 : ByteArray) (a1_0_2 : ByteArray) (r : Int) (w : World) (hr0 : Kd.C k123 w A0 l0.length l0) (hc0 : l0.length ≤ c0) (hbk28 : w.heap[gk28]? = some (.cells #[.int .i64 a1_0_0, .string a1_0_1, .string a1_0_2] 70 (0, 0))) (h : impl_item_at114.f k l0 a1_0_0 a1_0_1 a1_0_2 = some r) :
  Calls Try.prog 93 #[.slice A0 l0.length c0, .func (.func 114) #[] #[.pointer (some ⟨gk28, 0, none⟩)]] w fun e w' => e = .returned (.int .i64 r) ∧ Below w.heap.size w w' := by
 have hu123 := Try.underlying123
 have HR0 := Aside0.mk hr0
 have HC0 := Aside0.mk hc0
 clear hr0 hc0
 have BK28 := Aside0.mk hbk28
 clear hbk28
 have HB := Aside0.mk (Below.refl w.heap.size w)
 have H : (impl_item_at114.l0 k l0 (l0.length : Int) 0 a1_0_0 a1_0_1 a1_0_2) = some r := h
 clear h
 have H' := Aside0.mk H
 clear H
 go_enter Try.func93, Try.ntmps93
 go_wp2
 go_loopg [8] k (fun kq v8 w' => ∃ (x8_1 : Int), v8 = .int .i64 x8_1 ∧ Aside0 (impl_item_at114.l0 kq l0 (l0.length : Int) x8_1 a1_0_0 a1_0_1 a1_0_2 = some r) ∧ Aside0 (kq ≤ k) ∧ Aside0 (w'.heap[gk28]? = some (.cells #[.int .i64 a1_0_0, .string a1_0_1, .string a1_0_2] 70 (0, 0))) ∧ Aside0 (Below w.heap.size w w'))
 case atStart => exact ⟨(0), (by first | rfl | (simp; done) | (simp [*]; done) | (simp [beq_nil_, bne_nil_]; done)), H', ⟨Nat.le_refl _⟩, ⟨by (with_reducible repeat (first | refine blk_drewN ?_ _ | refine blk_drew ?_ | refine blk_alloc ?_ _)); exact BK28.out⟩, ⟨by repeat (first | (with_reducible first | exact HB.out | apply below_alloc | apply pw_below_drewN | apply below_drew1 | refine below_set ?_ GE28.out) | exact HB.out)⟩⟩
 case round =>
  clear H'
  try clear p2
  obtain ⟨x8_1, rfl, HA, HK1, BK28, HB⟩ := hrel
  cases gk with
  | zero => exact absurd HA.out (by simp [impl_item_at114.l0])
  | succ k1 =>
   have H := HA.out
   clear HA
   simp only [impl_item_at114.l0] at H
   by_cases c3 : x8_1 < (l0.length : Int)
   ·rw [if_pos c3] at H
    have c3b0 : decide (x8_1 < (l0.length : Int)) = true := decide_eq_true c3
    clear c3
    by_cases c4 : 0 ≤ x8_1
    ·rw [if_pos c4] at H
     have c4b0 : decide (0 ≤ x8_1) = true := decide_eq_true c4
     clear c4
     by_cases c5 : x8_1 < (l0.length : Int)
     ·rw [if_pos c5] at H
      have c5b0 : decide (x8_1 < (l0.length : Int)) = true := decide_eq_true c5
      clear c5
      replace H := Option.bind_eq_some_iff.mp H
      obtain ⟨t102, A60, H⟩ := H
      replace H : (if t102 = true then (some x8_1) else (impl_item_at114.l0 k1 l0 (l0.length : Int) (wrap64 (x8_1 + 1)) a1_0_0 a1_0_1 a1_0_2)) = some r := H
      have A6 := Aside0.mk A60
      clear A60
      by_cases c7 : t102 = true
      ·subst c7
       have H1 : (some x8_1) = some r := by rw [if_pos rfl] at H; exact H
       clear H
       have H := H1
       clear H1
       obtain rfl := Option.some.inj H
       have p101 : 0 ≤ (x8_1 : Int) := of_decide_eq_true (by first | (with_reducible assumption) | assumption)
       have q101 : x8_1 < (l0.length : Int) := of_decide_eq_true (by first | (with_reducible assumption) | assumption)
       obtain ⟨ad101, e101, hx101_0, hx101_1, hx101_2⟩ := at_T123 HR0.out x8_1 p101 q101
       cases e101
       replace hx101_0 := (HB.out.cell (World.block_lt_of_cell? w _ hx101_0)).trans hx101_0
       replace hx101_1 := (HB.out.cell (World.block_lt_of_cell? w _ hx101_1)).trans hx101_1
       replace hx101_2 := (HB.out.cell (World.block_lt_of_cell? w _ hx101_2)).trans hx101_2
       replace p101 := eq_true p101
       replace q101 := eq_true q101
       go_wp2_with (first | ((with_reducible refine gate_value rfl ?_); refine goesV_ (some 16) rfl rfl Try.func114 (by kernel_rfl) rfl #[.agg #[.string ((rd_T123 l0 x8_1).f0), .string ((rd_T123 l0 x8_1).f1), .bool ((rd_T123 l0 x8_1).f2)], .pointer (some ⟨gk28, 0, none⟩)] rfl rfl (by (try simp only [List.map_toArray, List.map_cons, List.map_nil]); first | done | rfl | (simp only [List.length_drop, List.length_take]; rfl)) ?_; (with_reducible refine (impl_replayed_1_c.calls ((rd_T123 l0 x8_1).f0) ((rd_T123 l0 x8_1).f1) ((rd_T123 l0 x8_1).f2) gk28 a1_0_0 a1_0_1 a1_0_2 true _ ?side1 A6.out).mono ?_); (case side1 => (with_reducible repeat (first | refine blk_drewN ?_ _ | refine blk_drew ?_ | refine blk_alloc ?_ _)); exact BK28.out); rintro e w8 ⟨rfl, hb⟩; refine ⟨_, rfl, ?_⟩; have n0_ := Aside0.mk (blk_below (g := gk28) (o := .cells #[.int .i64 a1_0_0, .string a1_0_1, .string a1_0_2] 70 (0, 0)) (pB_ BK28.out) hb); have n1_ := Aside0.mk (below_step (pH_ HB.out) hb); clear BK28; clear HB; have BK28 := n0_; have HB := n1_; clear n0_ n1_; (try clear hb); (try clear hb2); (try clear hk); (try clear hi)))
       go_ret
       exact ⟨by first | rfl | (simp [errW_none, errW_some] <;> rfl) | (simp [*, errW_none, errW_some] <;> rfl), by repeat (first | (with_reducible first | exact HB.out | apply below_alloc | apply pw_below_drewN | apply below_drew1 | refine below_set ?_ GE28.out) | exact HB.out)⟩
      replace c7 := Bool.eq_false_iff.mpr c7
      subst c7
      have H1 : (impl_item_at114.l0 k1 l0 (l0.length : Int) (wrap64 (x8_1 + 1)) a1_0_0 a1_0_1 a1_0_2) = some r := by rw [if_neg (show ¬ (false = true) by decide)] at H; exact H
      clear H
      have H := H1
      clear H1
      have H' := Aside0.mk H
      clear H
      have p101 : 0 ≤ (x8_1 : Int) := of_decide_eq_true (by first | (with_reducible assumption) | assumption)
      have q101 : x8_1 < (l0.length : Int) := of_decide_eq_true (by first | (with_reducible assumption) | assumption)
      obtain ⟨ad101, e101, hx101_0, hx101_1, hx101_2⟩ := at_T123 HR0.out x8_1 p101 q101
      cases e101
      replace hx101_0 := (HB.out.cell (World.block_lt_of_cell? w _ hx101_0)).trans hx101_0
      replace hx101_1 := (HB.out.cell (World.block_lt_of_cell? w _ hx101_1)).trans hx101_1
      replace hx101_2 := (HB.out.cell (World.block_lt_of_cell? w _ hx101_2)).trans hx101_2
      replace p101 := eq_true p101
      replace q101 := eq_true q101
      go_wp2_with (first | ((with_reducible refine gate_value rfl ?_); refine goesV_ (some 16) rfl rfl Try.func114 (by kernel_rfl) rfl #[.agg #[.string ((rd_T123 l0 x8_1).f0), .string ((rd_T123 l0 x8_1).f1), .bool ((rd_T123 l0 x8_1).f2)], .pointer (some ⟨gk28, 0, none⟩)] rfl rfl (by (try simp only [List.map_toArray, List.map_cons, List.map_nil]); first | done | rfl | (simp only [List.length_drop, List.length_take]; rfl)) ?_; (with_reducible refine (impl_replayed_1_c.calls ((rd_T123 l0 x8_1).f0) ((rd_T123 l0 x8_1).f1) ((rd_T123 l0 x8_1).f2) gk28 a1_0_0 a1_0_1 a1_0_2 false _ ?side1 A6.out).mono ?_); (case side1 => (with_reducible repeat (first | refine blk_drewN ?_ _ | refine blk_drew ?_ | refine blk_alloc ?_ _)); exact BK28.out); rintro e w9 ⟨rfl, hb⟩; refine ⟨_, rfl, ?_⟩; have n0_ := Aside0.mk (blk_below (g := gk28) (o := .cells #[.int .i64 a1_0_0, .string a1_0_1, .string a1_0_2] 70 (0, 0)) (pB_ BK28.out) hb); have n1_ := Aside0.mk (below_step (pH_ HB.out) hb); clear BK28; clear HB; have BK28 := n0_; have HB := n1_; clear n0_ n1_; (try clear hb); (try clear hb2); (try clear hk); (try clear hi)))
      go_roundg k1
      case measure => have := HK1.out; omega
      case rel => exact ⟨(wrap64 (x8_1 + 1)), (by first | rfl | (simp; done) | (simp [*]; done) | (simp [beq_nil_, bne_nil_]; done)), H', ⟨by have := HK1.out; omega⟩, ⟨by (with_reducible repeat (first | refine blk_drewN ?_ _ | refine blk_drew ?_ | refine blk_alloc ?_ _)); exact BK28.out⟩, ⟨by repeat (first | (with_reducible first | exact HB.out | apply below_alloc | apply pw_below_drewN | apply below_drew1 | refine below_set ?_ GE28.out) | exact HB.out)⟩⟩
     rw [if_neg c5] at H
     exact absurd H (by simp)
    rw [if_neg c4] at H
    exact absurd H (by simp)
   rw [if_neg c3] at H
   have c3b0 : decide (x8_1 < (l0.length : Int)) = false := decide_eq_false c3
   clear c3
   obtain rfl := Option.some.inj H
   go_wp2
   go_ret
   exact ⟨by first | rfl | (simp [errW_none, errW_some] <;> rfl) | (simp [*, errW_none, errW_some] <;> rfl), by repeat (first | (with_reducible first | exact HB.out | apply below_alloc | apply pw_below_drewN | apply below_drew1 | refine below_set ?_ GE28.out) | exact HB.out)⟩
end
end Go.Proofs.Ytodombkmnnggeaa.Q
