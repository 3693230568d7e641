-- Written by a program of this session's for this claim. Lean checks it.
import Derived.Test.YtodombkmnnggeaaZFnExactChangedItemsQx0
import Derived.Test.YtodombkmnnggeaaZFnExactChangedItemsB2
import Derived.Test.YtodombkmnnggeaaZFnExactChangedItemsB1
namespace Go.Proofs.Ytodombkmnnggeaa.Q
open Go.RowKit Go.Proofs.YtodombkmnnggeaaW.PrintWords Go.Proofs.YtodombkmnnggeaaW.PrintLast Go.Proofs.YtodombkmnnggeaaW.PrintMore
attribute [local go_sem] max2_int min2_int max_two min_two max_three min_three max_four min_four   -- for this text's walks alone
set_option linter.unusedVariables false
set_option linter.unusedSimpArgs false
section
/-! ### impl_replayed: function 89 -/
mutual
def impl_replayed.l0 : Nat → List (S123) → List (S70) → Int → Int → Option ((List (S123)) × Bool)
 | 0, _, _, _, _ => none
 | k + 1, x4, x12, x13, x14 => if x14 < x13 then (if 0 ≤ x14 then (if x14 < (x12.length : Int) then ((impl_isName.f k ((rd_T70 x12 x14).f1)).bind fun t106 => (if t106 = true then ((impl_isText.f k ((rd_T70 x12 x14).f2)).bind fun t107 => (impl_replayed.j1 k x4 x12 x13 x14 (!t107) ((rd_T70 x12 x14).f0) ((rd_T70 x12 x14).f1) ((rd_T70 x12 x14).f2))) else (impl_replayed.j1 k x4 x12 x13 x14 true ((rd_T70 x12 x14).f0) ((rd_T70 x12 x14).f1) ((rd_T70 x12 x14).f2)))) else (none)) else (none)) else (some (x4, true))
def impl_replayed.j1 : Nat → List (S123) → List (S70) → Int → Int → Bool → Int → ByteArray → ByteArray → Option ((List (S123)) × Bool)
 | 0, _, _, _, _, _, _, _, _ => none
 | k + 1, x4, x12, x13, x14, x27, x106000, x106001, x106002 => if x27 = true then (some (([] : List (S123)), false)) else ((impl_item_at114.f k x4 x106000 x106001 x106002).bind fun t108 => (if t108 < 0 then (if x106000 = 1 then (if x4.length < 3518437208883 then (impl_replayed.l0 k (x4 ++ [(⟨x106001, x106002, false⟩ : S123)]) x12 x13 (wrap64 (x14 + 1))) else (none)) else (some (([] : List (S123)), false))) else (if x106000 = 1 then (some (([] : List (S123)), false)) else (if x106000 = 2 then (if 0 ≤ t108 then (if t108 < (x4.length : Int) then (if (rd_T123 x4 t108).f2 = true then (some (([] : List (S123)), false)) else (impl_replayed.l0 k (x4.set (t108 : Int).toNat (⟨(rd_T123 x4 t108).f0, x106002, (rd_T123 x4 t108).f2⟩ : S123)) x12 x13 (wrap64 (x14 + 1)))) else (none)) else (none)) else (if x106000 = 3 then (impl_replayed.j2 k x4 t108 x12 x13 x14 (x106000 == 3) x106000 x106001 x106002) else (impl_replayed.j2 k x4 t108 x12 x13 x14 (x106000 == 4) x106000 x106001 x106002))))))
def impl_replayed.j2 : Nat → List (S123) → Int → List (S70) → Int → Int → Bool → Int → ByteArray → ByteArray → Option ((List (S123)) × Bool)
 | 0, _, _, _, _, _, _, _, _, _ => none
 | k + 1, x4, x7, x12, x13, x14, x62, x106000, x106001, x106002 => if x62 = true then (if x106002.toList = ([] : List UInt8) then (if 0 ≤ x7 then (if x7 < (x4.length : Int) then (if (rd_T123 x4 x7).f2 = true then (if x106000 = 4 then (impl_replayed.l0 k (x4.set (x7 : Int).toNat (⟨(rd_T123 x4 x7).f0, (rd_T123 x4 x7).f1, (x106000 == 3)⟩ : S123)) x12 x13 (wrap64 (x14 + 1))) else (some (([] : List (S123)), false))) else (if x106000 = 4 then (some (([] : List (S123)), false)) else (impl_replayed.l0 k (x4.set (x7 : Int).toNat (⟨(rd_T123 x4 x7).f0, (rd_T123 x4 x7).f1, (x106000 == 3)⟩ : S123)) x12 x13 (wrap64 (x14 + 1))))) else (none)) else (none)) else (some (([] : List (S123)), false))) else (some (([] : List (S123)), false))
end
def impl_replayed.f (k : Nat) (l0 : List (S70)) : Option ((List (S123)) × Bool) := if (l0.length : Int) > 40 then (some (([] : List (S123)), false)) else (impl_replayed.l0 k (([] : List (S123))) l0 (l0.length : Int) 0)
theorem impl_replayed.mono_l : ∀ k, (∀ y0 y1 y2 y3, LeO (impl_replayed.l0 k y0 y1 y2 y3) (impl_replayed.l0 (k + 1) y0 y1 y2 y3)) ∧ (∀ y0 y1 y2 y3 y4 y5 y6 y7, LeO (impl_replayed.j1 k y0 y1 y2 y3 y4 y5 y6 y7) (impl_replayed.j1 (k + 1) y0 y1 y2 y3 y4 y5 y6 y7)) ∧ (∀ y0 y1 y2 y3 y4 y5 y6 y7 y8, LeO (impl_replayed.j2 k y0 y1 y2 y3 y4 y5 y6 y7 y8) (impl_replayed.j2 (k + 1) y0 y1 y2 y3 y4 y5 y6 y7 y8))
 | 0 => ⟨fun _ _ _ _ r h => by simp [impl_replayed.l0] at h, fun _ _ _ _ _ _ _ _ r h => by simp [impl_replayed.j1] at h, fun _ _ _ _ _ _ _ _ _ r h => by simp [impl_replayed.j2] at h⟩
 | k + 1 => by
  obtain ⟨ih0, ih1, ih2⟩ := impl_replayed.mono_l k
  refine ⟨?_, ?_, ?_⟩
  ·intro y0 y1 y2 y3
   unfold impl_replayed.l0
   repeat' first
   | (with_reducible exact ih0 _ _ _ _)
   | (with_reducible exact ih1 _ _ _ _ _ _ _ _)
   | (with_reducible exact ih2 _ _ _ _ _ _ _ _ _)
   | (with_reducible exact impl_isName.mono _ _)
   | (with_reducible exact impl_isText.mono _ _)
   | (with_reducible exact impl_item_at114.mono _ _ _ _ _)
   | (with_reducible exact LeO.refl _)
   | (with_reducible exact LeO.none _)
   | (with_reducible refine LeO.ite ?_ ?_)
   | (with_reducible refine LeO.bind ?_ (fun _ => ?_))
   | exact ih0 _ _ _ _
   | exact ih1 _ _ _ _ _ _ _ _
   | exact ih2 _ _ _ _ _ _ _ _ _
   | exact impl_isName.mono _ _
   | exact impl_isText.mono _ _
   | exact impl_item_at114.mono _ _ _ _ _
   | exact LeO.none _
   | refine LeO.ite ?_ ?_
   | refine LeO.bind ?_ (fun _ => ?_)
  ·intro y0 y1 y2 y3 y4 y5 y6 y7
   unfold impl_replayed.j1
   repeat' first
   | (with_reducible exact ih0 _ _ _ _)
   | (with_reducible exact ih1 _ _ _ _ _ _ _ _)
   | (with_reducible exact ih2 _ _ _ _ _ _ _ _ _)
   | (with_reducible exact impl_isName.mono _ _)
   | (with_reducible exact impl_isText.mono _ _)
   | (with_reducible exact impl_item_at114.mono _ _ _ _ _)
   | (with_reducible exact LeO.refl _)
   | (with_reducible exact LeO.none _)
   | (with_reducible refine LeO.ite ?_ ?_)
   | (with_reducible refine LeO.bind ?_ (fun _ => ?_))
   | exact ih0 _ _ _ _
   | exact ih1 _ _ _ _ _ _ _ _
   | exact ih2 _ _ _ _ _ _ _ _ _
   | exact impl_isName.mono _ _
   | exact impl_isText.mono _ _
   | exact impl_item_at114.mono _ _ _ _ _
   | exact LeO.none _
   | refine LeO.ite ?_ ?_
   | refine LeO.bind ?_ (fun _ => ?_)
  intro y0 y1 y2 y3 y4 y5 y6 y7 y8
  unfold impl_replayed.j2
  repeat' first
  | (with_reducible exact ih0 _ _ _ _)
  | (with_reducible exact ih1 _ _ _ _ _ _ _ _)
  | (with_reducible exact ih2 _ _ _ _ _ _ _ _ _)
  | (with_reducible exact impl_isName.mono _ _)
  | (with_reducible exact impl_isText.mono _ _)
  | (with_reducible exact impl_item_at114.mono _ _ _ _ _)
  | (with_reducible exact LeO.refl _)
  | (with_reducible exact LeO.none _)
  | (with_reducible refine LeO.ite ?_ ?_)
  | (with_reducible refine LeO.bind ?_ (fun _ => ?_))
  | exact ih0 _ _ _ _
  | exact ih1 _ _ _ _ _ _ _ _
  | exact ih2 _ _ _ _ _ _ _ _ _
  | exact impl_isName.mono _ _
  | exact impl_isText.mono _ _
  | exact impl_item_at114.mono _ _ _ _ _
  | exact LeO.none _
  | refine LeO.ite ?_ ?_
  | refine LeO.bind ?_ (fun _ => ?_)
theorem impl_replayed.mono : ∀ a0 k, LeO (impl_replayed.f k a0) (impl_replayed.f (k + 1) a0) := by
 intro a0 k
 obtain ⟨ih0, ih1, ih2⟩ := impl_replayed.mono_l k
 unfold impl_replayed.f
 repeat' first
   | (with_reducible exact ih0 _ _ _ _)
   | (with_reducible exact ih1 _ _ _ _ _ _ _ _)
   | (with_reducible exact ih2 _ _ _ _ _ _ _ _ _)
   | (with_reducible exact impl_isName.mono _ _)
   | (with_reducible exact impl_isText.mono _ _)
   | (with_reducible exact impl_item_at114.mono _ _ _ _ _)
   | (with_reducible exact LeO.refl _)
   | (with_reducible exact LeO.none _)
   | (with_reducible refine LeO.ite ?_ ?_)
   | (with_reducible refine LeO.bind ?_ (fun _ => ?_))
   | exact ih0 _ _ _ _
   | exact ih1 _ _ _ _ _ _ _ _
   | exact ih2 _ _ _ _ _ _ _ _ _
   | exact impl_isName.mono _ _
   | exact impl_isText.mono _ _
   | exact impl_item_at114.mono _ _ _ _ _
   | exact LeO.none _
   | refine LeO.ite ?_ ?_
   | refine LeO.bind ?_ (fun _ => ?_)
set_option maxHeartbeats 8000000 in
set_option maxRecDepth 100000 in
theorem impl_replayed.calls (k : Nat) (A0 : Option Addr) (c0 : Nat) (l0 : List (S70)) (r1 : List (S123)) (r2 : Bool) (w : World) (hr0 : Kd.C k70 w A0 l0.length l0) (hc0 : l0.length ≤ c0) (h : impl_replayed.f k l0 = some (r1, r2)) :
  Calls Try.prog 89 #[.slice A0 l0.length c0] w fun e w' => ∃ v0_ : Value, e = .returned (.tuple #[v0_, .bool r2]) ∧ Kd.R k123 123 w' w.heap.size (fun _ => True) v0_ r1 ∧ Below w.heap.size w w' := by
 have hmf : ∀ (f_ : Fn) (fs_ cs_ : Array Value) (w_ : World), (Instr.makeFunc f_ fs_ cs_).run Try.prog w_ = .ok (.func f_ fs_ cs_) w_ := fun _ _ _ _ => rfl
 have hu70 := Try.underlying70
 have hu123 := Try.underlying123
 have HR0 := Aside0.mk hr0
 have HC0 := Aside0.mk hc0
 clear hr0 hc0
 have HB := Aside0.mk (Below.refl w.heap.size w)
 have H : (if (l0.length : Int) > 40 then (some (([] : List (S123)), false)) else (impl_replayed.l0 k (([] : List (S123))) l0 (l0.length : Int) 0)) = some (r1, r2) := h
 clear h
 obtain ⟨y101, hy101⟩ : ∃ y_ : List (S123), y_ = (([] : List (S123))) := ⟨_, rfl⟩
 replace H : (if (l0.length : Int) > 40 then (some (([] : List (S123)), false)) else (impl_replayed.l0 k y101 l0 (l0.length : Int) 0)) = some (r1, r2) := by first | (rw [hy101]; with_reducible exact H) | (have H2_ := (Option.bind_some _ _).symm.trans H; rw [hy101]; with_reducible exact H2_) | (have H2_ := (Option.bind_some _ _).symm.trans H; with_reducible exact H2_) | with_reducible exact H | (rw [hy101]; exact H) | exact H
 have Ny101 := Aside0.mk hy101
 clear hy101
 by_cases c2 : (l0.length : Int) > 40
 ·rw [if_pos c2] at H
  have c2b0 : decide (40 < (l0.length : Int)) = true := decide_eq_true c2
  have c2b1 : decide (40 < l0.length) = true := decide_eq_true (by omega)
  clear c2
  simp only [Option.some.injEq, Prod.mk.injEq] at H
  obtain ⟨rfl, rfl⟩ := H
  go_enter Try.func89, Try.ntmps89
  go_wp2_with (first | ((with_reducible refine gate_dst (N := 8) rfl ?_); refine Kd.R_lit k123 _ 123 ?hg (N := 8) ?hd (xs := ([] : List (S123))) (inner := []) (ok := fun _ => True) (okp := fun _ => True) ?hr ?hp (fun _ hk => hk) trivial (Below.refl _ _) (Nat.le_refl _) (by simp) ?_; (case hd => rfl); (case hg => rfl); (case hr => first | (go_simp; done) | (go_simp; rfl)); (case hp => exact (Reps.none _ _)); intro v102 w3 ho4 hb hg_ hnew_; clear hg_ hnew_; (first | rw [← Ny101.out] at ho4 | (simp only [Int.reduceToNat] at ho4; rw [← Ny101.out] at ho4)); have n0_ := Aside0.mk (Kd.R_lower ho4 (below_size (pH_ HB.out))); have n1_ := Aside0.mk (below_step (pH_ HB.out) hb); clear HB; have HO103 := n0_; have HB := n1_; clear n0_ n1_; clear hb ho4))
  repeat (go_quiet (first | ((with_reducible refine gate_dst (N := 8) rfl ?_); refine Kd.R_lit k123 _ 123 ?hg (N := 8) ?hd (xs := ([] : List (S123))) (inner := []) (ok := fun _ => True) (okp := fun _ => True) ?hr ?hp (fun _ hk => hk) trivial (Below.refl _ _) (Nat.le_refl _) (by simp) ?_; (case hd => rfl); (case hg => rfl); (case hr => first | (go_simp; done) | (go_simp; rfl)); (case hp => exact (Reps.none _ _)); intro v102 w3 ho4 hb hg_ hnew_; clear hg_ hnew_; (first | rw [← Ny101.out] at ho4 | (simp only [Int.reduceToNat] at ho4; rw [← Ny101.out] at ho4)); have n0_ := Aside0.mk (Kd.R_lower ho4 (below_size (pH_ HB.out))); have n1_ := Aside0.mk (below_step (pH_ HB.out) hb); clear HB; have HO103 := n0_; have HB := n1_; clear n0_ n1_; clear hb ho4)); try go_wp2_with (first | ((with_reducible refine gate_dst (N := 8) rfl ?_); refine Kd.R_lit k123 _ 123 ?hg (N := 8) ?hd (xs := ([] : List (S123))) (inner := []) (ok := fun _ => True) (okp := fun _ => True) ?hr ?hp (fun _ hk => hk) trivial (Below.refl _ _) (Nat.le_refl _) (by simp) ?_; (case hd => rfl); (case hg => rfl); (case hr => first | (go_simp; done) | (go_simp; rfl)); (case hp => exact (Reps.none _ _)); intro v102 w3 ho4 hb hg_ hnew_; clear hg_ hnew_; (first | rw [← Ny101.out] at ho4 | (simp only [Int.reduceToNat] at ho4; rw [← Ny101.out] at ho4)); have n0_ := Aside0.mk (Kd.R_lower ho4 (below_size (pH_ HB.out))); have n1_ := Aside0.mk (below_step (pH_ HB.out) hb); clear HB; have HO103 := n0_; have HB := n1_; clear n0_ n1_; clear hb ho4)))
  go_ret2
  exact ⟨_, by first | rfl | (simp [errW_none, errW_some] <;> rfl) | (simp [*, errW_none, errW_some] <;> rfl), by first | exact Kd.R_nil _ _ _ _ _ | exact Kd.N_nil _ _ _ _ _ | exact Kd.V_nil _ _ _ _ _ | exact Kd.Q_nil _ _ _ _ _ | exact Kd.S_nil _ _ _ _ _, by repeat (first | (with_reducible first | exact HB.out | apply below_alloc | apply pw_below_drewN | apply below_drew1) | exact HB.out)⟩
 rw [if_neg c2] at H
 have c2b0 : decide (40 < (l0.length : Int)) = false := decide_eq_false c2
 have c2b1 : decide (40 < l0.length) = false := decide_eq_false (by omega)
 clear c2
 have H' := Aside0.mk H
 clear H
 go_enter Try.func89, Try.ntmps89
 go_wp2_with (first | ((with_reducible refine gate_dst (N := 8) rfl ?_); refine Kd.R_lit k123 _ 123 ?hg (N := 8) ?hd (xs := ([] : List (S123))) (inner := []) (ok := fun _ => True) (okp := fun _ => True) ?hr ?hp (fun _ hk => hk) trivial (Below.refl _ _) (Nat.le_refl _) (by simp) ?_; (case hd => rfl); (case hg => rfl); (case hr => first | (go_simp; done) | (go_simp; rfl)); (case hp => exact (Reps.none _ _)); intro v102 w5 ho6 hb hg_ hnew_; clear hg_ hnew_; (first | rw [← Ny101.out] at ho6 | (simp only [Int.reduceToNat] at ho6; rw [← Ny101.out] at ho6)); have n0_ := Aside0.mk (Kd.R_lower ho6 (below_size (pH_ HB.out))); have n1_ := Aside0.mk (below_step (pH_ HB.out) hb); clear HB; have HO103 := n0_; have HB := n1_; clear n0_ n1_; clear hb ho6))
 repeat (go_quiet (first | ((with_reducible refine gate_dst (N := 8) rfl ?_); refine Kd.R_lit k123 _ 123 ?hg (N := 8) ?hd (xs := ([] : List (S123))) (inner := []) (ok := fun _ => True) (okp := fun _ => True) ?hr ?hp (fun _ hk => hk) trivial (Below.refl _ _) (Nat.le_refl _) (by simp) ?_; (case hd => rfl); (case hg => rfl); (case hr => first | (go_simp; done) | (go_simp; rfl)); (case hp => exact (Reps.none _ _)); intro v102 w5 ho6 hb hg_ hnew_; clear hg_ hnew_; (first | rw [← Ny101.out] at ho6 | (simp only [Int.reduceToNat] at ho6; rw [← Ny101.out] at ho6)); have n0_ := Aside0.mk (Kd.R_lower ho6 (below_size (pH_ HB.out))); have n1_ := Aside0.mk (below_step (pH_ HB.out) hb); clear HB; have HO103 := n0_; have HB := n1_; clear n0_ n1_; clear hb ho6)); try go_wp2_with (first | ((with_reducible refine gate_dst (N := 8) rfl ?_); refine Kd.R_lit k123 _ 123 ?hg (N := 8) ?hd (xs := ([] : List (S123))) (inner := []) (ok := fun _ => True) (okp := fun _ => True) ?hr ?hp (fun _ hk => hk) trivial (Below.refl _ _) (Nat.le_refl _) (by simp) ?_; (case hd => rfl); (case hg => rfl); (case hr => first | (go_simp; done) | (go_simp; rfl)); (case hp => exact (Reps.none _ _)); intro v102 w5 ho6 hb hg_ hnew_; clear hg_ hnew_; (first | rw [← Ny101.out] at ho6 | (simp only [Int.reduceToNat] at ho6; rw [← Ny101.out] at ho6)); have n0_ := Aside0.mk (Kd.R_lower ho6 (below_size (pH_ HB.out))); have n1_ := Aside0.mk (below_step (pH_ HB.out) hb); clear HB; have HO103 := n0_; have HB := n1_; clear n0_ n1_; clear hb ho6)))
 go_loopg [4, 14] k (fun kq v4 v14 w' => ∃ (x4_1 : List (S123)) (x14_1 : Int), v14 = .int .i64 x14_1 ∧ Aside0 (impl_replayed.l0 kq x4_1 l0 (l0.length : Int) x14_1 = some (r1, r2)) ∧ Aside0 (kq ≤ k) ∧ Aside0 (Kd.R k123 123 w' w.heap.size (fun _ => True) v4 x4_1) ∧ Aside0 (Below w.heap.size w w'))
 case atStart => exact ⟨(y101), (0), (by first | rfl | (simp; done) | (simp [*]; done) | (simp [beq_nil_, bne_nil_]; done)), H', ⟨Nat.le_refl _⟩, ⟨by (with_reducible repeat (first | apply Kd.R_alloc | apply Kd.R_drewN | apply Kd.R_drew)); exact HO103.out⟩, ⟨by repeat (first | (with_reducible first | exact HB.out | apply below_alloc | apply pw_below_drewN | apply below_drew1) | exact HB.out)⟩⟩
 case round =>
  clear H'
  try clear c2
  try clear c2b0
  try clear c2b1
  try clear p2
  obtain ⟨x4_1, x14_1, rfl, HA, HK1, HO_4, HB⟩ := hrel
  cases gk with
  | zero => exact absurd HA.out (by simp [impl_replayed.l0])
  | succ k1 =>
   have H := HA.out
   clear HA
   simp only [impl_replayed.l0] at H
   by_cases c7 : x14_1 < (l0.length : Int)
   ·rw [if_pos c7] at H
    have c7b0 : decide (x14_1 < (l0.length : Int)) = true := decide_eq_true c7
    clear c7
    by_cases c8 : 0 ≤ x14_1
    ·rw [if_pos c8] at H
     have c8b0 : decide (0 ≤ x14_1) = true := decide_eq_true c8
     clear c8
     by_cases c9 : x14_1 < (l0.length : Int)
     ·rw [if_pos c9] at H
      have c9b0 : decide (x14_1 < (l0.length : Int)) = true := decide_eq_true c9
      clear c9
      have HC10 := Aside0.mk H
      clear H
      have p104 : 0 ≤ (x14_1 : Int) := of_decide_eq_true (by first | (with_reducible assumption) | assumption)
      have q104 : x14_1 < (l0.length : Int) := of_decide_eq_true (by first | (with_reducible assumption) | assumption)
      obtain ⟨ad104, e104, hx104_0, hx104_1, hx104_2⟩ := at_T70 HR0.out x14_1 p104 q104
      cases e104
      replace hx104_0 := (HB.out.cell (World.block_lt_of_cell? w _ hx104_0)).trans hx104_0
      replace hx104_1 := (HB.out.cell (World.block_lt_of_cell? w _ hx104_1)).trans hx104_1
      replace hx104_2 := (HB.out.cell (World.block_lt_of_cell? w _ hx104_2)).trans hx104_2
      replace p104 := eq_true p104
      replace q104 := eq_true q104
      go_upto_region 7 with (first | ((with_reducible refine gate_dst (N := 6) rfl ?_); refine box_event ?hg (N := 6) ?hd (cs := #[.int .i64 0, .string (⟨#[]⟩ : ByteArray), .string (⟨#[]⟩ : ByteArray)]) (t := 70) ?hr ?_; (case hd => rfl); (case hg => rfl); (case hr => first | (go_simp; done) | (go_simp; rfl)); intro gb105 hg w11 hbox hb; have n0_ := Aside0.mk (Kd.R_below (pR_ HO_4.out) hb); have n1_ := Aside0.mk (below_step (pH_ HB.out) hb); have n2_ := Aside0.mk (hbox); have n3_ := Aside0.mk ((by rw [hg]; exact (below_size (pH_ HB.out)) : w.heap.size ≤ gb105)); have n4_ := Aside0.mk ((by rw [hg]; exact (below_size (pH_ HB.out)) : w.heap.size ≤ gb105)); clear HO_4; clear HB; have HO_4 := n0_; have HB := n1_; have BK105 := n2_; have GW105 := n3_; have GE105 := n4_; clear n0_ n1_ n2_ n3_ n4_; clear hb hbox hg; have hcz12_0 := cz_ BK105.out 0 _ rfl; have hcz12_1 := cz_ BK105.out 1 _ rfl; have hcz12_2 := cz_ BK105.out 2 _ rfl; have hfz12_0 := blk_frozen BK105.out 0; have hfz12_1 := blk_frozen BK105.out 1; have hfz12_2 := blk_frozen BK105.out 2))
      repeat (go_quiet (first | ((with_reducible refine gate_dst (N := 6) rfl ?_); refine box_event ?hg (N := 6) ?hd (cs := #[.int .i64 0, .string (⟨#[]⟩ : ByteArray), .string (⟨#[]⟩ : ByteArray)]) (t := 70) ?hr ?_; (case hd => rfl); (case hg => rfl); (case hr => first | (go_simp; done) | (go_simp; rfl)); intro gb105 hg w11 hbox hb; have n0_ := Aside0.mk (Kd.R_below (pR_ HO_4.out) hb); have n1_ := Aside0.mk (below_step (pH_ HB.out) hb); have n2_ := Aside0.mk (hbox); have n3_ := Aside0.mk ((by rw [hg]; exact (below_size (pH_ HB.out)) : w.heap.size ≤ gb105)); have n4_ := Aside0.mk ((by rw [hg]; exact (below_size (pH_ HB.out)) : w.heap.size ≤ gb105)); clear HO_4; clear HB; have HO_4 := n0_; have HB := n1_; have BK105 := n2_; have GW105 := n3_; have GE105 := n4_; clear n0_ n1_ n2_ n3_ n4_; clear hb hbox hg; have hcz12_0 := cz_ BK105.out 0 _ rfl; have hcz12_1 := cz_ BK105.out 1 _ rfl; have hcz12_2 := cz_ BK105.out 2 _ rfl; have hfz12_0 := blk_frozen BK105.out 0; have hfz12_1 := blk_frozen BK105.out 1; have hfz12_2 := blk_frozen BK105.out 2)); go_upto_region 7 with (first | ((with_reducible refine gate_dst (N := 6) rfl ?_); refine box_event ?hg (N := 6) ?hd (cs := #[.int .i64 0, .string (⟨#[]⟩ : ByteArray), .string (⟨#[]⟩ : ByteArray)]) (t := 70) ?hr ?_; (case hd => rfl); (case hg => rfl); (case hr => first | (go_simp; done) | (go_simp; rfl)); intro gb105 hg w11 hbox hb; have n0_ := Aside0.mk (Kd.R_below (pR_ HO_4.out) hb); have n1_ := Aside0.mk (below_step (pH_ HB.out) hb); have n2_ := Aside0.mk (hbox); have n3_ := Aside0.mk ((by rw [hg]; exact (below_size (pH_ HB.out)) : w.heap.size ≤ gb105)); have n4_ := Aside0.mk ((by rw [hg]; exact (below_size (pH_ HB.out)) : w.heap.size ≤ gb105)); clear HO_4; clear HB; have HO_4 := n0_; have HB := n1_; have BK105 := n2_; have GW105 := n3_; have GE105 := n4_; clear n0_ n1_ n2_ n3_ n4_; clear hb hbox hg; have hcz12_0 := cz_ BK105.out 0 _ rfl; have hcz12_1 := cz_ BK105.out 1 _ rfl; have hcz12_2 := cz_ BK105.out 2 _ rfl; have hfz12_0 := blk_frozen BK105.out 0; have hfz12_1 := blk_frozen BK105.out 1; have hfz12_2 := blk_frozen BK105.out 2)))
      (try simp only [Act.put, List.setIfInBounds_toArray, List.set_cons_zero, List.set_cons_succ])
      go_cut [27] (fun v27 wc => ∃ (kq : Nat) (x27_9 : Bool), v27 = .bool x27_9 ∧ Aside0 (impl_replayed.j1 kq x4_1 l0 (l0.length : Int) x14_1 x27_9 ((rd_T70 l0 x14_1).f0) ((rd_T70 l0 x14_1).f1) ((rd_T70 l0 x14_1).f2) = some (r1, r2)) ∧ Aside0 (kq ≤ k1) ∧ Aside0 (Kd.R k123 123 wc w.heap.size (fun _ => True) u4 x4_1) ∧ Aside0 (wc.heap[gb105]? = some (.cells #[.int .i64 ((rd_T70 l0 x14_1).f0), .string ((rd_T70 l0 x14_1).f1), .string ((rd_T70 l0 x14_1).f2)] 70 (0, 0))) ∧ Aside0 (Below w.heap.size w wc))
      case first =>
       have H := HC10.out
       clear HC10
       replace H := Option.bind_eq_some_iff.mp H
       obtain ⟨t106, A130, H⟩ := H
       replace H : (if t106 = true then ((impl_isText.f k1 ((rd_T70 l0 x14_1).f2)).bind fun t107 => (impl_replayed.j1 k1 x4_1 l0 (l0.length : Int) x14_1 (!t107) ((rd_T70 l0 x14_1).f0) ((rd_T70 l0 x14_1).f1) ((rd_T70 l0 x14_1).f2))) else (impl_replayed.j1 k1 x4_1 l0 (l0.length : Int) x14_1 true ((rd_T70 l0 x14_1).f0) ((rd_T70 l0 x14_1).f1) ((rd_T70 l0 x14_1).f2))) = some (r1, r2) := H
       have A13 := Aside0.mk A130
       clear A130
       by_cases c14 : t106 = true
       ·subst c14
        have H1 : ((impl_isText.f k1 ((rd_T70 l0 x14_1).f2)).bind fun t107 => (impl_replayed.j1 k1 x4_1 l0 (l0.length : Int) x14_1 (!t107) ((rd_T70 l0 x14_1).f0) ((rd_T70 l0 x14_1).f1) ((rd_T70 l0 x14_1).f2))) = some (r1, r2) := by rw [if_pos rfl] at H; exact H
        clear H
        have H := H1
        clear H1
        replace H := Option.bind_eq_some_iff.mp H
        obtain ⟨t107, A150, H⟩ := H
        replace H : (impl_replayed.j1 k1 x4_1 l0 (l0.length : Int) x14_1 (!t107) ((rd_T70 l0 x14_1).f0) ((rd_T70 l0 x14_1).f1) ((rd_T70 l0 x14_1).f2)) = some (r1, r2) := H
        have A15 := Aside0.mk A150
        clear A150
        have H' := Aside0.mk H
        clear H
        have hcz16_0 := cz_ BK105.out 0 _ rfl
        have hcz16_1 := cz_ BK105.out 1 _ rfl
        have hcz16_2 := cz_ BK105.out 2 _ rfl
        have hfz16_0 := blk_frozen BK105.out 0
        have hfz16_1 := blk_frozen BK105.out 1
        have hfz16_2 := blk_frozen BK105.out 2
        go_wp2_with (first | (go_at_call 111; (try simp only [i64_w, i32_w]); (with_reducible refine (impl_isName.calls k1 ((rd_T70 l0 x14_1).f1) true _ A13.out).mono ?_); rintro e w' ⟨rfl, ⟨nd, rfl⟩⟩; (try first | exact ⟨rfl, _, World.drewN_drewN _ _ _⟩ | exact ⟨rfl, _, Eq.trans (World.drewN_drewN _ _ _) (congrArg (World.drewN _) (Nat.add_assoc _ _ _))⟩)) | (go_at_call 113; (try simp only [i64_w, i32_w]); (with_reducible refine (impl_isText.calls k1 ((rd_T70 l0 x14_1).f2) t107 _ A15.out).mono ?_); rintro e w' ⟨rfl, ⟨nd, rfl⟩⟩; (try first | exact ⟨rfl, _, World.drewN_drewN _ _ _⟩ | exact ⟨rfl, _, Eq.trans (World.drewN_drewN _ _ _) (congrArg (World.drewN _) (Nat.add_assoc _ _ _))⟩)))
        repeat (go_quiet (first | (go_at_call 111; (try simp only [i64_w, i32_w]); (with_reducible refine (impl_isName.calls k1 ((rd_T70 l0 x14_1).f1) true _ A13.out).mono ?_); rintro e w' ⟨rfl, ⟨nd, rfl⟩⟩; (try first | exact ⟨rfl, _, World.drewN_drewN _ _ _⟩ | exact ⟨rfl, _, Eq.trans (World.drewN_drewN _ _ _) (congrArg (World.drewN _) (Nat.add_assoc _ _ _))⟩)) | (go_at_call 113; (try simp only [i64_w, i32_w]); (with_reducible refine (impl_isText.calls k1 ((rd_T70 l0 x14_1).f2) t107 _ A15.out).mono ?_); rintro e w' ⟨rfl, ⟨nd, rfl⟩⟩; (try first | exact ⟨rfl, _, World.drewN_drewN _ _ _⟩ | exact ⟨rfl, _, Eq.trans (World.drewN_drewN _ _ _) (congrArg (World.drewN _) (Nat.add_assoc _ _ _))⟩))); try go_wp2_with (first | (go_at_call 111; (try simp only [i64_w, i32_w]); (with_reducible refine (impl_isName.calls k1 ((rd_T70 l0 x14_1).f1) true _ A13.out).mono ?_); rintro e w' ⟨rfl, ⟨nd, rfl⟩⟩; (try first | exact ⟨rfl, _, World.drewN_drewN _ _ _⟩ | exact ⟨rfl, _, Eq.trans (World.drewN_drewN _ _ _) (congrArg (World.drewN _) (Nat.add_assoc _ _ _))⟩)) | (go_at_call 113; (try simp only [i64_w, i32_w]); (with_reducible refine (impl_isText.calls k1 ((rd_T70 l0 x14_1).f2) t107 _ A15.out).mono ?_); rintro e w' ⟨rfl, ⟨nd, rfl⟩⟩; (try first | exact ⟨rfl, _, World.drewN_drewN _ _ _⟩ | exact ⟨rfl, _, Eq.trans (World.drewN_drewN _ _ _) (congrArg (World.drewN _) (Nat.add_assoc _ _ _))⟩))))
        go_meet
        case rel => exact ⟨_, (!t107), (by first | rfl | (simp; done) | (simp [*]; done) | (simp [beq_nil_, bne_nil_]; done)), H', ⟨by have := HK1.out; first | omega | exact Nat.le_refl _⟩, ⟨by (with_reducible repeat (first | apply Kd.R_alloc | apply Kd.R_drewN | apply Kd.R_drew)); exact Kd.R_mono (Kd.R_far (p := ⟨gb105, 2, none⟩) (Kd.R_far (p := ⟨gb105, 1, none⟩) (Kd.R_far (p := ⟨gb105, 0, none⟩) (Kd.R_types HO_4.out BK105.out (by decide)) (fun _ hk => hk.2) (.int .i64 ((rd_T70 l0 x14_1).f0))) (fun _ hk => hk.2) (.string ((rd_T70 l0 x14_1).f1))) (fun _ hk => hk.2) (.string ((rd_T70 l0 x14_1).f2))) (fun _ hk => trivial)⟩, ⟨by (with_reducible repeat (first | refine blk_drewN ?_ _ | refine blk_drew ?_ | refine blk_alloc ?_ _)); refine blk_put (cs := #[.int .i64 ((rd_T70 l0 x14_1).f0), .string ((rd_T70 l0 x14_1).f1), .string (⟨#[]⟩ : ByteArray)]) ?_ 2 _ rfl; (with_reducible repeat (first | refine blk_drewN ?_ _ | refine blk_drew ?_ | refine blk_alloc ?_ _)); refine blk_put (cs := #[.int .i64 ((rd_T70 l0 x14_1).f0), .string (⟨#[]⟩ : ByteArray), .string (⟨#[]⟩ : ByteArray)]) ?_ 1 _ rfl; (with_reducible repeat (first | refine blk_drewN ?_ _ | refine blk_drew ?_ | refine blk_alloc ?_ _)); refine blk_put (cs := #[.int .i64 0, .string (⟨#[]⟩ : ByteArray), .string (⟨#[]⟩ : ByteArray)]) ?_ 0 _ rfl; (with_reducible repeat (first | refine blk_drewN ?_ _ | refine blk_drew ?_ | refine blk_alloc ?_ _)); exact BK105.out⟩, ⟨by repeat (first | (with_reducible first | exact HB.out | apply below_alloc | apply pw_below_drewN | apply below_drew1 | refine below_set ?_ GE105.out) | exact HB.out)⟩⟩
       replace c14 := Bool.eq_false_iff.mpr c14
       subst c14
       have H1 : (impl_replayed.j1 k1 x4_1 l0 (l0.length : Int) x14_1 true ((rd_T70 l0 x14_1).f0) ((rd_T70 l0 x14_1).f1) ((rd_T70 l0 x14_1).f2)) = some (r1, r2) := by rw [if_neg (show ¬ (false = true) by decide)] at H; exact H
       clear H
       have H := H1
       clear H1
       have H' := Aside0.mk H
       clear H
       have hcz17_0 := cz_ BK105.out 0 _ rfl
       have hcz17_1 := cz_ BK105.out 1 _ rfl
       have hcz17_2 := cz_ BK105.out 2 _ rfl
       have hfz17_0 := blk_frozen BK105.out 0
       have hfz17_1 := blk_frozen BK105.out 1
       have hfz17_2 := blk_frozen BK105.out 2
       go_wp2_with (first | (go_at_call 111; (try simp only [i64_w, i32_w]); (with_reducible refine (impl_isName.calls k1 ((rd_T70 l0 x14_1).f1) false _ A13.out).mono ?_); rintro e w' ⟨rfl, ⟨nd, rfl⟩⟩; (try first | exact ⟨rfl, _, World.drewN_drewN _ _ _⟩ | exact ⟨rfl, _, Eq.trans (World.drewN_drewN _ _ _) (congrArg (World.drewN _) (Nat.add_assoc _ _ _))⟩)))
       repeat (go_quiet (first | (go_at_call 111; (try simp only [i64_w, i32_w]); (with_reducible refine (impl_isName.calls k1 ((rd_T70 l0 x14_1).f1) false _ A13.out).mono ?_); rintro e w' ⟨rfl, ⟨nd, rfl⟩⟩; (try first | exact ⟨rfl, _, World.drewN_drewN _ _ _⟩ | exact ⟨rfl, _, Eq.trans (World.drewN_drewN _ _ _) (congrArg (World.drewN _) (Nat.add_assoc _ _ _))⟩))); try go_wp2_with (first | (go_at_call 111; (try simp only [i64_w, i32_w]); (with_reducible refine (impl_isName.calls k1 ((rd_T70 l0 x14_1).f1) false _ A13.out).mono ?_); rintro e w' ⟨rfl, ⟨nd, rfl⟩⟩; (try first | exact ⟨rfl, _, World.drewN_drewN _ _ _⟩ | exact ⟨rfl, _, Eq.trans (World.drewN_drewN _ _ _) (congrArg (World.drewN _) (Nat.add_assoc _ _ _))⟩))))
       go_meet
       case rel => exact ⟨_, (true), (by first | rfl | (simp; done) | (simp [*]; done) | (simp [beq_nil_, bne_nil_]; done)), H', ⟨by have := HK1.out; first | omega | exact Nat.le_refl _⟩, ⟨by (with_reducible repeat (first | apply Kd.R_alloc | apply Kd.R_drewN | apply Kd.R_drew)); exact Kd.R_mono (Kd.R_far (p := ⟨gb105, 2, none⟩) (Kd.R_far (p := ⟨gb105, 1, none⟩) (Kd.R_far (p := ⟨gb105, 0, none⟩) (Kd.R_types HO_4.out BK105.out (by decide)) (fun _ hk => hk.2) (.int .i64 ((rd_T70 l0 x14_1).f0))) (fun _ hk => hk.2) (.string ((rd_T70 l0 x14_1).f1))) (fun _ hk => hk.2) (.string ((rd_T70 l0 x14_1).f2))) (fun _ hk => trivial)⟩, ⟨by (with_reducible repeat (first | refine blk_drewN ?_ _ | refine blk_drew ?_ | refine blk_alloc ?_ _)); refine blk_put (cs := #[.int .i64 ((rd_T70 l0 x14_1).f0), .string ((rd_T70 l0 x14_1).f1), .string (⟨#[]⟩ : ByteArray)]) ?_ 2 _ rfl; (with_reducible repeat (first | refine blk_drewN ?_ _ | refine blk_drew ?_ | refine blk_alloc ?_ _)); refine blk_put (cs := #[.int .i64 ((rd_T70 l0 x14_1).f0), .string (⟨#[]⟩ : ByteArray), .string (⟨#[]⟩ : ByteArray)]) ?_ 1 _ rfl; (with_reducible repeat (first | refine blk_drewN ?_ _ | refine blk_drew ?_ | refine blk_alloc ?_ _)); refine blk_put (cs := #[.int .i64 0, .string (⟨#[]⟩ : ByteArray), .string (⟨#[]⟩ : ByteArray)]) ?_ 0 _ rfl; (with_reducible repeat (first | refine blk_drewN ?_ _ | refine blk_drew ?_ | refine blk_alloc ?_ _)); exact BK105.out⟩, ⟨by repeat (first | (with_reducible first | exact HB.out | apply below_alloc | apply pw_below_drewN | apply below_drew1 | refine below_set ?_ GE105.out) | exact HB.out)⟩⟩
      case rest =>
       clear HC10
       try clear c1
       try clear p1
       try clear q1
       try clear hx1
       try clear c2
       try clear c2b0
       try clear c2b1
       try clear p2
       try clear c7
       try clear c7b0
       try clear c8
       try clear c8b0
       try clear c9
       try clear c9b0
       try clear p10
       try clear q10
       try clear hx10
       try clear c14
       try clear hcz12_0
       try clear hcz12_1
       try clear hcz12_2
       try clear hcz16_0
       try clear hcz16_1
       try clear hcz16_2
       try clear hcz17_0
       try clear hcz17_1
       try clear hcz17_2
       try clear hfz12_0
       try clear hfz12_1
       try clear hfz12_2
       try clear hfz16_0
       try clear hfz16_1
       try clear hfz16_2
       try clear hfz17_0
       try clear hfz17_1
       try clear hfz17_2
       try clear hx104_0
       try clear hx104_1
       try clear hx104_2
       try clear p104
       try clear p2
       try clear q104
       obtain ⟨kq, x27_9, rfl, HA, HJ9, HO_4, BK105, HB⟩ := hcut
       cases kq with
       | zero => exact absurd HA.out (by simp [impl_replayed.j1])
       | succ kj9 =>
        have H := HA.out
        clear HA
        simp only [impl_replayed.j1] at H
        by_cases c18 : x27_9 = true
        ·subst c18
         have H1 : (some (([] : List (S123)), false)) = some (r1, r2) := by rw [if_pos rfl] at H; exact H
         clear H
         have H := H1
         clear H1
         simp only [Option.some.injEq, Prod.mk.injEq] at H
         obtain ⟨rfl, rfl⟩ := H
         go_wp2
         repeat (go_quiet (fail); try go_wp2)
         go_ret2
         exact ⟨_, by first | rfl | (simp [errW_none, errW_some] <;> rfl) | (simp [*, errW_none, errW_some] <;> rfl), by first | exact Kd.R_nil _ _ _ _ _ | exact Kd.N_nil _ _ _ _ _ | exact Kd.V_nil _ _ _ _ _ | exact Kd.Q_nil _ _ _ _ _ | exact Kd.S_nil _ _ _ _ _, by repeat (first | (with_reducible first | exact HB.out | apply below_alloc | apply pw_below_drewN | apply below_drew1 | refine below_set ?_ GE105.out) | exact HB.out)⟩
        replace c18 := Bool.eq_false_iff.mpr c18
        subst c18
        have H1 : ((impl_item_at114.f kj9 x4_1 ((rd_T70 l0 x14_1).f0) ((rd_T70 l0 x14_1).f1) ((rd_T70 l0 x14_1).f2)).bind fun t108 => (if t108 < 0 then (if ((rd_T70 l0 x14_1).f0) = 1 then (if x4_1.length < 3518437208883 then (impl_replayed.l0 kj9 (x4_1 ++ [(⟨((rd_T70 l0 x14_1).f1), ((rd_T70 l0 x14_1).f2), false⟩ : S123)]) l0 (l0.length : Int) (wrap64 (x14_1 + 1))) else (none)) else (some (([] : List (S123)), false))) else (if ((rd_T70 l0 x14_1).f0) = 1 then (some (([] : List (S123)), false)) else (if ((rd_T70 l0 x14_1).f0) = 2 then (if 0 ≤ t108 then (if t108 < (x4_1.length : Int) then (if (rd_T123 x4_1 t108).f2 = true then (some (([] : List (S123)), false)) else (impl_replayed.l0 kj9 (x4_1.set (t108 : Int).toNat (⟨(rd_T123 x4_1 t108).f0, ((rd_T70 l0 x14_1).f2), (rd_T123 x4_1 t108).f2⟩ : S123)) l0 (l0.length : Int) (wrap64 (x14_1 + 1)))) else (none)) else (none)) else (if ((rd_T70 l0 x14_1).f0) = 3 then (impl_replayed.j2 kj9 x4_1 t108 l0 (l0.length : Int) x14_1 (((rd_T70 l0 x14_1).f0) == 3) ((rd_T70 l0 x14_1).f0) ((rd_T70 l0 x14_1).f1) ((rd_T70 l0 x14_1).f2)) else (impl_replayed.j2 kj9 x4_1 t108 l0 (l0.length : Int) x14_1 (((rd_T70 l0 x14_1).f0) == 4) ((rd_T70 l0 x14_1).f0) ((rd_T70 l0 x14_1).f1) ((rd_T70 l0 x14_1).f2))))))) = some (r1, r2) := by rw [if_neg (show ¬ (false = true) by decide)] at H; exact H
        clear H
        have H := H1
        clear H1
        replace H := Option.bind_eq_some_iff.mp H
        obtain ⟨t108, A190, H⟩ := H
        replace H : (if t108 < 0 then (if ((rd_T70 l0 x14_1).f0) = 1 then (if x4_1.length < 3518437208883 then (impl_replayed.l0 kj9 (x4_1 ++ [(⟨((rd_T70 l0 x14_1).f1), ((rd_T70 l0 x14_1).f2), false⟩ : S123)]) l0 (l0.length : Int) (wrap64 (x14_1 + 1))) else (none)) else (some (([] : List (S123)), false))) else (if ((rd_T70 l0 x14_1).f0) = 1 then (some (([] : List (S123)), false)) else (if ((rd_T70 l0 x14_1).f0) = 2 then (if 0 ≤ t108 then (if t108 < (x4_1.length : Int) then (if (rd_T123 x4_1 t108).f2 = true then (some (([] : List (S123)), false)) else (impl_replayed.l0 kj9 (x4_1.set (t108 : Int).toNat (⟨(rd_T123 x4_1 t108).f0, ((rd_T70 l0 x14_1).f2), (rd_T123 x4_1 t108).f2⟩ : S123)) l0 (l0.length : Int) (wrap64 (x14_1 + 1)))) else (none)) else (none)) else (if ((rd_T70 l0 x14_1).f0) = 3 then (impl_replayed.j2 kj9 x4_1 t108 l0 (l0.length : Int) x14_1 (((rd_T70 l0 x14_1).f0) == 3) ((rd_T70 l0 x14_1).f0) ((rd_T70 l0 x14_1).f1) ((rd_T70 l0 x14_1).f2)) else (impl_replayed.j2 kj9 x4_1 t108 l0 (l0.length : Int) x14_1 (((rd_T70 l0 x14_1).f0) == 4) ((rd_T70 l0 x14_1).f0) ((rd_T70 l0 x14_1).f1) ((rd_T70 l0 x14_1).f2)))))) = some (r1, r2) := H
        have A19 := Aside0.mk A190
        clear A190
        by_cases c20 : t108 < 0
        ·rw [if_pos c20] at H
         have c20b0 : decide (t108 < 0) = true := decide_eq_true c20
         clear c20
         by_cases c21 : ((rd_T70 l0 x14_1).f0) = 1
         ·rw [if_pos c21] at H
          have c21b0 : (((rd_T70 l0 x14_1).f0) == 1) = true := beq_iff_eq.mpr c21
          have c21b1 : (((rd_T70 l0 x14_1).f0) != 1) = false := bne_eq_false_iff_eq.mpr c21
          clear c21
          by_cases c22 : x4_1.length < 3518437208883
          ·rw [if_pos c22] at H
           have LMc22 := Aside0.mk c22
           clear c22
           obtain ⟨y109, hy109⟩ : ∃ y_ : List (S123), y_ = (x4_1 ++ [(⟨((rd_T70 l0 x14_1).f1), ((rd_T70 l0 x14_1).f2), false⟩ : S123)]) := ⟨_, rfl⟩
           replace H : (impl_replayed.l0 kj9 y109 l0 (l0.length : Int) (wrap64 (x14_1 + 1))) = some (r1, r2) := by first | (rw [hy109]; with_reducible exact H) | (have H2_ := (Option.bind_some _ _).symm.trans H; rw [hy109]; with_reducible exact H2_) | (have H2_ := (Option.bind_some _ _).symm.trans H; with_reducible exact H2_) | with_reducible exact H | (rw [hy109]; exact H) | exact H
           have Ny109 := Aside0.mk hy109
           clear hy109
           have H' := Aside0.mk H
           clear H
           obtain ⟨Ao23, co23, eo23⟩ := Kd.R_slice HO_4.out
           subst eo23
           go_wp2_with (first | (go_at_call 93; (try simp only [i64_w, i32_w]); (with_reducible refine (impl_item_at114.calls kj9 _ _ x4_1 gb105 ((rd_T70 l0 x14_1).f0) ((rd_T70 l0 x14_1).f1) ((rd_T70 l0 x14_1).f2) t108 _ ?side1 ?side2 ?side3 A19.out).mono ?_); (case side1 => repeat (first | exact (Kd.R_reads' HO_4.out).2.2 | (with_reducible refine Kd.C_alloc ?_ _) | (with_reducible refine Kd.C_drewN ?_ _) | (with_reducible refine Kd.C_drew ?_))); (case side2 => exact (Kd.R_reads' HO_4.out).2.1); (case side3 => (with_reducible repeat (first | refine blk_drewN ?_ _ | refine blk_drew ?_ | refine blk_alloc ?_ _)); exact BK105.out); rintro e w24 ⟨rfl, hb⟩; have n0_ := Aside0.mk (Kd.R_below (pR_ HO_4.out) hb); have n1_ := Aside0.mk (blk_below (g := gb105) (o := .cells #[.int .i64 ((rd_T70 l0 x14_1).f0), .string ((rd_T70 l0 x14_1).f1), .string ((rd_T70 l0 x14_1).f2)] 70 (0, 0)) (pB_ BK105.out) hb); have n2_ := Aside0.mk (below_step (pH_ HB.out) hb); clear HO_4; clear BK105; clear HB; have HO_4 := n0_; have BK105 := n1_; have HB := n2_; clear n0_ n1_ n2_; (try clear hb); (try clear hb2); (try clear hk); (try clear hi); have hcz25_0 := cz_ BK105.out 0 _ rfl; have hcz25_1 := cz_ BK105.out 1 _ rfl; have hcz25_2 := cz_ BK105.out 2 _ rfl; have hfz25_0 := blk_frozen BK105.out 0; have hfz25_1 := blk_frozen BK105.out 1; have hfz25_2 := blk_frozen BK105.out 2) | ((with_reducible refine gate_builtin (b := .append) (xs := #[.tmp 41, .tmp 47]) rfl ?_); at_builtin; refine Kd.R_append k123 (w0 := w) w.heap.size rfl (.tmp 41) (.tmp 47) 111 123 (.agg #[(.string ⟨#[]⟩), (.string ⟨#[]⟩), (.bool false)]) 40 rfl Try.underlying111 info123 rfl (by decide) (by omega) (.slice Ao23 x4_1.length co23) x4_1 (⟨((rd_T70 l0 x14_1).f1), ((rd_T70 l0 x14_1).f2), false⟩ : S123) [.string ((rd_T70 l0 x14_1).f1), .string ((rd_T70 l0 x14_1).f2), .bool false] (fun _ => True) (fun _ => False) rfl rfl ?aP (fun _ hk => hk.elim) ?aF ?aO ?aB ?aS ?aL ?_; (case aP => exact k123_mkM _ _ _ (⟨((rd_T70 l0 x14_1).f1), ((rd_T70 l0 x14_1).f2), false⟩ : S123)); (case aB => exact (pH_ HB.out)); (case aF => exact (fun _ _ => trivial)); (case aO => exact (pR_ HO_4.out)); (case aS => exact (below_size (pH_ HB.out))); (case aL => have := LMc22.out; omega); intro v110 w26 ho hb hg hat; rw [← Ny109.out] at ho; have n0_ := Aside0.mk (blk_grown (g := gb105) (o := .cells #[.int .i64 ((rd_T70 l0 x14_1).f0), .string ((rd_T70 l0 x14_1).f1), .string ((rd_T70 l0 x14_1).f2)] 70 (0, 0)) (pB_ BK105.out) hg (Kd.R_ne HO_4.out BK105.out (by decide))); have n1_ := Aside0.mk (hb); have n2_ := Aside0.mk (ho); clear BK105; clear HB; clear HO_4; have BK105 := n0_; have HB := n1_; have HO111 := n2_; clear n0_ n1_ n2_; clear ho hb hg hat))
           repeat (go_quiet (first | (go_at_call 93; (try simp only [i64_w, i32_w]); (with_reducible refine (impl_item_at114.calls kj9 _ _ x4_1 gb105 ((rd_T70 l0 x14_1).f0) ((rd_T70 l0 x14_1).f1) ((rd_T70 l0 x14_1).f2) t108 _ ?side1 ?side2 ?side3 A19.out).mono ?_); (case side1 => repeat (first | exact (Kd.R_reads' HO_4.out).2.2 | (with_reducible refine Kd.C_alloc ?_ _) | (with_reducible refine Kd.C_drewN ?_ _) | (with_reducible refine Kd.C_drew ?_))); (case side2 => exact (Kd.R_reads' HO_4.out).2.1); (case side3 => (with_reducible repeat (first | refine blk_drewN ?_ _ | refine blk_drew ?_ | refine blk_alloc ?_ _)); exact BK105.out); rintro e w24 ⟨rfl, hb⟩; have n0_ := Aside0.mk (Kd.R_below (pR_ HO_4.out) hb); have n1_ := Aside0.mk (blk_below (g := gb105) (o := .cells #[.int .i64 ((rd_T70 l0 x14_1).f0), .string ((rd_T70 l0 x14_1).f1), .string ((rd_T70 l0 x14_1).f2)] 70 (0, 0)) (pB_ BK105.out) hb); have n2_ := Aside0.mk (below_step (pH_ HB.out) hb); clear HO_4; clear BK105; clear HB; have HO_4 := n0_; have BK105 := n1_; have HB := n2_; clear n0_ n1_ n2_; (try clear hb); (try clear hb2); (try clear hk); (try clear hi); have hcz25_0 := cz_ BK105.out 0 _ rfl; have hcz25_1 := cz_ BK105.out 1 _ rfl; have hcz25_2 := cz_ BK105.out 2 _ rfl; have hfz25_0 := blk_frozen BK105.out 0; have hfz25_1 := blk_frozen BK105.out 1; have hfz25_2 := blk_frozen BK105.out 2) | ((with_reducible refine gate_builtin (b := .append) (xs := #[.tmp 41, .tmp 47]) rfl ?_); at_builtin; refine Kd.R_append k123 (w0 := w) w.heap.size rfl (.tmp 41) (.tmp 47) 111 123 (.agg #[(.string ⟨#[]⟩), (.string ⟨#[]⟩), (.bool false)]) 40 rfl Try.underlying111 info123 rfl (by decide) (by omega) (.slice Ao23 x4_1.length co23) x4_1 (⟨((rd_T70 l0 x14_1).f1), ((rd_T70 l0 x14_1).f2), false⟩ : S123) [.string ((rd_T70 l0 x14_1).f1), .string ((rd_T70 l0 x14_1).f2), .bool false] (fun _ => True) (fun _ => False) rfl rfl ?aP (fun _ hk => hk.elim) ?aF ?aO ?aB ?aS ?aL ?_; (case aP => exact k123_mkM _ _ _ (⟨((rd_T70 l0 x14_1).f1), ((rd_T70 l0 x14_1).f2), false⟩ : S123)); (case aB => exact (pH_ HB.out)); (case aF => exact (fun _ _ => trivial)); (case aO => exact (pR_ HO_4.out)); (case aS => exact (below_size (pH_ HB.out))); (case aL => have := LMc22.out; omega); intro v110 w26 ho hb hg hat; rw [← Ny109.out] at ho; have n0_ := Aside0.mk (blk_grown (g := gb105) (o := .cells #[.int .i64 ((rd_T70 l0 x14_1).f0), .string ((rd_T70 l0 x14_1).f1), .string ((rd_T70 l0 x14_1).f2)] 70 (0, 0)) (pB_ BK105.out) hg (Kd.R_ne HO_4.out BK105.out (by decide))); have n1_ := Aside0.mk (hb); have n2_ := Aside0.mk (ho); clear BK105; clear HB; clear HO_4; have BK105 := n0_; have HB := n1_; have HO111 := n2_; clear n0_ n1_ n2_; clear ho hb hg hat)); try go_wp2_with (first | (go_at_call 93; (try simp only [i64_w, i32_w]); (with_reducible refine (impl_item_at114.calls kj9 _ _ x4_1 gb105 ((rd_T70 l0 x14_1).f0) ((rd_T70 l0 x14_1).f1) ((rd_T70 l0 x14_1).f2) t108 _ ?side1 ?side2 ?side3 A19.out).mono ?_); (case side1 => repeat (first | exact (Kd.R_reads' HO_4.out).2.2 | (with_reducible refine Kd.C_alloc ?_ _) | (with_reducible refine Kd.C_drewN ?_ _) | (with_reducible refine Kd.C_drew ?_))); (case side2 => exact (Kd.R_reads' HO_4.out).2.1); (case side3 => (with_reducible repeat (first | refine blk_drewN ?_ _ | refine blk_drew ?_ | refine blk_alloc ?_ _)); exact BK105.out); rintro e w24 ⟨rfl, hb⟩; have n0_ := Aside0.mk (Kd.R_below (pR_ HO_4.out) hb); have n1_ := Aside0.mk (blk_below (g := gb105) (o := .cells #[.int .i64 ((rd_T70 l0 x14_1).f0), .string ((rd_T70 l0 x14_1).f1), .string ((rd_T70 l0 x14_1).f2)] 70 (0, 0)) (pB_ BK105.out) hb); have n2_ := Aside0.mk (below_step (pH_ HB.out) hb); clear HO_4; clear BK105; clear HB; have HO_4 := n0_; have BK105 := n1_; have HB := n2_; clear n0_ n1_ n2_; (try clear hb); (try clear hb2); (try clear hk); (try clear hi); have hcz25_0 := cz_ BK105.out 0 _ rfl; have hcz25_1 := cz_ BK105.out 1 _ rfl; have hcz25_2 := cz_ BK105.out 2 _ rfl; have hfz25_0 := blk_frozen BK105.out 0; have hfz25_1 := blk_frozen BK105.out 1; have hfz25_2 := blk_frozen BK105.out 2) | ((with_reducible refine gate_builtin (b := .append) (xs := #[.tmp 41, .tmp 47]) rfl ?_); at_builtin; refine Kd.R_append k123 (w0 := w) w.heap.size rfl (.tmp 41) (.tmp 47) 111 123 (.agg #[(.string ⟨#[]⟩), (.string ⟨#[]⟩), (.bool false)]) 40 rfl Try.underlying111 info123 rfl (by decide) (by omega) (.slice Ao23 x4_1.length co23) x4_1 (⟨((rd_T70 l0 x14_1).f1), ((rd_T70 l0 x14_1).f2), false⟩ : S123) [.string ((rd_T70 l0 x14_1).f1), .string ((rd_T70 l0 x14_1).f2), .bool false] (fun _ => True) (fun _ => False) rfl rfl ?aP (fun _ hk => hk.elim) ?aF ?aO ?aB ?aS ?aL ?_; (case aP => exact k123_mkM _ _ _ (⟨((rd_T70 l0 x14_1).f1), ((rd_T70 l0 x14_1).f2), false⟩ : S123)); (case aB => exact (pH_ HB.out)); (case aF => exact (fun _ _ => trivial)); (case aO => exact (pR_ HO_4.out)); (case aS => exact (below_size (pH_ HB.out))); (case aL => have := LMc22.out; omega); intro v110 w26 ho hb hg hat; rw [← Ny109.out] at ho; have n0_ := Aside0.mk (blk_grown (g := gb105) (o := .cells #[.int .i64 ((rd_T70 l0 x14_1).f0), .string ((rd_T70 l0 x14_1).f1), .string ((rd_T70 l0 x14_1).f2)] 70 (0, 0)) (pB_ BK105.out) hg (Kd.R_ne HO_4.out BK105.out (by decide))); have n1_ := Aside0.mk (hb); have n2_ := Aside0.mk (ho); clear BK105; clear HB; clear HO_4; have BK105 := n0_; have HB := n1_; have HO111 := n2_; clear n0_ n1_ n2_; clear ho hb hg hat)))
           go_roundg kj9
           case measure => have := HK1.out; have := HJ9.out; omega
           case rel => exact ⟨(y109), (wrap64 (x14_1 + 1)), (by first | rfl | (simp; done) | (simp [*]; done) | (simp [beq_nil_, bne_nil_]; done)), H', ⟨by have := HK1.out; have := HJ9.out; omega⟩, ⟨by (with_reducible repeat (first | apply Kd.R_alloc | apply Kd.R_drewN | apply Kd.R_drew)); exact HO111.out⟩, ⟨by repeat (first | (with_reducible first | exact HB.out | apply below_alloc | apply pw_below_drewN | apply below_drew1 | refine below_set ?_ GE105.out) | exact HB.out)⟩⟩
          rw [if_neg c22] at H
          exact absurd H (by simp)
         rw [if_neg c21] at H
         have c21b0 : (((rd_T70 l0 x14_1).f0) == 1) = false := beq_eq_false_iff_ne.mpr c21
         have c21b1 : (((rd_T70 l0 x14_1).f0) != 1) = true := bne_iff_ne.mpr c21
         simp only [Option.some.injEq, Prod.mk.injEq] at H
         obtain ⟨rfl, rfl⟩ := H
         obtain ⟨Ao27, co27, eo27⟩ := Kd.R_slice HO_4.out
         subst eo27
         go_wp2_with (first | (go_at_call 93; (try simp only [i64_w, i32_w]); (with_reducible refine (impl_item_at114.calls kj9 _ _ x4_1 gb105 ((rd_T70 l0 x14_1).f0) ((rd_T70 l0 x14_1).f1) ((rd_T70 l0 x14_1).f2) t108 _ ?side1 ?side2 ?side3 A19.out).mono ?_); (case side1 => repeat (first | exact (Kd.R_reads' HO_4.out).2.2 | (with_reducible refine Kd.C_alloc ?_ _) | (with_reducible refine Kd.C_drewN ?_ _) | (with_reducible refine Kd.C_drew ?_))); (case side2 => exact (Kd.R_reads' HO_4.out).2.1); (case side3 => (with_reducible repeat (first | refine blk_drewN ?_ _ | refine blk_drew ?_ | refine blk_alloc ?_ _)); exact BK105.out); rintro e w28 ⟨rfl, hb⟩; have n0_ := Aside0.mk (Kd.R_below (pR_ HO_4.out) hb); have n1_ := Aside0.mk (blk_below (g := gb105) (o := .cells #[.int .i64 ((rd_T70 l0 x14_1).f0), .string ((rd_T70 l0 x14_1).f1), .string ((rd_T70 l0 x14_1).f2)] 70 (0, 0)) (pB_ BK105.out) hb); have n2_ := Aside0.mk (below_step (pH_ HB.out) hb); clear HO_4; clear BK105; clear HB; have HO_4 := n0_; have BK105 := n1_; have HB := n2_; clear n0_ n1_ n2_; (try clear hb); (try clear hb2); (try clear hk); (try clear hi); have hcz29_0 := cz_ BK105.out 0 _ rfl; have hcz29_1 := cz_ BK105.out 1 _ rfl; have hcz29_2 := cz_ BK105.out 2 _ rfl; have hfz29_0 := blk_frozen BK105.out 0; have hfz29_1 := blk_frozen BK105.out 1; have hfz29_2 := blk_frozen BK105.out 2))
         repeat (go_quiet (first | (go_at_call 93; (try simp only [i64_w, i32_w]); (with_reducible refine (impl_item_at114.calls kj9 _ _ x4_1 gb105 ((rd_T70 l0 x14_1).f0) ((rd_T70 l0 x14_1).f1) ((rd_T70 l0 x14_1).f2) t108 _ ?side1 ?side2 ?side3 A19.out).mono ?_); (case side1 => repeat (first | exact (Kd.R_reads' HO_4.out).2.2 | (with_reducible refine Kd.C_alloc ?_ _) | (with_reducible refine Kd.C_drewN ?_ _) | (with_reducible refine Kd.C_drew ?_))); (case side2 => exact (Kd.R_reads' HO_4.out).2.1); (case side3 => (with_reducible repeat (first | refine blk_drewN ?_ _ | refine blk_drew ?_ | refine blk_alloc ?_ _)); exact BK105.out); rintro e w28 ⟨rfl, hb⟩; have n0_ := Aside0.mk (Kd.R_below (pR_ HO_4.out) hb); have n1_ := Aside0.mk (blk_below (g := gb105) (o := .cells #[.int .i64 ((rd_T70 l0 x14_1).f0), .string ((rd_T70 l0 x14_1).f1), .string ((rd_T70 l0 x14_1).f2)] 70 (0, 0)) (pB_ BK105.out) hb); have n2_ := Aside0.mk (below_step (pH_ HB.out) hb); clear HO_4; clear BK105; clear HB; have HO_4 := n0_; have BK105 := n1_; have HB := n2_; clear n0_ n1_ n2_; (try clear hb); (try clear hb2); (try clear hk); (try clear hi); have hcz29_0 := cz_ BK105.out 0 _ rfl; have hcz29_1 := cz_ BK105.out 1 _ rfl; have hcz29_2 := cz_ BK105.out 2 _ rfl; have hfz29_0 := blk_frozen BK105.out 0; have hfz29_1 := blk_frozen BK105.out 1; have hfz29_2 := blk_frozen BK105.out 2)); try go_wp2_with (first | (go_at_call 93; (try simp only [i64_w, i32_w]); (with_reducible refine (impl_item_at114.calls kj9 _ _ x4_1 gb105 ((rd_T70 l0 x14_1).f0) ((rd_T70 l0 x14_1).f1) ((rd_T70 l0 x14_1).f2) t108 _ ?side1 ?side2 ?side3 A19.out).mono ?_); (case side1 => repeat (first | exact (Kd.R_reads' HO_4.out).2.2 | (with_reducible refine Kd.C_alloc ?_ _) | (with_reducible refine Kd.C_drewN ?_ _) | (with_reducible refine Kd.C_drew ?_))); (case side2 => exact (Kd.R_reads' HO_4.out).2.1); (case side3 => (with_reducible repeat (first | refine blk_drewN ?_ _ | refine blk_drew ?_ | refine blk_alloc ?_ _)); exact BK105.out); rintro e w28 ⟨rfl, hb⟩; have n0_ := Aside0.mk (Kd.R_below (pR_ HO_4.out) hb); have n1_ := Aside0.mk (blk_below (g := gb105) (o := .cells #[.int .i64 ((rd_T70 l0 x14_1).f0), .string ((rd_T70 l0 x14_1).f1), .string ((rd_T70 l0 x14_1).f2)] 70 (0, 0)) (pB_ BK105.out) hb); have n2_ := Aside0.mk (below_step (pH_ HB.out) hb); clear HO_4; clear BK105; clear HB; have HO_4 := n0_; have BK105 := n1_; have HB := n2_; clear n0_ n1_ n2_; (try clear hb); (try clear hb2); (try clear hk); (try clear hi); have hcz29_0 := cz_ BK105.out 0 _ rfl; have hcz29_1 := cz_ BK105.out 1 _ rfl; have hcz29_2 := cz_ BK105.out 2 _ rfl; have hfz29_0 := blk_frozen BK105.out 0; have hfz29_1 := blk_frozen BK105.out 1; have hfz29_2 := blk_frozen BK105.out 2)))
         go_ret2
         exact ⟨_, by first | rfl | (simp [errW_none, errW_some] <;> rfl) | (simp [*, errW_none, errW_some] <;> rfl), by first | exact Kd.R_nil _ _ _ _ _ | exact Kd.N_nil _ _ _ _ _ | exact Kd.V_nil _ _ _ _ _ | exact Kd.Q_nil _ _ _ _ _ | exact Kd.S_nil _ _ _ _ _, by repeat (first | (with_reducible first | exact HB.out | apply below_alloc | apply pw_below_drewN | apply below_drew1 | refine below_set ?_ GE105.out) | exact HB.out)⟩
        rw [if_neg c20] at H
        have c20b0 : decide (t108 < 0) = false := decide_eq_false c20
        clear c20
        by_cases c30 : ((rd_T70 l0 x14_1).f0) = 1
        ·rw [if_pos c30] at H
         have c30b0 : (((rd_T70 l0 x14_1).f0) == 1) = true := beq_iff_eq.mpr c30
         have c30b1 : (((rd_T70 l0 x14_1).f0) != 1) = false := bne_eq_false_iff_eq.mpr c30
         clear c30
         simp only [Option.some.injEq, Prod.mk.injEq] at H
         obtain ⟨rfl, rfl⟩ := H
         obtain ⟨Ao31, co31, eo31⟩ := Kd.R_slice HO_4.out
         subst eo31
         go_wp2_with (first | (go_at_call 93; (try simp only [i64_w, i32_w]); (with_reducible refine (impl_item_at114.calls kj9 _ _ x4_1 gb105 ((rd_T70 l0 x14_1).f0) ((rd_T70 l0 x14_1).f1) ((rd_T70 l0 x14_1).f2) t108 _ ?side1 ?side2 ?side3 A19.out).mono ?_); (case side1 => repeat (first | exact (Kd.R_reads' HO_4.out).2.2 | (with_reducible refine Kd.C_alloc ?_ _) | (with_reducible refine Kd.C_drewN ?_ _) | (with_reducible refine Kd.C_drew ?_))); (case side2 => exact (Kd.R_reads' HO_4.out).2.1); (case side3 => (with_reducible repeat (first | refine blk_drewN ?_ _ | refine blk_drew ?_ | refine blk_alloc ?_ _)); exact BK105.out); rintro e w32 ⟨rfl, hb⟩; have n0_ := Aside0.mk (Kd.R_below (pR_ HO_4.out) hb); have n1_ := Aside0.mk (blk_below (g := gb105) (o := .cells #[.int .i64 ((rd_T70 l0 x14_1).f0), .string ((rd_T70 l0 x14_1).f1), .string ((rd_T70 l0 x14_1).f2)] 70 (0, 0)) (pB_ BK105.out) hb); have n2_ := Aside0.mk (below_step (pH_ HB.out) hb); clear HO_4; clear BK105; clear HB; have HO_4 := n0_; have BK105 := n1_; have HB := n2_; clear n0_ n1_ n2_; (try clear hb); (try clear hb2); (try clear hk); (try clear hi); have hcz33_0 := cz_ BK105.out 0 _ rfl; have hcz33_1 := cz_ BK105.out 1 _ rfl; have hcz33_2 := cz_ BK105.out 2 _ rfl; have hfz33_0 := blk_frozen BK105.out 0; have hfz33_1 := blk_frozen BK105.out 1; have hfz33_2 := blk_frozen BK105.out 2))
         repeat (go_quiet (first | (go_at_call 93; (try simp only [i64_w, i32_w]); (with_reducible refine (impl_item_at114.calls kj9 _ _ x4_1 gb105 ((rd_T70 l0 x14_1).f0) ((rd_T70 l0 x14_1).f1) ((rd_T70 l0 x14_1).f2) t108 _ ?side1 ?side2 ?side3 A19.out).mono ?_); (case side1 => repeat (first | exact (Kd.R_reads' HO_4.out).2.2 | (with_reducible refine Kd.C_alloc ?_ _) | (with_reducible refine Kd.C_drewN ?_ _) | (with_reducible refine Kd.C_drew ?_))); (case side2 => exact (Kd.R_reads' HO_4.out).2.1); (case side3 => (with_reducible repeat (first | refine blk_drewN ?_ _ | refine blk_drew ?_ | refine blk_alloc ?_ _)); exact BK105.out); rintro e w32 ⟨rfl, hb⟩; have n0_ := Aside0.mk (Kd.R_below (pR_ HO_4.out) hb); have n1_ := Aside0.mk (blk_below (g := gb105) (o := .cells #[.int .i64 ((rd_T70 l0 x14_1).f0), .string ((rd_T70 l0 x14_1).f1), .string ((rd_T70 l0 x14_1).f2)] 70 (0, 0)) (pB_ BK105.out) hb); have n2_ := Aside0.mk (below_step (pH_ HB.out) hb); clear HO_4; clear BK105; clear HB; have HO_4 := n0_; have BK105 := n1_; have HB := n2_; clear n0_ n1_ n2_; (try clear hb); (try clear hb2); (try clear hk); (try clear hi); have hcz33_0 := cz_ BK105.out 0 _ rfl; have hcz33_1 := cz_ BK105.out 1 _ rfl; have hcz33_2 := cz_ BK105.out 2 _ rfl; have hfz33_0 := blk_frozen BK105.out 0; have hfz33_1 := blk_frozen BK105.out 1; have hfz33_2 := blk_frozen BK105.out 2)); try go_wp2_with (first | (go_at_call 93; (try simp only [i64_w, i32_w]); (with_reducible refine (impl_item_at114.calls kj9 _ _ x4_1 gb105 ((rd_T70 l0 x14_1).f0) ((rd_T70 l0 x14_1).f1) ((rd_T70 l0 x14_1).f2) t108 _ ?side1 ?side2 ?side3 A19.out).mono ?_); (case side1 => repeat (first | exact (Kd.R_reads' HO_4.out).2.2 | (with_reducible refine Kd.C_alloc ?_ _) | (with_reducible refine Kd.C_drewN ?_ _) | (with_reducible refine Kd.C_drew ?_))); (case side2 => exact (Kd.R_reads' HO_4.out).2.1); (case side3 => (with_reducible repeat (first | refine blk_drewN ?_ _ | refine blk_drew ?_ | refine blk_alloc ?_ _)); exact BK105.out); rintro e w32 ⟨rfl, hb⟩; have n0_ := Aside0.mk (Kd.R_below (pR_ HO_4.out) hb); have n1_ := Aside0.mk (blk_below (g := gb105) (o := .cells #[.int .i64 ((rd_T70 l0 x14_1).f0), .string ((rd_T70 l0 x14_1).f1), .string ((rd_T70 l0 x14_1).f2)] 70 (0, 0)) (pB_ BK105.out) hb); have n2_ := Aside0.mk (below_step (pH_ HB.out) hb); clear HO_4; clear BK105; clear HB; have HO_4 := n0_; have BK105 := n1_; have HB := n2_; clear n0_ n1_ n2_; (try clear hb); (try clear hb2); (try clear hk); (try clear hi); have hcz33_0 := cz_ BK105.out 0 _ rfl; have hcz33_1 := cz_ BK105.out 1 _ rfl; have hcz33_2 := cz_ BK105.out 2 _ rfl; have hfz33_0 := blk_frozen BK105.out 0; have hfz33_1 := blk_frozen BK105.out 1; have hfz33_2 := blk_frozen BK105.out 2)))
         go_ret2
         exact ⟨_, by first | rfl | (simp [errW_none, errW_some] <;> rfl) | (simp [*, errW_none, errW_some] <;> rfl), by first | exact Kd.R_nil _ _ _ _ _ | exact Kd.N_nil _ _ _ _ _ | exact Kd.V_nil _ _ _ _ _ | exact Kd.Q_nil _ _ _ _ _ | exact Kd.S_nil _ _ _ _ _, by repeat (first | (with_reducible first | exact HB.out | apply below_alloc | apply pw_below_drewN | apply below_drew1 | refine below_set ?_ GE105.out) | exact HB.out)⟩
        rw [if_neg c30] at H
        have c30b0 : (((rd_T70 l0 x14_1).f0) == 1) = false := beq_eq_false_iff_ne.mpr c30
        have c30b1 : (((rd_T70 l0 x14_1).f0) != 1) = true := bne_iff_ne.mpr c30
        by_cases c34 : ((rd_T70 l0 x14_1).f0) = 2
        ·rw [if_pos c34] at H
         have c34b0 : (((rd_T70 l0 x14_1).f0) == 2) = true := beq_iff_eq.mpr c34
         have c34b1 : (((rd_T70 l0 x14_1).f0) != 2) = false := bne_eq_false_iff_eq.mpr c34
         clear c34
         by_cases c35 : 0 ≤ t108
         ·rw [if_pos c35] at H
          have c35b0 : decide (0 ≤ t108) = true := decide_eq_true c35
          clear c35
          by_cases c36 : t108 < (x4_1.length : Int)
          ·rw [if_pos c36] at H
           have c36b0 : decide (t108 < (x4_1.length : Int)) = true := decide_eq_true c36
           clear c36
           obtain ⟨bq37, hbq37⟩ : ∃ b_ : Bool, b_ = ((rd_T123 x4_1 t108).f2) := ⟨_, rfl⟩
           replace H : (if bq37 = true then (some (([] : List (S123)), false)) else (impl_replayed.l0 kj9 (x4_1.set (t108 : Int).toNat (⟨(rd_T123 x4_1 t108).f0, ((rd_T70 l0 x14_1).f2), bq37⟩ : S123)) l0 (l0.length : Int) (wrap64 (x14_1 + 1)))) = some (r1, r2) := by rw [← hbq37] at H; exact H
           have Nbq37 := Aside0.mk hbq37
           clear hbq37
           by_cases c38 : bq37 = true
           ·subst c38
            have H1 : (some (([] : List (S123)), false)) = some (r1, r2) := by rw [if_pos rfl] at H; exact H
            clear H
            have H := H1
            clear H1
            simp only [Option.some.injEq, Prod.mk.injEq] at H
            obtain ⟨rfl, rfl⟩ := H
            obtain ⟨Ao39, co39, eo39⟩ := Kd.R_slice HO_4.out
            subst eo39
            go_wp2_with (first | (go_at_call 93; (try simp only [i64_w, i32_w]); (with_reducible refine (impl_item_at114.calls kj9 _ _ x4_1 gb105 ((rd_T70 l0 x14_1).f0) ((rd_T70 l0 x14_1).f1) ((rd_T70 l0 x14_1).f2) t108 _ ?side1 ?side2 ?side3 A19.out).mono ?_); (case side1 => repeat (first | exact (Kd.R_reads' HO_4.out).2.2 | (with_reducible refine Kd.C_alloc ?_ _) | (with_reducible refine Kd.C_drewN ?_ _) | (with_reducible refine Kd.C_drew ?_))); (case side2 => exact (Kd.R_reads' HO_4.out).2.1); (case side3 => (with_reducible repeat (first | refine blk_drewN ?_ _ | refine blk_drew ?_ | refine blk_alloc ?_ _)); exact BK105.out); rintro e w40 ⟨rfl, hb⟩; have n0_ := Aside0.mk (Kd.R_below (pR_ HO_4.out) hb); have n1_ := Aside0.mk (blk_below (g := gb105) (o := .cells #[.int .i64 ((rd_T70 l0 x14_1).f0), .string ((rd_T70 l0 x14_1).f1), .string ((rd_T70 l0 x14_1).f2)] 70 (0, 0)) (pB_ BK105.out) hb); have n2_ := Aside0.mk (below_step (pH_ HB.out) hb); clear HO_4; clear BK105; clear HB; have HO_4 := n0_; have BK105 := n1_; have HB := n2_; clear n0_ n1_ n2_; (try clear hb); (try clear hb2); (try clear hk); (try clear hi); have hcz41_0 := cz_ BK105.out 0 _ rfl; have hcz41_1 := cz_ BK105.out 1 _ rfl; have hcz41_2 := cz_ BK105.out 2 _ rfl; have hfz41_0 := blk_frozen BK105.out 0; have hfz41_1 := blk_frozen BK105.out 1; have hfz41_2 := blk_frozen BK105.out 2; have p112 : 0 ≤ (t108 : Int) := of_decide_eq_true (by first | (with_reducible assumption) | assumption); have q112 : t108 < (x4_1.length : Int) := of_decide_eq_true (by first | (with_reducible assumption) | assumption); obtain ⟨ad112, e112, hx112_0, hx112_1, hx112_2⟩ := at_T123 (Kd.R_reads' HO_4.out).2.2 t108 p112 q112; (try rw [← Nbq37.out] at hx112_2); cases e112; replace p112 := eq_true p112; replace q112 := eq_true q112))
            repeat (go_quiet (first | (go_at_call 93; (try simp only [i64_w, i32_w]); (with_reducible refine (impl_item_at114.calls kj9 _ _ x4_1 gb105 ((rd_T70 l0 x14_1).f0) ((rd_T70 l0 x14_1).f1) ((rd_T70 l0 x14_1).f2) t108 _ ?side1 ?side2 ?side3 A19.out).mono ?_); (case side1 => repeat (first | exact (Kd.R_reads' HO_4.out).2.2 | (with_reducible refine Kd.C_alloc ?_ _) | (with_reducible refine Kd.C_drewN ?_ _) | (with_reducible refine Kd.C_drew ?_))); (case side2 => exact (Kd.R_reads' HO_4.out).2.1); (case side3 => (with_reducible repeat (first | refine blk_drewN ?_ _ | refine blk_drew ?_ | refine blk_alloc ?_ _)); exact BK105.out); rintro e w40 ⟨rfl, hb⟩; have n0_ := Aside0.mk (Kd.R_below (pR_ HO_4.out) hb); have n1_ := Aside0.mk (blk_below (g := gb105) (o := .cells #[.int .i64 ((rd_T70 l0 x14_1).f0), .string ((rd_T70 l0 x14_1).f1), .string ((rd_T70 l0 x14_1).f2)] 70 (0, 0)) (pB_ BK105.out) hb); have n2_ := Aside0.mk (below_step (pH_ HB.out) hb); clear HO_4; clear BK105; clear HB; have HO_4 := n0_; have BK105 := n1_; have HB := n2_; clear n0_ n1_ n2_; (try clear hb); (try clear hb2); (try clear hk); (try clear hi); have hcz41_0 := cz_ BK105.out 0 _ rfl; have hcz41_1 := cz_ BK105.out 1 _ rfl; have hcz41_2 := cz_ BK105.out 2 _ rfl; have hfz41_0 := blk_frozen BK105.out 0; have hfz41_1 := blk_frozen BK105.out 1; have hfz41_2 := blk_frozen BK105.out 2; have p112 : 0 ≤ (t108 : Int) := of_decide_eq_true (by first | (with_reducible assumption) | assumption); have q112 : t108 < (x4_1.length : Int) := of_decide_eq_true (by first | (with_reducible assumption) | assumption); obtain ⟨ad112, e112, hx112_0, hx112_1, hx112_2⟩ := at_T123 (Kd.R_reads' HO_4.out).2.2 t108 p112 q112; (try rw [← Nbq37.out] at hx112_2); cases e112; replace p112 := eq_true p112; replace q112 := eq_true q112)); try go_wp2_with (first | (go_at_call 93; (try simp only [i64_w, i32_w]); (with_reducible refine (impl_item_at114.calls kj9 _ _ x4_1 gb105 ((rd_T70 l0 x14_1).f0) ((rd_T70 l0 x14_1).f1) ((rd_T70 l0 x14_1).f2) t108 _ ?side1 ?side2 ?side3 A19.out).mono ?_); (case side1 => repeat (first | exact (Kd.R_reads' HO_4.out).2.2 | (with_reducible refine Kd.C_alloc ?_ _) | (with_reducible refine Kd.C_drewN ?_ _) | (with_reducible refine Kd.C_drew ?_))); (case side2 => exact (Kd.R_reads' HO_4.out).2.1); (case side3 => (with_reducible repeat (first | refine blk_drewN ?_ _ | refine blk_drew ?_ | refine blk_alloc ?_ _)); exact BK105.out); rintro e w40 ⟨rfl, hb⟩; have n0_ := Aside0.mk (Kd.R_below (pR_ HO_4.out) hb); have n1_ := Aside0.mk (blk_below (g := gb105) (o := .cells #[.int .i64 ((rd_T70 l0 x14_1).f0), .string ((rd_T70 l0 x14_1).f1), .string ((rd_T70 l0 x14_1).f2)] 70 (0, 0)) (pB_ BK105.out) hb); have n2_ := Aside0.mk (below_step (pH_ HB.out) hb); clear HO_4; clear BK105; clear HB; have HO_4 := n0_; have BK105 := n1_; have HB := n2_; clear n0_ n1_ n2_; (try clear hb); (try clear hb2); (try clear hk); (try clear hi); have hcz41_0 := cz_ BK105.out 0 _ rfl; have hcz41_1 := cz_ BK105.out 1 _ rfl; have hcz41_2 := cz_ BK105.out 2 _ rfl; have hfz41_0 := blk_frozen BK105.out 0; have hfz41_1 := blk_frozen BK105.out 1; have hfz41_2 := blk_frozen BK105.out 2; have p112 : 0 ≤ (t108 : Int) := of_decide_eq_true (by first | (with_reducible assumption) | assumption); have q112 : t108 < (x4_1.length : Int) := of_decide_eq_true (by first | (with_reducible assumption) | assumption); obtain ⟨ad112, e112, hx112_0, hx112_1, hx112_2⟩ := at_T123 (Kd.R_reads' HO_4.out).2.2 t108 p112 q112; (try rw [← Nbq37.out] at hx112_2); cases e112; replace p112 := eq_true p112; replace q112 := eq_true q112)))
            go_ret2
            exact ⟨_, by first | rfl | (simp [errW_none, errW_some] <;> rfl) | (simp [*, errW_none, errW_some] <;> rfl), by first | exact Kd.R_nil _ _ _ _ _ | exact Kd.N_nil _ _ _ _ _ | exact Kd.V_nil _ _ _ _ _ | exact Kd.Q_nil _ _ _ _ _ | exact Kd.S_nil _ _ _ _ _, by repeat (first | (with_reducible first | exact HB.out | apply below_alloc | apply pw_below_drewN | apply below_drew1 | refine below_set ?_ GE105.out) | exact HB.out)⟩
           replace c38 := Bool.eq_false_iff.mpr c38
           subst c38
           have H1 : (impl_replayed.l0 kj9 (x4_1.set (t108 : Int).toNat (⟨(rd_T123 x4_1 t108).f0, ((rd_T70 l0 x14_1).f2), false⟩ : S123)) l0 (l0.length : Int) (wrap64 (x14_1 + 1))) = some (r1, r2) := by rw [if_neg (show ¬ (false = true) by decide)] at H; exact H
           clear H
           have H := H1
           clear H1
           obtain ⟨y113, hy113⟩ : ∃ y_ : List (S123), y_ = (x4_1.set (t108 : Int).toNat (⟨(rd_T123 x4_1 t108).f0, ((rd_T70 l0 x14_1).f2), false⟩ : S123)) := ⟨_, rfl⟩
           replace H : (impl_replayed.l0 kj9 y113 l0 (l0.length : Int) (wrap64 (x14_1 + 1))) = some (r1, r2) := by first | (rw [hy113]; with_reducible exact H) | (have H2_ := (Option.bind_some _ _).symm.trans H; rw [hy113]; with_reducible exact H2_) | (have H2_ := (Option.bind_some _ _).symm.trans H; with_reducible exact H2_) | with_reducible exact H | (rw [hy113]; exact H) | exact H
           have Ny113 := Aside0.mk hy113
           clear hy113
           have H' := Aside0.mk H
           clear H
           obtain ⟨Ao43, co43, eo43⟩ := Kd.R_slice HO_4.out
           subst eo43
           go_wp2_with (first | (go_at_call 93; (try simp only [i64_w, i32_w]); (with_reducible refine (impl_item_at114.calls kj9 _ _ x4_1 gb105 ((rd_T70 l0 x14_1).f0) ((rd_T70 l0 x14_1).f1) ((rd_T70 l0 x14_1).f2) t108 _ ?side1 ?side2 ?side3 A19.out).mono ?_); (case side1 => repeat (first | exact (Kd.R_reads' HO_4.out).2.2 | (with_reducible refine Kd.C_alloc ?_ _) | (with_reducible refine Kd.C_drewN ?_ _) | (with_reducible refine Kd.C_drew ?_))); (case side2 => exact (Kd.R_reads' HO_4.out).2.1); (case side3 => (with_reducible repeat (first | refine blk_drewN ?_ _ | refine blk_drew ?_ | refine blk_alloc ?_ _)); exact BK105.out); rintro e w44 ⟨rfl, hb⟩; have n0_ := Aside0.mk (Kd.R_below (pR_ HO_4.out) hb); have n1_ := Aside0.mk (blk_below (g := gb105) (o := .cells #[.int .i64 ((rd_T70 l0 x14_1).f0), .string ((rd_T70 l0 x14_1).f1), .string ((rd_T70 l0 x14_1).f2)] 70 (0, 0)) (pB_ BK105.out) hb); have n2_ := Aside0.mk (below_step (pH_ HB.out) hb); clear HO_4; clear BK105; clear HB; have HO_4 := n0_; have BK105 := n1_; have HB := n2_; clear n0_ n1_ n2_; (try clear hb); (try clear hb2); (try clear hk); (try clear hi); have hcz45_0 := cz_ BK105.out 0 _ rfl; have hcz45_1 := cz_ BK105.out 1 _ rfl; have hcz45_2 := cz_ BK105.out 2 _ rfl; have hfz45_0 := blk_frozen BK105.out 0; have hfz45_1 := blk_frozen BK105.out 1; have hfz45_2 := blk_frozen BK105.out 2; have p112 : 0 ≤ (t108 : Int) := of_decide_eq_true (by first | (with_reducible assumption) | assumption); have q112 : t108 < (x4_1.length : Int) := of_decide_eq_true (by first | (with_reducible assumption) | assumption); obtain ⟨ad112, e112, hx112_0, hx112_1, hx112_2⟩ := at_T123 (Kd.R_reads' HO_4.out).2.2 t108 p112 q112; (try rw [← Nbq37.out] at hx112_2); cases e112; replace p112 := eq_true p112; replace q112 := eq_true q112; have p42 : 0 ≤ (t108 : Int) := of_decide_eq_true (by first | (with_reducible assumption) | assumption); have q42 : (t108 : Int) < ((x4_1.length : Int) : Int) := of_decide_eq_true (by first | (with_reducible assumption) | assumption); obtain ⟨go42, co42, eo42, gb42, gl42, cl42, HG42⟩ := Kd.R_form HO_4.out (by omega); (first | cases eo42 | (injection eo42 with ea_ en_ ec_; (first | subst ea_ | (injection ea_ with ea_; subst ea_)); subst ec_; clear en_)); have GB42 := Aside0.mk gb42; have GG42 := Aside0.mk HG42; clear gb42 gl42 HG42; (first | simp only [add_plain] at hx112_0 | skip); (first | simp only [add_plain] at hx112_1 | skip); (first | simp only [add_plain] at hx112_2 | skip); obtain ⟨ce42, hcl42, hM42, hcc42, hfr42⟩ := Kd.R_elem HO_4.out z123 (t108 : Int) p42 q42; obtain rfl := k123_openM hM42; have hx42_0 : w44.cell? ⟨go42, (t108 : Int).toNat * 3, none⟩ = some (.string ((rd_T123 x4_1 t108).f0)) := hcc42 0 _ rfl; have hx42_1 : w44.cell? ⟨go42, (t108 : Int).toNat * 3 + 1, none⟩ = some (.string ((rd_T123 x4_1 t108).f1)) := hcc42 1 _ rfl; have hx42_2 : w44.cell? ⟨go42, (t108 : Int).toNat * 3 + 2, none⟩ = some (.bool ((rd_T123 x4_1 t108).f2)) := hcc42 2 _ rfl; have hf42_0 : w44.frozen? ⟨go42, (t108 : Int).toNat * 3, none⟩ = false := hfr42 0; have hf42_1 : w44.frozen? ⟨go42, (t108 : Int).toNat * 3 + 1, none⟩ = false := hfr42 1; have hf42_2 : w44.frozen? ⟨go42, (t108 : Int).toNat * 3 + 2, none⟩ = false := hfr42 2; clear hcl42 hcc42 hfr42 hM42; replace p42 := eq_true p42; replace q42 := eq_true q42; have HX46 := Aside0.mk (show Kd.R k123 123 w44 w.heap.size (fun _ => True) (.slice (some ⟨go42, 0, none⟩) x4_1.length co43) x4_1 from (pR_ HO_4.out)); obtain ⟨ce46, hcl46, hM46, hcc46, hfr46⟩ := Kd.R_elem HX46.out z123 (t108 : Int) (of_decide_eq_true (by first | (with_reducible assumption) | assumption)) (by have h_ : (t108 : Int) < ((x4_1.length : Int) : Int) := of_decide_eq_true (by first | (with_reducible assumption) | assumption); first | exact h_ | (have e_ := (Kd.R_reads' HO_4.out).1; omega) | simpa using h_); obtain rfl := k123_openM hM46; (try (have hb_ := Nbq37.out; unfold rd_T123 at hb_; (try rw [← hb_] at hcl46); (try rw [← hb_] at hcc46); (try rw [← hb_] at hM46); clear hb_)); have HP46 := Kd.R_seg HX46.out (t108 : Int) (of_decide_eq_true (by first | (with_reducible assumption) | assumption)) (by have h_ : (t108 : Int) < ((x4_1.length : Int) : Int) := of_decide_eq_true (by first | (with_reducible assumption) | assumption); first | exact h_ | (have e_ := (Kd.R_reads' HO_4.out).1; omega) | simpa using h_) (seg := [.string ((rd_T70 l0 x14_1).f2)]) (j := 1) hcl46 hcc46 (show 2 ≤ 3 from by decide) (x' := (⟨(rd_T123 x4_1 t108).f0, ((rd_T70 l0 x14_1).f2), false⟩ : S123)) (k123_mkM _ _ _ (⟨(rd_T123 x4_1 t108).f0, ((rd_T70 l0 x14_1).f2), false⟩ : S123) ) (fun _ hk => hk); have hx46_1 := hcc46 1 _ rfl; (try simp only [show (k123).sz = 3 from rfl, Nat.mul_one, Nat.add_zero] at hx46_1); have hf46_1 := hfr46 1; (try simp only [show (k123).sz = 3 from rfl, Nat.mul_one, Nat.add_zero] at hf46_1); clear hcl46 hcc46 hfr46 hM46) | ((with_reducible refine gate_store (t := 9) (p := 61) rfl ?_); (try (rw [drewN_self w44]; generalize hq_ : World.drewN w44 _ = w44; have n0_ := Aside0.mk (Kd.R_at hq_ HO_4.out); have n1_ := Aside0.mk (blk_at hq_ BK105.out); have n2_ := Aside0.mk (below_at hq_ HB.out); clear hq_ HO_4 BK105 HB; have HO_4 := n0_; have BK105 := n1_; have HB := n2_; clear n0_ n1_ n2_; (try (have HX46 := Aside0.mk (show Kd.R k123 123 w44 w.heap.size (fun _ => True) (.slice (some ⟨go42, 0, none⟩) x4_1.length co43) x4_1 from (pR_ HO_4.out)))); (try (obtain ⟨ce46, hcl46, hM46, hcc46, hfr46⟩ := Kd.R_elem HX46.out z123 (t108 : Int) (of_decide_eq_true (by first | (with_reducible assumption) | assumption)) (by have h_ : (t108 : Int) < ((x4_1.length : Int) : Int) := of_decide_eq_true (by first | (with_reducible assumption) | assumption); first | exact h_ | (have e_ := (Kd.R_reads' HO_4.out).1; omega) | simpa using h_))); (try (obtain rfl := k123_openM hM46)); (try (try (have hb_ := Nbq37.out; unfold rd_T123 at hb_; (try rw [← hb_] at hcl46); (try rw [← hb_] at hcc46); (try rw [← hb_] at hM46); clear hb_))); (try (have HP46 := Kd.R_seg HX46.out (t108 : Int) (of_decide_eq_true (by first | (with_reducible assumption) | assumption)) (by have h_ : (t108 : Int) < ((x4_1.length : Int) : Int) := of_decide_eq_true (by first | (with_reducible assumption) | assumption); first | exact h_ | (have e_ := (Kd.R_reads' HO_4.out).1; omega) | simpa using h_) (seg := [.string ((rd_T70 l0 x14_1).f2)]) (j := 1) hcl46 hcc46 (show 2 ≤ 3 from by decide) (x' := (⟨(rd_T123 x4_1 t108).f0, ((rd_T70 l0 x14_1).f2), false⟩ : S123)) (k123_mkM _ _ _ (⟨(rd_T123 x4_1 t108).f0, ((rd_T70 l0 x14_1).f2), false⟩ : S123) ) (fun _ hk => hk))); (try (have hx46_1 := hcc46 1 _ rfl)); (try (try simp only [show (k123).sz = 3 from rfl, Nat.mul_one, Nat.add_zero] at hx46_1)); (try (have hf46_1 := hfr46 1)); (try (try simp only [show (k123).sz = 3 from rfl, Nat.mul_one, Nat.add_zero] at hf46_1)); (try (clear hcl46 hcc46 hfr46 hM46)))); refine store_event (t := 9) (p := 61) (v := ?vo_w47) (w1 := (w44.setCell ⟨go42, (t108 : Int).toNat * 3 + 1, none⟩ (.string ((rd_T70 l0 x14_1).f2)))) ?hg ?ho ?hn ?hr ?_; (case ho => rfl); (case hg => rfl); (case hn => rfl); (case hr => first | (go_simp; done) | (go_simp; rfl)); intro w47 hw; have hg : w44.grownBy w47 (some go42) := (by rw [hw]; exact HP46.2); have hp_ : Kd.R k123 123 w47 w.heap.size (fun _ => True) (.slice (some ⟨go42, 0, none⟩) x4_1.length co43) y113 := (by rw [hw, Ny113.out]; exact HP46.1); clear HP46; have n0_ := Aside0.mk (hp_); have n1_ := Aside0.mk (blk_grown (g := gb105) (o := .cells #[.int .i64 ((rd_T70 l0 x14_1).f0), .string ((rd_T70 l0 x14_1).f1), .string ((rd_T70 l0 x14_1).f2)] 70 (0, 0)) (pB_ BK105.out) hg (Kd.R_ne HO_4.out BK105.out (by decide))); have n2_ := Aside0.mk ((by rw [hw]; exact below_set (HB.out) GB42.out : Below w.heap.size w w47)); clear HO_4; clear BK105; clear HB; have HO_4 := n0_; have BK105 := n1_; have HB := n2_; clear n0_ n1_ n2_; clear hg hw hp_))
           repeat (go_quiet (first | (go_at_call 93; (try simp only [i64_w, i32_w]); (with_reducible refine (impl_item_at114.calls kj9 _ _ x4_1 gb105 ((rd_T70 l0 x14_1).f0) ((rd_T70 l0 x14_1).f1) ((rd_T70 l0 x14_1).f2) t108 _ ?side1 ?side2 ?side3 A19.out).mono ?_); (case side1 => repeat (first | exact (Kd.R_reads' HO_4.out).2.2 | (with_reducible refine Kd.C_alloc ?_ _) | (with_reducible refine Kd.C_drewN ?_ _) | (with_reducible refine Kd.C_drew ?_))); (case side2 => exact (Kd.R_reads' HO_4.out).2.1); (case side3 => (with_reducible repeat (first | refine blk_drewN ?_ _ | refine blk_drew ?_ | refine blk_alloc ?_ _)); exact BK105.out); rintro e w44 ⟨rfl, hb⟩; have n0_ := Aside0.mk (Kd.R_below (pR_ HO_4.out) hb); have n1_ := Aside0.mk (blk_below (g := gb105) (o := .cells #[.int .i64 ((rd_T70 l0 x14_1).f0), .string ((rd_T70 l0 x14_1).f1), .string ((rd_T70 l0 x14_1).f2)] 70 (0, 0)) (pB_ BK105.out) hb); have n2_ := Aside0.mk (below_step (pH_ HB.out) hb); clear HO_4; clear BK105; clear HB; have HO_4 := n0_; have BK105 := n1_; have HB := n2_; clear n0_ n1_ n2_; (try clear hb); (try clear hb2); (try clear hk); (try clear hi); have hcz45_0 := cz_ BK105.out 0 _ rfl; have hcz45_1 := cz_ BK105.out 1 _ rfl; have hcz45_2 := cz_ BK105.out 2 _ rfl; have hfz45_0 := blk_frozen BK105.out 0; have hfz45_1 := blk_frozen BK105.out 1; have hfz45_2 := blk_frozen BK105.out 2; have p112 : 0 ≤ (t108 : Int) := of_decide_eq_true (by first | (with_reducible assumption) | assumption); have q112 : t108 < (x4_1.length : Int) := of_decide_eq_true (by first | (with_reducible assumption) | assumption); obtain ⟨ad112, e112, hx112_0, hx112_1, hx112_2⟩ := at_T123 (Kd.R_reads' HO_4.out).2.2 t108 p112 q112; (try rw [← Nbq37.out] at hx112_2); cases e112; replace p112 := eq_true p112; replace q112 := eq_true q112; have p42 : 0 ≤ (t108 : Int) := of_decide_eq_true (by first | (with_reducible assumption) | assumption); have q42 : (t108 : Int) < ((x4_1.length : Int) : Int) := of_decide_eq_true (by first | (with_reducible assumption) | assumption); obtain ⟨go42, co42, eo42, gb42, gl42, cl42, HG42⟩ := Kd.R_form HO_4.out (by omega); (first | cases eo42 | (injection eo42 with ea_ en_ ec_; (first | subst ea_ | (injection ea_ with ea_; subst ea_)); subst ec_; clear en_)); have GB42 := Aside0.mk gb42; have GG42 := Aside0.mk HG42; clear gb42 gl42 HG42; (first | simp only [add_plain] at hx112_0 | skip); (first | simp only [add_plain] at hx112_1 | skip); (first | simp only [add_plain] at hx112_2 | skip); obtain ⟨ce42, hcl42, hM42, hcc42, hfr42⟩ := Kd.R_elem HO_4.out z123 (t108 : Int) p42 q42; obtain rfl := k123_openM hM42; have hx42_0 : w44.cell? ⟨go42, (t108 : Int).toNat * 3, none⟩ = some (.string ((rd_T123 x4_1 t108).f0)) := hcc42 0 _ rfl; have hx42_1 : w44.cell? ⟨go42, (t108 : Int).toNat * 3 + 1, none⟩ = some (.string ((rd_T123 x4_1 t108).f1)) := hcc42 1 _ rfl; have hx42_2 : w44.cell? ⟨go42, (t108 : Int).toNat * 3 + 2, none⟩ = some (.bool ((rd_T123 x4_1 t108).f2)) := hcc42 2 _ rfl; have hf42_0 : w44.frozen? ⟨go42, (t108 : Int).toNat * 3, none⟩ = false := hfr42 0; have hf42_1 : w44.frozen? ⟨go42, (t108 : Int).toNat * 3 + 1, none⟩ = false := hfr42 1; have hf42_2 : w44.frozen? ⟨go42, (t108 : Int).toNat * 3 + 2, none⟩ = false := hfr42 2; clear hcl42 hcc42 hfr42 hM42; replace p42 := eq_true p42; replace q42 := eq_true q42; have HX46 := Aside0.mk (show Kd.R k123 123 w44 w.heap.size (fun _ => True) (.slice (some ⟨go42, 0, none⟩) x4_1.length co43) x4_1 from (pR_ HO_4.out)); obtain ⟨ce46, hcl46, hM46, hcc46, hfr46⟩ := Kd.R_elem HX46.out z123 (t108 : Int) (of_decide_eq_true (by first | (with_reducible assumption) | assumption)) (by have h_ : (t108 : Int) < ((x4_1.length : Int) : Int) := of_decide_eq_true (by first | (with_reducible assumption) | assumption); first | exact h_ | (have e_ := (Kd.R_reads' HO_4.out).1; omega) | simpa using h_); obtain rfl := k123_openM hM46; (try (have hb_ := Nbq37.out; unfold rd_T123 at hb_; (try rw [← hb_] at hcl46); (try rw [← hb_] at hcc46); (try rw [← hb_] at hM46); clear hb_)); have HP46 := Kd.R_seg HX46.out (t108 : Int) (of_decide_eq_true (by first | (with_reducible assumption) | assumption)) (by have h_ : (t108 : Int) < ((x4_1.length : Int) : Int) := of_decide_eq_true (by first | (with_reducible assumption) | assumption); first | exact h_ | (have e_ := (Kd.R_reads' HO_4.out).1; omega) | simpa using h_) (seg := [.string ((rd_T70 l0 x14_1).f2)]) (j := 1) hcl46 hcc46 (show 2 ≤ 3 from by decide) (x' := (⟨(rd_T123 x4_1 t108).f0, ((rd_T70 l0 x14_1).f2), false⟩ : S123)) (k123_mkM _ _ _ (⟨(rd_T123 x4_1 t108).f0, ((rd_T70 l0 x14_1).f2), false⟩ : S123) ) (fun _ hk => hk); have hx46_1 := hcc46 1 _ rfl; (try simp only [show (k123).sz = 3 from rfl, Nat.mul_one, Nat.add_zero] at hx46_1); have hf46_1 := hfr46 1; (try simp only [show (k123).sz = 3 from rfl, Nat.mul_one, Nat.add_zero] at hf46_1); clear hcl46 hcc46 hfr46 hM46) | ((with_reducible refine gate_store (t := 9) (p := 61) rfl ?_); (try (rw [drewN_self w44]; generalize hq_ : World.drewN w44 _ = w44; have n0_ := Aside0.mk (Kd.R_at hq_ HO_4.out); have n1_ := Aside0.mk (blk_at hq_ BK105.out); have n2_ := Aside0.mk (below_at hq_ HB.out); clear hq_ HO_4 BK105 HB; have HO_4 := n0_; have BK105 := n1_; have HB := n2_; clear n0_ n1_ n2_; (try (have HX46 := Aside0.mk (show Kd.R k123 123 w44 w.heap.size (fun _ => True) (.slice (some ⟨go42, 0, none⟩) x4_1.length co43) x4_1 from (pR_ HO_4.out)))); (try (obtain ⟨ce46, hcl46, hM46, hcc46, hfr46⟩ := Kd.R_elem HX46.out z123 (t108 : Int) (of_decide_eq_true (by first | (with_reducible assumption) | assumption)) (by have h_ : (t108 : Int) < ((x4_1.length : Int) : Int) := of_decide_eq_true (by first | (with_reducible assumption) | assumption); first | exact h_ | (have e_ := (Kd.R_reads' HO_4.out).1; omega) | simpa using h_))); (try (obtain rfl := k123_openM hM46)); (try (try (have hb_ := Nbq37.out; unfold rd_T123 at hb_; (try rw [← hb_] at hcl46); (try rw [← hb_] at hcc46); (try rw [← hb_] at hM46); clear hb_))); (try (have HP46 := Kd.R_seg HX46.out (t108 : Int) (of_decide_eq_true (by first | (with_reducible assumption) | assumption)) (by have h_ : (t108 : Int) < ((x4_1.length : Int) : Int) := of_decide_eq_true (by first | (with_reducible assumption) | assumption); first | exact h_ | (have e_ := (Kd.R_reads' HO_4.out).1; omega) | simpa using h_) (seg := [.string ((rd_T70 l0 x14_1).f2)]) (j := 1) hcl46 hcc46 (show 2 ≤ 3 from by decide) (x' := (⟨(rd_T123 x4_1 t108).f0, ((rd_T70 l0 x14_1).f2), false⟩ : S123)) (k123_mkM _ _ _ (⟨(rd_T123 x4_1 t108).f0, ((rd_T70 l0 x14_1).f2), false⟩ : S123) ) (fun _ hk => hk))); (try (have hx46_1 := hcc46 1 _ rfl)); (try (try simp only [show (k123).sz = 3 from rfl, Nat.mul_one, Nat.add_zero] at hx46_1)); (try (have hf46_1 := hfr46 1)); (try (try simp only [show (k123).sz = 3 from rfl, Nat.mul_one, Nat.add_zero] at hf46_1)); (try (clear hcl46 hcc46 hfr46 hM46)))); refine store_event (t := 9) (p := 61) (v := ?vo_w47) (w1 := (w44.setCell ⟨go42, (t108 : Int).toNat * 3 + 1, none⟩ (.string ((rd_T70 l0 x14_1).f2)))) ?hg ?ho ?hn ?hr ?_; (case ho => rfl); (case hg => rfl); (case hn => rfl); (case hr => first | (go_simp; done) | (go_simp; rfl)); intro w47 hw; have hg : w44.grownBy w47 (some go42) := (by rw [hw]; exact HP46.2); have hp_ : Kd.R k123 123 w47 w.heap.size (fun _ => True) (.slice (some ⟨go42, 0, none⟩) x4_1.length co43) y113 := (by rw [hw, Ny113.out]; exact HP46.1); clear HP46; have n0_ := Aside0.mk (hp_); have n1_ := Aside0.mk (blk_grown (g := gb105) (o := .cells #[.int .i64 ((rd_T70 l0 x14_1).f0), .string ((rd_T70 l0 x14_1).f1), .string ((rd_T70 l0 x14_1).f2)] 70 (0, 0)) (pB_ BK105.out) hg (Kd.R_ne HO_4.out BK105.out (by decide))); have n2_ := Aside0.mk ((by rw [hw]; exact below_set (HB.out) GB42.out : Below w.heap.size w w47)); clear HO_4; clear BK105; clear HB; have HO_4 := n0_; have BK105 := n1_; have HB := n2_; clear n0_ n1_ n2_; clear hg hw hp_)); try go_wp2_with (first | (go_at_call 93; (try simp only [i64_w, i32_w]); (with_reducible refine (impl_item_at114.calls kj9 _ _ x4_1 gb105 ((rd_T70 l0 x14_1).f0) ((rd_T70 l0 x14_1).f1) ((rd_T70 l0 x14_1).f2) t108 _ ?side1 ?side2 ?side3 A19.out).mono ?_); (case side1 => repeat (first | exact (Kd.R_reads' HO_4.out).2.2 | (with_reducible refine Kd.C_alloc ?_ _) | (with_reducible refine Kd.C_drewN ?_ _) | (with_reducible refine Kd.C_drew ?_))); (case side2 => exact (Kd.R_reads' HO_4.out).2.1); (case side3 => (with_reducible repeat (first | refine blk_drewN ?_ _ | refine blk_drew ?_ | refine blk_alloc ?_ _)); exact BK105.out); rintro e w44 ⟨rfl, hb⟩; have n0_ := Aside0.mk (Kd.R_below (pR_ HO_4.out) hb); have n1_ := Aside0.mk (blk_below (g := gb105) (o := .cells #[.int .i64 ((rd_T70 l0 x14_1).f0), .string ((rd_T70 l0 x14_1).f1), .string ((rd_T70 l0 x14_1).f2)] 70 (0, 0)) (pB_ BK105.out) hb); have n2_ := Aside0.mk (below_step (pH_ HB.out) hb); clear HO_4; clear BK105; clear HB; have HO_4 := n0_; have BK105 := n1_; have HB := n2_; clear n0_ n1_ n2_; (try clear hb); (try clear hb2); (try clear hk); (try clear hi); have hcz45_0 := cz_ BK105.out 0 _ rfl; have hcz45_1 := cz_ BK105.out 1 _ rfl; have hcz45_2 := cz_ BK105.out 2 _ rfl; have hfz45_0 := blk_frozen BK105.out 0; have hfz45_1 := blk_frozen BK105.out 1; have hfz45_2 := blk_frozen BK105.out 2; have p112 : 0 ≤ (t108 : Int) := of_decide_eq_true (by first | (with_reducible assumption) | assumption); have q112 : t108 < (x4_1.length : Int) := of_decide_eq_true (by first | (with_reducible assumption) | assumption); obtain ⟨ad112, e112, hx112_0, hx112_1, hx112_2⟩ := at_T123 (Kd.R_reads' HO_4.out).2.2 t108 p112 q112; (try rw [← Nbq37.out] at hx112_2); cases e112; replace p112 := eq_true p112; replace q112 := eq_true q112; have p42 : 0 ≤ (t108 : Int) := of_decide_eq_true (by first | (with_reducible assumption) | assumption); have q42 : (t108 : Int) < ((x4_1.length : Int) : Int) := of_decide_eq_true (by first | (with_reducible assumption) | assumption); obtain ⟨go42, co42, eo42, gb42, gl42, cl42, HG42⟩ := Kd.R_form HO_4.out (by omega); (first | cases eo42 | (injection eo42 with ea_ en_ ec_; (first | subst ea_ | (injection ea_ with ea_; subst ea_)); subst ec_; clear en_)); have GB42 := Aside0.mk gb42; have GG42 := Aside0.mk HG42; clear gb42 gl42 HG42; (first | simp only [add_plain] at hx112_0 | skip); (first | simp only [add_plain] at hx112_1 | skip); (first | simp only [add_plain] at hx112_2 | skip); obtain ⟨ce42, hcl42, hM42, hcc42, hfr42⟩ := Kd.R_elem HO_4.out z123 (t108 : Int) p42 q42; obtain rfl := k123_openM hM42; have hx42_0 : w44.cell? ⟨go42, (t108 : Int).toNat * 3, none⟩ = some (.string ((rd_T123 x4_1 t108).f0)) := hcc42 0 _ rfl; have hx42_1 : w44.cell? ⟨go42, (t108 : Int).toNat * 3 + 1, none⟩ = some (.string ((rd_T123 x4_1 t108).f1)) := hcc42 1 _ rfl; have hx42_2 : w44.cell? ⟨go42, (t108 : Int).toNat * 3 + 2, none⟩ = some (.bool ((rd_T123 x4_1 t108).f2)) := hcc42 2 _ rfl; have hf42_0 : w44.frozen? ⟨go42, (t108 : Int).toNat * 3, none⟩ = false := hfr42 0; have hf42_1 : w44.frozen? ⟨go42, (t108 : Int).toNat * 3 + 1, none⟩ = false := hfr42 1; have hf42_2 : w44.frozen? ⟨go42, (t108 : Int).toNat * 3 + 2, none⟩ = false := hfr42 2; clear hcl42 hcc42 hfr42 hM42; replace p42 := eq_true p42; replace q42 := eq_true q42; have HX46 := Aside0.mk (show Kd.R k123 123 w44 w.heap.size (fun _ => True) (.slice (some ⟨go42, 0, none⟩) x4_1.length co43) x4_1 from (pR_ HO_4.out)); obtain ⟨ce46, hcl46, hM46, hcc46, hfr46⟩ := Kd.R_elem HX46.out z123 (t108 : Int) (of_decide_eq_true (by first | (with_reducible assumption) | assumption)) (by have h_ : (t108 : Int) < ((x4_1.length : Int) : Int) := of_decide_eq_true (by first | (with_reducible assumption) | assumption); first | exact h_ | (have e_ := (Kd.R_reads' HO_4.out).1; omega) | simpa using h_); obtain rfl := k123_openM hM46; (try (have hb_ := Nbq37.out; unfold rd_T123 at hb_; (try rw [← hb_] at hcl46); (try rw [← hb_] at hcc46); (try rw [← hb_] at hM46); clear hb_)); have HP46 := Kd.R_seg HX46.out (t108 : Int) (of_decide_eq_true (by first | (with_reducible assumption) | assumption)) (by have h_ : (t108 : Int) < ((x4_1.length : Int) : Int) := of_decide_eq_true (by first | (with_reducible assumption) | assumption); first | exact h_ | (have e_ := (Kd.R_reads' HO_4.out).1; omega) | simpa using h_) (seg := [.string ((rd_T70 l0 x14_1).f2)]) (j := 1) hcl46 hcc46 (show 2 ≤ 3 from by decide) (x' := (⟨(rd_T123 x4_1 t108).f0, ((rd_T70 l0 x14_1).f2), false⟩ : S123)) (k123_mkM _ _ _ (⟨(rd_T123 x4_1 t108).f0, ((rd_T70 l0 x14_1).f2), false⟩ : S123) ) (fun _ hk => hk); have hx46_1 := hcc46 1 _ rfl; (try simp only [show (k123).sz = 3 from rfl, Nat.mul_one, Nat.add_zero] at hx46_1); have hf46_1 := hfr46 1; (try simp only [show (k123).sz = 3 from rfl, Nat.mul_one, Nat.add_zero] at hf46_1); clear hcl46 hcc46 hfr46 hM46) | ((with_reducible refine gate_store (t := 9) (p := 61) rfl ?_); (try (rw [drewN_self w44]; generalize hq_ : World.drewN w44 _ = w44; have n0_ := Aside0.mk (Kd.R_at hq_ HO_4.out); have n1_ := Aside0.mk (blk_at hq_ BK105.out); have n2_ := Aside0.mk (below_at hq_ HB.out); clear hq_ HO_4 BK105 HB; have HO_4 := n0_; have BK105 := n1_; have HB := n2_; clear n0_ n1_ n2_; (try (have HX46 := Aside0.mk (show Kd.R k123 123 w44 w.heap.size (fun _ => True) (.slice (some ⟨go42, 0, none⟩) x4_1.length co43) x4_1 from (pR_ HO_4.out)))); (try (obtain ⟨ce46, hcl46, hM46, hcc46, hfr46⟩ := Kd.R_elem HX46.out z123 (t108 : Int) (of_decide_eq_true (by first | (with_reducible assumption) | assumption)) (by have h_ : (t108 : Int) < ((x4_1.length : Int) : Int) := of_decide_eq_true (by first | (with_reducible assumption) | assumption); first | exact h_ | (have e_ := (Kd.R_reads' HO_4.out).1; omega) | simpa using h_))); (try (obtain rfl := k123_openM hM46)); (try (try (have hb_ := Nbq37.out; unfold rd_T123 at hb_; (try rw [← hb_] at hcl46); (try rw [← hb_] at hcc46); (try rw [← hb_] at hM46); clear hb_))); (try (have HP46 := Kd.R_seg HX46.out (t108 : Int) (of_decide_eq_true (by first | (with_reducible assumption) | assumption)) (by have h_ : (t108 : Int) < ((x4_1.length : Int) : Int) := of_decide_eq_true (by first | (with_reducible assumption) | assumption); first | exact h_ | (have e_ := (Kd.R_reads' HO_4.out).1; omega) | simpa using h_) (seg := [.string ((rd_T70 l0 x14_1).f2)]) (j := 1) hcl46 hcc46 (show 2 ≤ 3 from by decide) (x' := (⟨(rd_T123 x4_1 t108).f0, ((rd_T70 l0 x14_1).f2), false⟩ : S123)) (k123_mkM _ _ _ (⟨(rd_T123 x4_1 t108).f0, ((rd_T70 l0 x14_1).f2), false⟩ : S123) ) (fun _ hk => hk))); (try (have hx46_1 := hcc46 1 _ rfl)); (try (try simp only [show (k123).sz = 3 from rfl, Nat.mul_one, Nat.add_zero] at hx46_1)); (try (have hf46_1 := hfr46 1)); (try (try simp only [show (k123).sz = 3 from rfl, Nat.mul_one, Nat.add_zero] at hf46_1)); (try (clear hcl46 hcc46 hfr46 hM46)))); refine store_event (t := 9) (p := 61) (v := ?vo_w47) (w1 := (w44.setCell ⟨go42, (t108 : Int).toNat * 3 + 1, none⟩ (.string ((rd_T70 l0 x14_1).f2)))) ?hg ?ho ?hn ?hr ?_; (case ho => rfl); (case hg => rfl); (case hn => rfl); (case hr => first | (go_simp; done) | (go_simp; rfl)); intro w47 hw; have hg : w44.grownBy w47 (some go42) := (by rw [hw]; exact HP46.2); have hp_ : Kd.R k123 123 w47 w.heap.size (fun _ => True) (.slice (some ⟨go42, 0, none⟩) x4_1.length co43) y113 := (by rw [hw, Ny113.out]; exact HP46.1); clear HP46; have n0_ := Aside0.mk (hp_); have n1_ := Aside0.mk (blk_grown (g := gb105) (o := .cells #[.int .i64 ((rd_T70 l0 x14_1).f0), .string ((rd_T70 l0 x14_1).f1), .string ((rd_T70 l0 x14_1).f2)] 70 (0, 0)) (pB_ BK105.out) hg (Kd.R_ne HO_4.out BK105.out (by decide))); have n2_ := Aside0.mk ((by rw [hw]; exact below_set (HB.out) GB42.out : Below w.heap.size w w47)); clear HO_4; clear BK105; clear HB; have HO_4 := n0_; have BK105 := n1_; have HB := n2_; clear n0_ n1_ n2_; clear hg hw hp_)))
           go_roundg kj9
           case measure => have := HK1.out; have := HJ9.out; omega
           case rel => exact ⟨(y113), (wrap64 (x14_1 + 1)), (by first | rfl | (simp; done) | (simp [*]; done) | (simp [beq_nil_, bne_nil_]; done)), H', ⟨by have := HK1.out; have := HJ9.out; omega⟩, ⟨by (with_reducible repeat (first | apply Kd.R_alloc | apply Kd.R_drewN | apply Kd.R_drew)); exact HO_4.out⟩, ⟨by repeat (first | (with_reducible first | exact HB.out | apply below_alloc | apply pw_below_drewN | apply below_drew1 | refine below_set ?_ GE105.out) | exact HB.out)⟩⟩
          rw [if_neg c36] at H
          exact absurd H (by simp)
         rw [if_neg c35] at H
         exact absurd H (by simp)
        rw [if_neg c34] at H
        have c34b0 : (((rd_T70 l0 x14_1).f0) == 2) = false := beq_eq_false_iff_ne.mpr c34
        have c34b1 : (((rd_T70 l0 x14_1).f0) != 2) = true := bne_iff_ne.mpr c34
        have HC48 := Aside0.mk H
        clear H
        obtain ⟨Ao49, co49, eo49⟩ := Kd.R_slice HO_4.out
        subst eo49
        go_upto_if 62 with (first | (go_at_call 93; (try simp only [i64_w, i32_w]); (with_reducible refine (impl_item_at114.calls kj9 _ _ x4_1 gb105 ((rd_T70 l0 x14_1).f0) ((rd_T70 l0 x14_1).f1) ((rd_T70 l0 x14_1).f2) t108 _ ?side1 ?side2 ?side3 A19.out).mono ?_); (case side1 => repeat (first | exact (Kd.R_reads' HO_4.out).2.2 | (with_reducible refine Kd.C_alloc ?_ _) | (with_reducible refine Kd.C_drewN ?_ _) | (with_reducible refine Kd.C_drew ?_))); (case side2 => exact (Kd.R_reads' HO_4.out).2.1); (case side3 => (with_reducible repeat (first | refine blk_drewN ?_ _ | refine blk_drew ?_ | refine blk_alloc ?_ _)); exact BK105.out); rintro e w50 ⟨rfl, hb⟩; have n0_ := Aside0.mk (Kd.R_below (pR_ HO_4.out) hb); have n1_ := Aside0.mk (blk_below (g := gb105) (o := .cells #[.int .i64 ((rd_T70 l0 x14_1).f0), .string ((rd_T70 l0 x14_1).f1), .string ((rd_T70 l0 x14_1).f2)] 70 (0, 0)) (pB_ BK105.out) hb); have n2_ := Aside0.mk (below_step (pH_ HB.out) hb); clear HO_4; clear BK105; clear HB; have HO_4 := n0_; have BK105 := n1_; have HB := n2_; clear n0_ n1_ n2_; (try clear hb); (try clear hb2); (try clear hk); (try clear hi); have hcz51_0 := cz_ BK105.out 0 _ rfl; have hcz51_1 := cz_ BK105.out 1 _ rfl; have hcz51_2 := cz_ BK105.out 2 _ rfl; have hfz51_0 := blk_frozen BK105.out 0; have hfz51_1 := blk_frozen BK105.out 1; have hfz51_2 := blk_frozen BK105.out 2))
        repeat (go_quiet (first | (go_at_call 93; (try simp only [i64_w, i32_w]); (with_reducible refine (impl_item_at114.calls kj9 _ _ x4_1 gb105 ((rd_T70 l0 x14_1).f0) ((rd_T70 l0 x14_1).f1) ((rd_T70 l0 x14_1).f2) t108 _ ?side1 ?side2 ?side3 A19.out).mono ?_); (case side1 => repeat (first | exact (Kd.R_reads' HO_4.out).2.2 | (with_reducible refine Kd.C_alloc ?_ _) | (with_reducible refine Kd.C_drewN ?_ _) | (with_reducible refine Kd.C_drew ?_))); (case side2 => exact (Kd.R_reads' HO_4.out).2.1); (case side3 => (with_reducible repeat (first | refine blk_drewN ?_ _ | refine blk_drew ?_ | refine blk_alloc ?_ _)); exact BK105.out); rintro e w50 ⟨rfl, hb⟩; have n0_ := Aside0.mk (Kd.R_below (pR_ HO_4.out) hb); have n1_ := Aside0.mk (blk_below (g := gb105) (o := .cells #[.int .i64 ((rd_T70 l0 x14_1).f0), .string ((rd_T70 l0 x14_1).f1), .string ((rd_T70 l0 x14_1).f2)] 70 (0, 0)) (pB_ BK105.out) hb); have n2_ := Aside0.mk (below_step (pH_ HB.out) hb); clear HO_4; clear BK105; clear HB; have HO_4 := n0_; have BK105 := n1_; have HB := n2_; clear n0_ n1_ n2_; (try clear hb); (try clear hb2); (try clear hk); (try clear hi); have hcz51_0 := cz_ BK105.out 0 _ rfl; have hcz51_1 := cz_ BK105.out 1 _ rfl; have hcz51_2 := cz_ BK105.out 2 _ rfl; have hfz51_0 := blk_frozen BK105.out 0; have hfz51_1 := blk_frozen BK105.out 1; have hfz51_2 := blk_frozen BK105.out 2)); go_upto_if 62 with (first | (go_at_call 93; (try simp only [i64_w, i32_w]); (with_reducible refine (impl_item_at114.calls kj9 _ _ x4_1 gb105 ((rd_T70 l0 x14_1).f0) ((rd_T70 l0 x14_1).f1) ((rd_T70 l0 x14_1).f2) t108 _ ?side1 ?side2 ?side3 A19.out).mono ?_); (case side1 => repeat (first | exact (Kd.R_reads' HO_4.out).2.2 | (with_reducible refine Kd.C_alloc ?_ _) | (with_reducible refine Kd.C_drewN ?_ _) | (with_reducible refine Kd.C_drew ?_))); (case side2 => exact (Kd.R_reads' HO_4.out).2.1); (case side3 => (with_reducible repeat (first | refine blk_drewN ?_ _ | refine blk_drew ?_ | refine blk_alloc ?_ _)); exact BK105.out); rintro e w50 ⟨rfl, hb⟩; have n0_ := Aside0.mk (Kd.R_below (pR_ HO_4.out) hb); have n1_ := Aside0.mk (blk_below (g := gb105) (o := .cells #[.int .i64 ((rd_T70 l0 x14_1).f0), .string ((rd_T70 l0 x14_1).f1), .string ((rd_T70 l0 x14_1).f2)] 70 (0, 0)) (pB_ BK105.out) hb); have n2_ := Aside0.mk (below_step (pH_ HB.out) hb); clear HO_4; clear BK105; clear HB; have HO_4 := n0_; have BK105 := n1_; have HB := n2_; clear n0_ n1_ n2_; (try clear hb); (try clear hb2); (try clear hk); (try clear hi); have hcz51_0 := cz_ BK105.out 0 _ rfl; have hcz51_1 := cz_ BK105.out 1 _ rfl; have hcz51_2 := cz_ BK105.out 2 _ rfl; have hfz51_0 := blk_frozen BK105.out 0; have hfz51_1 := blk_frozen BK105.out 1; have hfz51_2 := blk_frozen BK105.out 2)))
        (try simp only [Act.put, List.setIfInBounds_toArray, List.set_cons_zero, List.set_cons_succ])
        go_cut [62] (fun v62 wc => ∃ (kq : Nat) (x62_47 : Bool), v62 = .bool x62_47 ∧ Aside0 (impl_replayed.j2 kq x4_1 t108 l0 (l0.length : Int) x14_1 x62_47 ((rd_T70 l0 x14_1).f0) ((rd_T70 l0 x14_1).f1) ((rd_T70 l0 x14_1).f2) = some (r1, r2)) ∧ Aside0 (kq ≤ kj9) ∧ Aside0 (Kd.R k123 123 wc w.heap.size (fun _ => True) (.slice Ao49 x4_1.length co49) x4_1) ∧ Aside0 (wc.heap[gb105]? = some (.cells #[.int .i64 ((rd_T70 l0 x14_1).f0), .string ((rd_T70 l0 x14_1).f1), .string ((rd_T70 l0 x14_1).f2)] 70 (0, 0))) ∧ Aside0 (Below w.heap.size w wc))
        case first =>
         have H := HC48.out
         clear HC48
         by_cases c52 : ((rd_T70 l0 x14_1).f0) = 3
         ·rw [if_pos c52] at H
          have c52b0 : (((rd_T70 l0 x14_1).f0) == 3) = true := beq_iff_eq.mpr c52
          have c52b1 : (((rd_T70 l0 x14_1).f0) != 3) = false := bne_eq_false_iff_eq.mpr c52
          clear c52
          (first | rw [c52b0] | (simp only [i64_w, i32_w]; rw [c52b0]) | skip)
          have H' := Aside0.mk H
          clear H
          go_wp2
          repeat (go_quiet (fail); try go_wp2)
          go_meet
          case rel => exact ⟨_, ((((rd_T70 l0 x14_1).f0) == 3)), (by first | rfl | (simp; done) | (simp [*]; done) | (simp [beq_nil_, bne_nil_]; done)), H', ⟨by have := HK1.out; have := HJ9.out; first | omega | exact Nat.le_refl _⟩, ⟨by (with_reducible repeat (first | apply Kd.R_alloc | apply Kd.R_drewN | apply Kd.R_drew)); exact HO_4.out⟩, ⟨by (with_reducible repeat (first | refine blk_drewN ?_ _ | refine blk_drew ?_ | refine blk_alloc ?_ _)); exact BK105.out⟩, ⟨by repeat (first | (with_reducible first | exact HB.out | apply below_alloc | apply pw_below_drewN | apply below_drew1 | refine below_set ?_ GE105.out) | exact HB.out)⟩⟩
         rw [if_neg c52] at H
         have c52b0 : (((rd_T70 l0 x14_1).f0) == 3) = false := beq_eq_false_iff_ne.mpr c52
         have c52b1 : (((rd_T70 l0 x14_1).f0) != 3) = true := bne_iff_ne.mpr c52
         (first | rw [c52b0] | (simp only [i64_w, i32_w]; rw [c52b0]) | skip)
         have H' := Aside0.mk H
         clear H
         go_wp2
         repeat (go_quiet (fail); try go_wp2)
         go_meet
         case rel => exact ⟨_, ((((rd_T70 l0 x14_1).f0) == 4)), (by first | rfl | (simp; done) | (simp [*]; done) | (simp [beq_nil_, bne_nil_]; done)), H', ⟨by have := HK1.out; have := HJ9.out; first | omega | exact Nat.le_refl _⟩, ⟨by (with_reducible repeat (first | apply Kd.R_alloc | apply Kd.R_drewN | apply Kd.R_drew)); exact HO_4.out⟩, ⟨by (with_reducible repeat (first | refine blk_drewN ?_ _ | refine blk_drew ?_ | refine blk_alloc ?_ _)); exact BK105.out⟩, ⟨by repeat (first | (with_reducible first | exact HB.out | apply below_alloc | apply pw_below_drewN | apply below_drew1 | refine below_set ?_ GE105.out) | exact HB.out)⟩⟩
        case rest =>
         clear HC48
         try clear c1
         try clear p1
         try clear q1
         try clear hx1
         try clear c2
         try clear c2b0
         try clear c2b1
         try clear p2
         try clear c3
         try clear q3
         try clear c4
         try clear p4
         try clear q4
         try clear hx4
         try clear hf4
         try clear c5
         try clear p6
         try clear c7
         try clear c7b0
         try clear c8
         try clear c8b0
         try clear c9
         try clear c9b0
         try clear p10
         try clear q10
         try clear hx10
         try clear p11
         try clear q11
         try clear hx11
         try clear c14
         try clear c18
         try clear c20
         try clear c20b0
         try clear c21
         try clear c21b0
         try clear c21b1
         try clear c22
         try clear c30
         try clear c30b0
         try clear c30b1
         try clear c34
         try clear c34b0
         try clear c34b1
         try clear c35
         try clear c35b0
         try clear c36
         try clear c36b0
         try clear q37
         try clear c38
         try clear c42
         try clear p42
         try clear q42
         try clear hx42
         try clear hf42
         try clear c46
         try clear hx46
         try clear hf46
         try clear c52
         try clear c52b0
         try clear c52b1
         try clear hcz12_0
         try clear hcz12_1
         try clear hcz12_2
         try clear hcz16_0
         try clear hcz16_1
         try clear hcz16_2
         try clear hcz17_0
         try clear hcz17_1
         try clear hcz17_2
         try clear hcz25_0
         try clear hcz25_1
         try clear hcz25_2
         try clear hcz29_0
         try clear hcz29_1
         try clear hcz29_2
         try clear hcz33_0
         try clear hcz33_1
         try clear hcz33_2
         try clear hcz41_0
         try clear hcz41_1
         try clear hcz41_2
         try clear hcz45_0
         try clear hcz45_1
         try clear hcz45_2
         try clear hcz51_0
         try clear hcz51_1
         try clear hcz51_2
         try clear hfz12_0
         try clear hfz12_1
         try clear hfz12_2
         try clear hfz16_0
         try clear hfz16_1
         try clear hfz16_2
         try clear hfz17_0
         try clear hfz17_1
         try clear hfz17_2
         try clear hfz25_0
         try clear hfz25_1
         try clear hfz25_2
         try clear hfz29_0
         try clear hfz29_1
         try clear hfz29_2
         try clear hfz33_0
         try clear hfz33_1
         try clear hfz33_2
         try clear hfz41_0
         try clear hfz41_1
         try clear hfz41_2
         try clear hfz45_0
         try clear hfz45_1
         try clear hfz45_2
         try clear hfz51_0
         try clear hfz51_1
         try clear hfz51_2
         try clear hx104_0
         try clear hx104_1
         try clear hx104_2
         try clear hx112_0
         try clear hx112_1
         try clear hx112_2
         try clear hx42_0
         try clear hx42_1
         try clear hx42_2
         try clear hx46_1
         try clear p1
         try clear p10
         try clear p104
         try clear p112
         try clear p2
         try clear p42
         try clear q1
         try clear q10
         try clear q104
         try clear q112
         try clear q42
         obtain ⟨kq, x62_47, rfl, HA, HJ47, HO_4, BK105, HB⟩ := hcut
         cases kq with
         | zero => exact absurd HA.out (by simp [impl_replayed.j2])
         | succ kj47 =>
          have H := HA.out
          clear HA
          simp only [impl_replayed.j2] at H
          by_cases c53 : x62_47 = true
          ·subst c53
           have H1 : (if ((rd_T70 l0 x14_1).f2).toList = ([] : List UInt8) then (if 0 ≤ t108 then (if t108 < (x4_1.length : Int) then (if (rd_T123 x4_1 t108).f2 = true then (if ((rd_T70 l0 x14_1).f0) = 4 then (impl_replayed.l0 kj47 (x4_1.set (t108 : Int).toNat (⟨(rd_T123 x4_1 t108).f0, (rd_T123 x4_1 t108).f1, (((rd_T70 l0 x14_1).f0) == 3)⟩ : S123)) l0 (l0.length : Int) (wrap64 (x14_1 + 1))) else (some (([] : List (S123)), false))) else (if ((rd_T70 l0 x14_1).f0) = 4 then (some (([] : List (S123)), false)) else (impl_replayed.l0 kj47 (x4_1.set (t108 : Int).toNat (⟨(rd_T123 x4_1 t108).f0, (rd_T123 x4_1 t108).f1, (((rd_T70 l0 x14_1).f0) == 3)⟩ : S123)) l0 (l0.length : Int) (wrap64 (x14_1 + 1))))) else (none)) else (none)) else (some (([] : List (S123)), false))) = some (r1, r2) := by rw [if_pos rfl] at H; exact H
           clear H
           have H := H1
           clear H1
           by_cases c54 : ((rd_T70 l0 x14_1).f2).toList = ([] : List UInt8)
           ·rw [if_pos c54] at H
            have c54b0 : (((rd_T70 l0 x14_1).f2).toList == ([] : List UInt8)) = true := beq_iff_eq.mpr c54
            have c54b1 : (((rd_T70 l0 x14_1).f2).toList != ([] : List UInt8)) = false := bne_eq_false_iff_eq.mpr c54
            clear c54
            by_cases c55 : 0 ≤ t108
            ·rw [if_pos c55] at H
             have c55b0 : decide (0 ≤ t108) = true := decide_eq_true c55
             clear c55
             by_cases c56 : t108 < (x4_1.length : Int)
             ·rw [if_pos c56] at H
              have c56b0 : decide (t108 < (x4_1.length : Int)) = true := decide_eq_true c56
              clear c56
              obtain ⟨bq57, hbq57⟩ : ∃ b_ : Bool, b_ = ((rd_T123 x4_1 t108).f2) := ⟨_, rfl⟩
              replace H : (if bq57 = true then (if ((rd_T70 l0 x14_1).f0) = 4 then (impl_replayed.l0 kj47 (x4_1.set (t108 : Int).toNat (⟨(rd_T123 x4_1 t108).f0, (rd_T123 x4_1 t108).f1, (((rd_T70 l0 x14_1).f0) == 3)⟩ : S123)) l0 (l0.length : Int) (wrap64 (x14_1 + 1))) else (some (([] : List (S123)), false))) else (if ((rd_T70 l0 x14_1).f0) = 4 then (some (([] : List (S123)), false)) else (impl_replayed.l0 kj47 (x4_1.set (t108 : Int).toNat (⟨(rd_T123 x4_1 t108).f0, (rd_T123 x4_1 t108).f1, (((rd_T70 l0 x14_1).f0) == 3)⟩ : S123)) l0 (l0.length : Int) (wrap64 (x14_1 + 1))))) = some (r1, r2) := by rw [← hbq57] at H; exact H
              have Nbq57 := Aside0.mk hbq57
              clear hbq57
              by_cases c58 : bq57 = true
              ·subst c58
               have H1 : (if ((rd_T70 l0 x14_1).f0) = 4 then (impl_replayed.l0 kj47 (x4_1.set (t108 : Int).toNat (⟨(rd_T123 x4_1 t108).f0, (rd_T123 x4_1 t108).f1, (((rd_T70 l0 x14_1).f0) == 3)⟩ : S123)) l0 (l0.length : Int) (wrap64 (x14_1 + 1))) else (some (([] : List (S123)), false))) = some (r1, r2) := by rw [if_pos rfl] at H; exact H
               clear H
               have H := H1
               clear H1
               by_cases c59 : ((rd_T70 l0 x14_1).f0) = 4
               ·rw [if_pos c59] at H
                have c59b0 : (((rd_T70 l0 x14_1).f0) == 4) = true := beq_iff_eq.mpr c59
                have c59b1 : (((rd_T70 l0 x14_1).f0) != 4) = false := bne_eq_false_iff_eq.mpr c59
                clear c59
                obtain ⟨y115, hy115⟩ : ∃ y_ : List (S123), y_ = (x4_1.set (t108 : Int).toNat (⟨(rd_T123 x4_1 t108).f0, (rd_T123 x4_1 t108).f1, (((rd_T70 l0 x14_1).f0) == 3)⟩ : S123)) := ⟨_, rfl⟩
                replace H : (impl_replayed.l0 kj47 y115 l0 (l0.length : Int) (wrap64 (x14_1 + 1))) = some (r1, r2) := by first | (rw [hy115]; with_reducible exact H) | (have H2_ := (Option.bind_some _ _).symm.trans H; rw [hy115]; with_reducible exact H2_) | (have H2_ := (Option.bind_some _ _).symm.trans H; with_reducible exact H2_) | with_reducible exact H | (rw [hy115]; exact H) | exact H
                have Ny115 := Aside0.mk hy115
                clear hy115
                have H' := Aside0.mk H
                clear H
                have hcz61_0 := cz_ BK105.out 0 _ rfl
                have hcz61_1 := cz_ BK105.out 1 _ rfl
                have hcz61_2 := cz_ BK105.out 2 _ rfl
                have hfz61_0 := blk_frozen BK105.out 0
                have hfz61_1 := blk_frozen BK105.out 1
                have hfz61_2 := blk_frozen BK105.out 2
                have p114 : 0 ≤ (t108 : Int) := of_decide_eq_true (by first | (with_reducible assumption) | assumption)
                have q114 : t108 < (x4_1.length : Int) := of_decide_eq_true (by first | (with_reducible assumption) | assumption)
                obtain ⟨ad114, e114, hx114_0, hx114_1, hx114_2⟩ := at_T123 (Kd.R_reads' HO_4.out).2.2 t108 p114 q114
                (try rw [← Nbq57.out] at hx114_2)
                cases e114
                replace p114 := eq_true p114
                replace q114 := eq_true q114
                have p60 : 0 ≤ (t108 : Int) := of_decide_eq_true (by first | (with_reducible assumption) | assumption)
                have q60 : (t108 : Int) < ((x4_1.length : Int) : Int) := of_decide_eq_true (by first | (with_reducible assumption) | assumption)
                obtain ⟨go60, co60, eo60, gb60, gl60, cl60, HG60⟩ := Kd.R_form HO_4.out (by omega)
                (first | cases eo60 | (injection eo60 with ea_ en_ ec_; (first | subst ea_ | (injection ea_ with ea_; subst ea_)); subst ec_; clear en_))
                have GB60 := Aside0.mk gb60
                have GG60 := Aside0.mk HG60
                clear gb60 gl60 HG60
                (first | simp only [add_plain] at hx114_0 | skip)
                (first | simp only [add_plain] at hx114_1 | skip)
                (first | simp only [add_plain] at hx114_2 | skip)
                obtain ⟨ce60, hcl60, hM60, hcc60, hfr60⟩ := Kd.R_elem HO_4.out z123 (t108 : Int) p60 q60
                obtain rfl := k123_openM hM60
                have hx60_0 : wc.cell? ⟨go60, (t108 : Int).toNat * 3, none⟩ = some (.string ((rd_T123 x4_1 t108).f0)) := hcc60 0 _ rfl
                have hx60_1 : wc.cell? ⟨go60, (t108 : Int).toNat * 3 + 1, none⟩ = some (.string ((rd_T123 x4_1 t108).f1)) := hcc60 1 _ rfl
                have hx60_2 : wc.cell? ⟨go60, (t108 : Int).toNat * 3 + 2, none⟩ = some (.bool ((rd_T123 x4_1 t108).f2)) := hcc60 2 _ rfl
                have hf60_0 : wc.frozen? ⟨go60, (t108 : Int).toNat * 3, none⟩ = false := hfr60 0
                have hf60_1 : wc.frozen? ⟨go60, (t108 : Int).toNat * 3 + 1, none⟩ = false := hfr60 1
                have hf60_2 : wc.frozen? ⟨go60, (t108 : Int).toNat * 3 + 2, none⟩ = false := hfr60 2
                clear hcl60 hcc60 hfr60 hM60
                replace p60 := eq_true p60
                replace q60 := eq_true q60
                have HX62 := Aside0.mk (show Kd.R k123 123 wc w.heap.size (fun _ => True) (.slice (some ⟨go60, 0, none⟩) x4_1.length co49) x4_1 from (pR_ HO_4.out))
                obtain ⟨ce62, hcl62, hM62, hcc62, hfr62⟩ := Kd.R_elem HX62.out z123 (t108 : Int) (of_decide_eq_true (by first | (with_reducible assumption) | assumption)) (by have h_ : (t108 : Int) < ((x4_1.length : Int) : Int) := of_decide_eq_true (by first | (with_reducible assumption) | assumption); first | exact h_ | (have e_ := (Kd.R_reads' HO_4.out).1; omega) | simpa using h_)
                obtain rfl := k123_openM hM62
                (try (have hb_ := Nbq57.out; unfold rd_T123 at hb_; (try rw [← hb_] at hcl62); (try rw [← hb_] at hcc62); (try rw [← hb_] at hM62); clear hb_))
                have HP62 := Kd.R_seg HX62.out (t108 : Int) (of_decide_eq_true (by first | (with_reducible assumption) | assumption)) (by have h_ : (t108 : Int) < ((x4_1.length : Int) : Int) := of_decide_eq_true (by first | (with_reducible assumption) | assumption); first | exact h_ | (have e_ := (Kd.R_reads' HO_4.out).1; omega) | simpa using h_) (seg := [.bool (((rd_T70 l0 x14_1).f0) == 3)]) (j := 2) hcl62 hcc62 (show 3 ≤ 3 from by decide) (x' := (⟨(rd_T123 x4_1 t108).f0, (rd_T123 x4_1 t108).f1, (((rd_T70 l0 x14_1).f0) == 3)⟩ : S123)) (k123_mkM _ _ _ (⟨(rd_T123 x4_1 t108).f0, (rd_T123 x4_1 t108).f1, (((rd_T70 l0 x14_1).f0) == 3)⟩ : S123) ) (fun _ hk => hk)
                have hx62_2 := hcc62 2 _ rfl
                (try simp only [show (k123).sz = 3 from rfl, Nat.mul_one, Nat.add_zero] at hx62_2)
                have hf62_2 := hfr62 2
                (try simp only [show (k123).sz = 3 from rfl, Nat.mul_one, Nat.add_zero] at hf62_2)
                clear hcl62 hcc62 hfr62 hM62
                go_wp2_with (first | ((with_reducible refine gate_store (t := 4) (p := 85) rfl ?_); (try (rw [drewN_self wc]; generalize hq_ : World.drewN wc _ = wc; have n0_ := Aside0.mk (Kd.R_at hq_ HO_4.out); have n1_ := Aside0.mk (blk_at hq_ BK105.out); have n2_ := Aside0.mk (below_at hq_ HB.out); clear hq_ HO_4 BK105 HB; have HO_4 := n0_; have BK105 := n1_; have HB := n2_; clear n0_ n1_ n2_; (try (have HX62 := Aside0.mk (show Kd.R k123 123 wc w.heap.size (fun _ => True) (.slice (some ⟨go60, 0, none⟩) x4_1.length co49) x4_1 from (pR_ HO_4.out)))); (try (obtain ⟨ce62, hcl62, hM62, hcc62, hfr62⟩ := Kd.R_elem HX62.out z123 (t108 : Int) (of_decide_eq_true (by first | (with_reducible assumption) | assumption)) (by have h_ : (t108 : Int) < ((x4_1.length : Int) : Int) := of_decide_eq_true (by first | (with_reducible assumption) | assumption); first | exact h_ | (have e_ := (Kd.R_reads' HO_4.out).1; omega) | simpa using h_))); (try (obtain rfl := k123_openM hM62)); (try (try (have hb_ := Nbq57.out; unfold rd_T123 at hb_; (try rw [← hb_] at hcl62); (try rw [← hb_] at hcc62); (try rw [← hb_] at hM62); clear hb_))); (try (have HP62 := Kd.R_seg HX62.out (t108 : Int) (of_decide_eq_true (by first | (with_reducible assumption) | assumption)) (by have h_ : (t108 : Int) < ((x4_1.length : Int) : Int) := of_decide_eq_true (by first | (with_reducible assumption) | assumption); first | exact h_ | (have e_ := (Kd.R_reads' HO_4.out).1; omega) | simpa using h_) (seg := [.bool (((rd_T70 l0 x14_1).f0) == 3)]) (j := 2) hcl62 hcc62 (show 3 ≤ 3 from by decide) (x' := (⟨(rd_T123 x4_1 t108).f0, (rd_T123 x4_1 t108).f1, (((rd_T70 l0 x14_1).f0) == 3)⟩ : S123)) (k123_mkM _ _ _ (⟨(rd_T123 x4_1 t108).f0, (rd_T123 x4_1 t108).f1, (((rd_T70 l0 x14_1).f0) == 3)⟩ : S123) ) (fun _ hk => hk))); (try (have hx62_2 := hcc62 2 _ rfl)); (try (try simp only [show (k123).sz = 3 from rfl, Nat.mul_one, Nat.add_zero] at hx62_2)); (try (have hf62_2 := hfr62 2)); (try (try simp only [show (k123).sz = 3 from rfl, Nat.mul_one, Nat.add_zero] at hf62_2)); (try (clear hcl62 hcc62 hfr62 hM62)))); refine store_event (t := 4) (p := 85) (v := ?vo_w63) (w1 := (wc.setCell ⟨go60, (t108 : Int).toNat * 3 + 2, none⟩ (.bool (((rd_T70 l0 x14_1).f0) == 3)))) ?hg ?ho ?hn ?hr ?_; (case ho => rfl); (case hg => rfl); (case hn => rfl); (case hr => first | (go_simp; done) | (go_simp; rfl)); intro w63 hw; have hg : wc.grownBy w63 (some go60) := (by rw [hw]; exact HP62.2); have hp_ : Kd.R k123 123 w63 w.heap.size (fun _ => True) (.slice (some ⟨go60, 0, none⟩) x4_1.length co49) y115 := (by rw [hw, Ny115.out]; exact HP62.1); clear HP62; have n0_ := Aside0.mk (hp_); have n1_ := Aside0.mk (blk_grown (g := gb105) (o := .cells #[.int .i64 ((rd_T70 l0 x14_1).f0), .string ((rd_T70 l0 x14_1).f1), .string ((rd_T70 l0 x14_1).f2)] 70 (0, 0)) (pB_ BK105.out) hg (Kd.R_ne HO_4.out BK105.out (by decide))); have n2_ := Aside0.mk ((by rw [hw]; exact below_set (HB.out) GB60.out : Below w.heap.size w w63)); clear HO_4; clear BK105; clear HB; have HO_4 := n0_; have BK105 := n1_; have HB := n2_; clear n0_ n1_ n2_; clear hg hw hp_))
                repeat (go_quiet (first | ((with_reducible refine gate_store (t := 4) (p := 85) rfl ?_); (try (rw [drewN_self wc]; generalize hq_ : World.drewN wc _ = wc; have n0_ := Aside0.mk (Kd.R_at hq_ HO_4.out); have n1_ := Aside0.mk (blk_at hq_ BK105.out); have n2_ := Aside0.mk (below_at hq_ HB.out); clear hq_ HO_4 BK105 HB; have HO_4 := n0_; have BK105 := n1_; have HB := n2_; clear n0_ n1_ n2_; (try (have HX62 := Aside0.mk (show Kd.R k123 123 wc w.heap.size (fun _ => True) (.slice (some ⟨go60, 0, none⟩) x4_1.length co49) x4_1 from (pR_ HO_4.out)))); (try (obtain ⟨ce62, hcl62, hM62, hcc62, hfr62⟩ := Kd.R_elem HX62.out z123 (t108 : Int) (of_decide_eq_true (by first | (with_reducible assumption) | assumption)) (by have h_ : (t108 : Int) < ((x4_1.length : Int) : Int) := of_decide_eq_true (by first | (with_reducible assumption) | assumption); first | exact h_ | (have e_ := (Kd.R_reads' HO_4.out).1; omega) | simpa using h_))); (try (obtain rfl := k123_openM hM62)); (try (try (have hb_ := Nbq57.out; unfold rd_T123 at hb_; (try rw [← hb_] at hcl62); (try rw [← hb_] at hcc62); (try rw [← hb_] at hM62); clear hb_))); (try (have HP62 := Kd.R_seg HX62.out (t108 : Int) (of_decide_eq_true (by first | (with_reducible assumption) | assumption)) (by have h_ : (t108 : Int) < ((x4_1.length : Int) : Int) := of_decide_eq_true (by first | (with_reducible assumption) | assumption); first | exact h_ | (have e_ := (Kd.R_reads' HO_4.out).1; omega) | simpa using h_) (seg := [.bool (((rd_T70 l0 x14_1).f0) == 3)]) (j := 2) hcl62 hcc62 (show 3 ≤ 3 from by decide) (x' := (⟨(rd_T123 x4_1 t108).f0, (rd_T123 x4_1 t108).f1, (((rd_T70 l0 x14_1).f0) == 3)⟩ : S123)) (k123_mkM _ _ _ (⟨(rd_T123 x4_1 t108).f0, (rd_T123 x4_1 t108).f1, (((rd_T70 l0 x14_1).f0) == 3)⟩ : S123) ) (fun _ hk => hk))); (try (have hx62_2 := hcc62 2 _ rfl)); (try (try simp only [show (k123).sz = 3 from rfl, Nat.mul_one, Nat.add_zero] at hx62_2)); (try (have hf62_2 := hfr62 2)); (try (try simp only [show (k123).sz = 3 from rfl, Nat.mul_one, Nat.add_zero] at hf62_2)); (try (clear hcl62 hcc62 hfr62 hM62)))); refine store_event (t := 4) (p := 85) (v := ?vo_w63) (w1 := (wc.setCell ⟨go60, (t108 : Int).toNat * 3 + 2, none⟩ (.bool (((rd_T70 l0 x14_1).f0) == 3)))) ?hg ?ho ?hn ?hr ?_; (case ho => rfl); (case hg => rfl); (case hn => rfl); (case hr => first | (go_simp; done) | (go_simp; rfl)); intro w63 hw; have hg : wc.grownBy w63 (some go60) := (by rw [hw]; exact HP62.2); have hp_ : Kd.R k123 123 w63 w.heap.size (fun _ => True) (.slice (some ⟨go60, 0, none⟩) x4_1.length co49) y115 := (by rw [hw, Ny115.out]; exact HP62.1); clear HP62; have n0_ := Aside0.mk (hp_); have n1_ := Aside0.mk (blk_grown (g := gb105) (o := .cells #[.int .i64 ((rd_T70 l0 x14_1).f0), .string ((rd_T70 l0 x14_1).f1), .string ((rd_T70 l0 x14_1).f2)] 70 (0, 0)) (pB_ BK105.out) hg (Kd.R_ne HO_4.out BK105.out (by decide))); have n2_ := Aside0.mk ((by rw [hw]; exact below_set (HB.out) GB60.out : Below w.heap.size w w63)); clear HO_4; clear BK105; clear HB; have HO_4 := n0_; have BK105 := n1_; have HB := n2_; clear n0_ n1_ n2_; clear hg hw hp_)); try go_wp2_with (first | ((with_reducible refine gate_store (t := 4) (p := 85) rfl ?_); (try (rw [drewN_self wc]; generalize hq_ : World.drewN wc _ = wc; have n0_ := Aside0.mk (Kd.R_at hq_ HO_4.out); have n1_ := Aside0.mk (blk_at hq_ BK105.out); have n2_ := Aside0.mk (below_at hq_ HB.out); clear hq_ HO_4 BK105 HB; have HO_4 := n0_; have BK105 := n1_; have HB := n2_; clear n0_ n1_ n2_; (try (have HX62 := Aside0.mk (show Kd.R k123 123 wc w.heap.size (fun _ => True) (.slice (some ⟨go60, 0, none⟩) x4_1.length co49) x4_1 from (pR_ HO_4.out)))); (try (obtain ⟨ce62, hcl62, hM62, hcc62, hfr62⟩ := Kd.R_elem HX62.out z123 (t108 : Int) (of_decide_eq_true (by first | (with_reducible assumption) | assumption)) (by have h_ : (t108 : Int) < ((x4_1.length : Int) : Int) := of_decide_eq_true (by first | (with_reducible assumption) | assumption); first | exact h_ | (have e_ := (Kd.R_reads' HO_4.out).1; omega) | simpa using h_))); (try (obtain rfl := k123_openM hM62)); (try (try (have hb_ := Nbq57.out; unfold rd_T123 at hb_; (try rw [← hb_] at hcl62); (try rw [← hb_] at hcc62); (try rw [← hb_] at hM62); clear hb_))); (try (have HP62 := Kd.R_seg HX62.out (t108 : Int) (of_decide_eq_true (by first | (with_reducible assumption) | assumption)) (by have h_ : (t108 : Int) < ((x4_1.length : Int) : Int) := of_decide_eq_true (by first | (with_reducible assumption) | assumption); first | exact h_ | (have e_ := (Kd.R_reads' HO_4.out).1; omega) | simpa using h_) (seg := [.bool (((rd_T70 l0 x14_1).f0) == 3)]) (j := 2) hcl62 hcc62 (show 3 ≤ 3 from by decide) (x' := (⟨(rd_T123 x4_1 t108).f0, (rd_T123 x4_1 t108).f1, (((rd_T70 l0 x14_1).f0) == 3)⟩ : S123)) (k123_mkM _ _ _ (⟨(rd_T123 x4_1 t108).f0, (rd_T123 x4_1 t108).f1, (((rd_T70 l0 x14_1).f0) == 3)⟩ : S123) ) (fun _ hk => hk))); (try (have hx62_2 := hcc62 2 _ rfl)); (try (try simp only [show (k123).sz = 3 from rfl, Nat.mul_one, Nat.add_zero] at hx62_2)); (try (have hf62_2 := hfr62 2)); (try (try simp only [show (k123).sz = 3 from rfl, Nat.mul_one, Nat.add_zero] at hf62_2)); (try (clear hcl62 hcc62 hfr62 hM62)))); refine store_event (t := 4) (p := 85) (v := ?vo_w63) (w1 := (wc.setCell ⟨go60, (t108 : Int).toNat * 3 + 2, none⟩ (.bool (((rd_T70 l0 x14_1).f0) == 3)))) ?hg ?ho ?hn ?hr ?_; (case ho => rfl); (case hg => rfl); (case hn => rfl); (case hr => first | (go_simp; done) | (go_simp; rfl)); intro w63 hw; have hg : wc.grownBy w63 (some go60) := (by rw [hw]; exact HP62.2); have hp_ : Kd.R k123 123 w63 w.heap.size (fun _ => True) (.slice (some ⟨go60, 0, none⟩) x4_1.length co49) y115 := (by rw [hw, Ny115.out]; exact HP62.1); clear HP62; have n0_ := Aside0.mk (hp_); have n1_ := Aside0.mk (blk_grown (g := gb105) (o := .cells #[.int .i64 ((rd_T70 l0 x14_1).f0), .string ((rd_T70 l0 x14_1).f1), .string ((rd_T70 l0 x14_1).f2)] 70 (0, 0)) (pB_ BK105.out) hg (Kd.R_ne HO_4.out BK105.out (by decide))); have n2_ := Aside0.mk ((by rw [hw]; exact below_set (HB.out) GB60.out : Below w.heap.size w w63)); clear HO_4; clear BK105; clear HB; have HO_4 := n0_; have BK105 := n1_; have HB := n2_; clear n0_ n1_ n2_; clear hg hw hp_)))
                go_roundg kj47
                case measure => have := HK1.out; have := HJ9.out; have := HJ47.out; omega
                case rel => exact ⟨(y115), (wrap64 (x14_1 + 1)), (by first | rfl | (simp; done) | (simp [*]; done) | (simp [beq_nil_, bne_nil_]; done)), H', ⟨by have := HK1.out; have := HJ9.out; have := HJ47.out; omega⟩, ⟨by (with_reducible repeat (first | apply Kd.R_alloc | apply Kd.R_drewN | apply Kd.R_drew)); exact HO_4.out⟩, ⟨by repeat (first | (with_reducible first | exact HB.out | apply below_alloc | apply pw_below_drewN | apply below_drew1 | refine below_set ?_ GE105.out) | exact HB.out)⟩⟩
               rw [if_neg c59] at H
               have c59b0 : (((rd_T70 l0 x14_1).f0) == 4) = false := beq_eq_false_iff_ne.mpr c59
               have c59b1 : (((rd_T70 l0 x14_1).f0) != 4) = true := bne_iff_ne.mpr c59
               simp only [Option.some.injEq, Prod.mk.injEq] at H
               obtain ⟨rfl, rfl⟩ := H
               have hcz64_0 := cz_ BK105.out 0 _ rfl
               have hcz64_1 := cz_ BK105.out 1 _ rfl
               have hcz64_2 := cz_ BK105.out 2 _ rfl
               have hfz64_0 := blk_frozen BK105.out 0
               have hfz64_1 := blk_frozen BK105.out 1
               have hfz64_2 := blk_frozen BK105.out 2
               have p114 : 0 ≤ (t108 : Int) := of_decide_eq_true (by first | (with_reducible assumption) | assumption)
               have q114 : t108 < (x4_1.length : Int) := of_decide_eq_true (by first | (with_reducible assumption) | assumption)
               obtain ⟨ad114, e114, hx114_0, hx114_1, hx114_2⟩ := at_T123 (Kd.R_reads' HO_4.out).2.2 t108 p114 q114
               (try rw [← Nbq57.out] at hx114_2)
               cases e114
               replace p114 := eq_true p114
               replace q114 := eq_true q114
               go_wp2
               repeat (go_quiet (fail); try go_wp2)
               go_ret2
               exact ⟨_, by first | rfl | (simp [errW_none, errW_some] <;> rfl) | (simp [*, errW_none, errW_some] <;> rfl), by first | exact Kd.R_nil _ _ _ _ _ | exact Kd.N_nil _ _ _ _ _ | exact Kd.V_nil _ _ _ _ _ | exact Kd.Q_nil _ _ _ _ _ | exact Kd.S_nil _ _ _ _ _, by repeat (first | (with_reducible first | exact HB.out | apply below_alloc | apply pw_below_drewN | apply below_drew1 | refine below_set ?_ GE105.out) | exact HB.out)⟩
              replace c58 := Bool.eq_false_iff.mpr c58
              subst c58
              have H1 : (if ((rd_T70 l0 x14_1).f0) = 4 then (some (([] : List (S123)), false)) else (impl_replayed.l0 kj47 (x4_1.set (t108 : Int).toNat (⟨(rd_T123 x4_1 t108).f0, (rd_T123 x4_1 t108).f1, (((rd_T70 l0 x14_1).f0) == 3)⟩ : S123)) l0 (l0.length : Int) (wrap64 (x14_1 + 1)))) = some (r1, r2) := by rw [if_neg (show ¬ (false = true) by decide)] at H; exact H
              clear H
              have H := H1
              clear H1
              by_cases c65 : ((rd_T70 l0 x14_1).f0) = 4
              ·rw [if_pos c65] at H
               have c65b0 : (((rd_T70 l0 x14_1).f0) == 4) = true := beq_iff_eq.mpr c65
               have c65b1 : (((rd_T70 l0 x14_1).f0) != 4) = false := bne_eq_false_iff_eq.mpr c65
               clear c65
               simp only [Option.some.injEq, Prod.mk.injEq] at H
               obtain ⟨rfl, rfl⟩ := H
               have hcz66_0 := cz_ BK105.out 0 _ rfl
               have hcz66_1 := cz_ BK105.out 1 _ rfl
               have hcz66_2 := cz_ BK105.out 2 _ rfl
               have hfz66_0 := blk_frozen BK105.out 0
               have hfz66_1 := blk_frozen BK105.out 1
               have hfz66_2 := blk_frozen BK105.out 2
               have p114 : 0 ≤ (t108 : Int) := of_decide_eq_true (by first | (with_reducible assumption) | assumption)
               have q114 : t108 < (x4_1.length : Int) := of_decide_eq_true (by first | (with_reducible assumption) | assumption)
               obtain ⟨ad114, e114, hx114_0, hx114_1, hx114_2⟩ := at_T123 (Kd.R_reads' HO_4.out).2.2 t108 p114 q114
               (try rw [← Nbq57.out] at hx114_2)
               cases e114
               replace p114 := eq_true p114
               replace q114 := eq_true q114
               go_wp2
               repeat (go_quiet (fail); try go_wp2)
               go_ret2
               exact ⟨_, by first | rfl | (simp [errW_none, errW_some] <;> rfl) | (simp [*, errW_none, errW_some] <;> rfl), by first | exact Kd.R_nil _ _ _ _ _ | exact Kd.N_nil _ _ _ _ _ | exact Kd.V_nil _ _ _ _ _ | exact Kd.Q_nil _ _ _ _ _ | exact Kd.S_nil _ _ _ _ _, by repeat (first | (with_reducible first | exact HB.out | apply below_alloc | apply pw_below_drewN | apply below_drew1 | refine below_set ?_ GE105.out) | exact HB.out)⟩
              rw [if_neg c65] at H
              have c65b0 : (((rd_T70 l0 x14_1).f0) == 4) = false := beq_eq_false_iff_ne.mpr c65
              have c65b1 : (((rd_T70 l0 x14_1).f0) != 4) = true := bne_iff_ne.mpr c65
              obtain ⟨y116, hy116⟩ : ∃ y_ : List (S123), y_ = (x4_1.set (t108 : Int).toNat (⟨(rd_T123 x4_1 t108).f0, (rd_T123 x4_1 t108).f1, (((rd_T70 l0 x14_1).f0) == 3)⟩ : S123)) := ⟨_, rfl⟩
              replace H : (impl_replayed.l0 kj47 y116 l0 (l0.length : Int) (wrap64 (x14_1 + 1))) = some (r1, r2) := by first | (rw [hy116]; with_reducible exact H) | (have H2_ := (Option.bind_some _ _).symm.trans H; rw [hy116]; with_reducible exact H2_) | (have H2_ := (Option.bind_some _ _).symm.trans H; with_reducible exact H2_) | with_reducible exact H | (rw [hy116]; exact H) | exact H
              have Ny116 := Aside0.mk hy116
              clear hy116
              have H' := Aside0.mk H
              clear H
              have hcz68_0 := cz_ BK105.out 0 _ rfl
              have hcz68_1 := cz_ BK105.out 1 _ rfl
              have hcz68_2 := cz_ BK105.out 2 _ rfl
              have hfz68_0 := blk_frozen BK105.out 0
              have hfz68_1 := blk_frozen BK105.out 1
              have hfz68_2 := blk_frozen BK105.out 2
              have p114 : 0 ≤ (t108 : Int) := of_decide_eq_true (by first | (with_reducible assumption) | assumption)
              have q114 : t108 < (x4_1.length : Int) := of_decide_eq_true (by first | (with_reducible assumption) | assumption)
              obtain ⟨ad114, e114, hx114_0, hx114_1, hx114_2⟩ := at_T123 (Kd.R_reads' HO_4.out).2.2 t108 p114 q114
              (try rw [← Nbq57.out] at hx114_2)
              cases e114
              replace p114 := eq_true p114
              replace q114 := eq_true q114
              have p67 : 0 ≤ (t108 : Int) := of_decide_eq_true (by first | (with_reducible assumption) | assumption)
              have q67 : (t108 : Int) < ((x4_1.length : Int) : Int) := of_decide_eq_true (by first | (with_reducible assumption) | assumption)
              obtain ⟨go67, co67, eo67, gb67, gl67, cl67, HG67⟩ := Kd.R_form HO_4.out (by omega)
              (first | cases eo67 | (injection eo67 with ea_ en_ ec_; (first | subst ea_ | (injection ea_ with ea_; subst ea_)); subst ec_; clear en_))
              have GB67 := Aside0.mk gb67
              have GG67 := Aside0.mk HG67
              clear gb67 gl67 HG67
              (first | simp only [add_plain] at hx114_0 | skip)
              (first | simp only [add_plain] at hx114_1 | skip)
              (first | simp only [add_plain] at hx114_2 | skip)
              obtain ⟨ce67, hcl67, hM67, hcc67, hfr67⟩ := Kd.R_elem HO_4.out z123 (t108 : Int) p67 q67
              obtain rfl := k123_openM hM67
              have hx67_0 : wc.cell? ⟨go67, (t108 : Int).toNat * 3, none⟩ = some (.string ((rd_T123 x4_1 t108).f0)) := hcc67 0 _ rfl
              have hx67_1 : wc.cell? ⟨go67, (t108 : Int).toNat * 3 + 1, none⟩ = some (.string ((rd_T123 x4_1 t108).f1)) := hcc67 1 _ rfl
              have hx67_2 : wc.cell? ⟨go67, (t108 : Int).toNat * 3 + 2, none⟩ = some (.bool ((rd_T123 x4_1 t108).f2)) := hcc67 2 _ rfl
              have hf67_0 : wc.frozen? ⟨go67, (t108 : Int).toNat * 3, none⟩ = false := hfr67 0
              have hf67_1 : wc.frozen? ⟨go67, (t108 : Int).toNat * 3 + 1, none⟩ = false := hfr67 1
              have hf67_2 : wc.frozen? ⟨go67, (t108 : Int).toNat * 3 + 2, none⟩ = false := hfr67 2
              clear hcl67 hcc67 hfr67 hM67
              replace p67 := eq_true p67
              replace q67 := eq_true q67
              have HX69 := Aside0.mk (show Kd.R k123 123 wc w.heap.size (fun _ => True) (.slice (some ⟨go67, 0, none⟩) x4_1.length co49) x4_1 from (pR_ HO_4.out))
              obtain ⟨ce69, hcl69, hM69, hcc69, hfr69⟩ := Kd.R_elem HX69.out z123 (t108 : Int) (of_decide_eq_true (by first | (with_reducible assumption) | assumption)) (by have h_ : (t108 : Int) < ((x4_1.length : Int) : Int) := of_decide_eq_true (by first | (with_reducible assumption) | assumption); first | exact h_ | (have e_ := (Kd.R_reads' HO_4.out).1; omega) | simpa using h_)
              obtain rfl := k123_openM hM69
              (try (have hb_ := Nbq57.out; unfold rd_T123 at hb_; (try rw [← hb_] at hcl69); (try rw [← hb_] at hcc69); (try rw [← hb_] at hM69); clear hb_))
              have HP69 := Kd.R_seg HX69.out (t108 : Int) (of_decide_eq_true (by first | (with_reducible assumption) | assumption)) (by have h_ : (t108 : Int) < ((x4_1.length : Int) : Int) := of_decide_eq_true (by first | (with_reducible assumption) | assumption); first | exact h_ | (have e_ := (Kd.R_reads' HO_4.out).1; omega) | simpa using h_) (seg := [.bool (((rd_T70 l0 x14_1).f0) == 3)]) (j := 2) hcl69 hcc69 (show 3 ≤ 3 from by decide) (x' := (⟨(rd_T123 x4_1 t108).f0, (rd_T123 x4_1 t108).f1, (((rd_T70 l0 x14_1).f0) == 3)⟩ : S123)) (k123_mkM _ _ _ (⟨(rd_T123 x4_1 t108).f0, (rd_T123 x4_1 t108).f1, (((rd_T70 l0 x14_1).f0) == 3)⟩ : S123) ) (fun _ hk => hk)
              have hx69_2 := hcc69 2 _ rfl
              (try simp only [show (k123).sz = 3 from rfl, Nat.mul_one, Nat.add_zero] at hx69_2)
              have hf69_2 := hfr69 2
              (try simp only [show (k123).sz = 3 from rfl, Nat.mul_one, Nat.add_zero] at hf69_2)
              clear hcl69 hcc69 hfr69 hM69
              go_wp2_with (first | ((with_reducible refine gate_store (t := 4) (p := 85) rfl ?_); (try (rw [drewN_self wc]; generalize hq_ : World.drewN wc _ = wc; have n0_ := Aside0.mk (Kd.R_at hq_ HO_4.out); have n1_ := Aside0.mk (blk_at hq_ BK105.out); have n2_ := Aside0.mk (below_at hq_ HB.out); clear hq_ HO_4 BK105 HB; have HO_4 := n0_; have BK105 := n1_; have HB := n2_; clear n0_ n1_ n2_; (try (have HX69 := Aside0.mk (show Kd.R k123 123 wc w.heap.size (fun _ => True) (.slice (some ⟨go67, 0, none⟩) x4_1.length co49) x4_1 from (pR_ HO_4.out)))); (try (obtain ⟨ce69, hcl69, hM69, hcc69, hfr69⟩ := Kd.R_elem HX69.out z123 (t108 : Int) (of_decide_eq_true (by first | (with_reducible assumption) | assumption)) (by have h_ : (t108 : Int) < ((x4_1.length : Int) : Int) := of_decide_eq_true (by first | (with_reducible assumption) | assumption); first | exact h_ | (have e_ := (Kd.R_reads' HO_4.out).1; omega) | simpa using h_))); (try (obtain rfl := k123_openM hM69)); (try (try (have hb_ := Nbq57.out; unfold rd_T123 at hb_; (try rw [← hb_] at hcl69); (try rw [← hb_] at hcc69); (try rw [← hb_] at hM69); clear hb_))); (try (have HP69 := Kd.R_seg HX69.out (t108 : Int) (of_decide_eq_true (by first | (with_reducible assumption) | assumption)) (by have h_ : (t108 : Int) < ((x4_1.length : Int) : Int) := of_decide_eq_true (by first | (with_reducible assumption) | assumption); first | exact h_ | (have e_ := (Kd.R_reads' HO_4.out).1; omega) | simpa using h_) (seg := [.bool (((rd_T70 l0 x14_1).f0) == 3)]) (j := 2) hcl69 hcc69 (show 3 ≤ 3 from by decide) (x' := (⟨(rd_T123 x4_1 t108).f0, (rd_T123 x4_1 t108).f1, (((rd_T70 l0 x14_1).f0) == 3)⟩ : S123)) (k123_mkM _ _ _ (⟨(rd_T123 x4_1 t108).f0, (rd_T123 x4_1 t108).f1, (((rd_T70 l0 x14_1).f0) == 3)⟩ : S123) ) (fun _ hk => hk))); (try (have hx69_2 := hcc69 2 _ rfl)); (try (try simp only [show (k123).sz = 3 from rfl, Nat.mul_one, Nat.add_zero] at hx69_2)); (try (have hf69_2 := hfr69 2)); (try (try simp only [show (k123).sz = 3 from rfl, Nat.mul_one, Nat.add_zero] at hf69_2)); (try (clear hcl69 hcc69 hfr69 hM69)))); refine store_event (t := 4) (p := 85) (v := ?vo_w70) (w1 := (wc.setCell ⟨go67, (t108 : Int).toNat * 3 + 2, none⟩ (.bool (((rd_T70 l0 x14_1).f0) == 3)))) ?hg ?ho ?hn ?hr ?_; (case ho => rfl); (case hg => rfl); (case hn => rfl); (case hr => first | (go_simp; done) | (go_simp; rfl)); intro w70 hw; have hg : wc.grownBy w70 (some go67) := (by rw [hw]; exact HP69.2); have hp_ : Kd.R k123 123 w70 w.heap.size (fun _ => True) (.slice (some ⟨go67, 0, none⟩) x4_1.length co49) y116 := (by rw [hw, Ny116.out]; exact HP69.1); clear HP69; have n0_ := Aside0.mk (hp_); have n1_ := Aside0.mk (blk_grown (g := gb105) (o := .cells #[.int .i64 ((rd_T70 l0 x14_1).f0), .string ((rd_T70 l0 x14_1).f1), .string ((rd_T70 l0 x14_1).f2)] 70 (0, 0)) (pB_ BK105.out) hg (Kd.R_ne HO_4.out BK105.out (by decide))); have n2_ := Aside0.mk ((by rw [hw]; exact below_set (HB.out) GB67.out : Below w.heap.size w w70)); clear HO_4; clear BK105; clear HB; have HO_4 := n0_; have BK105 := n1_; have HB := n2_; clear n0_ n1_ n2_; clear hg hw hp_))
              repeat (go_quiet (first | ((with_reducible refine gate_store (t := 4) (p := 85) rfl ?_); (try (rw [drewN_self wc]; generalize hq_ : World.drewN wc _ = wc; have n0_ := Aside0.mk (Kd.R_at hq_ HO_4.out); have n1_ := Aside0.mk (blk_at hq_ BK105.out); have n2_ := Aside0.mk (below_at hq_ HB.out); clear hq_ HO_4 BK105 HB; have HO_4 := n0_; have BK105 := n1_; have HB := n2_; clear n0_ n1_ n2_; (try (have HX69 := Aside0.mk (show Kd.R k123 123 wc w.heap.size (fun _ => True) (.slice (some ⟨go67, 0, none⟩) x4_1.length co49) x4_1 from (pR_ HO_4.out)))); (try (obtain ⟨ce69, hcl69, hM69, hcc69, hfr69⟩ := Kd.R_elem HX69.out z123 (t108 : Int) (of_decide_eq_true (by first | (with_reducible assumption) | assumption)) (by have h_ : (t108 : Int) < ((x4_1.length : Int) : Int) := of_decide_eq_true (by first | (with_reducible assumption) | assumption); first | exact h_ | (have e_ := (Kd.R_reads' HO_4.out).1; omega) | simpa using h_))); (try (obtain rfl := k123_openM hM69)); (try (try (have hb_ := Nbq57.out; unfold rd_T123 at hb_; (try rw [← hb_] at hcl69); (try rw [← hb_] at hcc69); (try rw [← hb_] at hM69); clear hb_))); (try (have HP69 := Kd.R_seg HX69.out (t108 : Int) (of_decide_eq_true (by first | (with_reducible assumption) | assumption)) (by have h_ : (t108 : Int) < ((x4_1.length : Int) : Int) := of_decide_eq_true (by first | (with_reducible assumption) | assumption); first | exact h_ | (have e_ := (Kd.R_reads' HO_4.out).1; omega) | simpa using h_) (seg := [.bool (((rd_T70 l0 x14_1).f0) == 3)]) (j := 2) hcl69 hcc69 (show 3 ≤ 3 from by decide) (x' := (⟨(rd_T123 x4_1 t108).f0, (rd_T123 x4_1 t108).f1, (((rd_T70 l0 x14_1).f0) == 3)⟩ : S123)) (k123_mkM _ _ _ (⟨(rd_T123 x4_1 t108).f0, (rd_T123 x4_1 t108).f1, (((rd_T70 l0 x14_1).f0) == 3)⟩ : S123) ) (fun _ hk => hk))); (try (have hx69_2 := hcc69 2 _ rfl)); (try (try simp only [show (k123).sz = 3 from rfl, Nat.mul_one, Nat.add_zero] at hx69_2)); (try (have hf69_2 := hfr69 2)); (try (try simp only [show (k123).sz = 3 from rfl, Nat.mul_one, Nat.add_zero] at hf69_2)); (try (clear hcl69 hcc69 hfr69 hM69)))); refine store_event (t := 4) (p := 85) (v := ?vo_w70) (w1 := (wc.setCell ⟨go67, (t108 : Int).toNat * 3 + 2, none⟩ (.bool (((rd_T70 l0 x14_1).f0) == 3)))) ?hg ?ho ?hn ?hr ?_; (case ho => rfl); (case hg => rfl); (case hn => rfl); (case hr => first | (go_simp; done) | (go_simp; rfl)); intro w70 hw; have hg : wc.grownBy w70 (some go67) := (by rw [hw]; exact HP69.2); have hp_ : Kd.R k123 123 w70 w.heap.size (fun _ => True) (.slice (some ⟨go67, 0, none⟩) x4_1.length co49) y116 := (by rw [hw, Ny116.out]; exact HP69.1); clear HP69; have n0_ := Aside0.mk (hp_); have n1_ := Aside0.mk (blk_grown (g := gb105) (o := .cells #[.int .i64 ((rd_T70 l0 x14_1).f0), .string ((rd_T70 l0 x14_1).f1), .string ((rd_T70 l0 x14_1).f2)] 70 (0, 0)) (pB_ BK105.out) hg (Kd.R_ne HO_4.out BK105.out (by decide))); have n2_ := Aside0.mk ((by rw [hw]; exact below_set (HB.out) GB67.out : Below w.heap.size w w70)); clear HO_4; clear BK105; clear HB; have HO_4 := n0_; have BK105 := n1_; have HB := n2_; clear n0_ n1_ n2_; clear hg hw hp_)); try go_wp2_with (first | ((with_reducible refine gate_store (t := 4) (p := 85) rfl ?_); (try (rw [drewN_self wc]; generalize hq_ : World.drewN wc _ = wc; have n0_ := Aside0.mk (Kd.R_at hq_ HO_4.out); have n1_ := Aside0.mk (blk_at hq_ BK105.out); have n2_ := Aside0.mk (below_at hq_ HB.out); clear hq_ HO_4 BK105 HB; have HO_4 := n0_; have BK105 := n1_; have HB := n2_; clear n0_ n1_ n2_; (try (have HX69 := Aside0.mk (show Kd.R k123 123 wc w.heap.size (fun _ => True) (.slice (some ⟨go67, 0, none⟩) x4_1.length co49) x4_1 from (pR_ HO_4.out)))); (try (obtain ⟨ce69, hcl69, hM69, hcc69, hfr69⟩ := Kd.R_elem HX69.out z123 (t108 : Int) (of_decide_eq_true (by first | (with_reducible assumption) | assumption)) (by have h_ : (t108 : Int) < ((x4_1.length : Int) : Int) := of_decide_eq_true (by first | (with_reducible assumption) | assumption); first | exact h_ | (have e_ := (Kd.R_reads' HO_4.out).1; omega) | simpa using h_))); (try (obtain rfl := k123_openM hM69)); (try (try (have hb_ := Nbq57.out; unfold rd_T123 at hb_; (try rw [← hb_] at hcl69); (try rw [← hb_] at hcc69); (try rw [← hb_] at hM69); clear hb_))); (try (have HP69 := Kd.R_seg HX69.out (t108 : Int) (of_decide_eq_true (by first | (with_reducible assumption) | assumption)) (by have h_ : (t108 : Int) < ((x4_1.length : Int) : Int) := of_decide_eq_true (by first | (with_reducible assumption) | assumption); first | exact h_ | (have e_ := (Kd.R_reads' HO_4.out).1; omega) | simpa using h_) (seg := [.bool (((rd_T70 l0 x14_1).f0) == 3)]) (j := 2) hcl69 hcc69 (show 3 ≤ 3 from by decide) (x' := (⟨(rd_T123 x4_1 t108).f0, (rd_T123 x4_1 t108).f1, (((rd_T70 l0 x14_1).f0) == 3)⟩ : S123)) (k123_mkM _ _ _ (⟨(rd_T123 x4_1 t108).f0, (rd_T123 x4_1 t108).f1, (((rd_T70 l0 x14_1).f0) == 3)⟩ : S123) ) (fun _ hk => hk))); (try (have hx69_2 := hcc69 2 _ rfl)); (try (try simp only [show (k123).sz = 3 from rfl, Nat.mul_one, Nat.add_zero] at hx69_2)); (try (have hf69_2 := hfr69 2)); (try (try simp only [show (k123).sz = 3 from rfl, Nat.mul_one, Nat.add_zero] at hf69_2)); (try (clear hcl69 hcc69 hfr69 hM69)))); refine store_event (t := 4) (p := 85) (v := ?vo_w70) (w1 := (wc.setCell ⟨go67, (t108 : Int).toNat * 3 + 2, none⟩ (.bool (((rd_T70 l0 x14_1).f0) == 3)))) ?hg ?ho ?hn ?hr ?_; (case ho => rfl); (case hg => rfl); (case hn => rfl); (case hr => first | (go_simp; done) | (go_simp; rfl)); intro w70 hw; have hg : wc.grownBy w70 (some go67) := (by rw [hw]; exact HP69.2); have hp_ : Kd.R k123 123 w70 w.heap.size (fun _ => True) (.slice (some ⟨go67, 0, none⟩) x4_1.length co49) y116 := (by rw [hw, Ny116.out]; exact HP69.1); clear HP69; have n0_ := Aside0.mk (hp_); have n1_ := Aside0.mk (blk_grown (g := gb105) (o := .cells #[.int .i64 ((rd_T70 l0 x14_1).f0), .string ((rd_T70 l0 x14_1).f1), .string ((rd_T70 l0 x14_1).f2)] 70 (0, 0)) (pB_ BK105.out) hg (Kd.R_ne HO_4.out BK105.out (by decide))); have n2_ := Aside0.mk ((by rw [hw]; exact below_set (HB.out) GB67.out : Below w.heap.size w w70)); clear HO_4; clear BK105; clear HB; have HO_4 := n0_; have BK105 := n1_; have HB := n2_; clear n0_ n1_ n2_; clear hg hw hp_)))
              go_roundg kj47
              case measure => have := HK1.out; have := HJ9.out; have := HJ47.out; omega
              case rel => exact ⟨(y116), (wrap64 (x14_1 + 1)), (by first | rfl | (simp; done) | (simp [*]; done) | (simp [beq_nil_, bne_nil_]; done)), H', ⟨by have := HK1.out; have := HJ9.out; have := HJ47.out; omega⟩, ⟨by (with_reducible repeat (first | apply Kd.R_alloc | apply Kd.R_drewN | apply Kd.R_drew)); exact HO_4.out⟩, ⟨by repeat (first | (with_reducible first | exact HB.out | apply below_alloc | apply pw_below_drewN | apply below_drew1 | refine below_set ?_ GE105.out) | exact HB.out)⟩⟩
             rw [if_neg c56] at H
             exact absurd H (by simp)
            rw [if_neg c55] at H
            exact absurd H (by simp)
           rw [if_neg c54] at H
           have c54b0 : (((rd_T70 l0 x14_1).f2).toList == ([] : List UInt8)) = false := beq_eq_false_iff_ne.mpr c54
           have c54b1 : (((rd_T70 l0 x14_1).f2).toList != ([] : List UInt8)) = true := bne_iff_ne.mpr c54
           simp only [Option.some.injEq, Prod.mk.injEq] at H
           obtain ⟨rfl, rfl⟩ := H
           have hcz71_0 := cz_ BK105.out 0 _ rfl
           have hcz71_1 := cz_ BK105.out 1 _ rfl
           have hcz71_2 := cz_ BK105.out 2 _ rfl
           have hfz71_0 := blk_frozen BK105.out 0
           have hfz71_1 := blk_frozen BK105.out 1
           have hfz71_2 := blk_frozen BK105.out 2
           go_wp2
           repeat (go_quiet (fail); try go_wp2)
           go_ret2
           exact ⟨_, by first | rfl | (simp [errW_none, errW_some] <;> rfl) | (simp [*, errW_none, errW_some] <;> rfl), by first | exact Kd.R_nil _ _ _ _ _ | exact Kd.N_nil _ _ _ _ _ | exact Kd.V_nil _ _ _ _ _ | exact Kd.Q_nil _ _ _ _ _ | exact Kd.S_nil _ _ _ _ _, by repeat (first | (with_reducible first | exact HB.out | apply below_alloc | apply pw_below_drewN | apply below_drew1 | refine below_set ?_ GE105.out) | exact HB.out)⟩
          replace c53 := Bool.eq_false_iff.mpr c53
          subst c53
          have H1 : (some (([] : List (S123)), false)) = some (r1, r2) := by rw [if_neg (show ¬ (false = true) by decide)] at H; exact H
          clear H
          have H := H1
          clear H1
          simp only [Option.some.injEq, Prod.mk.injEq] at H
          obtain ⟨rfl, rfl⟩ := H
          go_wp2
          repeat (go_quiet (fail); try go_wp2)
          go_ret2
          exact ⟨_, by first | rfl | (simp [errW_none, errW_some] <;> rfl) | (simp [*, errW_none, errW_some] <;> rfl), by first | exact Kd.R_nil _ _ _ _ _ | exact Kd.N_nil _ _ _ _ _ | exact Kd.V_nil _ _ _ _ _ | exact Kd.Q_nil _ _ _ _ _ | exact Kd.S_nil _ _ _ _ _, by repeat (first | (with_reducible first | exact HB.out | apply below_alloc | apply pw_below_drewN | apply below_drew1 | refine below_set ?_ GE105.out) | exact HB.out)⟩
     rw [if_neg c9] at H
     exact absurd H (by simp)
    rw [if_neg c8] at H
    exact absurd H (by simp)
   rw [if_neg c7] at H
   have c7b0 : decide (x14_1 < (l0.length : Int)) = false := decide_eq_false c7
   clear c7
   simp only [Option.some.injEq, Prod.mk.injEq] at H
   obtain ⟨rfl, rfl⟩ := H
   go_wp2
   repeat (go_quiet (fail); try go_wp2)
   go_ret2
   exact ⟨_, by first | rfl | (simp [errW_none, errW_some] <;> rfl) | (simp [*, errW_none, errW_some] <;> rfl), by (with_reducible repeat (first | apply Kd.R_alloc | apply Kd.R_drewN | apply Kd.R_drew)); exact HO_4.out, by repeat (first | (with_reducible first | exact HB.out | apply below_alloc | apply pw_below_drewN | apply below_drew1) | exact HB.out)⟩
end
section
theorem eqA123 (d : Nat) (w : World) (x0 y0 : ByteArray) (x1 y1 : ByteArray) (x2 y2 : Bool) :
    (Op.equalIn (d + 2) 123 (.agg #[.string x0, .string x1, .bool x2]) (.agg #[.string y0, .string y1, .bool y2])).run Try.prog w = .ok (x0.toList == y0.toList && (x1.toList == y1.toList && (x2 == y2))) w := by
  refine eqA_of Try.underlying123 (by kernel_rfl) ?_
  refine eqf_cons (by rfl) (by go_simp; rfl) (by go_simp; rfl) (by go_simp) ?_
  refine eqf_cons (by rfl) (by go_simp; rfl) (by go_simp; rfl) (by go_simp) ?_
  exact eqf_last (by rfl) (by go_simp; rfl) (by go_simp; rfl) (by go_simp)
end
section
attribute [local go_sem high] eqA123
/-! ### impl_item_117: function 117 -/
def impl_item_117.l0 : Nat → List (S123) → Int → Int → ByteArray → ByteArray → Bool → Option (Int)
 | 0, _, _, _, _, _, _ => none
 | k + 1, x0, x7, x8, x102000, x102001, x102002 => if x8 < x7 then (if 0 ≤ x8 then (if x8 < (x0.length : Int) then (if (x102000.toList == (((rd_T123 x0 x8).f0).toList) && (x102001.toList == (((rd_T123 x0 x8).f1).toList) && (x102002 == ((rd_T123 x0 x8).f2)))) = true then (some x8) else (impl_item_117.l0 k x0 x7 (wrap64 (x8 + 1)) x102000 x102001 x102002)) else (none)) else (none)) else (some (-1))
def impl_item_117.f (k : Nat) (l0 : List (S123)) (a1_0 : ByteArray) (a1_1 : ByteArray) (a1_2 : Bool) : Option (Int) := impl_item_117.l0 k l0 (l0.length : Int) 0 a1_0 a1_1 a1_2
theorem impl_item_117.mono_l : ∀ k, (∀ y0 y1 y2 y3 y4 y5, LeO (impl_item_117.l0 k y0 y1 y2 y3 y4 y5) (impl_item_117.l0 (k + 1) y0 y1 y2 y3 y4 y5))
 | 0 => fun _ _ _ _ _ _ r h => by simp [impl_item_117.l0] at h
 | k + 1 => by
  have ih0 := impl_item_117.mono_l k
  ·intro y0 y1 y2 y3 y4 y5
   unfold impl_item_117.l0
   repeat' first
   | (with_reducible exact ih0 _ _ _ _ _ _)
   | (with_reducible exact LeO.refl _)
   | (with_reducible exact LeO.none _)
   | (with_reducible refine LeO.ite ?_ ?_)
   | (with_reducible refine LeO.bind ?_ (fun _ => ?_))
   | exact ih0 _ _ _ _ _ _
   | exact LeO.none _
   | refine LeO.ite ?_ ?_
   | refine LeO.bind ?_ (fun _ => ?_)
theorem impl_item_117.mono : ∀ a0 a1 a2 a3 k, LeO (impl_item_117.f k a0 a1 a2 a3) (impl_item_117.f (k + 1) a0 a1 a2 a3) := by
 intro a0 a1 a2 a3 k
 have ih0 := impl_item_117.mono_l k
 unfold impl_item_117.f
 repeat' first
   | (with_reducible exact ih0 _ _ _ _ _ _)
   | (with_reducible exact LeO.refl _)
   | (with_reducible exact LeO.none _)
   | (with_reducible refine LeO.ite ?_ ?_)
   | (with_reducible refine LeO.bind ?_ (fun _ => ?_))
   | exact ih0 _ _ _ _ _ _
   | exact LeO.none _
   | refine LeO.ite ?_ ?_
   | refine LeO.bind ?_ (fun _ => ?_)
set_option maxHeartbeats 8000000 in
set_option maxRecDepth 100000 in
theorem impl_item_117.calls (k : Nat) (A0 : Option Addr) (c0 : Nat) (l0 : List (S123)) (a1_0 : ByteArray) (a1_1 : ByteArray) (a1_2 : Bool) (r : Int) (w : World) (hr0 : Kd.C k123 w A0 l0.length l0) (hc0 : l0.length ≤ c0) (h : impl_item_117.f k l0 a1_0 a1_1 a1_2 = some r) :
  Calls Try.prog 117 #[.slice A0 l0.length c0, .agg #[.string a1_0, .string a1_1, .bool a1_2]] w fun e w' => e = .returned (.int .i64 r) ∧ Below w.heap.size w w' := by
 have hu123 := Try.underlying123
 have HR0 := Aside0.mk hr0
 have HC0 := Aside0.mk hc0
 clear hr0 hc0
 have HB := Aside0.mk (Below.refl w.heap.size w)
 have H : (impl_item_117.l0 k l0 (l0.length : Int) 0 a1_0 a1_1 a1_2) = some r := h
 clear h
 have H' := Aside0.mk H
 clear H
 go_enter Try.func117, Try.ntmps117
 go_wp2_with (first | ((with_reducible refine gate_dst (N := 3) rfl ?_); refine box_event ?hg (N := 3) ?hd (cs := #[.string a1_0, .string a1_1, .bool a1_2]) (t := 123) ?hr ?_; (case hd => rfl); (case hg => rfl); (case hr => first | (go_simp; done) | (go_simp; rfl)); intro gb101 hg w3 hbox hb; have n0_ := Aside0.mk (below_step (pH_ HB.out) hb); have n1_ := Aside0.mk (hbox); have n2_ := Aside0.mk ((by rw [hg]; exact (below_size (pH_ HB.out)) : w.heap.size ≤ gb101)); have n3_ := Aside0.mk ((by rw [hg]; exact (below_size (pH_ HB.out)) : w.heap.size ≤ gb101)); clear HB; have HB := n0_; have BK101 := n1_; have GW101 := n2_; have GE101 := n3_; clear n0_ n1_ n2_ n3_; clear hb hbox hg))
 repeat (go_quiet (first | ((with_reducible refine gate_dst (N := 3) rfl ?_); refine box_event ?hg (N := 3) ?hd (cs := #[.string a1_0, .string a1_1, .bool a1_2]) (t := 123) ?hr ?_; (case hd => rfl); (case hg => rfl); (case hr => first | (go_simp; done) | (go_simp; rfl)); intro gb101 hg w3 hbox hb; have n0_ := Aside0.mk (below_step (pH_ HB.out) hb); have n1_ := Aside0.mk (hbox); have n2_ := Aside0.mk ((by rw [hg]; exact (below_size (pH_ HB.out)) : w.heap.size ≤ gb101)); have n3_ := Aside0.mk ((by rw [hg]; exact (below_size (pH_ HB.out)) : w.heap.size ≤ gb101)); clear HB; have HB := n0_; have BK101 := n1_; have GW101 := n2_; have GE101 := n3_; clear n0_ n1_ n2_ n3_; clear hb hbox hg)); try go_wp2_with (first | ((with_reducible refine gate_dst (N := 3) rfl ?_); refine box_event ?hg (N := 3) ?hd (cs := #[.string a1_0, .string a1_1, .bool a1_2]) (t := 123) ?hr ?_; (case hd => rfl); (case hg => rfl); (case hr => first | (go_simp; done) | (go_simp; rfl)); intro gb101 hg w3 hbox hb; have n0_ := Aside0.mk (below_step (pH_ HB.out) hb); have n1_ := Aside0.mk (hbox); have n2_ := Aside0.mk ((by rw [hg]; exact (below_size (pH_ HB.out)) : w.heap.size ≤ gb101)); have n3_ := Aside0.mk ((by rw [hg]; exact (below_size (pH_ HB.out)) : w.heap.size ≤ gb101)); clear HB; have HB := n0_; have BK101 := n1_; have GW101 := n2_; have GE101 := n3_; clear n0_ n1_ n2_ n3_; clear hb hbox hg)))
 go_loopg [8] k (fun kq v8 w' => ∃ (x8_1 : Int), v8 = .int .i64 x8_1 ∧ Aside0 (impl_item_117.l0 kq l0 (l0.length : Int) x8_1 a1_0 a1_1 a1_2 = some r) ∧ Aside0 (kq ≤ k) ∧ Aside0 (w'.heap[gb101]? = some (.cells #[.string a1_0, .string a1_1, .bool a1_2] 123 (0, 0))) ∧ Aside0 (Below w.heap.size w w'))
 case atStart => exact ⟨(0), (by first | rfl | (simp; done) | (simp [*]; done) | (simp [beq_nil_, bne_nil_]; done)), H', ⟨Nat.le_refl _⟩, ⟨by (with_reducible repeat (first | refine blk_drewN ?_ _ | refine blk_drew ?_ | refine blk_alloc ?_ _)); exact BK101.out⟩, ⟨by repeat (first | (with_reducible first | exact HB.out | apply below_alloc | apply pw_below_drewN | apply below_drew1 | refine below_set ?_ GE101.out) | exact HB.out)⟩⟩
 case round =>
  clear H'
  try clear c1
  try clear p2
  obtain ⟨x8_1, rfl, HA, HK1, BK101, HB⟩ := hrel
  cases gk with
  | zero => exact absurd HA.out (by simp [impl_item_117.l0])
  | succ k1 =>
   have H := HA.out
   clear HA
   simp only [impl_item_117.l0] at H
   by_cases c4 : x8_1 < (l0.length : Int)
   ·rw [if_pos c4] at H
    have c4b0 : decide (x8_1 < (l0.length : Int)) = true := decide_eq_true c4
    clear c4
    by_cases c5 : 0 ≤ x8_1
    ·rw [if_pos c5] at H
     have c5b0 : decide (0 ≤ x8_1) = true := decide_eq_true c5
     clear c5
     by_cases c6 : x8_1 < (l0.length : Int)
     ·rw [if_pos c6] at H
      have c6b0 : decide (x8_1 < (l0.length : Int)) = true := decide_eq_true c6
      clear c6
      by_cases c7 : (a1_0.toList == (((rd_T123 l0 x8_1).f0).toList) && (a1_1.toList == (((rd_T123 l0 x8_1).f1).toList) && (a1_2 == ((rd_T123 l0 x8_1).f2)))) = true
      ·rw [if_pos c7] at H
       have c7b0 : (a1_0.toList == (((rd_T123 l0 x8_1).f0).toList) && (a1_1.toList == (((rd_T123 l0 x8_1).f1).toList) && (a1_2 == ((rd_T123 l0 x8_1).f2)))) = true := c7
       (try (have c7b1 : decide (a1_0.toList = (((rd_T123 l0 x8_1).f0).toList) && (a1_1.toList == (((rd_T123 l0 x8_1).f1).toList) && (a1_2 == ((rd_T123 l0 x8_1).f2)))) = true := by simpa using c7))
       (try (have c7b2 : (a1_0.toList == (((rd_T123 l0 x8_1).f0).toList) && (a1_1.toList == (((rd_T123 l0 x8_1).f1).toList) && (a1_2 == ((rd_T123 l0 x8_1).f2)))) = true := by simpa using c7))
       clear c7
       obtain rfl := Option.some.inj H
       have hcz8_0 := cz_ BK101.out 0 _ rfl
       have hcz8_1 := cz_ BK101.out 1 _ rfl
       have hcz8_2 := cz_ BK101.out 2 _ rfl
       have hfz8_0 := blk_frozen BK101.out 0
       have hfz8_1 := blk_frozen BK101.out 1
       have hfz8_2 := blk_frozen BK101.out 2
       have p102 : 0 ≤ (x8_1 : Int) := of_decide_eq_true (by first | (with_reducible assumption) | assumption)
       have q102 : x8_1 < (l0.length : Int) := of_decide_eq_true (by first | (with_reducible assumption) | assumption)
       obtain ⟨ad102, e102, hx102_0, hx102_1, hx102_2⟩ := at_T123 HR0.out x8_1 p102 q102
       cases e102
       replace hx102_0 := (HB.out.cell (World.block_lt_of_cell? w _ hx102_0)).trans hx102_0
       replace hx102_1 := (HB.out.cell (World.block_lt_of_cell? w _ hx102_1)).trans hx102_1
       replace hx102_2 := (HB.out.cell (World.block_lt_of_cell? w _ hx102_2)).trans hx102_2
       replace p102 := eq_true p102
       replace q102 := eq_true q102
       go_wp2
       repeat (go_quiet (fail); try go_wp2)
       go_ret
       exact ⟨by first | rfl | (simp [errW_none, errW_some] <;> rfl) | (simp [*, errW_none, errW_some] <;> rfl), by repeat (first | (with_reducible first | exact HB.out | apply below_alloc | apply pw_below_drewN | apply below_drew1 | refine below_set ?_ GE101.out) | exact HB.out)⟩
      rw [if_neg c7] at H
      have c7b0 : (a1_0.toList == (((rd_T123 l0 x8_1).f0).toList) && (a1_1.toList == (((rd_T123 l0 x8_1).f1).toList) && (a1_2 == ((rd_T123 l0 x8_1).f2)))) = false := by simpa using c7
      (try (have c7b1 : decide (a1_0.toList = (((rd_T123 l0 x8_1).f0).toList) && (a1_1.toList == (((rd_T123 l0 x8_1).f1).toList) && (a1_2 == ((rd_T123 l0 x8_1).f2)))) = false := by simpa using c7))
      (try (have c7b2 : (a1_0.toList == (((rd_T123 l0 x8_1).f0).toList) && (a1_1.toList == (((rd_T123 l0 x8_1).f1).toList) && (a1_2 == ((rd_T123 l0 x8_1).f2)))) = false := by simpa using c7))
      (try (have c7b3 : ¬ (a1_0.toList = (((rd_T123 l0 x8_1).f0).toList) && (a1_1.toList == (((rd_T123 l0 x8_1).f1).toList) && (a1_2 == ((rd_T123 l0 x8_1).f2)))) := by simpa using c7))
      clear c7
      have H' := Aside0.mk H
      clear H
      have hcz9_0 := cz_ BK101.out 0 _ rfl
      have hcz9_1 := cz_ BK101.out 1 _ rfl
      have hcz9_2 := cz_ BK101.out 2 _ rfl
      have hfz9_0 := blk_frozen BK101.out 0
      have hfz9_1 := blk_frozen BK101.out 1
      have hfz9_2 := blk_frozen BK101.out 2
      have p102 : 0 ≤ (x8_1 : Int) := of_decide_eq_true (by first | (with_reducible assumption) | assumption)
      have q102 : x8_1 < (l0.length : Int) := of_decide_eq_true (by first | (with_reducible assumption) | assumption)
      obtain ⟨ad102, e102, hx102_0, hx102_1, hx102_2⟩ := at_T123 HR0.out x8_1 p102 q102
      cases e102
      replace hx102_0 := (HB.out.cell (World.block_lt_of_cell? w _ hx102_0)).trans hx102_0
      replace hx102_1 := (HB.out.cell (World.block_lt_of_cell? w _ hx102_1)).trans hx102_1
      replace hx102_2 := (HB.out.cell (World.block_lt_of_cell? w _ hx102_2)).trans hx102_2
      replace p102 := eq_true p102
      replace q102 := eq_true q102
      go_wp2
      repeat (go_quiet (fail); try go_wp2)
      go_roundg k1
      case measure => have := HK1.out; omega
      case rel => exact ⟨(wrap64 (x8_1 + 1)), (by first | rfl | (simp; done) | (simp [*]; done) | (simp [beq_nil_, bne_nil_]; done)), H', ⟨by have := HK1.out; omega⟩, ⟨by (with_reducible repeat (first | refine blk_drewN ?_ _ | refine blk_drew ?_ | refine blk_alloc ?_ _)); exact BK101.out⟩, ⟨by repeat (first | (with_reducible first | exact HB.out | apply below_alloc | apply pw_below_drewN | apply below_drew1 | refine below_set ?_ GE101.out) | exact HB.out)⟩⟩
     rw [if_neg c6] at H
     exact absurd H (by simp)
    rw [if_neg c5] at H
    exact absurd H (by simp)
   rw [if_neg c4] at H
   have c4b0 : decide (x8_1 < (l0.length : Int)) = false := decide_eq_false c4
   clear c4
   obtain rfl := Option.some.inj H
   go_wp2
   repeat (go_quiet (fail); try go_wp2)
   go_ret
   exact ⟨by first | rfl | (simp [errW_none, errW_some] <;> rfl) | (simp [*, errW_none, errW_some] <;> rfl), by repeat (first | (with_reducible first | exact HB.out | apply below_alloc | apply pw_below_drewN | apply below_drew1 | refine below_set ?_ GE101.out) | exact HB.out)⟩
end
section
/-! ### impl_item_100: function 100 -/
def impl_item_100.f (k : Nat) (l0 : List (S123)) (a1_0 : ByteArray) (a1_1 : ByteArray) (a1_2 : Bool) : Option (Bool) := (impl_item_117.f k l0 a1_0 a1_1 a1_2).bind fun t102 => (some (decide (t102 ≥ 0)))
theorem impl_item_100.mono : ∀ a0 a1 a2 a3 k, LeO (impl_item_100.f k a0 a1 a2 a3) (impl_item_100.f (k + 1) a0 a1 a2 a3) := by
 intro a0 a1 a2 a3 k
 unfold impl_item_100.f
 repeat' first
   | (with_reducible exact impl_item_117.mono _ _ _ _ _)
   | (with_reducible exact LeO.refl _)
   | (with_reducible exact LeO.none _)
   | (with_reducible refine LeO.ite ?_ ?_)
   | (with_reducible refine LeO.bind ?_ (fun _ => ?_))
   | exact impl_item_117.mono _ _ _ _ _
   | exact LeO.none _
   | refine LeO.ite ?_ ?_
   | refine LeO.bind ?_ (fun _ => ?_)
set_option maxHeartbeats 8000000 in
set_option maxRecDepth 100000 in
theorem impl_item_100.calls (k : Nat) (A0 : Option Addr) (c0 : Nat) (l0 : List (S123)) (a1_0 : ByteArray) (a1_1 : ByteArray) (a1_2 : Bool) (r : Bool) (w : World) (hr0 : Kd.C k123 w A0 l0.length l0) (hc0 : l0.length ≤ c0) (h : impl_item_100.f k l0 a1_0 a1_1 a1_2 = some r) :
  Calls Try.prog 100 #[.slice A0 l0.length c0, .agg #[.string a1_0, .string a1_1, .bool a1_2]] w fun e w' => e = .returned (.bool r) ∧ Below w.heap.size w w' := by
 have hu123 := Try.underlying123
 have HR0 := Aside0.mk hr0
 have HC0 := Aside0.mk hc0
 clear hr0 hc0
 have HB := Aside0.mk (Below.refl w.heap.size w)
 have H : ((impl_item_117.f k l0 a1_0 a1_1 a1_2).bind fun t102 => (some (decide (t102 ≥ 0)))) = some r := h
 clear h
 replace H := Option.bind_eq_some_iff.mp H
 obtain ⟨t102, A30, H⟩ := H
 replace H : (some (decide (t102 ≥ 0))) = some r := H
 have A3 := Aside0.mk A30
 clear A30
 obtain rfl := Option.some.inj H
 go_enter Try.func100, Try.ntmps100
 go_wp2_with (first | ((with_reducible refine gate_dst (N := 3) rfl ?_); refine box_event ?hg (N := 3) ?hd (cs := #[.string a1_0, .string a1_1, .bool a1_2]) (t := 123) ?hr ?_; (case hd => rfl); (case hg => rfl); (case hr => first | (go_simp; done) | (go_simp; rfl)); intro gb101 hg w4 hbox hb; have n0_ := Aside0.mk (below_step (pH_ HB.out) hb); have n1_ := Aside0.mk (hbox); have n2_ := Aside0.mk ((by rw [hg]; exact (below_size (pH_ HB.out)) : w.heap.size ≤ gb101)); have n3_ := Aside0.mk ((by rw [hg]; exact (below_size (pH_ HB.out)) : w.heap.size ≤ gb101)); clear HB; have HB := n0_; have BK101 := n1_; have GW101 := n2_; have GE101 := n3_; clear n0_ n1_ n2_ n3_; clear hb hbox hg; have hcz5_0 := cz_ BK101.out 0 _ rfl; have hcz5_1 := cz_ BK101.out 1 _ rfl; have hcz5_2 := cz_ BK101.out 2 _ rfl; have hfz5_0 := blk_frozen BK101.out 0; have hfz5_1 := blk_frozen BK101.out 1; have hfz5_2 := blk_frozen BK101.out 2) | ((with_reducible refine gate_callee (f := 117) rfl ?_); refine goesL_ (some 7) rfl rfl Try.func117 (by kernel_rfl) rfl #[.slice A0 l0.length c0, .agg #[.string a1_0, .string a1_1, .bool a1_2]] rfl (by (try simp only [List.map_toArray, List.map_cons, List.map_nil]); first | done | rfl | (simp only [List.length_drop, List.length_take]; rfl)) ?_; (with_reducible refine (impl_item_117.calls k _ _ l0 a1_0 a1_1 a1_2 t102 _ ?side1 ?side2 A3.out).mono ?_); (case side1 => repeat (first | exact (Kd.C_below HR0.out HB.out) | (with_reducible refine Kd.C_alloc ?_ _) | (with_reducible refine Kd.C_drewN ?_ _) | (with_reducible refine Kd.C_drew ?_))); (case side2 => exact HC0.out); rintro e w6 ⟨rfl, hb⟩; refine ⟨_, rfl, ?_⟩; have n0_ := Aside0.mk (blk_below (g := gb101) (o := .cells #[.string a1_0, .string a1_1, .bool a1_2] 123 (0, 0)) (pB_ BK101.out) hb); have n1_ := Aside0.mk (below_step (pH_ HB.out) hb); clear BK101; clear HB; have BK101 := n0_; have HB := n1_; clear n0_ n1_; (try clear hb); (try clear hb2); (try clear hk); (try clear hi)))
 go_ret
 exact ⟨by first | rfl | (simp [errW_none, errW_some] <;> rfl) | (simp [*, errW_none, errW_some] <;> rfl), by repeat (first | (with_reducible first | exact HB.out | apply below_alloc | apply pw_below_drewN | apply below_drew1 | refine below_set ?_ GE101.out) | exact HB.out)⟩
end
section
/-! ### impl_ChangedItems_1_c: function 99 -/
def impl_ChangedItems_1_c.f (k : Nat) (a0_0 : ByteArray) (a0_1 : ByteArray) (a0_2 : Bool) (l1_0_0 : List (S123)) : Option (Bool) := (impl_item_100.f k l1_0_0 a0_0 a0_1 a0_2).bind fun t102 => (some (!t102))
theorem impl_ChangedItems_1_c.mono : ∀ a0 a1 a2 a3 k, LeO (impl_ChangedItems_1_c.f k a0 a1 a2 a3) (impl_ChangedItems_1_c.f (k + 1) a0 a1 a2 a3) := by
 intro a0 a1 a2 a3 k
 unfold impl_ChangedItems_1_c.f
 repeat' first
   | (with_reducible exact impl_item_100.mono _ _ _ _ _)
   | (with_reducible exact LeO.refl _)
   | (with_reducible exact LeO.none _)
   | (with_reducible refine LeO.ite ?_ ?_)
   | (with_reducible refine LeO.bind ?_ (fun _ => ?_))
   | exact impl_item_100.mono _ _ _ _ _
   | exact LeO.none _
   | refine LeO.ite ?_ ?_
   | refine LeO.bind ?_ (fun _ => ?_)
set_option maxHeartbeats 8000000 in
set_option maxRecDepth 100000 in
theorem impl_ChangedItems_1_c.calls (k : Nat) (a0_0 : ByteArray) (a0_1 : ByteArray) (a0_2 : Bool) (gk28 : Nat) (A1_0_0 : Option Addr) (c1_0_0 : Nat) (l1_0_0 : List (S123)) (r : Bool) (w : World) (hr1_0_0 : Kd.C k123 w A1_0_0 l1_0_0.length l1_0_0) (hc1_0_0 : l1_0_0.length ≤ c1_0_0) (hbk28 : w.heap[gk28]? = some (.cells #[.slice A1_0_0 l1_0_0.length c1_0_0] 111 (0, 0))) (h : impl_ChangedItems_1_c.f k a0_0 a0_1 a0_2 l1_0_0 = some r) :
  Calls Try.prog 99 #[.agg #[.string a0_0, .string a0_1, .bool a0_2], .pointer (some ⟨gk28, 0, none⟩)] w fun e w' => e = .returned (.bool r) ∧ Below w.heap.size w w' := by
 have hu123 := Try.underlying123
 have HR1_0_0 := Aside0.mk hr1_0_0
 have HC1_0_0 := Aside0.mk hc1_0_0
 clear hr1_0_0 hc1_0_0
 have BK28 := Aside0.mk hbk28
 clear hbk28
 have HB := Aside0.mk (Below.refl w.heap.size w)
 have H : ((impl_item_100.f k l1_0_0 a0_0 a0_1 a0_2).bind fun t102 => (some (!t102))) = some r := h
 clear h
 replace H := Option.bind_eq_some_iff.mp H
 obtain ⟨t102, A30, H⟩ := H
 replace H : (some (!t102)) = some r := H
 have A3 := Aside0.mk A30
 clear A30
 obtain rfl := Option.some.inj H
 go_enter Try.func99, Try.ntmps99
 go_wp2_with (first | ((with_reducible refine gate_dst (N := 2) rfl ?_); refine box_event ?hg (N := 2) ?hd (cs := #[.string a0_0, .string a0_1, .bool a0_2]) (t := 123) ?hr ?_; (case hd => rfl); (case hg => rfl); (case hr => first | (go_simp; done) | (go_simp; rfl)); intro gb101 hg w4 hbox hb; have n0_ := Aside0.mk (blk_below (g := gk28) (o := .cells #[.slice A1_0_0 l1_0_0.length c1_0_0] 111 (0, 0)) (pB_ BK28.out) hb); have n1_ := Aside0.mk (below_step (pH_ HB.out) hb); have n2_ := Aside0.mk (hbox); have n3_ := Aside0.mk ((by rw [hg]; exact (below_size (pH_ HB.out)) : w.heap.size ≤ gb101)); have n4_ := Aside0.mk ((by rw [hg]; exact (below_size (pH_ HB.out)) : w.heap.size ≤ gb101)); have n5_ := Aside0.mk ((by rw [hg]; exact Nat.ne_of_lt (blk_lt (g := gk28) (o := .cells #[.slice A1_0_0 l1_0_0.length c1_0_0] 111 (0, 0)) (pB_ BK28.out)) : gk28 ≠ gb101)); have n6_ := Aside0.mk ((by rw [hg]; exact Nat.ne_of_gt (blk_lt (g := gk28) (o := .cells #[.slice A1_0_0 l1_0_0.length c1_0_0] 111 (0, 0)) (pB_ BK28.out)) : gb101 ≠ gk28)); clear BK28; clear HB; have BK28 := n0_; have HB := n1_; have BK101 := n2_; have GW101 := n3_; have GE101 := n4_; have NB28_101 := n5_; have NB101_28 := n6_; clear n0_ n1_ n2_ n3_ n4_ n5_ n6_; clear hb hbox hg; have hnb5 := NB28_101.out; have hnc5 := NB101_28.out; have hcz6_0 := cz_ BK28.out 0 _ rfl; have hfz6_0 := blk_frozen BK28.out 0; have hcz7_0 := cz_ BK101.out 0 _ rfl; have hcz7_1 := cz_ BK101.out 1 _ rfl; have hcz7_2 := cz_ BK101.out 2 _ rfl; have hfz7_0 := blk_frozen BK101.out 0; have hfz7_1 := blk_frozen BK101.out 1; have hfz7_2 := blk_frozen BK101.out 2) | ((with_reducible refine gate_callee (f := 100) rfl ?_); refine goesL_ (some 6) rfl rfl Try.func100 (by kernel_rfl) rfl #[.slice A1_0_0 l1_0_0.length c1_0_0, .agg #[.string a0_0, .string a0_1, .bool a0_2]] rfl (by (try simp only [List.map_toArray, List.map_cons, List.map_nil]); first | done | rfl | (simp only [List.length_drop, List.length_take]; rfl)) ?_; (with_reducible refine (impl_item_100.calls k _ _ l1_0_0 a0_0 a0_1 a0_2 t102 _ ?side1 ?side2 A3.out).mono ?_); (case side1 => repeat (first | exact (Kd.C_below HR1_0_0.out HB.out) | (with_reducible refine Kd.C_alloc ?_ _) | (with_reducible refine Kd.C_drewN ?_ _) | (with_reducible refine Kd.C_drew ?_))); (case side2 => exact HC1_0_0.out); rintro e w8 ⟨rfl, hb⟩; refine ⟨_, rfl, ?_⟩; have n0_ := Aside0.mk (blk_below (g := gk28) (o := .cells #[.slice A1_0_0 l1_0_0.length c1_0_0] 111 (0, 0)) (pB_ BK28.out) hb); have n1_ := Aside0.mk (blk_below (g := gb101) (o := .cells #[.string a0_0, .string a0_1, .bool a0_2] 123 (0, 0)) (pB_ BK101.out) hb); have n2_ := Aside0.mk (below_step (pH_ HB.out) hb); clear BK28; clear BK101; clear HB; have BK28 := n0_; have BK101 := n1_; have HB := n2_; clear n0_ n1_ n2_; (try clear hb); (try clear hb2); (try clear hk); (try clear hi)))
 go_ret
 exact ⟨by first | rfl | (simp [errW_none, errW_some] <;> rfl) | (simp [*, errW_none, errW_some] <;> rfl), by repeat (first | (with_reducible first | exact HB.out | apply below_alloc | apply pw_below_drewN | apply below_drew1 | refine below_set ?_ GE28.out | refine below_set ?_ GE101.out) | exact HB.out)⟩
end
section
/-! ### impl_namesOf_at99: function 97 -/
def impl_namesOf_at99.l0 : Nat → List ByteArray → List (S123) → Int → Int → List (S123) → Option (List ByteArray)
 | 0, _, _, _, _, _ => none
 | k + 1, x5, x9, x10, x11, x29000 => if x11 < x10 then (if 0 ≤ x11 then (if x11 < (x9.length : Int) then ((impl_ChangedItems_1_c.f k ((rd_T123 x9 x11).f0) ((rd_T123 x9 x11).f1) ((rd_T123 x9 x11).f2) x29000).bind fun t106 => (if t106 = true then (if x5.length < 8796093022208 then (impl_namesOf_at99.l0 k (x5 ++ [(rd_T123 x9 x11).f0]) x9 x10 (wrap64 (x11 + 1)) x29000) else (none)) else (impl_namesOf_at99.l0 k x5 x9 x10 (wrap64 (x11 + 1)) x29000))) else (none)) else (none)) else (some x5)
def impl_namesOf_at99.f (k : Nat) (l0 : List (S123)) (l1_0_0 : List (S123)) : Option (List ByteArray) := impl_namesOf_at99.l0 k (([] : List ByteArray)) l0 (l0.length : Int) 0 l1_0_0
theorem impl_namesOf_at99.mono_l : ∀ k, (∀ y0 y1 y2 y3 y4, LeO (impl_namesOf_at99.l0 k y0 y1 y2 y3 y4) (impl_namesOf_at99.l0 (k + 1) y0 y1 y2 y3 y4))
 | 0 => fun _ _ _ _ _ r h => by simp [impl_namesOf_at99.l0] at h
 | k + 1 => by
  have ih0 := impl_namesOf_at99.mono_l k
  ·intro y0 y1 y2 y3 y4
   unfold impl_namesOf_at99.l0
   repeat' first
   | (with_reducible exact ih0 _ _ _ _ _)
   | (with_reducible exact impl_ChangedItems_1_c.mono _ _ _ _ _)
   | (with_reducible exact LeO.refl _)
   | (with_reducible exact LeO.none _)
   | (with_reducible refine LeO.ite ?_ ?_)
   | (with_reducible refine LeO.bind ?_ (fun _ => ?_))
   | exact ih0 _ _ _ _ _
   | exact impl_ChangedItems_1_c.mono _ _ _ _ _
   | exact LeO.none _
   | refine LeO.ite ?_ ?_
   | refine LeO.bind ?_ (fun _ => ?_)
theorem impl_namesOf_at99.mono : ∀ a0 a1 k, LeO (impl_namesOf_at99.f k a0 a1) (impl_namesOf_at99.f (k + 1) a0 a1) := by
 intro a0 a1 k
 have ih0 := impl_namesOf_at99.mono_l k
 unfold impl_namesOf_at99.f
 repeat' first
   | (with_reducible exact ih0 _ _ _ _ _)
   | (with_reducible exact impl_ChangedItems_1_c.mono _ _ _ _ _)
   | (with_reducible exact LeO.refl _)
   | (with_reducible exact LeO.none _)
   | (with_reducible refine LeO.ite ?_ ?_)
   | (with_reducible refine LeO.bind ?_ (fun _ => ?_))
   | exact ih0 _ _ _ _ _
   | exact impl_ChangedItems_1_c.mono _ _ _ _ _
   | exact LeO.none _
   | refine LeO.ite ?_ ?_
   | refine LeO.bind ?_ (fun _ => ?_)
set_option maxHeartbeats 8000000 in
set_option maxRecDepth 100000 in
theorem impl_namesOf_at99.calls (k : Nat) (A0 : Option Addr) (c0 : Nat) (l0 : List (S123)) (gk28 : Nat) (A1_0_0 : Option Addr) (c1_0_0 : Nat) (l1_0_0 : List (S123)) (r : List ByteArray) (w : World) (hr0 : Kd.C k123 w A0 l0.length l0) (hc0 : l0.length ≤ c0) (hr1_0_0 : Kd.C k123 w A1_0_0 l1_0_0.length l1_0_0) (hc1_0_0 : l1_0_0.length ≤ c1_0_0) (hbk28 : w.heap[gk28]? = some (.cells #[.slice A1_0_0 l1_0_0.length c1_0_0] 111 (0, 0))) (h : impl_namesOf_at99.f k l0 l1_0_0 = some r) :
  Calls Try.prog 97 #[.slice A0 l0.length c0, .func (.func 99) #[] #[.pointer (some ⟨gk28, 0, none⟩)]] w fun e w' => ∃ v0_ : Value, e = .returned (v0_) ∧ Kd.R Kd.string 9 w' w.heap.size (fun _ => True) v0_ r ∧ Below w.heap.size w w' := by
 have hu123 := Try.underlying123
 have HR0 := Aside0.mk hr0
 have HC0 := Aside0.mk hc0
 clear hr0 hc0
 have HR1_0_0 := Aside0.mk hr1_0_0
 have HC1_0_0 := Aside0.mk hc1_0_0
 clear hr1_0_0 hc1_0_0
 have BK28 := Aside0.mk hbk28
 clear hbk28
 have HB := Aside0.mk (Below.refl w.heap.size w)
 have H : (impl_namesOf_at99.l0 k (([] : List ByteArray)) l0 (l0.length : Int) 0 l1_0_0) = some r := h
 clear h
 obtain ⟨y101, hy101⟩ : ∃ y_ : List ByteArray, y_ = (([] : List ByteArray)) := ⟨_, rfl⟩
 replace H : (impl_namesOf_at99.l0 k y101 l0 (l0.length : Int) 0 l1_0_0) = some r := by first | (rw [hy101]; with_reducible exact H) | (have H2_ := (Option.bind_some _ _).symm.trans H; rw [hy101]; with_reducible exact H2_) | (have H2_ := (Option.bind_some _ _).symm.trans H; with_reducible exact H2_) | with_reducible exact H | (rw [hy101]; exact H) | exact H
 have Ny101 := Aside0.mk hy101
 clear hy101
 have H' := Aside0.mk H
 clear H
 go_enter Try.func97, Try.ntmps97
 go_wp2_with (first | ((with_reducible refine gate_dst (N := 8) rfl ?_); refine Kd.R_lit Kd.string _ 9 ?hg (N := 8) ?hd (xs := ([] : List ByteArray)) (inner := []) (ok := fun _ => True) (okp := fun _ => True) ?hr ?hp (fun _ hk => hk) trivial (Below.refl _ _) (Nat.le_refl _) (by simp) ?_; (case hd => rfl); (case hg => rfl); (case hr => first | (go_simp; done) | (go_simp; rfl)); (case hp => exact (Reps.none _ _)); intro v102 w3 ho4 hb hg_ hnew_; clear hg_ hnew_; (first | rw [← Ny101.out] at ho4 | (simp only [Int.reduceToNat] at ho4; rw [← Ny101.out] at ho4)); have n0_ := Aside0.mk (Kd.R_lower ho4 (below_size (pH_ HB.out))); have n1_ := Aside0.mk (blk_below (g := gk28) (o := .cells #[.slice A1_0_0 l1_0_0.length c1_0_0] 111 (0, 0)) (pB_ BK28.out) hb); have n2_ := Aside0.mk (below_step (pH_ HB.out) hb); clear BK28; clear HB; have HO103 := n0_; have BK28 := n1_; have HB := n2_; clear n0_ n1_ n2_; clear hb ho4))
 go_loopg [5, 11] k (fun kq v5 v11 w' => ∃ (x5_1 : List ByteArray) (x11_1 : Int), v11 = .int .i64 x11_1 ∧ Aside0 (impl_namesOf_at99.l0 kq x5_1 l0 (l0.length : Int) x11_1 l1_0_0 = some r) ∧ Aside0 (kq ≤ k) ∧ Aside0 (Kd.R Kd.string 9 w' w.heap.size (fun _ => True) v5 x5_1) ∧ Aside0 (w'.heap[gk28]? = some (.cells #[(.slice A1_0_0 l1_0_0.length c1_0_0)] 111 (0, 0))) ∧ Aside0 (Below w.heap.size w w'))
 case atStart => exact ⟨(y101), (0), (by first | rfl | (simp; done) | (simp [*]; done) | (simp [beq_nil_, bne_nil_]; done)), H', ⟨Nat.le_refl _⟩, ⟨by (with_reducible repeat (first | apply Kd.R_alloc | apply Kd.R_drewN | apply Kd.R_drew)); exact HO103.out⟩, ⟨by (with_reducible repeat (first | refine blk_drewN ?_ _ | refine blk_drew ?_ | refine blk_alloc ?_ _)); exact BK28.out⟩, ⟨by repeat (first | (with_reducible first | exact HB.out | apply below_alloc | apply pw_below_drewN | apply below_drew1 | refine below_set ?_ GE28.out) | exact HB.out)⟩⟩
 case round =>
  clear H'
  try clear c1
  try clear p2
  obtain ⟨x5_1, x11_1, rfl, HA, HK1, HO_5, BK28, HB⟩ := hrel
  cases gk with
  | zero => exact absurd HA.out (by simp [impl_namesOf_at99.l0])
  | succ k1 =>
   have H := HA.out
   clear HA
   simp only [impl_namesOf_at99.l0] at H
   by_cases c5 : x11_1 < (l0.length : Int)
   ·rw [if_pos c5] at H
    have c5b0 : decide (x11_1 < (l0.length : Int)) = true := decide_eq_true c5
    clear c5
    by_cases c6 : 0 ≤ x11_1
    ·rw [if_pos c6] at H
     have c6b0 : decide (0 ≤ x11_1) = true := decide_eq_true c6
     clear c6
     by_cases c7 : x11_1 < (l0.length : Int)
     ·rw [if_pos c7] at H
      have c7b0 : decide (x11_1 < (l0.length : Int)) = true := decide_eq_true c7
      clear c7
      replace H := Option.bind_eq_some_iff.mp H
      obtain ⟨t106, A80, H⟩ := H
      replace H : (if t106 = true then (if x5_1.length < 8796093022208 then (impl_namesOf_at99.l0 k1 (x5_1 ++ [(rd_T123 l0 x11_1).f0]) l0 (l0.length : Int) (wrap64 (x11_1 + 1)) l1_0_0) else (none)) else (impl_namesOf_at99.l0 k1 x5_1 l0 (l0.length : Int) (wrap64 (x11_1 + 1)) l1_0_0)) = some r := H
      have A8 := Aside0.mk A80
      clear A80
      by_cases c9 : t106 = true
      ·subst c9
       have H1 : (if x5_1.length < 8796093022208 then (impl_namesOf_at99.l0 k1 (x5_1 ++ [(rd_T123 l0 x11_1).f0]) l0 (l0.length : Int) (wrap64 (x11_1 + 1)) l1_0_0) else (none)) = some r := by rw [if_pos rfl] at H; exact H
       clear H
       have H := H1
       clear H1
       by_cases c10 : x5_1.length < 8796093022208
       ·rw [if_pos c10] at H
        have LMc10 := Aside0.mk c10
        clear c10
        obtain ⟨y107, hy107⟩ : ∃ y_ : List ByteArray, y_ = (x5_1 ++ [(rd_T123 l0 x11_1).f0]) := ⟨_, rfl⟩
        replace H : (impl_namesOf_at99.l0 k1 y107 l0 (l0.length : Int) (wrap64 (x11_1 + 1)) l1_0_0) = some r := by first | (rw [hy107]; with_reducible exact H) | (have H2_ := (Option.bind_some _ _).symm.trans H; rw [hy107]; with_reducible exact H2_) | (have H2_ := (Option.bind_some _ _).symm.trans H; with_reducible exact H2_) | with_reducible exact H | (rw [hy107]; exact H) | exact H
        have Ny107 := Aside0.mk hy107
        clear hy107
        have H' := Aside0.mk H
        clear H
        have p104 : 0 ≤ (x11_1 : Int) := of_decide_eq_true (by first | (with_reducible assumption) | assumption)
        have q104 : x11_1 < (l0.length : Int) := of_decide_eq_true (by first | (with_reducible assumption) | assumption)
        obtain ⟨ad104, e104, hx104_0, hx104_1, hx104_2⟩ := at_T123 HR0.out x11_1 p104 q104
        cases e104
        replace hx104_0 := (HB.out.cell (World.block_lt_of_cell? w _ hx104_0)).trans hx104_0
        replace hx104_1 := (HB.out.cell (World.block_lt_of_cell? w _ hx104_1)).trans hx104_1
        replace hx104_2 := (HB.out.cell (World.block_lt_of_cell? w _ hx104_2)).trans hx104_2
        replace p104 := eq_true p104
        replace q104 := eq_true q104
        go_wp2_with (first | ((with_reducible refine gate_dst (N := 7) rfl ?_); refine box_event ?hg (N := 7) ?hd (cs := #[.string (⟨#[]⟩ : ByteArray), .string (⟨#[]⟩ : ByteArray), .bool false]) (t := 123) ?hr ?_; (case hd => rfl); (case hg => rfl); (case hr => first | (go_simp; done) | (go_simp; rfl)); intro gb105 hg w11 hbox hb; have n0_ := Aside0.mk (Kd.R_below (pR_ HO_5.out) hb); have n1_ := Aside0.mk (blk_below (g := gk28) (o := .cells #[.slice A1_0_0 l1_0_0.length c1_0_0] 111 (0, 0)) (pB_ BK28.out) hb); have n2_ := Aside0.mk (below_step (pH_ HB.out) hb); have n3_ := Aside0.mk (hbox); have n4_ := Aside0.mk ((by rw [hg]; exact (below_size (pH_ HB.out)) : w.heap.size ≤ gb105)); have n5_ := Aside0.mk ((by rw [hg]; exact (below_size (pH_ HB.out)) : w.heap.size ≤ gb105)); have n6_ := Aside0.mk ((by rw [hg]; exact Nat.ne_of_lt (blk_lt (g := gk28) (o := .cells #[.slice A1_0_0 l1_0_0.length c1_0_0] 111 (0, 0)) (pB_ BK28.out)) : gk28 ≠ gb105)); have n7_ := Aside0.mk ((by rw [hg]; exact Nat.ne_of_gt (blk_lt (g := gk28) (o := .cells #[.slice A1_0_0 l1_0_0.length c1_0_0] 111 (0, 0)) (pB_ BK28.out)) : gb105 ≠ gk28)); clear HO_5; clear BK28; clear HB; have HO_5 := n0_; have BK28 := n1_; have HB := n2_; have BK105 := n3_; have GW105 := n4_; have GE105 := n5_; have NB28_105 := n6_; have NB105_28 := n7_; clear n0_ n1_ n2_ n3_ n4_ n5_ n6_ n7_; clear hb hbox hg; have hnb12 := NB105_28.out; have hnc12 := NB28_105.out; have hcz13_0 := cz_ BK105.out 0 _ rfl; have hcz13_1 := cz_ BK105.out 1 _ rfl; have hcz13_2 := cz_ BK105.out 2 _ rfl; have hfz13_0 := blk_frozen BK105.out 0; have hfz13_1 := blk_frozen BK105.out 1; have hfz13_2 := blk_frozen BK105.out 2) | ((with_reducible refine gate_value rfl ?_); refine goesV_ (some 17) rfl rfl Try.func99 (by kernel_rfl) rfl #[.agg #[.string ((rd_T123 l0 x11_1).f0), .string ((rd_T123 l0 x11_1).f1), .bool ((rd_T123 l0 x11_1).f2)], .pointer (some ⟨gk28, 0, none⟩)] rfl rfl (by (try simp only [List.map_toArray, List.map_cons, List.map_nil]); first | done | rfl | (simp only [List.length_drop, List.length_take]; rfl)) ?_; (with_reducible refine (impl_ChangedItems_1_c.calls k1 ((rd_T123 l0 x11_1).f0) ((rd_T123 l0 x11_1).f1) ((rd_T123 l0 x11_1).f2) gk28 A1_0_0 c1_0_0 l1_0_0 true _ ?side1 ?side2 ?side3 A8.out).mono ?_); (case side1 => exact Kd.C_below HR1_0_0.out (pH_ HB.out)); (case side2 => exact HC1_0_0.out); (case side3 => (with_reducible repeat (first | refine blk_drewN ?_ _ | refine blk_drew ?_ | refine blk_alloc ?_ _)); refine blk_far ?_ NB28_105.out _; (with_reducible repeat (first | refine blk_drewN ?_ _ | refine blk_drew ?_ | refine blk_alloc ?_ _)); refine blk_far ?_ NB28_105.out _; (with_reducible repeat (first | refine blk_drewN ?_ _ | refine blk_drew ?_ | refine blk_alloc ?_ _)); refine blk_far ?_ NB28_105.out _; (with_reducible repeat (first | refine blk_drewN ?_ _ | refine blk_drew ?_ | refine blk_alloc ?_ _)); exact BK28.out); rintro e w14 ⟨rfl, hb⟩; refine ⟨_, rfl, ?_⟩; have n0_ := Aside0.mk (Kd.R_below (by (with_reducible repeat (first | apply Kd.R_alloc | apply Kd.R_drewN | apply Kd.R_drew)); exact (Kd.R_mono (Kd.R_far (p := ⟨gb105, 2, none⟩) (Kd.R_far (p := ⟨gb105, 1, none⟩) (Kd.R_far (p := ⟨gb105, 0, none⟩) (Kd.R_types HO_5.out BK105.out (by decide)) (fun _ hk => hk.2) (.string ((rd_T123 l0 x11_1).f0))) (fun _ hk => hk.2) (.string ((rd_T123 l0 x11_1).f1))) (fun _ hk => hk.2) (.bool ((rd_T123 l0 x11_1).f2))) (fun _ h_ => h_.1))) hb); have n1_ := Aside0.mk (blk_below (g := gk28) (o := .cells #[.slice A1_0_0 l1_0_0.length c1_0_0] 111 (0, 0)) (by (with_reducible repeat (first | refine blk_drewN ?_ _ | refine blk_drew ?_ | refine blk_alloc ?_ _)); refine blk_far ?_ NB28_105.out _; (with_reducible repeat (first | refine blk_drewN ?_ _ | refine blk_drew ?_ | refine blk_alloc ?_ _)); refine blk_far ?_ NB28_105.out _; (with_reducible repeat (first | refine blk_drewN ?_ _ | refine blk_drew ?_ | refine blk_alloc ?_ _)); refine blk_far ?_ NB28_105.out _; (with_reducible repeat (first | refine blk_drewN ?_ _ | refine blk_drew ?_ | refine blk_alloc ?_ _)); exact BK28.out) hb); have n2_ := Aside0.mk (blk_below (g := gb105) (o := .cells #[.string ((rd_T123 l0 x11_1).f0), .string ((rd_T123 l0 x11_1).f1), .bool ((rd_T123 l0 x11_1).f2)] 123 (0, 0)) (by (with_reducible repeat (first | refine blk_drewN ?_ _ | refine blk_drew ?_ | refine blk_alloc ?_ _)); refine blk_put (cs := #[.string ((rd_T123 l0 x11_1).f0), .string ((rd_T123 l0 x11_1).f1), .bool false]) ?_ 2 _ rfl; (with_reducible repeat (first | refine blk_drewN ?_ _ | refine blk_drew ?_ | refine blk_alloc ?_ _)); refine blk_put (cs := #[.string ((rd_T123 l0 x11_1).f0), .string (⟨#[]⟩ : ByteArray), .bool false]) ?_ 1 _ rfl; (with_reducible repeat (first | refine blk_drewN ?_ _ | refine blk_drew ?_ | refine blk_alloc ?_ _)); refine blk_put (cs := #[.string (⟨#[]⟩ : ByteArray), .string (⟨#[]⟩ : ByteArray), .bool false]) ?_ 0 _ rfl; (with_reducible repeat (first | refine blk_drewN ?_ _ | refine blk_drew ?_ | refine blk_alloc ?_ _)); exact BK105.out) hb); have n3_ := Aside0.mk (below_step (pH_ HB.out) hb); clear HO_5; clear BK28; clear BK105; clear HB; have HO_5 := n0_; have BK28 := n1_; have BK105 := n2_; have HB := n3_; clear n0_ n1_ n2_ n3_; (try clear hb); (try clear hb2); (try clear hk); (try clear hi); have hcz15_0 := cz_ BK105.out 0 _ rfl; have hcz15_1 := cz_ BK105.out 1 _ rfl; have hcz15_2 := cz_ BK105.out 2 _ rfl; have hfz15_0 := blk_frozen BK105.out 0; have hfz15_1 := blk_frozen BK105.out 1; have hfz15_2 := blk_frozen BK105.out 2) | ((with_reducible refine gate_builtin (b := .append) (xs := #[.tmp 18, .tmp 21]) rfl ?_); at_builtin; refine Kd.R_append Kd.string (w0 := w) w.heap.size rfl (.tmp 18) (.tmp 21) 73 9 (.string ⟨#[]⟩) 16 rfl Try.underlying73 info9 rfl (by decide) (by omega) u5 x5_1 ((rd_T123 l0 x11_1).f0) [.string ((rd_T123 l0 x11_1).f0)] (fun _ => True) (fun _ => False) rfl rfl ?aP (fun _ hk => hk.elim) ?aF ?aO ?aB ?aS ?aL ?_; (case aP => exact rfl); (case aB => exact (pH_ HB.out)); (case aF => exact (fun _ _ => trivial)); (case aO => exact (pR_ HO_5.out)); (case aS => exact (below_size (pH_ HB.out))); (case aL => have := LMc10.out; omega); intro v108 w16 ho hb hg hat; rw [← Ny107.out] at ho; have n0_ := Aside0.mk (blk_grown (g := gk28) (o := .cells #[.slice A1_0_0 l1_0_0.length c1_0_0] 111 (0, 0)) (pB_ BK28.out) hg (Kd.R_ne HO_5.out BK28.out (by decide))); have n1_ := Aside0.mk (blk_grown (g := gb105) (o := .cells #[.string ((rd_T123 l0 x11_1).f0), .string ((rd_T123 l0 x11_1).f1), .bool ((rd_T123 l0 x11_1).f2)] 123 (0, 0)) (pB_ BK105.out) hg (Kd.R_ne HO_5.out BK105.out (by decide))); have n2_ := Aside0.mk (hb); have n3_ := Aside0.mk (ho); clear BK28; clear BK105; clear HB; clear HO_5; have BK28 := n0_; have BK105 := n1_; have HB := n2_; have HO109 := n3_; clear n0_ n1_ n2_ n3_; clear ho hb hg hat))
        go_roundg k1
        case measure => have := HK1.out; omega
        case rel => exact ⟨(y107), (wrap64 (x11_1 + 1)), (by first | rfl | (simp; done) | (simp [*]; done) | (simp [beq_nil_, bne_nil_]; done)), H', ⟨by have := HK1.out; omega⟩, ⟨by (with_reducible repeat (first | apply Kd.R_alloc | apply Kd.R_drewN | apply Kd.R_drew)); exact HO109.out⟩, ⟨by (with_reducible repeat (first | refine blk_drewN ?_ _ | refine blk_drew ?_ | refine blk_alloc ?_ _)); exact BK28.out⟩, ⟨by repeat (first | (with_reducible first | exact HB.out | apply below_alloc | apply pw_below_drewN | apply below_drew1 | refine below_set ?_ GE28.out | refine below_set ?_ GE105.out) | exact HB.out)⟩⟩
       rw [if_neg c10] at H
       exact absurd H (by simp)
      replace c9 := Bool.eq_false_iff.mpr c9
      subst c9
      have H1 : (impl_namesOf_at99.l0 k1 x5_1 l0 (l0.length : Int) (wrap64 (x11_1 + 1)) l1_0_0) = some r := by rw [if_neg (show ¬ (false = true) by decide)] at H; exact H
      clear H
      have H := H1
      clear H1
      have H' := Aside0.mk H
      clear H
      have p104 : 0 ≤ (x11_1 : Int) := of_decide_eq_true (by first | (with_reducible assumption) | assumption)
      have q104 : x11_1 < (l0.length : Int) := of_decide_eq_true (by first | (with_reducible assumption) | assumption)
      obtain ⟨ad104, e104, hx104_0, hx104_1, hx104_2⟩ := at_T123 HR0.out x11_1 p104 q104
      cases e104
      replace hx104_0 := (HB.out.cell (World.block_lt_of_cell? w _ hx104_0)).trans hx104_0
      replace hx104_1 := (HB.out.cell (World.block_lt_of_cell? w _ hx104_1)).trans hx104_1
      replace hx104_2 := (HB.out.cell (World.block_lt_of_cell? w _ hx104_2)).trans hx104_2
      replace p104 := eq_true p104
      replace q104 := eq_true q104
      go_wp2_with (first | ((with_reducible refine gate_dst (N := 7) rfl ?_); refine box_event ?hg (N := 7) ?hd (cs := #[.string (⟨#[]⟩ : ByteArray), .string (⟨#[]⟩ : ByteArray), .bool false]) (t := 123) ?hr ?_; (case hd => rfl); (case hg => rfl); (case hr => first | (go_simp; done) | (go_simp; rfl)); intro gb105 hg w17 hbox hb; have n0_ := Aside0.mk (Kd.R_below (pR_ HO_5.out) hb); have n1_ := Aside0.mk (blk_below (g := gk28) (o := .cells #[.slice A1_0_0 l1_0_0.length c1_0_0] 111 (0, 0)) (pB_ BK28.out) hb); have n2_ := Aside0.mk (below_step (pH_ HB.out) hb); have n3_ := Aside0.mk (hbox); have n4_ := Aside0.mk ((by rw [hg]; exact (below_size (pH_ HB.out)) : w.heap.size ≤ gb105)); have n5_ := Aside0.mk ((by rw [hg]; exact (below_size (pH_ HB.out)) : w.heap.size ≤ gb105)); have n6_ := Aside0.mk ((by rw [hg]; exact Nat.ne_of_lt (blk_lt (g := gk28) (o := .cells #[.slice A1_0_0 l1_0_0.length c1_0_0] 111 (0, 0)) (pB_ BK28.out)) : gk28 ≠ gb105)); have n7_ := Aside0.mk ((by rw [hg]; exact Nat.ne_of_gt (blk_lt (g := gk28) (o := .cells #[.slice A1_0_0 l1_0_0.length c1_0_0] 111 (0, 0)) (pB_ BK28.out)) : gb105 ≠ gk28)); clear HO_5; clear BK28; clear HB; have HO_5 := n0_; have BK28 := n1_; have HB := n2_; have BK105 := n3_; have GW105 := n4_; have GE105 := n5_; have NB28_105 := n6_; have NB105_28 := n7_; clear n0_ n1_ n2_ n3_ n4_ n5_ n6_ n7_; clear hb hbox hg; have hnb18 := NB105_28.out; have hnc18 := NB28_105.out; have hcz19_0 := cz_ BK105.out 0 _ rfl; have hcz19_1 := cz_ BK105.out 1 _ rfl; have hcz19_2 := cz_ BK105.out 2 _ rfl; have hfz19_0 := blk_frozen BK105.out 0; have hfz19_1 := blk_frozen BK105.out 1; have hfz19_2 := blk_frozen BK105.out 2) | ((with_reducible refine gate_value rfl ?_); refine goesV_ (some 17) rfl rfl Try.func99 (by kernel_rfl) rfl #[.agg #[.string ((rd_T123 l0 x11_1).f0), .string ((rd_T123 l0 x11_1).f1), .bool ((rd_T123 l0 x11_1).f2)], .pointer (some ⟨gk28, 0, none⟩)] rfl rfl (by (try simp only [List.map_toArray, List.map_cons, List.map_nil]); first | done | rfl | (simp only [List.length_drop, List.length_take]; rfl)) ?_; (with_reducible refine (impl_ChangedItems_1_c.calls k1 ((rd_T123 l0 x11_1).f0) ((rd_T123 l0 x11_1).f1) ((rd_T123 l0 x11_1).f2) gk28 A1_0_0 c1_0_0 l1_0_0 false _ ?side1 ?side2 ?side3 A8.out).mono ?_); (case side1 => exact Kd.C_below HR1_0_0.out (pH_ HB.out)); (case side2 => exact HC1_0_0.out); (case side3 => (with_reducible repeat (first | refine blk_drewN ?_ _ | refine blk_drew ?_ | refine blk_alloc ?_ _)); refine blk_far ?_ NB28_105.out _; (with_reducible repeat (first | refine blk_drewN ?_ _ | refine blk_drew ?_ | refine blk_alloc ?_ _)); refine blk_far ?_ NB28_105.out _; (with_reducible repeat (first | refine blk_drewN ?_ _ | refine blk_drew ?_ | refine blk_alloc ?_ _)); refine blk_far ?_ NB28_105.out _; (with_reducible repeat (first | refine blk_drewN ?_ _ | refine blk_drew ?_ | refine blk_alloc ?_ _)); exact BK28.out); rintro e w20 ⟨rfl, hb⟩; refine ⟨_, rfl, ?_⟩; have n0_ := Aside0.mk (Kd.R_below (by (with_reducible repeat (first | apply Kd.R_alloc | apply Kd.R_drewN | apply Kd.R_drew)); exact (Kd.R_mono (Kd.R_far (p := ⟨gb105, 2, none⟩) (Kd.R_far (p := ⟨gb105, 1, none⟩) (Kd.R_far (p := ⟨gb105, 0, none⟩) (Kd.R_types HO_5.out BK105.out (by decide)) (fun _ hk => hk.2) (.string ((rd_T123 l0 x11_1).f0))) (fun _ hk => hk.2) (.string ((rd_T123 l0 x11_1).f1))) (fun _ hk => hk.2) (.bool ((rd_T123 l0 x11_1).f2))) (fun _ h_ => h_.1))) hb); have n1_ := Aside0.mk (blk_below (g := gk28) (o := .cells #[.slice A1_0_0 l1_0_0.length c1_0_0] 111 (0, 0)) (by (with_reducible repeat (first | refine blk_drewN ?_ _ | refine blk_drew ?_ | refine blk_alloc ?_ _)); refine blk_far ?_ NB28_105.out _; (with_reducible repeat (first | refine blk_drewN ?_ _ | refine blk_drew ?_ | refine blk_alloc ?_ _)); refine blk_far ?_ NB28_105.out _; (with_reducible repeat (first | refine blk_drewN ?_ _ | refine blk_drew ?_ | refine blk_alloc ?_ _)); refine blk_far ?_ NB28_105.out _; (with_reducible repeat (first | refine blk_drewN ?_ _ | refine blk_drew ?_ | refine blk_alloc ?_ _)); exact BK28.out) hb); have n2_ := Aside0.mk (blk_below (g := gb105) (o := .cells #[.string ((rd_T123 l0 x11_1).f0), .string ((rd_T123 l0 x11_1).f1), .bool ((rd_T123 l0 x11_1).f2)] 123 (0, 0)) (by (with_reducible repeat (first | refine blk_drewN ?_ _ | refine blk_drew ?_ | refine blk_alloc ?_ _)); refine blk_put (cs := #[.string ((rd_T123 l0 x11_1).f0), .string ((rd_T123 l0 x11_1).f1), .bool false]) ?_ 2 _ rfl; (with_reducible repeat (first | refine blk_drewN ?_ _ | refine blk_drew ?_ | refine blk_alloc ?_ _)); refine blk_put (cs := #[.string ((rd_T123 l0 x11_1).f0), .string (⟨#[]⟩ : ByteArray), .bool false]) ?_ 1 _ rfl; (with_reducible repeat (first | refine blk_drewN ?_ _ | refine blk_drew ?_ | refine blk_alloc ?_ _)); refine blk_put (cs := #[.string (⟨#[]⟩ : ByteArray), .string (⟨#[]⟩ : ByteArray), .bool false]) ?_ 0 _ rfl; (with_reducible repeat (first | refine blk_drewN ?_ _ | refine blk_drew ?_ | refine blk_alloc ?_ _)); exact BK105.out) hb); have n3_ := Aside0.mk (below_step (pH_ HB.out) hb); clear HO_5; clear BK28; clear BK105; clear HB; have HO_5 := n0_; have BK28 := n1_; have BK105 := n2_; have HB := n3_; clear n0_ n1_ n2_ n3_; (try clear hb); (try clear hb2); (try clear hk); (try clear hi)))
      go_roundg k1
      case measure => have := HK1.out; omega
      case rel => exact ⟨(x5_1), (wrap64 (x11_1 + 1)), (by first | rfl | (simp; done) | (simp [*]; done) | (simp [beq_nil_, bne_nil_]; done)), H', ⟨by have := HK1.out; omega⟩, ⟨by (with_reducible repeat (first | apply Kd.R_alloc | apply Kd.R_drewN | apply Kd.R_drew)); exact HO_5.out⟩, ⟨by (with_reducible repeat (first | refine blk_drewN ?_ _ | refine blk_drew ?_ | refine blk_alloc ?_ _)); exact BK28.out⟩, ⟨by repeat (first | (with_reducible first | exact HB.out | apply below_alloc | apply pw_below_drewN | apply below_drew1 | refine below_set ?_ GE28.out | refine below_set ?_ GE105.out) | exact HB.out)⟩⟩
     rw [if_neg c7] at H
     exact absurd H (by simp)
    rw [if_neg c6] at H
    exact absurd H (by simp)
   rw [if_neg c5] at H
   have c5b0 : decide (x11_1 < (l0.length : Int)) = false := decide_eq_false c5
   clear c5
   obtain rfl := Option.some.inj H
   go_wp2
   go_ret
   exact ⟨_, by first | rfl | (simp [errW_none, errW_some] <;> rfl) | (simp [*, errW_none, errW_some] <;> rfl), by (with_reducible repeat (first | apply Kd.R_alloc | apply Kd.R_drewN | apply Kd.R_drew)); exact HO_5.out, by repeat (first | (with_reducible first | exact HB.out | apply below_alloc | apply pw_below_drewN | apply below_drew1 | refine below_set ?_ GE28.out) | exact HB.out)⟩
end
section
/-! ### impl_ChangedItems: function 61 -/
def impl_ChangedItems.j0 : Nat → List (S70) → Int → List (S123) → Bool → Option (List ByteArray × Bool)
 | 0, _, _, _, _ => none
 | k + 1, x0, x1, x6, x23 => if x23 = true then (some (([] : List ByteArray), false)) else (if 0 ≤ x1 then (if x1 ≤ (x0.length : Int) then ((impl_replayed.f k (x0.take (x1 : Int).toNat)).bind fun bt110 => ((impl_namesOf_at99.f k x6 bt110.1).bind fun t115 => (some (t115, true)))) else (none)) else (none))
def impl_ChangedItems.f (k : Nat) (l0 : List (S70)) (a1 : Int) : Option (List ByteArray × Bool) := (impl_replayed.f k l0).bind fun bt101 => (if bt101.2 = true then ((impl_within.f a1 0 (l0.length : Int)).bind fun t105 => (impl_ChangedItems.j0 k l0 a1 bt101.1 (!t105))) else (impl_ChangedItems.j0 k l0 a1 bt101.1 true))
theorem impl_ChangedItems.mono_l : ∀ k, (∀ y0 y1 y2 y3, LeO (impl_ChangedItems.j0 k y0 y1 y2 y3) (impl_ChangedItems.j0 (k + 1) y0 y1 y2 y3))
 | 0 => fun _ _ _ _ r h => by simp [impl_ChangedItems.j0] at h
 | k + 1 => by
  have ih0 := impl_ChangedItems.mono_l k
  ·intro y0 y1 y2 y3
   unfold impl_ChangedItems.j0
   repeat' first
   | (with_reducible exact ih0 _ _ _ _)
   | (with_reducible exact impl_namesOf_at99.mono _ _ _)
   | (with_reducible exact impl_replayed.mono _ _)
   | (with_reducible exact LeO.refl _)
   | (with_reducible exact LeO.none _)
   | (with_reducible refine LeO.ite ?_ ?_)
   | (with_reducible refine LeO.bind ?_ (fun _ => ?_))
   | exact ih0 _ _ _ _
   | exact impl_namesOf_at99.mono _ _ _
   | exact impl_replayed.mono _ _
   | exact LeO.none _
   | refine LeO.ite ?_ ?_
   | refine LeO.bind ?_ (fun _ => ?_)
theorem impl_ChangedItems.mono : ∀ a0 a1 k, LeO (impl_ChangedItems.f k a0 a1) (impl_ChangedItems.f (k + 1) a0 a1) := by
 intro a0 a1 k
 have ih0 := impl_ChangedItems.mono_l k
 unfold impl_ChangedItems.f
 repeat' first
   | (with_reducible exact ih0 _ _ _ _)
   | (with_reducible exact impl_namesOf_at99.mono _ _ _)
   | (with_reducible exact impl_replayed.mono _ _)
   | (with_reducible exact LeO.refl _)
   | (with_reducible exact LeO.none _)
   | (with_reducible refine LeO.ite ?_ ?_)
   | (with_reducible refine LeO.bind ?_ (fun _ => ?_))
   | exact ih0 _ _ _ _
   | exact impl_namesOf_at99.mono _ _ _
   | exact impl_replayed.mono _ _
   | exact LeO.none _
   | refine LeO.ite ?_ ?_
   | refine LeO.bind ?_ (fun _ => ?_)
set_option maxHeartbeats 8000000 in
set_option maxRecDepth 100000 in
theorem impl_ChangedItems.calls (k : Nat) (A0 : Option Addr) (c0 : Nat) (l0 : List (S70)) (a1 : Int) (r1 : List ByteArray) (r2 : Bool) (w : World) (hr0 : Kd.C k70 w A0 l0.length l0) (hc0 : l0.length ≤ c0) (h : impl_ChangedItems.f k l0 a1 = some (r1, r2)) :
  Calls Try.prog 61 #[.slice A0 l0.length c0, .int .i64 a1] w fun e w' => ∃ v0_ : Value, e = .returned (.tuple #[v0_, .bool r2]) ∧ Kd.R Kd.string 9 w' w.heap.size (fun _ => True) v0_ r1 ∧ Below w.heap.size w w' := by
 have hmf : ∀ (f_ : Fn) (fs_ cs_ : Array Value) (w_ : World), (Instr.makeFunc f_ fs_ cs_).run Try.prog w_ = .ok (.func f_ fs_ cs_) w_ := fun _ _ _ _ => rfl
 have HR0 := Aside0.mk hr0
 have HC0 := Aside0.mk hc0
 clear hr0 hc0
 have HB := Aside0.mk (Below.refl w.heap.size w)
 have H : ((impl_replayed.f k l0).bind fun bt101 => (if bt101.2 = true then ((impl_within.f a1 0 (l0.length : Int)).bind fun t105 => (impl_ChangedItems.j0 k l0 a1 bt101.1 (!t105))) else (impl_ChangedItems.j0 k l0 a1 bt101.1 true))) = some (r1, r2) := h
 clear h
 replace H := Option.bind_eq_some_iff.mp H
 obtain ⟨⟨t101, t102⟩, A30, H⟩ := H
 replace H : (if t102 = true then ((impl_within.f a1 0 (l0.length : Int)).bind fun t105 => (impl_ChangedItems.j0 k l0 a1 t101 (!t105))) else (impl_ChangedItems.j0 k l0 a1 t101 true)) = some (r1, r2) := H
 have A3 := Aside0.mk A30
 clear A30
 have HC4 := Aside0.mk H
 clear H
 go_enter Try.func61, Try.ntmps61
 go_upto_region 2 with (first | ((with_reducible refine gate_callee (f := 89) rfl ?_); refine goesL_ (some 12) rfl rfl Try.func89 (by kernel_rfl) rfl #[.slice A0 l0.length c0] rfl (by (try simp only [List.map_toArray, List.map_cons, List.map_nil]); first | done | rfl | (simp only [List.length_drop, List.length_take]; rfl)) ?_; (with_reducible refine (impl_replayed.calls k _ _ l0 t101 t102 _ ?side1 ?side2 A3.out).mono ?_); (case side1 => repeat (first | exact HR0.out | (with_reducible refine Kd.C_alloc ?_ _) | (with_reducible refine Kd.C_drewN ?_ _) | (with_reducible refine Kd.C_drew ?_))); (case side2 => exact HC0.out); rintro e w5 ⟨v103, rfl, ho0, hb⟩; refine ⟨_, rfl, ?_⟩; have n0_ := Aside0.mk (Kd.R_lower ho0 (below_size (pH_ HB.out))); have n1_ := Aside0.mk (below_step (pH_ HB.out) hb); clear HB; have HO104 := n0_; have HB := n1_; clear n0_ n1_; (try clear hb); (try clear hb2); (try clear hk); (try clear hi); (try clear ho0)))
 (try simp only [Act.put, List.setIfInBounds_toArray, List.set_cons_zero, List.set_cons_succ])
 go_cut [23] (fun v23 wc => ∃ (kq : Nat) (x23_3 : Bool), v23 = .bool x23_3 ∧ Aside0 (impl_ChangedItems.j0 kq l0 a1 t101 x23_3 = some (r1, r2)) ∧ Aside0 (kq ≤ k) ∧ Aside0 (Kd.R k123 123 wc w.heap.size (fun _ => True) v103 t101) ∧ Aside0 (Below w.heap.size w wc))
 case first =>
  have H := HC4.out
  clear HC4
  by_cases c6 : t102 = true
  ·subst c6
   have H1 : ((impl_within.f a1 0 (l0.length : Int)).bind fun t105 => (impl_ChangedItems.j0 k l0 a1 t101 (!t105))) = some (r1, r2) := by rw [if_pos rfl] at H; exact H
   clear H
   have H := H1
   clear H1
   replace H := Option.bind_eq_some_iff.mp H
   obtain ⟨t105, A70, H⟩ := H
   replace H : (impl_ChangedItems.j0 k l0 a1 t101 (!t105)) = some (r1, r2) := H
   have A7 := Aside0.mk A70
   clear A70
   have H' := Aside0.mk H
   clear H
   go_wp2_with (first | (go_at_call 76; (with_reducible refine (impl_within.calls a1 0 (l0.length : Int) t105 _ A7.out).mono ?_); rintro e w' ⟨rfl, ⟨nd, rfl⟩⟩))
   go_meet
   case rel => exact ⟨_, (!t105), (by first | rfl | (simp; done) | (simp [*]; done) | (simp [beq_nil_, bne_nil_]; done)), H', ⟨by first | omega | exact Nat.le_refl _⟩, ⟨by (with_reducible repeat (first | apply Kd.R_alloc | apply Kd.R_drewN | apply Kd.R_drew)); exact HO104.out⟩, ⟨by repeat (first | (with_reducible first | exact HB.out | apply below_alloc | apply pw_below_drewN | apply below_drew1) | exact HB.out)⟩⟩
  replace c6 := Bool.eq_false_iff.mpr c6
  subst c6
  have H1 : (impl_ChangedItems.j0 k l0 a1 t101 true) = some (r1, r2) := by rw [if_neg (show ¬ (false = true) by decide)] at H; exact H
  clear H
  have H := H1
  clear H1
  have H' := Aside0.mk H
  clear H
  go_wp2
  go_meet
  case rel => exact ⟨_, (true), (by first | rfl | (simp; done) | (simp [*]; done) | (simp [beq_nil_, bne_nil_]; done)), H', ⟨by first | omega | exact Nat.le_refl _⟩, ⟨by (with_reducible repeat (first | apply Kd.R_alloc | apply Kd.R_drewN | apply Kd.R_drew)); exact HO104.out⟩, ⟨by repeat (first | (with_reducible first | exact HB.out | apply below_alloc | apply pw_below_drewN | apply below_drew1) | exact HB.out)⟩⟩
 case rest =>
  clear HC4
  try clear p2
  try clear c6
  obtain ⟨kq, x23_3, rfl, HA, HJ3, HO_6, HB⟩ := hcut
  cases kq with
  | zero => exact absurd HA.out (by simp [impl_ChangedItems.j0])
  | succ kj3 =>
   have H := HA.out
   clear HA
   simp only [impl_ChangedItems.j0] at H
   by_cases c8 : x23_3 = true
   ·subst c8
    have H1 : (some (([] : List ByteArray), false)) = some (r1, r2) := by rw [if_pos rfl] at H; exact H
    clear H
    have H := H1
    clear H1
    simp only [Option.some.injEq, Prod.mk.injEq] at H
    obtain ⟨rfl, rfl⟩ := H
    go_wp2
    go_ret2
    exact ⟨_, by first | rfl | (simp [errW_none, errW_some] <;> rfl) | (simp [*, errW_none, errW_some] <;> rfl), by first | exact Kd.R_nil _ _ _ _ _ | exact Kd.N_nil _ _ _ _ _ | exact Kd.V_nil _ _ _ _ _ | exact Kd.Q_nil _ _ _ _ _ | exact Kd.S_nil _ _ _ _ _, by repeat (first | (with_reducible first | exact HB.out | apply below_alloc | apply pw_below_drewN | apply below_drew1) | exact HB.out)⟩
   replace c8 := Bool.eq_false_iff.mpr c8
   subst c8
   have H1 : (if 0 ≤ a1 then (if a1 ≤ (l0.length : Int) then ((impl_replayed.f kj3 (l0.take (a1 : Int).toNat)).bind fun bt110 => ((impl_namesOf_at99.f kj3 t101 bt110.1).bind fun t115 => (some (t115, true)))) else (none)) else (none)) = some (r1, r2) := by rw [if_neg (show ¬ (false = true) by decide)] at H; exact H
   clear H
   have H := H1
   clear H1
   by_cases c9 : 0 ≤ a1
   ·rw [if_pos c9] at H
    have c9b0 := eq_true c9
    have c9b1 : decide (0 ≤ a1) = true := decide_eq_true c9
    clear c9
    by_cases c10 : a1 ≤ (l0.length : Int)
    ·rw [if_pos c10] at H
     have c10b0 := eq_true c10
     have c10b1 : decide (a1 ≤ (l0.length : Int)) = true := decide_eq_true c10
     clear c10
     obtain ⟨y106, hy106⟩ : ∃ y_ : List (S70), y_ = (l0.take (a1 : Int).toNat) := ⟨_, rfl⟩
     replace H : ((impl_replayed.f kj3 y106).bind fun bt110 => ((impl_namesOf_at99.f kj3 t101 bt110.1).bind fun t115 => (some (t115, true)))) = some (r1, r2) := by first | (rw [hy106]; with_reducible exact H) | (have H2_ := (Option.bind_some _ _).symm.trans H; rw [hy106]; with_reducible exact H2_) | (have H2_ := (Option.bind_some _ _).symm.trans H; with_reducible exact H2_) | with_reducible exact H | (rw [hy106]; exact H) | exact H
     have Ny106 := Aside0.mk hy106
     clear hy106
     replace H := Option.bind_eq_some_iff.mp H
     obtain ⟨⟨t110, t111⟩, A110, H⟩ := H
     replace H : ((impl_namesOf_at99.f kj3 t101 t110).bind fun t115 => (some (t115, true))) = some (r1, r2) := H
     have A11 := Aside0.mk A110
     clear A110
     replace H := Option.bind_eq_some_iff.mp H
     obtain ⟨t115, A120, H⟩ := H
     replace H : (some (t115, true)) = some (r1, r2) := H
     have A12 := Aside0.mk A120
     clear A120
     simp only [Option.some.injEq, Prod.mk.injEq] at H
     obtain ⟨rfl, rfl⟩ := H
     have q13 : (a1 : Int) ≤ ((l0.length : Int) : Int) := of_decide_eq_true (by first | (with_reducible assumption) | assumption)
     obtain ⟨i013, hi013, _, hsz13, _⟩ := info_parts info70
     have hroom13 : l0.length ≤ c0 := HC0.out
     have hC13 : Kd.C k70 _ A0 l0.length l0 := HR0.out
     have hcut13 := cut_to (P := Try.prog) 54 70 .i64 Try.underlying54 hi013 A0 l0.length c0 a1 (of_decide_eq_true (by first | (with_reducible assumption) | assumption)) q13 hroom13
     have hr13 := Kd.C_take (m := (a1 : Int).toNat) hC13 (by omega)
     have hy13 : y106.length = (a1 : Int).toNat := (by rw [Ny106.out, List.length_take]; omega)
     rw [← Ny106.out] at hr13
     rw [← hy13] at hcut13
     have HR109 := Aside0.mk hr13
     have HC109 := Aside0.mk (show y106.length ≤ c0 from by omega)
     clear hr13 hC13 hroom13 hi013 hsz13
     have KY13 := Aside0.mk hy13
     clear hy13
     replace q13 := eq_true q13
     go_wp2_with (first | ((with_reducible refine gate_callee (f := 89) rfl ?_); refine goesL_ (some 28) rfl rfl Try.func89 (by kernel_rfl) rfl #[.slice A0 y106.length c0] rfl (by (try simp only [List.map_toArray, List.map_cons, List.map_nil]); first | done | rfl | (simp only [List.length_drop, List.length_take]; rfl)) ?_; (with_reducible refine (impl_replayed.calls kj3 _ _ y106 t110 t111 _ ?side1 ?side2 A11.out).mono ?_); (case side1 => repeat (first | exact (Kd.C_below HR109.out HB.out) | (with_reducible refine Kd.C_alloc ?_ _) | (with_reducible refine Kd.C_drewN ?_ _) | (with_reducible refine Kd.C_drew ?_))); (case side2 => exact HC109.out); rintro e w14 ⟨v112, rfl, ho0, hb⟩; refine ⟨_, rfl, ?_⟩; have n0_ := Aside0.mk (Kd.R_elder' (pR_ HO_6.out) (Kd.R_base ho0) hb); have n1_ := Aside0.mk (Kd.R_lower (Kd.R_new' ho0 (Kd.R_lt (pR_ HO_6.out))) (below_size (pH_ HB.out))); have n2_ := Aside0.mk (below_step (pH_ HB.out) hb); clear HO_6; clear HB; have HO_6 := n0_; have HO113 := n1_; have HB := n2_; clear n0_ n1_ n2_; (try clear hb); (try clear hb2); (try clear hk); (try clear hi); (try clear ho0)) | ((with_reducible refine gate_dst (N := 8) rfl ?_); (try (refine gate_guard (by rfl) ?_; dsimp only)); refine box_event ?hg (N := 8) ?hd (cs := #[.slice none 0 0]) (t := 111) ?hr ?_; (case hd => rfl); (case hg => rfl); (case hr => first | (go_simp; done) | (go_simp; rfl)); intro gb114 hg w15 hbox hb; have n0_ := Aside0.mk (Kd.R_below (pR_ HO_6.out) hb); have n1_ := Aside0.mk (Kd.R_below (pR_ HO113.out) hb); have n2_ := Aside0.mk (below_step (pH_ HB.out) hb); have n3_ := Aside0.mk (hbox); have n4_ := Aside0.mk ((by rw [hg]; exact (below_size (pH_ HB.out)) : w.heap.size ≤ gb114)); have n5_ := Aside0.mk ((by rw [hg]; exact (below_size (pH_ HB.out)) : w.heap.size ≤ gb114)); clear HO_6; clear HO113; clear HB; have HO_6 := n0_; have HO113 := n1_; have HB := n2_; have BK114 := n3_; have GW114 := n4_; have GE114 := n5_; clear n0_ n1_ n2_ n3_ n4_ n5_; clear hb hbox hg; obtain ⟨Ao16, co16, eo16⟩ := Kd.R_slice HO113.out; subst eo16; have hcz17_0 := cz_ BK114.out 0 _ rfl; have hfz17_0 := blk_frozen BK114.out 0; obtain ⟨Ao18, co18, eo18⟩ := Kd.R_slice HO_6.out; subst eo18) | ((with_reducible refine gate_callee (f := 97) rfl ?_); refine goesL_ (some 33) rfl rfl Try.func97 (by kernel_rfl) rfl #[.slice Ao18 t101.length co18, .func (.func 99) #[] #[.pointer (some ⟨gb114, 0, none⟩)]] rfl (by (try simp only [List.map_toArray, List.map_cons, List.map_nil]); first | done | rfl | (simp only [List.length_drop, List.length_take]; rfl)) ?_; (with_reducible refine (impl_namesOf_at99.calls kj3 _ _ t101 gb114 Ao16 co16 t110 t115 _ ?side1 ?side2 ?side3 ?side4 ?side5 A12.out).mono ?_); (case side1 => refine (Kd.R_reads' (e := 123) (base := w.heap.size) (ok := fun k_ => (True ∧ some k_ ≠ (.slice Ao16 t110.length co16 : Value).ownBlock)) (n := t101.length) (c := co18) ?_).2.2; exact (by (with_reducible repeat (first | apply Kd.R_alloc | apply Kd.R_drewN | apply Kd.R_drew)); exact (Kd.R_mono (Kd.R_far (p := ⟨gb114, 0, none⟩) (Kd.R_types HO_6.out BK114.out (by decide)) (fun _ hk => hk.2) (.slice Ao16 t110.length co16)) (fun _ h_ => h_.1)))); (case side2 => exact (Kd.R_reads' HO_6.out).2.1); (case side3 => refine (Kd.R_reads' (e := 123) (base := w.heap.size) (ok := fun k_ => (True ∧ some k_ ≠ (.slice Ao18 t101.length co18 : Value).ownBlock)) (n := t110.length) (c := co16) ?_).2.2; exact (by (with_reducible repeat (first | apply Kd.R_alloc | apply Kd.R_drewN | apply Kd.R_drew)); exact (Kd.R_mono (Kd.R_far (p := ⟨gb114, 0, none⟩) (Kd.R_types HO113.out BK114.out (by decide)) (fun _ hk => hk.2) (.slice Ao16 t110.length co16)) (fun _ h_ => h_.1)))); (case side4 => exact (Kd.R_reads' HO113.out).2.1); (case side5 => (with_reducible repeat (first | refine blk_drewN ?_ _ | refine blk_drew ?_ | refine blk_alloc ?_ _)); refine blk_put (cs := #[.slice none 0 0]) ?_ 0 _ rfl; (with_reducible repeat (first | refine blk_drewN ?_ _ | refine blk_drew ?_ | refine blk_alloc ?_ _)); exact BK114.out); rintro e w19 ⟨v116, rfl, ho0, hb⟩; refine ⟨_, rfl, ?_⟩; have n0_ := Aside0.mk (Kd.R_below (by (with_reducible repeat (first | apply Kd.R_alloc | apply Kd.R_drewN | apply Kd.R_drew)); exact (Kd.R_mono (Kd.R_far (p := ⟨gb114, 0, none⟩) (Kd.R_types HO_6.out BK114.out (by decide)) (fun _ hk => hk.2) (.slice Ao16 t110.length co16)) (fun _ h_ => h_.1))) hb); have n1_ := Aside0.mk (Kd.R_below (by (with_reducible repeat (first | apply Kd.R_alloc | apply Kd.R_drewN | apply Kd.R_drew)); exact (Kd.R_mono (Kd.R_far (p := ⟨gb114, 0, none⟩) (Kd.R_types HO113.out BK114.out (by decide)) (fun _ hk => hk.2) (.slice Ao16 t110.length co16)) (fun _ h_ => h_.1))) hb); have n2_ := Aside0.mk (Kd.R_lower ho0 (below_size (pH_ HB.out))); have n3_ := Aside0.mk (blk_below (g := gb114) (o := .cells #[.slice Ao16 t110.length co16] 111 (0, 0)) (by (with_reducible repeat (first | refine blk_drewN ?_ _ | refine blk_drew ?_ | refine blk_alloc ?_ _)); refine blk_put (cs := #[.slice none 0 0]) ?_ 0 _ rfl; (with_reducible repeat (first | refine blk_drewN ?_ _ | refine blk_drew ?_ | refine blk_alloc ?_ _)); exact BK114.out) hb); have n4_ := Aside0.mk (below_step (pH_ HB.out) hb); clear HO_6; clear HO113; clear BK114; clear HB; have HO_6 := n0_; have HO113 := n1_; have HO117 := n2_; have BK114 := n3_; have HB := n4_; clear n0_ n1_ n2_ n3_ n4_; (try clear hb); (try clear hb2); (try clear hk); (try clear hi); (try clear ho0)))
     go_ret2
     exact ⟨_, by first | rfl | (simp [errW_none, errW_some] <;> rfl) | (simp [*, errW_none, errW_some] <;> rfl), by (with_reducible repeat (first | apply Kd.R_alloc | apply Kd.R_drewN | apply Kd.R_drew)); exact HO117.out, by repeat (first | (with_reducible first | exact HB.out | apply below_alloc | apply pw_below_drewN | apply below_drew1 | refine below_set ?_ GE114.out) | exact HB.out)⟩
    rw [if_neg c10] at H
    exact absurd H (by simp)
   rw [if_neg c9] at H
   exact absurd H (by simp)
end
section
/-! ### laws_FnExactChangedItems: function 12 -/
mutual
def laws_FnExactChangedItems.j0 : Nat → List (S67) → Int → List ByteArray → Bool → List (S70) → List ByteArray → Bool → Bool → Option (Bool)
 | 0, _, _, _, _, _, _, _, _ => none
 | k + 1, x0, x1, x6, x7, x8, x9, x10, x44 => if x44 = true then (some false) else ((laws_toEntryS.f k x0).bind fun t117 => ((laws_eqEntryS.f k x8 t117).bind fun t120 => (if t120 = true then ((laws_markEntryS.f k x8 1).bind fun bt121 => (if bt121.1 < 0 then (laws_FnExactChangedItems.j1 k x0 x1 x6 x7 x9 true) else ((laws_eqStringS.f k x9 x6).bind fun t123 => (if t123 = true then (laws_FnExactChangedItems.j1 k x0 x1 x6 x7 x9 (x10 != x7)) else (laws_FnExactChangedItems.j1 k x0 x1 x6 x7 x9 true))))) else (some false))))
def laws_FnExactChangedItems.j1 : Nat → List (S67) → Int → List ByteArray → Bool → List ByteArray → Bool → Option (Bool)
 | 0, _, _, _, _, _, _ => none
 | k + 1, x0, x1, x6, x7, x9, x65 => if x65 = true then (some false) else ((laws_markStringS.f k x9 1).bind fun bt124 => ((laws_heldStringS.f k bt124.2 1).bind fun t126 => (if t126 < 0 then (some false) else (if t126 = bt124.1 then ((laws_toEntryS.f k x0).bind fun t127 => ((impl_ChangedItems.f k t127 x1).bind fun bt130 => ((laws_eqStringS.f k bt130.1 x6).bind fun t134 => (if t134 = true then (laws_FnExactChangedItems.j2 k bt124.2 bt124.1 (bt130.2 != x7)) else (laws_FnExactChangedItems.j2 k bt124.2 bt124.1 true))))) else (some false)))))
def laws_FnExactChangedItems.j2 : Nat → List ByteArray → Int → Bool → Option (Bool)
 | 0, _, _, _ => none
 | k + 1, x9, x12, x92 => if x92 = true then (some false) else ((laws_heldStringS.f k x9 1).bind fun t135 => (if t135 < 0 then (some false) else (if t135 = x12 then (some true) else (some false))))
end
def laws_FnExactChangedItems.f (k : Nat) (l0 : List (S67)) (a1 : Int) : Option (Bool) := (laws_szEntryS.f k l0 1048576).bind fun t101 => (if t101 < 0 then (some true) else ((laws_toEntryS.f k l0).bind fun t102 => ((spec_ChangedItems.f k t102 a1).bind fun bt105 => ((laws_toEntryS.f k l0).bind fun t109 => ((impl_ChangedItems.f k t109 a1).bind fun bt112 => ((laws_eqStringS.f k bt112.1 bt105.1).bind fun t116 => (if t116 = true then (laws_FnExactChangedItems.j0 k l0 a1 bt105.1 bt105.2 t109 bt112.1 bt112.2 (bt112.2 != bt105.2)) else (laws_FnExactChangedItems.j0 k l0 a1 bt105.1 bt105.2 t109 bt112.1 bt112.2 true))))))))
theorem laws_FnExactChangedItems.mono_l : ∀ k, (∀ y0 y1 y2 y3 y4 y5 y6 y7, LeO (laws_FnExactChangedItems.j0 k y0 y1 y2 y3 y4 y5 y6 y7) (laws_FnExactChangedItems.j0 (k + 1) y0 y1 y2 y3 y4 y5 y6 y7)) ∧ (∀ y0 y1 y2 y3 y4 y5, LeO (laws_FnExactChangedItems.j1 k y0 y1 y2 y3 y4 y5) (laws_FnExactChangedItems.j1 (k + 1) y0 y1 y2 y3 y4 y5)) ∧ (∀ y0 y1 y2, LeO (laws_FnExactChangedItems.j2 k y0 y1 y2) (laws_FnExactChangedItems.j2 (k + 1) y0 y1 y2))
 | 0 => ⟨fun _ _ _ _ _ _ _ _ r h => by simp [laws_FnExactChangedItems.j0] at h, fun _ _ _ _ _ _ r h => by simp [laws_FnExactChangedItems.j1] at h, fun _ _ _ r h => by simp [laws_FnExactChangedItems.j2] at h⟩
 | k + 1 => by
  obtain ⟨ih0, ih1, ih2⟩ := laws_FnExactChangedItems.mono_l k
  refine ⟨?_, ?_, ?_⟩
  ·intro y0 y1 y2 y3 y4 y5 y6 y7
   unfold laws_FnExactChangedItems.j0
   repeat' first
   | (with_reducible exact ih0 _ _ _ _ _ _ _ _)
   | (with_reducible exact ih1 _ _ _ _ _ _)
   | (with_reducible exact ih2 _ _ _)
   | (with_reducible exact impl_ChangedItems.mono _ _ _)
   | (with_reducible exact laws_eqEntryS.mono _ _ _)
   | (with_reducible exact laws_eqStringS.mono _ _ _)
   | (with_reducible exact laws_heldStringS.mono _ _ _)
   | (with_reducible exact laws_markEntryS.mono _ _ _)
   | (with_reducible exact laws_markStringS.mono _ _ _)
   | (with_reducible exact laws_szEntryS.mono _ _ _)
   | (with_reducible exact laws_toEntryS.mono _ _)
   | (with_reducible exact spec_ChangedItems.mono _ _ _)
   | (with_reducible exact LeO.refl _)
   | (with_reducible exact LeO.none _)
   | (with_reducible refine LeO.ite ?_ ?_)
   | (with_reducible refine LeO.bind ?_ (fun _ => ?_))
   | exact ih0 _ _ _ _ _ _ _ _
   | exact ih1 _ _ _ _ _ _
   | exact ih2 _ _ _
   | exact impl_ChangedItems.mono _ _ _
   | exact laws_eqEntryS.mono _ _ _
   | exact laws_eqStringS.mono _ _ _
   | exact laws_heldStringS.mono _ _ _
   | exact laws_markEntryS.mono _ _ _
   | exact laws_markStringS.mono _ _ _
   | exact laws_szEntryS.mono _ _ _
   | exact laws_toEntryS.mono _ _
   | exact spec_ChangedItems.mono _ _ _
   | exact LeO.none _
   | refine LeO.ite ?_ ?_
   | refine LeO.bind ?_ (fun _ => ?_)
  ·intro y0 y1 y2 y3 y4 y5
   unfold laws_FnExactChangedItems.j1
   repeat' first
   | (with_reducible exact ih0 _ _ _ _ _ _ _ _)
   | (with_reducible exact ih1 _ _ _ _ _ _)
   | (with_reducible exact ih2 _ _ _)
   | (with_reducible exact impl_ChangedItems.mono _ _ _)
   | (with_reducible exact laws_eqEntryS.mono _ _ _)
   | (with_reducible exact laws_eqStringS.mono _ _ _)
   | (with_reducible exact laws_heldStringS.mono _ _ _)
   | (with_reducible exact laws_markEntryS.mono _ _ _)
   | (with_reducible exact laws_markStringS.mono _ _ _)
   | (with_reducible exact laws_szEntryS.mono _ _ _)
   | (with_reducible exact laws_toEntryS.mono _ _)
   | (with_reducible exact spec_ChangedItems.mono _ _ _)
   | (with_reducible exact LeO.refl _)
   | (with_reducible exact LeO.none _)
   | (with_reducible refine LeO.ite ?_ ?_)
   | (with_reducible refine LeO.bind ?_ (fun _ => ?_))
   | exact ih0 _ _ _ _ _ _ _ _
   | exact ih1 _ _ _ _ _ _
   | exact ih2 _ _ _
   | exact impl_ChangedItems.mono _ _ _
   | exact laws_eqEntryS.mono _ _ _
   | exact laws_eqStringS.mono _ _ _
   | exact laws_heldStringS.mono _ _ _
   | exact laws_markEntryS.mono _ _ _
   | exact laws_markStringS.mono _ _ _
   | exact laws_szEntryS.mono _ _ _
   | exact laws_toEntryS.mono _ _
   | exact spec_ChangedItems.mono _ _ _
   | exact LeO.none _
   | refine LeO.ite ?_ ?_
   | refine LeO.bind ?_ (fun _ => ?_)
  intro y0 y1 y2
  unfold laws_FnExactChangedItems.j2
  repeat' first
  | (with_reducible exact ih0 _ _ _ _ _ _ _ _)
  | (with_reducible exact ih1 _ _ _ _ _ _)
  | (with_reducible exact ih2 _ _ _)
  | (with_reducible exact impl_ChangedItems.mono _ _ _)
  | (with_reducible exact laws_eqEntryS.mono _ _ _)
  | (with_reducible exact laws_eqStringS.mono _ _ _)
  | (with_reducible exact laws_heldStringS.mono _ _ _)
  | (with_reducible exact laws_markEntryS.mono _ _ _)
  | (with_reducible exact laws_markStringS.mono _ _ _)
  | (with_reducible exact laws_szEntryS.mono _ _ _)
  | (with_reducible exact laws_toEntryS.mono _ _)
  | (with_reducible exact spec_ChangedItems.mono _ _ _)
  | (with_reducible exact LeO.refl _)
  | (with_reducible exact LeO.none _)
  | (with_reducible refine LeO.ite ?_ ?_)
  | (with_reducible refine LeO.bind ?_ (fun _ => ?_))
  | exact ih0 _ _ _ _ _ _ _ _
  | exact ih1 _ _ _ _ _ _
  | exact ih2 _ _ _
  | exact impl_ChangedItems.mono _ _ _
  | exact laws_eqEntryS.mono _ _ _
  | exact laws_eqStringS.mono _ _ _
  | exact laws_heldStringS.mono _ _ _
  | exact laws_markEntryS.mono _ _ _
  | exact laws_markStringS.mono _ _ _
  | exact laws_szEntryS.mono _ _ _
  | exact laws_toEntryS.mono _ _
  | exact spec_ChangedItems.mono _ _ _
  | exact LeO.none _
  | refine LeO.ite ?_ ?_
  | refine LeO.bind ?_ (fun _ => ?_)
theorem laws_FnExactChangedItems.mono : ∀ a0 a1 k, LeO (laws_FnExactChangedItems.f k a0 a1) (laws_FnExactChangedItems.f (k + 1) a0 a1) := by
 intro a0 a1 k
 obtain ⟨ih0, ih1, ih2⟩ := laws_FnExactChangedItems.mono_l k
 unfold laws_FnExactChangedItems.f
 repeat' first
   | (with_reducible exact ih0 _ _ _ _ _ _ _ _)
   | (with_reducible exact ih1 _ _ _ _ _ _)
   | (with_reducible exact ih2 _ _ _)
   | (with_reducible exact impl_ChangedItems.mono _ _ _)
   | (with_reducible exact laws_eqEntryS.mono _ _ _)
   | (with_reducible exact laws_eqStringS.mono _ _ _)
   | (with_reducible exact laws_heldStringS.mono _ _ _)
   | (with_reducible exact laws_markEntryS.mono _ _ _)
   | (with_reducible exact laws_markStringS.mono _ _ _)
   | (with_reducible exact laws_szEntryS.mono _ _ _)
   | (with_reducible exact laws_toEntryS.mono _ _)
   | (with_reducible exact spec_ChangedItems.mono _ _ _)
   | (with_reducible exact LeO.refl _)
   | (with_reducible exact LeO.none _)
   | (with_reducible refine LeO.ite ?_ ?_)
   | (with_reducible refine LeO.bind ?_ (fun _ => ?_))
   | exact ih0 _ _ _ _ _ _ _ _
   | exact ih1 _ _ _ _ _ _
   | exact ih2 _ _ _
   | exact impl_ChangedItems.mono _ _ _
   | exact laws_eqEntryS.mono _ _ _
   | exact laws_eqStringS.mono _ _ _
   | exact laws_heldStringS.mono _ _ _
   | exact laws_markEntryS.mono _ _ _
   | exact laws_markStringS.mono _ _ _
   | exact laws_szEntryS.mono _ _ _
   | exact laws_toEntryS.mono _ _
   | exact spec_ChangedItems.mono _ _ _
   | exact LeO.none _
   | refine LeO.ite ?_ ?_
   | refine LeO.bind ?_ (fun _ => ?_)
set_option maxHeartbeats 8000000 in
set_option maxRecDepth 100000 in
theorem laws_FnExactChangedItems.calls (k : Nat) (A0 : Option Addr) (c0 : Nat) (l0 : List (S67)) (a1 : Int) (r : Bool) (w : World) (hr0 : Kd.C k67 w A0 l0.length l0) (hc0 : l0.length ≤ c0) (h : laws_FnExactChangedItems.f k l0 a1 = some r) :
  Calls Try.prog 12 #[.slice A0 l0.length c0, .int .i64 a1] w fun e w' => e = .returned (.bool r) ∧ Below w.heap.size w w' := by
 have HR0 := Aside0.mk hr0
 have HC0 := Aside0.mk hc0
 clear hr0 hc0
 have HB := Aside0.mk (Below.refl w.heap.size w)
 have H : ((laws_szEntryS.f k l0 1048576).bind fun t101 => (if t101 < 0 then (some true) else ((laws_toEntryS.f k l0).bind fun t102 => ((spec_ChangedItems.f k t102 a1).bind fun bt105 => ((laws_toEntryS.f k l0).bind fun t109 => ((impl_ChangedItems.f k t109 a1).bind fun bt112 => ((laws_eqStringS.f k bt112.1 bt105.1).bind fun t116 => (if t116 = true then (laws_FnExactChangedItems.j0 k l0 a1 bt105.1 bt105.2 t109 bt112.1 bt112.2 (bt112.2 != bt105.2)) else (laws_FnExactChangedItems.j0 k l0 a1 bt105.1 bt105.2 t109 bt112.1 bt112.2 true))))))))) = some r := h
 clear h
 replace H := Option.bind_eq_some_iff.mp H
 obtain ⟨t101, A30, H⟩ := H
 replace H : (if t101 < 0 then (some true) else ((laws_toEntryS.f k l0).bind fun t102 => ((spec_ChangedItems.f k t102 a1).bind fun bt105 => ((laws_toEntryS.f k l0).bind fun t109 => ((impl_ChangedItems.f k t109 a1).bind fun bt112 => ((laws_eqStringS.f k bt112.1 bt105.1).bind fun t116 => (if t116 = true then (laws_FnExactChangedItems.j0 k l0 a1 bt105.1 bt105.2 t109 bt112.1 bt112.2 (bt112.2 != bt105.2)) else (laws_FnExactChangedItems.j0 k l0 a1 bt105.1 bt105.2 t109 bt112.1 bt112.2 true)))))))) = some r := H
 have A3 := Aside0.mk A30
 clear A30
 by_cases c4 : t101 < 0
 ·rw [if_pos c4] at H
  have c4b0 : decide (t101 < 0) = true := decide_eq_true c4
  clear c4
  obtain rfl := Option.some.inj H
  go_enter Try.func12, Try.ntmps12
  go_wp2_with (first | ((with_reducible refine gate_callee (f := 33) rfl ?_); refine goesL_ (some 18) rfl rfl Try.func33 (by kernel_rfl) rfl #[.slice A0 l0.length c0, .int .i64 1048576] rfl (by (try simp only [List.map_toArray, List.map_cons, List.map_nil]); first | done | rfl | (simp only [List.length_drop, List.length_take]; rfl)) ?_; (with_reducible refine (laws_szEntryS.calls k _ _ l0 1048576 t101 _ ?side1 ?side2 A3.out).mono ?_); (case side1 => repeat (first | exact HR0.out | (with_reducible refine Kd.C_alloc ?_ _) | (with_reducible refine Kd.C_drewN ?_ _) | (with_reducible refine Kd.C_drew ?_))); (case side2 => exact HC0.out); rintro e w5 ⟨rfl, hb⟩; refine ⟨_, rfl, ?_⟩; have n0_ := Aside0.mk (below_step (pH_ HB.out) hb); clear HB; have HB := n0_; clear n0_; (try clear hb); (try clear hb2); (try clear hk); (try clear hi)))
  go_ret
  exact ⟨by first | rfl | (simp [errW_none, errW_some] <;> rfl) | (simp [*, errW_none, errW_some] <;> rfl), by repeat (first | (with_reducible first | exact HB.out | apply below_alloc | apply pw_below_drewN | apply below_drew1) | exact HB.out)⟩
 rw [if_neg c4] at H
 have c4b0 : decide (t101 < 0) = false := decide_eq_false c4
 clear c4
 replace H := Option.bind_eq_some_iff.mp H
 obtain ⟨t102, A60, H⟩ := H
 replace H : ((spec_ChangedItems.f k t102 a1).bind fun bt105 => ((laws_toEntryS.f k l0).bind fun t109 => ((impl_ChangedItems.f k t109 a1).bind fun bt112 => ((laws_eqStringS.f k bt112.1 bt105.1).bind fun t116 => (if t116 = true then (laws_FnExactChangedItems.j0 k l0 a1 bt105.1 bt105.2 t109 bt112.1 bt112.2 (bt112.2 != bt105.2)) else (laws_FnExactChangedItems.j0 k l0 a1 bt105.1 bt105.2 t109 bt112.1 bt112.2 true)))))) = some r := H
 have A6 := Aside0.mk A60
 clear A60
 replace H := Option.bind_eq_some_iff.mp H
 obtain ⟨⟨t105, t106⟩, A70, H⟩ := H
 replace H : ((laws_toEntryS.f k l0).bind fun t109 => ((impl_ChangedItems.f k t109 a1).bind fun bt112 => ((laws_eqStringS.f k bt112.1 t105).bind fun t116 => (if t116 = true then (laws_FnExactChangedItems.j0 k l0 a1 t105 t106 t109 bt112.1 bt112.2 (bt112.2 != t106)) else (laws_FnExactChangedItems.j0 k l0 a1 t105 t106 t109 bt112.1 bt112.2 true))))) = some r := H
 have A7 := Aside0.mk A70
 clear A70
 replace H := Option.bind_eq_some_iff.mp H
 obtain ⟨t109, A80, H⟩ := H
 replace H : ((impl_ChangedItems.f k t109 a1).bind fun bt112 => ((laws_eqStringS.f k bt112.1 t105).bind fun t116 => (if t116 = true then (laws_FnExactChangedItems.j0 k l0 a1 t105 t106 t109 bt112.1 bt112.2 (bt112.2 != t106)) else (laws_FnExactChangedItems.j0 k l0 a1 t105 t106 t109 bt112.1 bt112.2 true)))) = some r := H
 have A8 := Aside0.mk A80
 clear A80
 replace H := Option.bind_eq_some_iff.mp H
 obtain ⟨⟨t112, t113⟩, A90, H⟩ := H
 replace H : ((laws_eqStringS.f k t112 t105).bind fun t116 => (if t116 = true then (laws_FnExactChangedItems.j0 k l0 a1 t105 t106 t109 t112 t113 (t113 != t106)) else (laws_FnExactChangedItems.j0 k l0 a1 t105 t106 t109 t112 t113 true))) = some r := H
 have A9 := Aside0.mk A90
 clear A90
 have HC10 := Aside0.mk H
 clear H
 go_enter Try.func12, Try.ntmps12
 go_upto_region 8 with (first | ((with_reducible refine gate_callee (f := 33) rfl ?_); refine goesL_ (some 18) rfl rfl Try.func33 (by kernel_rfl) rfl #[.slice A0 l0.length c0, .int .i64 1048576] rfl (by (try simp only [List.map_toArray, List.map_cons, List.map_nil]); first | done | rfl | (simp only [List.length_drop, List.length_take]; rfl)) ?_; (with_reducible refine (laws_szEntryS.calls k _ _ l0 1048576 t101 _ ?side1 ?side2 A3.out).mono ?_); (case side1 => repeat (first | exact HR0.out | (with_reducible refine Kd.C_alloc ?_ _) | (with_reducible refine Kd.C_drewN ?_ _) | (with_reducible refine Kd.C_drew ?_))); (case side2 => exact HC0.out); rintro e w11 ⟨rfl, hb⟩; refine ⟨_, rfl, ?_⟩; have n0_ := Aside0.mk (below_step (pH_ HB.out) hb); clear HB; have HB := n0_; clear n0_; (try clear hb); (try clear hb2); (try clear hk); (try clear hi)) | ((with_reducible refine gate_callee (f := 35) rfl ?_); refine goesL_ (some 23) rfl rfl Try.func35 (by kernel_rfl) rfl #[.slice A0 l0.length c0] rfl (by (try simp only [List.map_toArray, List.map_cons, List.map_nil]); first | done | rfl | (simp only [List.length_drop, List.length_take]; rfl)) ?_; (with_reducible refine (laws_toEntryS.calls k _ _ l0 t102 _ ?side1 ?side2 A6.out).mono ?_); (case side1 => repeat (first | exact (Kd.C_below HR0.out HB.out) | (with_reducible refine Kd.C_alloc ?_ _) | (with_reducible refine Kd.C_drewN ?_ _) | (with_reducible refine Kd.C_drew ?_))); (case side2 => exact HC0.out); rintro e w12 ⟨v103, rfl, ho0, hb⟩; refine ⟨_, rfl, ?_⟩; have n0_ := Aside0.mk (Kd.R_lower ho0 (below_size (pH_ HB.out))); have n1_ := Aside0.mk (below_step (pH_ HB.out) hb); clear HB; have HO104 := n0_; have HB := n1_; clear n0_ n1_; (try clear hb); (try clear hb2); (try clear hk); (try clear hi); (try clear ho0); obtain ⟨Ao13, co13, eo13⟩ := Kd.R_slice HO104.out; subst eo13) | ((with_reducible refine gate_callee (f := 60) rfl ?_); refine goesL_ (some 25) rfl rfl Try.func60 (by kernel_rfl) rfl #[.slice Ao13 t102.length co13, .int .i64 a1] rfl (by (try simp only [List.map_toArray, List.map_cons, List.map_nil]); first | done | rfl | (simp only [List.length_drop, List.length_take]; rfl)) ?_; (with_reducible refine (spec_ChangedItems.calls k _ _ t102 a1 t105 t106 _ ?side1 ?side2 A7.out).mono ?_); (case side1 => repeat (first | exact (Kd.R_reads' HO104.out).2.2 | (with_reducible refine Kd.C_alloc ?_ _) | (with_reducible refine Kd.C_drewN ?_ _) | (with_reducible refine Kd.C_drew ?_))); (case side2 => exact (Kd.R_reads' HO104.out).2.1); rintro e w14 ⟨v107, rfl, ho0, hb⟩; refine ⟨_, rfl, ?_⟩; have n0_ := Aside0.mk (Kd.R_below (pR_ HO104.out) hb); have n1_ := Aside0.mk (Kd.R_lower ho0 (below_size (pH_ HB.out))); have n2_ := Aside0.mk (below_step (pH_ HB.out) hb); clear HO104; clear HB; have HO104 := n0_; have HO108 := n1_; have HB := n2_; clear n0_ n1_ n2_; (try clear hb); (try clear hb2); (try clear hk); (try clear hi); (try clear ho0)) | ((with_reducible refine gate_callee (f := 35) rfl ?_); refine goesL_ (some 29) rfl rfl Try.func35 (by kernel_rfl) rfl #[.slice A0 l0.length c0] rfl (by (try simp only [List.map_toArray, List.map_cons, List.map_nil]); first | done | rfl | (simp only [List.length_drop, List.length_take]; rfl)) ?_; (with_reducible refine (laws_toEntryS.calls k _ _ l0 t109 _ ?side1 ?side2 A8.out).mono ?_); (case side1 => repeat (first | exact (Kd.C_below HR0.out HB.out) | (with_reducible refine Kd.C_alloc ?_ _) | (with_reducible refine Kd.C_drewN ?_ _) | (with_reducible refine Kd.C_drew ?_))); (case side2 => exact HC0.out); rintro e w15 ⟨v110, rfl, ho0, hb⟩; refine ⟨_, rfl, ?_⟩; have n0_ := Aside0.mk (Kd.R_elder' (pR_ HO104.out) (Kd.R_base ho0) hb); have n1_ := Aside0.mk (Kd.R_below (pR_ HO108.out) hb); have n2_ := Aside0.mk (Kd.R_lower (Kd.R_new' ho0 (Kd.R_lt (pR_ HO104.out))) (below_size (pH_ HB.out))); have n3_ := Aside0.mk (below_step (pH_ HB.out) hb); clear HO104; clear HO108; clear HB; have HO104 := n0_; have HO108 := n1_; have HO111 := n2_; have HB := n3_; clear n0_ n1_ n2_ n3_; (try clear hb); (try clear hb2); (try clear hk); (try clear hi); (try clear ho0); obtain ⟨Ao16, co16, eo16⟩ := Kd.R_slice HO111.out; subst eo16) | ((with_reducible refine gate_callee (f := 61) rfl ?_); refine goesL_ (some 33) rfl rfl Try.func61 (by kernel_rfl) rfl #[.slice Ao16 t109.length co16, .int .i64 a1] rfl (by (try simp only [List.map_toArray, List.map_cons, List.map_nil]); first | done | rfl | (simp only [List.length_drop, List.length_take]; rfl)) ?_; (with_reducible refine (impl_ChangedItems.calls k _ _ t109 a1 t112 t113 _ ?side1 ?side2 A9.out).mono ?_); (case side1 => repeat (first | exact (Kd.R_reads' HO111.out).2.2 | (with_reducible refine Kd.C_alloc ?_ _) | (with_reducible refine Kd.C_drewN ?_ _) | (with_reducible refine Kd.C_drew ?_))); (case side2 => exact (Kd.R_reads' HO111.out).2.1); rintro e w17 ⟨v114, rfl, ho0, hb⟩; refine ⟨_, rfl, ?_⟩; have n0_ := Aside0.mk (Kd.R_below (pR_ HO104.out) hb); have n1_ := Aside0.mk (Kd.R_elder' (pR_ HO108.out) (Kd.R_base ho0) hb); have n2_ := Aside0.mk (Kd.R_below (pR_ HO111.out) hb); have n3_ := Aside0.mk (Kd.R_lower (Kd.R_new' ho0 (Kd.R_lt (pR_ HO108.out))) (below_size (pH_ HB.out))); have n4_ := Aside0.mk (below_step (pH_ HB.out) hb); clear HO104; clear HO108; clear HO111; clear HB; have HO104 := n0_; have HO108 := n1_; have HO111 := n2_; have HO115 := n3_; have HB := n4_; clear n0_ n1_ n2_ n3_ n4_; (try clear hb); (try clear hb2); (try clear hk); (try clear hi); (try clear ho0)))
 (try simp only [Act.put, List.setIfInBounds_toArray, List.set_cons_zero, List.set_cons_succ])
 go_cut [44] (fun v44 wc => ∃ (kq : Nat) (x44_9 : Bool), v44 = .bool x44_9 ∧ Aside0 (laws_FnExactChangedItems.j0 kq l0 a1 t105 t106 t109 t112 t113 x44_9 = some r) ∧ Aside0 (kq ≤ k) ∧ Aside0 (Kd.R Kd.string 9 wc w.heap.size (fun k_ => some k_ ≠ (v114 : Value).ownBlock) v107 t105) ∧ Aside0 (Kd.R k70 70 wc w.heap.size (fun _ => True) (.slice Ao16 t109.length co16) t109) ∧ Aside0 (Kd.R Kd.string 9 wc w.heap.size (fun k_ => some k_ ≠ (v107 : Value).ownBlock) v114 t112) ∧ Aside0 (Below w.heap.size w wc))
 case first =>
  have H := HC10.out
  clear HC10
  replace H := Option.bind_eq_some_iff.mp H
  obtain ⟨t116, A180, H⟩ := H
  replace H : (if t116 = true then (laws_FnExactChangedItems.j0 k l0 a1 t105 t106 t109 t112 t113 (t113 != t106)) else (laws_FnExactChangedItems.j0 k l0 a1 t105 t106 t109 t112 t113 true)) = some r := H
  have A18 := Aside0.mk A180
  clear A180
  by_cases c19 : t116 = true
  ·subst c19
   have H1 : (laws_FnExactChangedItems.j0 k l0 a1 t105 t106 t109 t112 t113 (t113 != t106)) = some r := by rw [if_pos rfl] at H; exact H
   clear H
   have H := H1
   clear H1
   have H' := Aside0.mk H
   clear H
   obtain ⟨Ao20, co20, eo20⟩ := Kd.R_slice HO115.out
   subst eo20
   obtain ⟨Ao21, co21, eo21⟩ := Kd.R_slice HO108.out
   subst eo21
   go_wp2_with (first | ((with_reducible refine gate_callee (f := 52) rfl ?_); refine goesL_ (some 38) rfl rfl Try.func52 (by kernel_rfl) rfl #[.slice Ao20 t112.length co20, .slice Ao21 t105.length co21] rfl (by (try simp only [List.map_toArray, List.map_cons, List.map_nil]); first | done | rfl | (simp only [List.length_drop, List.length_take]; rfl)) ?_; (with_reducible refine (laws_eqStringS.calls k _ _ t112 _ _ t105 true _ ?side1 ?side2 ?side3 ?side4 A18.out).mono ?_); (case side1 => repeat (first | exact (Kd.R_reads' HO115.out).2.2 | (with_reducible refine Kd.C_alloc ?_ _) | (with_reducible refine Kd.C_drewN ?_ _) | (with_reducible refine Kd.C_drew ?_))); (case side2 => exact (Kd.R_reads' HO115.out).2.1); (case side3 => repeat (first | exact (Kd.R_reads' HO108.out).2.2 | (with_reducible refine Kd.C_alloc ?_ _) | (with_reducible refine Kd.C_drewN ?_ _) | (with_reducible refine Kd.C_drew ?_))); (case side4 => exact (Kd.R_reads' HO108.out).2.1); rintro e w' ⟨rfl, ⟨nd, rfl⟩⟩; refine ⟨_, rfl, ?_⟩))
   go_meet
   case rel => exact ⟨_, ((t113 != t106)), (by first | rfl | (simp; done) | (simp [*]; done) | (simp [beq_nil_, bne_nil_]; done)), H', ⟨by first | omega | exact Nat.le_refl _⟩, ⟨by (with_reducible repeat (first | apply Kd.R_alloc | apply Kd.R_drewN | apply Kd.R_drew)); exact Kd.R_mono HO108.out (fun _ hk => hk.2)⟩, ⟨by (with_reducible repeat (first | apply Kd.R_alloc | apply Kd.R_drewN | apply Kd.R_drew)); exact Kd.R_mono HO111.out (fun _ hk => trivial)⟩, ⟨by (with_reducible repeat (first | apply Kd.R_alloc | apply Kd.R_drewN | apply Kd.R_drew)); exact Kd.R_mono HO115.out (fun _ hk => hk.2)⟩, ⟨by repeat (first | (with_reducible first | exact HB.out | apply below_alloc | apply pw_below_drewN | apply below_drew1) | exact HB.out)⟩⟩
  replace c19 := Bool.eq_false_iff.mpr c19
  subst c19
  have H1 : (laws_FnExactChangedItems.j0 k l0 a1 t105 t106 t109 t112 t113 true) = some r := by rw [if_neg (show ¬ (false = true) by decide)] at H; exact H
  clear H
  have H := H1
  clear H1
  have H' := Aside0.mk H
  clear H
  obtain ⟨Ao22, co22, eo22⟩ := Kd.R_slice HO115.out
  subst eo22
  obtain ⟨Ao23, co23, eo23⟩ := Kd.R_slice HO108.out
  subst eo23
  go_wp2_with (first | ((with_reducible refine gate_callee (f := 52) rfl ?_); refine goesL_ (some 38) rfl rfl Try.func52 (by kernel_rfl) rfl #[.slice Ao22 t112.length co22, .slice Ao23 t105.length co23] rfl (by (try simp only [List.map_toArray, List.map_cons, List.map_nil]); first | done | rfl | (simp only [List.length_drop, List.length_take]; rfl)) ?_; (with_reducible refine (laws_eqStringS.calls k _ _ t112 _ _ t105 false _ ?side1 ?side2 ?side3 ?side4 A18.out).mono ?_); (case side1 => repeat (first | exact (Kd.R_reads' HO115.out).2.2 | (with_reducible refine Kd.C_alloc ?_ _) | (with_reducible refine Kd.C_drewN ?_ _) | (with_reducible refine Kd.C_drew ?_))); (case side2 => exact (Kd.R_reads' HO115.out).2.1); (case side3 => repeat (first | exact (Kd.R_reads' HO108.out).2.2 | (with_reducible refine Kd.C_alloc ?_ _) | (with_reducible refine Kd.C_drewN ?_ _) | (with_reducible refine Kd.C_drew ?_))); (case side4 => exact (Kd.R_reads' HO108.out).2.1); rintro e w' ⟨rfl, ⟨nd, rfl⟩⟩; refine ⟨_, rfl, ?_⟩))
  go_meet
  case rel => exact ⟨_, (true), (by first | rfl | (simp; done) | (simp [*]; done) | (simp [beq_nil_, bne_nil_]; done)), H', ⟨by first | omega | exact Nat.le_refl _⟩, ⟨by (with_reducible repeat (first | apply Kd.R_alloc | apply Kd.R_drewN | apply Kd.R_drew)); exact Kd.R_mono HO108.out (fun _ hk => hk.2)⟩, ⟨by (with_reducible repeat (first | apply Kd.R_alloc | apply Kd.R_drewN | apply Kd.R_drew)); exact Kd.R_mono HO111.out (fun _ hk => trivial)⟩, ⟨by (with_reducible repeat (first | apply Kd.R_alloc | apply Kd.R_drewN | apply Kd.R_drew)); exact Kd.R_mono HO115.out (fun _ hk => hk.2)⟩, ⟨by repeat (first | (with_reducible first | exact HB.out | apply below_alloc | apply pw_below_drewN | apply below_drew1) | exact HB.out)⟩⟩
 case rest =>
  clear HC10
  try clear c1
  try clear p2
  try clear c3
  try clear c4
  try clear c4b0
  try clear c5
  try clear c6
  try clear c12
  try clear c19
  obtain ⟨kq, x44_9, rfl, HA, HJ9, HO_6, HO_8, HO_9, HB⟩ := hcut
  cases kq with
  | zero => exact absurd HA.out (by simp [laws_FnExactChangedItems.j0])
  | succ kj9 =>
   have H := HA.out
   clear HA
   simp only [laws_FnExactChangedItems.j0] at H
   by_cases c24 : x44_9 = true
   ·subst c24
    have H1 : (some false) = some r := by rw [if_pos rfl] at H; exact H
    clear H
    have H := H1
    clear H1
    obtain rfl := Option.some.inj H
    go_wp2
    go_ret
    exact ⟨by first | rfl | (simp [errW_none, errW_some] <;> rfl) | (simp [*, errW_none, errW_some] <;> rfl), by repeat (first | (with_reducible first | exact HB.out | apply below_alloc | apply pw_below_drewN | apply below_drew1) | exact HB.out)⟩
   replace c24 := Bool.eq_false_iff.mpr c24
   subst c24
   have H1 : ((laws_toEntryS.f kj9 l0).bind fun t117 => ((laws_eqEntryS.f kj9 t109 t117).bind fun t120 => (if t120 = true then ((laws_markEntryS.f kj9 t109 1).bind fun bt121 => (if bt121.1 < 0 then (laws_FnExactChangedItems.j1 kj9 l0 a1 t105 t106 t112 true) else ((laws_eqStringS.f kj9 t112 t105).bind fun t123 => (if t123 = true then (laws_FnExactChangedItems.j1 kj9 l0 a1 t105 t106 t112 (t113 != t106)) else (laws_FnExactChangedItems.j1 kj9 l0 a1 t105 t106 t112 true))))) else (some false)))) = some r := by rw [if_neg (show ¬ (false = true) by decide)] at H; exact H
   clear H
   have H := H1
   clear H1
   replace H := Option.bind_eq_some_iff.mp H
   obtain ⟨t117, A250, H⟩ := H
   replace H : ((laws_eqEntryS.f kj9 t109 t117).bind fun t120 => (if t120 = true then ((laws_markEntryS.f kj9 t109 1).bind fun bt121 => (if bt121.1 < 0 then (laws_FnExactChangedItems.j1 kj9 l0 a1 t105 t106 t112 true) else ((laws_eqStringS.f kj9 t112 t105).bind fun t123 => (if t123 = true then (laws_FnExactChangedItems.j1 kj9 l0 a1 t105 t106 t112 (t113 != t106)) else (laws_FnExactChangedItems.j1 kj9 l0 a1 t105 t106 t112 true))))) else (some false))) = some r := H
   have A25 := Aside0.mk A250
   clear A250
   replace H := Option.bind_eq_some_iff.mp H
   obtain ⟨t120, A260, H⟩ := H
   replace H : (if t120 = true then ((laws_markEntryS.f kj9 t109 1).bind fun bt121 => (if bt121.1 < 0 then (laws_FnExactChangedItems.j1 kj9 l0 a1 t105 t106 t112 true) else ((laws_eqStringS.f kj9 t112 t105).bind fun t123 => (if t123 = true then (laws_FnExactChangedItems.j1 kj9 l0 a1 t105 t106 t112 (t113 != t106)) else (laws_FnExactChangedItems.j1 kj9 l0 a1 t105 t106 t112 true))))) else (some false)) = some r := H
   have A26 := Aside0.mk A260
   clear A260
   by_cases c27 : t120 = true
   ·subst c27
    have H1 : ((laws_markEntryS.f kj9 t109 1).bind fun bt121 => (if bt121.1 < 0 then (laws_FnExactChangedItems.j1 kj9 l0 a1 t105 t106 t112 true) else ((laws_eqStringS.f kj9 t112 t105).bind fun t123 => (if t123 = true then (laws_FnExactChangedItems.j1 kj9 l0 a1 t105 t106 t112 (t113 != t106)) else (laws_FnExactChangedItems.j1 kj9 l0 a1 t105 t106 t112 true))))) = some r := by rw [if_pos rfl] at H; exact H
    clear H
    have H := H1
    clear H1
    replace H := Option.bind_eq_some_iff.mp H
    obtain ⟨⟨t121, t122⟩, A280, H⟩ := H
    replace H : (if t121 < 0 then (laws_FnExactChangedItems.j1 kj9 l0 a1 t105 t106 t112 true) else ((laws_eqStringS.f kj9 t112 t105).bind fun t123 => (if t123 = true then (laws_FnExactChangedItems.j1 kj9 l0 a1 t105 t106 t112 (t113 != t106)) else (laws_FnExactChangedItems.j1 kj9 l0 a1 t105 t106 t112 true)))) = some r := H
    have A28 := Aside0.mk A280
    clear A280
    have HC29 := Aside0.mk H
    clear H
    go_upto_region 14 with (first | ((with_reducible refine gate_callee (f := 35) rfl ?_); refine goesL_ (some 47) rfl rfl Try.func35 (by kernel_rfl) rfl #[.slice A0 l0.length c0] rfl (by (try simp only [List.map_toArray, List.map_cons, List.map_nil]); first | done | rfl | (simp only [List.length_drop, List.length_take]; rfl)) ?_; (with_reducible refine (laws_toEntryS.calls kj9 _ _ l0 t117 _ ?side1 ?side2 A25.out).mono ?_); (case side1 => repeat (first | exact (Kd.C_below HR0.out HB.out) | (with_reducible refine Kd.C_alloc ?_ _) | (with_reducible refine Kd.C_drewN ?_ _) | (with_reducible refine Kd.C_drew ?_))); (case side2 => exact HC0.out); rintro e w30 ⟨v118, rfl, ho0, hb⟩; refine ⟨_, rfl, ?_⟩; have n0_ := Aside0.mk (Kd.R_below (pR_ HO_6.out) hb); have n1_ := Aside0.mk (Kd.R_elder' (pR_ HO_8.out) (Kd.R_base ho0) hb); have n2_ := Aside0.mk (Kd.R_below (pR_ HO_9.out) hb); have n3_ := Aside0.mk (Kd.R_lower (Kd.R_new' ho0 (Kd.R_lt (pR_ HO_8.out))) (below_size (pH_ HB.out))); have n4_ := Aside0.mk (below_step (pH_ HB.out) hb); clear HO_6; clear HO_8; clear HO_9; clear HB; have HO_6 := n0_; have HO_8 := n1_; have HO_9 := n2_; have HO119 := n3_; have HB := n4_; clear n0_ n1_ n2_ n3_ n4_; (try clear hb); (try clear hb2); (try clear hk); (try clear hi); (try clear ho0); obtain ⟨Ao31, co31, eo31⟩ := Kd.R_slice HO119.out; subst eo31) | ((with_reducible refine gate_callee (f := 37) rfl ?_); refine goesL_ (some 48) rfl rfl Try.func37 (by kernel_rfl) rfl #[.slice Ao16 t109.length co16, .slice Ao31 t117.length co31] rfl (by (try simp only [List.map_toArray, List.map_cons, List.map_nil]); first | done | rfl | (simp only [List.length_drop, List.length_take]; rfl)) ?_; (with_reducible refine (laws_eqEntryS.calls kj9 _ _ t109 _ _ t117 true _ ?side1 ?side2 ?side3 ?side4 A26.out).mono ?_); (case side1 => repeat (first | exact (Kd.R_reads' HO_8.out).2.2 | (with_reducible refine Kd.C_alloc ?_ _) | (with_reducible refine Kd.C_drewN ?_ _) | (with_reducible refine Kd.C_drew ?_))); (case side2 => exact (Kd.R_reads' HO_8.out).2.1); (case side3 => repeat (first | exact (Kd.R_reads' HO119.out).2.2 | (with_reducible refine Kd.C_alloc ?_ _) | (with_reducible refine Kd.C_drewN ?_ _) | (with_reducible refine Kd.C_drew ?_))); (case side4 => exact (Kd.R_reads' HO119.out).2.1); rintro e w32 ⟨rfl, hb⟩; refine ⟨_, rfl, ?_⟩; have n0_ := Aside0.mk (Kd.R_below (pR_ HO_6.out) hb); have n1_ := Aside0.mk (Kd.R_below (pR_ HO_8.out) hb); have n2_ := Aside0.mk (Kd.R_below (pR_ HO_9.out) hb); have n3_ := Aside0.mk (Kd.R_below (pR_ HO119.out) hb); have n4_ := Aside0.mk (below_step (pH_ HB.out) hb); clear HO_6; clear HO_8; clear HO_9; clear HO119; clear HB; have HO_6 := n0_; have HO_8 := n1_; have HO_9 := n2_; have HO119 := n3_; have HB := n4_; clear n0_ n1_ n2_ n3_ n4_; (try clear hb); (try clear hb2); (try clear hk); (try clear hi)) | ((with_reducible refine gate_callee (f := 42) rfl ?_); refine goesL_ (some 52) rfl rfl Try.func42 (by kernel_rfl) rfl #[.slice Ao16 t109.length co16, .int .i64 1] rfl (by (try simp only [List.map_toArray, List.map_cons, List.map_nil]); first | done | rfl | (simp only [List.length_drop, List.length_take]; rfl)) ?_; (with_reducible refine (laws_markEntryS.calls kj9 (fun k_ => some k_ = (.slice Ao16 t109.length co16 : Value).ownBlock) (.slice Ao16 t109.length co16) t109 1 t121 t122 w _ ?side1 ?side2 A28.out).mono ?_); (case side1 => repeat (first | (with_reducible first | exact HB.out | apply below_alloc | apply pw_below_drewN | apply below_drew1) | exact HB.out)); (case side2 => exact Kd.R_tight rfl HO_8.out); rintro e w33 ⟨rfl, hy0, hb, hkp⟩; refine ⟨_, rfl, ?_⟩; have n0_ := Aside0.mk (Kd.R_mono (ok' := fun k_ => some k_ ≠ (v114 : Value).ownBlock) (Kd.R_keptB ((Kd.R_apart' HO_6.out (Kd.R_typed HO_8.out) (by decide))) hkp (fun k_ hk_ hs_ => (hk_.2) hs_)) (fun k_ hk_ => hk_.1.1)); have n1_ := Aside0.mk (Kd.R_reok rfl hy0 (fun k_ e_ => HO_8.out.1 k_ e_)); have n2_ := Aside0.mk (Kd.R_mono (ok' := fun k_ => some k_ ≠ (v107 : Value).ownBlock) (Kd.R_keptB ((Kd.R_apart' HO_9.out (Kd.R_typed HO_8.out) (by decide))) hkp (fun k_ hk_ hs_ => (hk_.2) hs_)) (fun k_ hk_ => hk_.1.1)); have n3_ := Aside0.mk (Kd.R_mono (ok' := fun k_ => some k_ ≠ (.slice Ao16 t109.length co16 : Value).ownBlock) (Kd.R_keptB (HO119.out) hkp (fun k_ hk_ hs_ => (hk_.2) hs_)) (fun k_ hk_ => hk_.1.2)); have n4_ := Aside0.mk (hb); clear HO_6; clear HO_8; clear HO_9; clear HO119; clear HB; have HO_6 := n0_; have HO_8 := n1_; have HO_9 := n2_; have HO119 := n3_; have HB := n4_; clear n0_ n1_ n2_ n3_ n4_; (try clear hb); (try clear hkp); (try clear hy0)))
    (try simp only [Act.put, List.setIfInBounds_toArray, List.set_cons_zero, List.set_cons_succ])
    go_cut [65] (fun v65 wc => ∃ (kq : Nat) (x65_28 : Bool), v65 = .bool x65_28 ∧ Aside0 (laws_FnExactChangedItems.j1 kq l0 a1 t105 t106 t112 x65_28 = some r) ∧ Aside0 (kq ≤ kj9) ∧ Aside0 (Kd.R Kd.string 9 wc w.heap.size (fun k_ => some k_ ≠ (v114 : Value).ownBlock) v107 t105) ∧ Aside0 (Kd.R Kd.string 9 wc w.heap.size (fun k_ => some k_ ≠ (v107 : Value).ownBlock) v114 t112) ∧ Aside0 (Below w.heap.size w wc))
    case first =>
     have H := HC29.out
     clear HC29
     by_cases c34 : t121 < 0
     ·rw [if_pos c34] at H
      have c34b0 : decide (t121 < 0) = true := decide_eq_true c34
      clear c34
      (first | rw [c34b0] | (simp only [i64_w, i32_w]; rw [c34b0]) | skip)
      have H' := Aside0.mk H
      clear H
      go_wp2
      go_meet
      case rel => exact ⟨_, (true), (by first | rfl | (simp; done) | (simp [*]; done) | (simp [beq_nil_, bne_nil_]; done)), H', ⟨by have := HJ9.out; first | omega | exact Nat.le_refl _⟩, ⟨by (with_reducible repeat (first | apply Kd.R_alloc | apply Kd.R_drewN | apply Kd.R_drew)); exact HO_6.out⟩, ⟨by (with_reducible repeat (first | apply Kd.R_alloc | apply Kd.R_drewN | apply Kd.R_drew)); exact HO_9.out⟩, ⟨by repeat (first | (with_reducible first | exact HB.out | apply below_alloc | apply pw_below_drewN | apply below_drew1) | exact HB.out)⟩⟩
     rw [if_neg c34] at H
     have c34b0 : decide (t121 < 0) = false := decide_eq_false c34
     clear c34
     (first | rw [c34b0] | (simp only [i64_w, i32_w]; rw [c34b0]) | skip)
     replace H := Option.bind_eq_some_iff.mp H
     obtain ⟨t123, A350, H⟩ := H
     replace H : (if t123 = true then (laws_FnExactChangedItems.j1 kj9 l0 a1 t105 t106 t112 (t113 != t106)) else (laws_FnExactChangedItems.j1 kj9 l0 a1 t105 t106 t112 true)) = some r := H
     have A35 := Aside0.mk A350
     clear A350
     by_cases c36 : t123 = true
     ·subst c36
      have H1 : (laws_FnExactChangedItems.j1 kj9 l0 a1 t105 t106 t112 (t113 != t106)) = some r := by rw [if_pos rfl] at H; exact H
      clear H
      have H := H1
      clear H1
      have H' := Aside0.mk H
      clear H
      obtain ⟨Ao37, co37, eo37⟩ := Kd.R_slice HO_9.out
      subst eo37
      obtain ⟨Ao38, co38, eo38⟩ := Kd.R_slice HO_6.out
      subst eo38
      go_wp2_with (first | (go_at_call 52; (with_reducible refine (laws_eqStringS.calls kj9 _ _ t112 _ _ t105 true _ ?side1 ?side2 ?side3 ?side4 A35.out).mono ?_); (case side1 => repeat (first | exact (Kd.R_reads' HO_9.out).2.2 | (with_reducible refine Kd.C_alloc ?_ _) | (with_reducible refine Kd.C_drewN ?_ _) | (with_reducible refine Kd.C_drew ?_))); (case side2 => exact (Kd.R_reads' HO_9.out).2.1); (case side3 => repeat (first | exact (Kd.R_reads' HO_6.out).2.2 | (with_reducible refine Kd.C_alloc ?_ _) | (with_reducible refine Kd.C_drewN ?_ _) | (with_reducible refine Kd.C_drew ?_))); (case side4 => exact (Kd.R_reads' HO_6.out).2.1); rintro e w' ⟨rfl, ⟨nd, rfl⟩⟩))
      go_meet
      case rel => exact ⟨_, ((t113 != t106)), (by first | rfl | (simp; done) | (simp [*]; done) | (simp [beq_nil_, bne_nil_]; done)), H', ⟨by have := HJ9.out; first | omega | exact Nat.le_refl _⟩, ⟨by (with_reducible repeat (first | apply Kd.R_alloc | apply Kd.R_drewN | apply Kd.R_drew)); exact HO_6.out⟩, ⟨by (with_reducible repeat (first | apply Kd.R_alloc | apply Kd.R_drewN | apply Kd.R_drew)); exact HO_9.out⟩, ⟨by repeat (first | (with_reducible first | exact HB.out | apply below_alloc | apply pw_below_drewN | apply below_drew1) | exact HB.out)⟩⟩
     replace c36 := Bool.eq_false_iff.mpr c36
     subst c36
     have H1 : (laws_FnExactChangedItems.j1 kj9 l0 a1 t105 t106 t112 true) = some r := by rw [if_neg (show ¬ (false = true) by decide)] at H; exact H
     clear H
     have H := H1
     clear H1
     have H' := Aside0.mk H
     clear H
     obtain ⟨Ao39, co39, eo39⟩ := Kd.R_slice HO_9.out
     subst eo39
     obtain ⟨Ao40, co40, eo40⟩ := Kd.R_slice HO_6.out
     subst eo40
     go_wp2_with (first | (go_at_call 52; (with_reducible refine (laws_eqStringS.calls kj9 _ _ t112 _ _ t105 false _ ?side1 ?side2 ?side3 ?side4 A35.out).mono ?_); (case side1 => repeat (first | exact (Kd.R_reads' HO_9.out).2.2 | (with_reducible refine Kd.C_alloc ?_ _) | (with_reducible refine Kd.C_drewN ?_ _) | (with_reducible refine Kd.C_drew ?_))); (case side2 => exact (Kd.R_reads' HO_9.out).2.1); (case side3 => repeat (first | exact (Kd.R_reads' HO_6.out).2.2 | (with_reducible refine Kd.C_alloc ?_ _) | (with_reducible refine Kd.C_drewN ?_ _) | (with_reducible refine Kd.C_drew ?_))); (case side4 => exact (Kd.R_reads' HO_6.out).2.1); rintro e w' ⟨rfl, ⟨nd, rfl⟩⟩))
     go_meet
     case rel => exact ⟨_, (true), (by first | rfl | (simp; done) | (simp [*]; done) | (simp [beq_nil_, bne_nil_]; done)), H', ⟨by have := HJ9.out; first | omega | exact Nat.le_refl _⟩, ⟨by (with_reducible repeat (first | apply Kd.R_alloc | apply Kd.R_drewN | apply Kd.R_drew)); exact HO_6.out⟩, ⟨by (with_reducible repeat (first | apply Kd.R_alloc | apply Kd.R_drewN | apply Kd.R_drew)); exact HO_9.out⟩, ⟨by repeat (first | (with_reducible first | exact HB.out | apply below_alloc | apply pw_below_drewN | apply below_drew1) | exact HB.out)⟩⟩
    case rest =>
     clear HC29
     try clear c1
     try clear c2
     try clear p2
     try clear c3
     try clear c4
     try clear c4b0
     try clear c5
     try clear c6
     try clear c12
     try clear c19
     try clear c24
     try clear c27
     try clear c33
     try clear c34
     try clear c34b0
     try clear c35
     try clear c36
     try clear c37
     try clear p2
     obtain ⟨kq, x65_28, rfl, HA, HJ28, HO_6, HO_9, HB⟩ := hcut
     cases kq with
     | zero => exact absurd HA.out (by simp [laws_FnExactChangedItems.j1])
     | succ kj28 =>
      have H := HA.out
      clear HA
      simp only [laws_FnExactChangedItems.j1] at H
      by_cases c41 : x65_28 = true
      ·subst c41
       have H1 : (some false) = some r := by rw [if_pos rfl] at H; exact H
       clear H
       have H := H1
       clear H1
       obtain rfl := Option.some.inj H
       go_wp2
       go_ret
       exact ⟨by first | rfl | (simp [errW_none, errW_some] <;> rfl) | (simp [*, errW_none, errW_some] <;> rfl), by repeat (first | (with_reducible first | exact HB.out | apply below_alloc | apply pw_below_drewN | apply below_drew1) | exact HB.out)⟩
      replace c41 := Bool.eq_false_iff.mpr c41
      subst c41
      have H1 : ((laws_markStringS.f kj28 t112 1).bind fun bt124 => ((laws_heldStringS.f kj28 bt124.2 1).bind fun t126 => (if t126 < 0 then (some false) else (if t126 = bt124.1 then ((laws_toEntryS.f kj28 l0).bind fun t127 => ((impl_ChangedItems.f kj28 t127 a1).bind fun bt130 => ((laws_eqStringS.f kj28 bt130.1 t105).bind fun t134 => (if t134 = true then (laws_FnExactChangedItems.j2 kj28 bt124.2 bt124.1 (bt130.2 != t106)) else (laws_FnExactChangedItems.j2 kj28 bt124.2 bt124.1 true))))) else (some false))))) = some r := by rw [if_neg (show ¬ (false = true) by decide)] at H; exact H
      clear H
      have H := H1
      clear H1
      replace H := Option.bind_eq_some_iff.mp H
      obtain ⟨⟨t124, t125⟩, A420, H⟩ := H
      replace H : ((laws_heldStringS.f kj28 t125 1).bind fun t126 => (if t126 < 0 then (some false) else (if t126 = t124 then ((laws_toEntryS.f kj28 l0).bind fun t127 => ((impl_ChangedItems.f kj28 t127 a1).bind fun bt130 => ((laws_eqStringS.f kj28 bt130.1 t105).bind fun t134 => (if t134 = true then (laws_FnExactChangedItems.j2 kj28 t125 t124 (bt130.2 != t106)) else (laws_FnExactChangedItems.j2 kj28 t125 t124 true))))) else (some false)))) = some r := H
      have A42 := Aside0.mk A420
      clear A420
      replace H := Option.bind_eq_some_iff.mp H
      obtain ⟨t126, A430, H⟩ := H
      replace H : (if t126 < 0 then (some false) else (if t126 = t124 then ((laws_toEntryS.f kj28 l0).bind fun t127 => ((impl_ChangedItems.f kj28 t127 a1).bind fun bt130 => ((laws_eqStringS.f kj28 bt130.1 t105).bind fun t134 => (if t134 = true then (laws_FnExactChangedItems.j2 kj28 t125 t124 (bt130.2 != t106)) else (laws_FnExactChangedItems.j2 kj28 t125 t124 true))))) else (some false))) = some r := H
      have A43 := Aside0.mk A430
      clear A430
      by_cases c44 : t126 < 0
      ·rw [if_pos c44] at H
       have c44b0 : decide (t126 < 0) = true := decide_eq_true c44
       clear c44
       obtain rfl := Option.some.inj H
       obtain ⟨Ao45, co45, eo45⟩ := Kd.R_slice HO_9.out
       subst eo45
       go_wp2_with (first | ((with_reducible refine gate_callee (f := 53) rfl ?_); refine goesL_ (some 68) rfl rfl Try.func53 (by kernel_rfl) rfl #[.slice Ao45 t112.length co45, .int .i64 1] rfl (by (try simp only [List.map_toArray, List.map_cons, List.map_nil]); first | done | rfl | (simp only [List.length_drop, List.length_take]; rfl)) ?_; (with_reducible refine (laws_markStringS.calls kj28 (fun k_ => some k_ = (.slice Ao45 t112.length co45 : Value).ownBlock) (.slice Ao45 t112.length co45) t112 1 t124 t125 w _ ?side1 ?side2 A42.out).mono ?_); (case side1 => repeat (first | (with_reducible first | exact HB.out | apply below_alloc | apply pw_below_drewN | apply below_drew1) | exact HB.out)); (case side2 => exact Kd.R_tight rfl HO_9.out); rintro e w46 ⟨rfl, hy0, hb, hkp⟩; refine ⟨_, rfl, ?_⟩; have n0_ := Aside0.mk (Kd.R_mono (ok' := fun k_ => some k_ ≠ (.slice Ao45 t112.length co45 : Value).ownBlock) (Kd.R_keptB (HO_6.out) hkp (fun k_ hk_ hs_ => (hk_) hs_)) (fun k_ hk_ => hk_.1)); have n1_ := Aside0.mk (Kd.R_reok rfl hy0 (fun k_ e_ => HO_9.out.1 k_ e_)); have n2_ := Aside0.mk (hb); clear HO_6; clear HO_9; clear HB; have HO_6 := n0_; have HO_9 := n1_; have HB := n2_; clear n0_ n1_ n2_; (try clear hb); (try clear hkp); (try clear hy0)) | ((with_reducible refine gate_callee (f := 54) rfl ?_); refine goesL_ (some 71) rfl rfl Try.func54 (by kernel_rfl) rfl #[.slice Ao45 t125.length co45, .int .i64 1] rfl (by (try simp only [List.map_toArray, List.map_cons, List.map_nil]); first | done | (rw [show t125.length = t112.length from (Kd.R_reads' HO_9.out).1.symm] <;> rfl) | rfl | (simp only [List.length_drop, List.length_take]; rfl)) ?_; (with_reducible refine (laws_heldStringS.calls kj28 _ _ t125 1 t126 _ ?side1 ?side2 A43.out).mono ?_); (case side1 => repeat (first | exact (Kd.R_reads' HO_9.out).2.2 | (with_reducible refine Kd.C_alloc ?_ _) | (with_reducible refine Kd.C_drewN ?_ _) | (with_reducible refine Kd.C_drew ?_))); (case side2 => rw [show t125.length = t112.length from (Kd.R_reads' HO_9.out).1.symm]; exact (Kd.R_reads' HO_9.out).2.1); rintro e w47 ⟨rfl, hb⟩; refine ⟨_, rfl, ?_⟩; have n0_ := Aside0.mk (Kd.R_below (pR_ HO_6.out) hb); have n1_ := Aside0.mk (Kd.R_below (pR_ HO_9.out) hb); have n2_ := Aside0.mk (below_step (pH_ HB.out) hb); clear HO_6; clear HO_9; clear HB; have HO_6 := n0_; have HO_9 := n1_; have HB := n2_; clear n0_ n1_ n2_; (try clear hb); (try clear hb2); (try clear hk); (try clear hi)))
       go_ret
       exact ⟨by first | rfl | (simp [errW_none, errW_some] <;> rfl) | (simp [*, errW_none, errW_some] <;> rfl), by repeat (first | (with_reducible first | exact HB.out | apply below_alloc | apply pw_below_drewN | apply below_drew1) | exact HB.out)⟩
      rw [if_neg c44] at H
      have c44b0 : decide (t126 < 0) = false := decide_eq_false c44
      clear c44
      by_cases c48 : t126 = t124
      ·rw [if_pos c48] at H
       have c48b0 : (t126 == t124) = true := beq_iff_eq.mpr c48
       have c48b1 : (t126 != t124) = false := bne_eq_false_iff_eq.mpr c48
       clear c48
       replace H := Option.bind_eq_some_iff.mp H
       obtain ⟨t127, A490, H⟩ := H
       replace H : ((impl_ChangedItems.f kj28 t127 a1).bind fun bt130 => ((laws_eqStringS.f kj28 bt130.1 t105).bind fun t134 => (if t134 = true then (laws_FnExactChangedItems.j2 kj28 t125 t124 (bt130.2 != t106)) else (laws_FnExactChangedItems.j2 kj28 t125 t124 true)))) = some r := H
       have A49 := Aside0.mk A490
       clear A490
       replace H := Option.bind_eq_some_iff.mp H
       obtain ⟨⟨t130, t131⟩, A500, H⟩ := H
       replace H : ((laws_eqStringS.f kj28 t130 t105).bind fun t134 => (if t134 = true then (laws_FnExactChangedItems.j2 kj28 t125 t124 (t131 != t106)) else (laws_FnExactChangedItems.j2 kj28 t125 t124 true))) = some r := H
       have A50 := Aside0.mk A500
       clear A500
       have HC51 := Aside0.mk H
       clear H
       obtain ⟨Ao52, co52, eo52⟩ := Kd.R_slice HO_9.out
       subst eo52
       go_upto_region 25 with (first | ((with_reducible refine gate_callee (f := 53) rfl ?_); refine goesL_ (some 68) rfl rfl Try.func53 (by kernel_rfl) rfl #[.slice Ao52 t112.length co52, .int .i64 1] rfl (by (try simp only [List.map_toArray, List.map_cons, List.map_nil]); first | done | rfl | (simp only [List.length_drop, List.length_take]; rfl)) ?_; (with_reducible refine (laws_markStringS.calls kj28 (fun k_ => some k_ = (.slice Ao52 t112.length co52 : Value).ownBlock) (.slice Ao52 t112.length co52) t112 1 t124 t125 w _ ?side1 ?side2 A42.out).mono ?_); (case side1 => repeat (first | (with_reducible first | exact HB.out | apply below_alloc | apply pw_below_drewN | apply below_drew1) | exact HB.out)); (case side2 => exact Kd.R_tight rfl HO_9.out); rintro e w53 ⟨rfl, hy0, hb, hkp⟩; refine ⟨_, rfl, ?_⟩; have n0_ := Aside0.mk (Kd.R_mono (ok' := fun k_ => some k_ ≠ (.slice Ao52 t112.length co52 : Value).ownBlock) (Kd.R_keptB (HO_6.out) hkp (fun k_ hk_ hs_ => (hk_) hs_)) (fun k_ hk_ => hk_.1)); have n1_ := Aside0.mk (Kd.R_reok rfl hy0 (fun k_ e_ => HO_9.out.1 k_ e_)); have n2_ := Aside0.mk (hb); clear HO_6; clear HO_9; clear HB; have HO_6 := n0_; have HO_9 := n1_; have HB := n2_; clear n0_ n1_ n2_; (try clear hb); (try clear hkp); (try clear hy0)) | ((with_reducible refine gate_callee (f := 54) rfl ?_); refine goesL_ (some 71) rfl rfl Try.func54 (by kernel_rfl) rfl #[.slice Ao52 t125.length co52, .int .i64 1] rfl (by (try simp only [List.map_toArray, List.map_cons, List.map_nil]); first | done | (rw [show t125.length = t112.length from (Kd.R_reads' HO_9.out).1.symm] <;> rfl) | rfl | (simp only [List.length_drop, List.length_take]; rfl)) ?_; (with_reducible refine (laws_heldStringS.calls kj28 _ _ t125 1 t126 _ ?side1 ?side2 A43.out).mono ?_); (case side1 => repeat (first | exact (Kd.R_reads' HO_9.out).2.2 | (with_reducible refine Kd.C_alloc ?_ _) | (with_reducible refine Kd.C_drewN ?_ _) | (with_reducible refine Kd.C_drew ?_))); (case side2 => rw [show t125.length = t112.length from (Kd.R_reads' HO_9.out).1.symm]; exact (Kd.R_reads' HO_9.out).2.1); rintro e w54 ⟨rfl, hb⟩; refine ⟨_, rfl, ?_⟩; have n0_ := Aside0.mk (Kd.R_below (pR_ HO_6.out) hb); have n1_ := Aside0.mk (Kd.R_below (pR_ HO_9.out) hb); have n2_ := Aside0.mk (below_step (pH_ HB.out) hb); clear HO_6; clear HO_9; clear HB; have HO_6 := n0_; have HO_9 := n1_; have HB := n2_; clear n0_ n1_ n2_; (try clear hb); (try clear hb2); (try clear hk); (try clear hi)) | ((with_reducible refine gate_callee (f := 35) rfl ?_); refine goesL_ (some 79) rfl rfl Try.func35 (by kernel_rfl) rfl #[.slice A0 l0.length c0] rfl (by (try simp only [List.map_toArray, List.map_cons, List.map_nil]); first | done | rfl | (simp only [List.length_drop, List.length_take]; rfl)) ?_; (with_reducible refine (laws_toEntryS.calls kj28 _ _ l0 t127 _ ?side1 ?side2 A49.out).mono ?_); (case side1 => repeat (first | exact (Kd.C_below HR0.out HB.out) | (with_reducible refine Kd.C_alloc ?_ _) | (with_reducible refine Kd.C_drewN ?_ _) | (with_reducible refine Kd.C_drew ?_))); (case side2 => exact HC0.out); rintro e w55 ⟨v128, rfl, ho0, hb⟩; refine ⟨_, rfl, ?_⟩; have n0_ := Aside0.mk (Kd.R_below (pR_ HO_6.out) hb); have n1_ := Aside0.mk (Kd.R_below (pR_ HO_9.out) hb); have n2_ := Aside0.mk (Kd.R_lower ho0 (below_size (pH_ HB.out))); have n3_ := Aside0.mk (below_step (pH_ HB.out) hb); clear HO_6; clear HO_9; clear HB; have HO_6 := n0_; have HO_9 := n1_; have HO129 := n2_; have HB := n3_; clear n0_ n1_ n2_ n3_; (try clear hb); (try clear hb2); (try clear hk); (try clear hi); (try clear ho0); obtain ⟨Ao56, co56, eo56⟩ := Kd.R_slice HO129.out; subst eo56) | ((with_reducible refine gate_callee (f := 61) rfl ?_); refine goesL_ (some 81) rfl rfl Try.func61 (by kernel_rfl) rfl #[.slice Ao56 t127.length co56, .int .i64 a1] rfl (by (try simp only [List.map_toArray, List.map_cons, List.map_nil]); first | done | rfl | (simp only [List.length_drop, List.length_take]; rfl)) ?_; (with_reducible refine (impl_ChangedItems.calls kj28 _ _ t127 a1 t130 t131 _ ?side1 ?side2 A50.out).mono ?_); (case side1 => repeat (first | exact (Kd.R_reads' HO129.out).2.2 | (with_reducible refine Kd.C_alloc ?_ _) | (with_reducible refine Kd.C_drewN ?_ _) | (with_reducible refine Kd.C_drew ?_))); (case side2 => exact (Kd.R_reads' HO129.out).2.1); rintro e w57 ⟨v132, rfl, ho0, hb⟩; refine ⟨_, rfl, ?_⟩; have n0_ := Aside0.mk (Kd.R_elder' (pR_ HO_6.out) (Kd.R_base ho0) hb); have n1_ := Aside0.mk (Kd.R_elder' (pR_ HO_9.out) (Kd.R_base ho0) hb); have n2_ := Aside0.mk (Kd.R_below (pR_ HO129.out) hb); have n3_ := Aside0.mk (Kd.R_lower (Kd.R_new' (Kd.R_new' ho0 (Kd.R_lt (pR_ HO_6.out))) (Kd.R_lt (pR_ HO_9.out))) (below_size (pH_ HB.out))); have n4_ := Aside0.mk (below_step (pH_ HB.out) hb); clear HO_6; clear HO_9; clear HO129; clear HB; have HO_6 := n0_; have HO_9 := n1_; have HO129 := n2_; have HO133 := n3_; have HB := n4_; clear n0_ n1_ n2_ n3_ n4_; (try clear hb); (try clear hb2); (try clear hk); (try clear hi); (try clear ho0)))
       (try simp only [Act.put, List.setIfInBounds_toArray, List.set_cons_zero, List.set_cons_succ])
       go_cut [92] (fun v92 wc => ∃ (kq : Nat) (x92_50 : Bool), v92 = .bool x92_50 ∧ Aside0 (laws_FnExactChangedItems.j2 kq t125 t124 x92_50 = some r) ∧ Aside0 (kq ≤ kj28) ∧ Aside0 (Kd.R Kd.string 9 wc w.heap.size (fun _ => True) (.slice Ao52 t112.length co52) t125) ∧ Aside0 (Below w.heap.size w wc))
       case first =>
        have H := HC51.out
        clear HC51
        replace H := Option.bind_eq_some_iff.mp H
        obtain ⟨t134, A580, H⟩ := H
        replace H : (if t134 = true then (laws_FnExactChangedItems.j2 kj28 t125 t124 (t131 != t106)) else (laws_FnExactChangedItems.j2 kj28 t125 t124 true)) = some r := H
        have A58 := Aside0.mk A580
        clear A580
        by_cases c59 : t134 = true
        ·subst c59
         have H1 : (laws_FnExactChangedItems.j2 kj28 t125 t124 (t131 != t106)) = some r := by rw [if_pos rfl] at H; exact H
         clear H
         have H := H1
         clear H1
         have H' := Aside0.mk H
         clear H
         obtain ⟨Ao60, co60, eo60⟩ := Kd.R_slice HO133.out
         subst eo60
         obtain ⟨Ao61, co61, eo61⟩ := Kd.R_slice HO_6.out
         subst eo61
         go_wp2_with (first | ((with_reducible refine gate_callee (f := 52) rfl ?_); refine goesL_ (some 86) rfl rfl Try.func52 (by kernel_rfl) rfl #[.slice Ao60 t130.length co60, .slice Ao61 t105.length co61] rfl (by (try simp only [List.map_toArray, List.map_cons, List.map_nil]); first | done | rfl | (simp only [List.length_drop, List.length_take]; rfl)) ?_; (with_reducible refine (laws_eqStringS.calls kj28 _ _ t130 _ _ t105 true _ ?side1 ?side2 ?side3 ?side4 A58.out).mono ?_); (case side1 => repeat (first | exact (Kd.R_reads' HO133.out).2.2 | (with_reducible refine Kd.C_alloc ?_ _) | (with_reducible refine Kd.C_drewN ?_ _) | (with_reducible refine Kd.C_drew ?_))); (case side2 => exact (Kd.R_reads' HO133.out).2.1); (case side3 => repeat (first | exact (Kd.R_reads' HO_6.out).2.2 | (with_reducible refine Kd.C_alloc ?_ _) | (with_reducible refine Kd.C_drewN ?_ _) | (with_reducible refine Kd.C_drew ?_))); (case side4 => exact (Kd.R_reads' HO_6.out).2.1); rintro e w' ⟨rfl, ⟨nd, rfl⟩⟩; refine ⟨_, rfl, ?_⟩))
         go_meet
         case rel => exact ⟨_, ((t131 != t106)), (by first | rfl | (simp; done) | (simp [*]; done) | (simp [beq_nil_, bne_nil_]; done)), H', ⟨by have := HJ9.out; have := HJ28.out; first | omega | exact Nat.le_refl _⟩, ⟨by (with_reducible repeat (first | apply Kd.R_alloc | apply Kd.R_drewN | apply Kd.R_drew)); exact Kd.R_mono HO_9.out (fun _ hk => trivial)⟩, ⟨by repeat (first | (with_reducible first | exact HB.out | apply below_alloc | apply pw_below_drewN | apply below_drew1) | exact HB.out)⟩⟩
        replace c59 := Bool.eq_false_iff.mpr c59
        subst c59
        have H1 : (laws_FnExactChangedItems.j2 kj28 t125 t124 true) = some r := by rw [if_neg (show ¬ (false = true) by decide)] at H; exact H
        clear H
        have H := H1
        clear H1
        have H' := Aside0.mk H
        clear H
        obtain ⟨Ao62, co62, eo62⟩ := Kd.R_slice HO133.out
        subst eo62
        obtain ⟨Ao63, co63, eo63⟩ := Kd.R_slice HO_6.out
        subst eo63
        go_wp2_with (first | ((with_reducible refine gate_callee (f := 52) rfl ?_); refine goesL_ (some 86) rfl rfl Try.func52 (by kernel_rfl) rfl #[.slice Ao62 t130.length co62, .slice Ao63 t105.length co63] rfl (by (try simp only [List.map_toArray, List.map_cons, List.map_nil]); first | done | rfl | (simp only [List.length_drop, List.length_take]; rfl)) ?_; (with_reducible refine (laws_eqStringS.calls kj28 _ _ t130 _ _ t105 false _ ?side1 ?side2 ?side3 ?side4 A58.out).mono ?_); (case side1 => repeat (first | exact (Kd.R_reads' HO133.out).2.2 | (with_reducible refine Kd.C_alloc ?_ _) | (with_reducible refine Kd.C_drewN ?_ _) | (with_reducible refine Kd.C_drew ?_))); (case side2 => exact (Kd.R_reads' HO133.out).2.1); (case side3 => repeat (first | exact (Kd.R_reads' HO_6.out).2.2 | (with_reducible refine Kd.C_alloc ?_ _) | (with_reducible refine Kd.C_drewN ?_ _) | (with_reducible refine Kd.C_drew ?_))); (case side4 => exact (Kd.R_reads' HO_6.out).2.1); rintro e w' ⟨rfl, ⟨nd, rfl⟩⟩; refine ⟨_, rfl, ?_⟩))
        go_meet
        case rel => exact ⟨_, (true), (by first | rfl | (simp; done) | (simp [*]; done) | (simp [beq_nil_, bne_nil_]; done)), H', ⟨by have := HJ9.out; have := HJ28.out; first | omega | exact Nat.le_refl _⟩, ⟨by (with_reducible repeat (first | apply Kd.R_alloc | apply Kd.R_drewN | apply Kd.R_drew)); exact Kd.R_mono HO_9.out (fun _ hk => trivial)⟩, ⟨by repeat (first | (with_reducible first | exact HB.out | apply below_alloc | apply pw_below_drewN | apply below_drew1) | exact HB.out)⟩⟩
       case rest =>
        clear HC51
        try clear c1
        try clear c2
        try clear p2
        try clear c3
        try clear c4
        try clear c4b0
        try clear c5
        try clear c6
        try clear c12
        try clear c19
        try clear c24
        try clear c27
        try clear c33
        try clear c34
        try clear c34b0
        try clear c35
        try clear c36
        try clear c37
        try clear c41
        try clear c42
        try clear c44
        try clear c44b0
        try clear c48
        try clear c48b0
        try clear c48b1
        try clear c52
        try clear c53
        try clear c54
        try clear c59
        try clear c60
        try clear c61
        try clear p2
        obtain ⟨kq, x92_50, rfl, HA, HJ50, HO_9, HB⟩ := hcut
        have hl9_50 := (Kd.R_reads' HO_9.out).1
        rw [hl9_50] at HO_9
        (try simp only [hl9_50])
        cases kq with
        | zero => exact absurd HA.out (by simp [laws_FnExactChangedItems.j2])
        | succ kj50 =>
         have H := HA.out
         clear HA
         simp only [laws_FnExactChangedItems.j2] at H
         by_cases c64 : x92_50 = true
         ·subst c64
          have H1 : (some false) = some r := by rw [if_pos rfl] at H; exact H
          clear H
          have H := H1
          clear H1
          obtain rfl := Option.some.inj H
          go_wp2
          go_ret
          exact ⟨by first | rfl | (simp [errW_none, errW_some] <;> rfl) | (simp [*, errW_none, errW_some] <;> rfl), by repeat (first | (with_reducible first | exact HB.out | apply below_alloc | apply pw_below_drewN | apply below_drew1) | exact HB.out)⟩
         replace c64 := Bool.eq_false_iff.mpr c64
         subst c64
         have H1 : ((laws_heldStringS.f kj50 t125 1).bind fun t135 => (if t135 < 0 then (some false) else (if t135 = t124 then (some true) else (some false)))) = some r := by rw [if_neg (show ¬ (false = true) by decide)] at H; exact H
         clear H
         have H := H1
         clear H1
         replace H := Option.bind_eq_some_iff.mp H
         obtain ⟨t135, A650, H⟩ := H
         replace H : (if t135 < 0 then (some false) else (if t135 = t124 then (some true) else (some false))) = some r := H
         have A65 := Aside0.mk A650
         clear A650
         by_cases c66 : t135 < 0
         ·rw [if_pos c66] at H
          have c66b0 : decide (t135 < 0) = true := decide_eq_true c66
          clear c66
          obtain rfl := Option.some.inj H
          go_wp2_with (first | ((with_reducible refine gate_callee (f := 54) rfl ?_); refine goesL_ (some 95) rfl rfl Try.func54 (by kernel_rfl) rfl #[.slice Ao52 t125.length co52, .int .i64 1] rfl (by (try simp only [List.map_toArray, List.map_cons, List.map_nil]); first | done | rfl | (simp only [List.length_drop, List.length_take]; rfl)) ?_; (with_reducible refine (laws_heldStringS.calls kj50 _ _ t125 1 t135 _ ?side1 ?side2 A65.out).mono ?_); (case side1 => repeat (first | exact (Kd.R_reads' HO_9.out).2.2 | (with_reducible refine Kd.C_alloc ?_ _) | (with_reducible refine Kd.C_drewN ?_ _) | (with_reducible refine Kd.C_drew ?_))); (case side2 => exact (Kd.R_reads' HO_9.out).2.1); rintro e w67 ⟨rfl, hb⟩; refine ⟨_, rfl, ?_⟩; have n0_ := Aside0.mk (Kd.R_below (pR_ HO_9.out) hb); have n1_ := Aside0.mk (below_step (pH_ HB.out) hb); clear HO_9; clear HB; have HO_9 := n0_; have HB := n1_; clear n0_ n1_; (try clear hb); (try clear hb2); (try clear hk); (try clear hi)))
          go_ret
          exact ⟨by first | rfl | (simp [errW_none, errW_some] <;> rfl) | (simp [*, errW_none, errW_some] <;> rfl), by repeat (first | (with_reducible first | exact HB.out | apply below_alloc | apply pw_below_drewN | apply below_drew1) | exact HB.out)⟩
         rw [if_neg c66] at H
         have c66b0 : decide (t135 < 0) = false := decide_eq_false c66
         clear c66
         by_cases c68 : t135 = t124
         ·rw [if_pos c68] at H
          have c68b0 : (t135 == t124) = true := beq_iff_eq.mpr c68
          have c68b1 : (t135 != t124) = false := bne_eq_false_iff_eq.mpr c68
          clear c68
          obtain rfl := Option.some.inj H
          go_wp2_with (first | ((with_reducible refine gate_callee (f := 54) rfl ?_); refine goesL_ (some 95) rfl rfl Try.func54 (by kernel_rfl) rfl #[.slice Ao52 t125.length co52, .int .i64 1] rfl (by (try simp only [List.map_toArray, List.map_cons, List.map_nil]); first | done | rfl | (simp only [List.length_drop, List.length_take]; rfl)) ?_; (with_reducible refine (laws_heldStringS.calls kj50 _ _ t125 1 t135 _ ?side1 ?side2 A65.out).mono ?_); (case side1 => repeat (first | exact (Kd.R_reads' HO_9.out).2.2 | (with_reducible refine Kd.C_alloc ?_ _) | (with_reducible refine Kd.C_drewN ?_ _) | (with_reducible refine Kd.C_drew ?_))); (case side2 => exact (Kd.R_reads' HO_9.out).2.1); rintro e w69 ⟨rfl, hb⟩; refine ⟨_, rfl, ?_⟩; have n0_ := Aside0.mk (Kd.R_below (pR_ HO_9.out) hb); have n1_ := Aside0.mk (below_step (pH_ HB.out) hb); clear HO_9; clear HB; have HO_9 := n0_; have HB := n1_; clear n0_ n1_; (try clear hb); (try clear hb2); (try clear hk); (try clear hi)))
          go_ret
          exact ⟨by first | rfl | (simp [errW_none, errW_some] <;> rfl) | (simp [*, errW_none, errW_some] <;> rfl), by repeat (first | (with_reducible first | exact HB.out | apply below_alloc | apply pw_below_drewN | apply below_drew1) | exact HB.out)⟩
         rw [if_neg c68] at H
         have c68b0 : (t135 == t124) = false := beq_eq_false_iff_ne.mpr c68
         have c68b1 : (t135 != t124) = true := bne_iff_ne.mpr c68
         obtain rfl := Option.some.inj H
         go_wp2_with (first | ((with_reducible refine gate_callee (f := 54) rfl ?_); refine goesL_ (some 95) rfl rfl Try.func54 (by kernel_rfl) rfl #[.slice Ao52 t125.length co52, .int .i64 1] rfl (by (try simp only [List.map_toArray, List.map_cons, List.map_nil]); first | done | rfl | (simp only [List.length_drop, List.length_take]; rfl)) ?_; (with_reducible refine (laws_heldStringS.calls kj50 _ _ t125 1 t135 _ ?side1 ?side2 A65.out).mono ?_); (case side1 => repeat (first | exact (Kd.R_reads' HO_9.out).2.2 | (with_reducible refine Kd.C_alloc ?_ _) | (with_reducible refine Kd.C_drewN ?_ _) | (with_reducible refine Kd.C_drew ?_))); (case side2 => exact (Kd.R_reads' HO_9.out).2.1); rintro e w70 ⟨rfl, hb⟩; refine ⟨_, rfl, ?_⟩; have n0_ := Aside0.mk (Kd.R_below (pR_ HO_9.out) hb); have n1_ := Aside0.mk (below_step (pH_ HB.out) hb); clear HO_9; clear HB; have HO_9 := n0_; have HB := n1_; clear n0_ n1_; (try clear hb); (try clear hb2); (try clear hk); (try clear hi)))
         go_ret
         exact ⟨by first | rfl | (simp [errW_none, errW_some] <;> rfl) | (simp [*, errW_none, errW_some] <;> rfl), by repeat (first | (with_reducible first | exact HB.out | apply below_alloc | apply pw_below_drewN | apply below_drew1) | exact HB.out)⟩
      rw [if_neg c48] at H
      have c48b0 : (t126 == t124) = false := beq_eq_false_iff_ne.mpr c48
      have c48b1 : (t126 != t124) = true := bne_iff_ne.mpr c48
      obtain rfl := Option.some.inj H
      obtain ⟨Ao71, co71, eo71⟩ := Kd.R_slice HO_9.out
      subst eo71
      go_wp2_with (first | ((with_reducible refine gate_callee (f := 53) rfl ?_); refine goesL_ (some 68) rfl rfl Try.func53 (by kernel_rfl) rfl #[.slice Ao71 t112.length co71, .int .i64 1] rfl (by (try simp only [List.map_toArray, List.map_cons, List.map_nil]); first | done | rfl | (simp only [List.length_drop, List.length_take]; rfl)) ?_; (with_reducible refine (laws_markStringS.calls kj28 (fun k_ => some k_ = (.slice Ao71 t112.length co71 : Value).ownBlock) (.slice Ao71 t112.length co71) t112 1 t124 t125 w _ ?side1 ?side2 A42.out).mono ?_); (case side1 => repeat (first | (with_reducible first | exact HB.out | apply below_alloc | apply pw_below_drewN | apply below_drew1) | exact HB.out)); (case side2 => exact Kd.R_tight rfl HO_9.out); rintro e w72 ⟨rfl, hy0, hb, hkp⟩; refine ⟨_, rfl, ?_⟩; have n0_ := Aside0.mk (Kd.R_mono (ok' := fun k_ => some k_ ≠ (.slice Ao71 t112.length co71 : Value).ownBlock) (Kd.R_keptB (HO_6.out) hkp (fun k_ hk_ hs_ => (hk_) hs_)) (fun k_ hk_ => hk_.1)); have n1_ := Aside0.mk (Kd.R_reok rfl hy0 (fun k_ e_ => HO_9.out.1 k_ e_)); have n2_ := Aside0.mk (hb); clear HO_6; clear HO_9; clear HB; have HO_6 := n0_; have HO_9 := n1_; have HB := n2_; clear n0_ n1_ n2_; (try clear hb); (try clear hkp); (try clear hy0)) | ((with_reducible refine gate_callee (f := 54) rfl ?_); refine goesL_ (some 71) rfl rfl Try.func54 (by kernel_rfl) rfl #[.slice Ao71 t125.length co71, .int .i64 1] rfl (by (try simp only [List.map_toArray, List.map_cons, List.map_nil]); first | done | (rw [show t125.length = t112.length from (Kd.R_reads' HO_9.out).1.symm] <;> rfl) | rfl | (simp only [List.length_drop, List.length_take]; rfl)) ?_; (with_reducible refine (laws_heldStringS.calls kj28 _ _ t125 1 t126 _ ?side1 ?side2 A43.out).mono ?_); (case side1 => repeat (first | exact (Kd.R_reads' HO_9.out).2.2 | (with_reducible refine Kd.C_alloc ?_ _) | (with_reducible refine Kd.C_drewN ?_ _) | (with_reducible refine Kd.C_drew ?_))); (case side2 => rw [show t125.length = t112.length from (Kd.R_reads' HO_9.out).1.symm]; exact (Kd.R_reads' HO_9.out).2.1); rintro e w73 ⟨rfl, hb⟩; refine ⟨_, rfl, ?_⟩; have n0_ := Aside0.mk (Kd.R_below (pR_ HO_6.out) hb); have n1_ := Aside0.mk (Kd.R_below (pR_ HO_9.out) hb); have n2_ := Aside0.mk (below_step (pH_ HB.out) hb); clear HO_6; clear HO_9; clear HB; have HO_6 := n0_; have HO_9 := n1_; have HB := n2_; clear n0_ n1_ n2_; (try clear hb); (try clear hb2); (try clear hk); (try clear hi)))
      go_ret
      exact ⟨by first | rfl | (simp [errW_none, errW_some] <;> rfl) | (simp [*, errW_none, errW_some] <;> rfl), by repeat (first | (with_reducible first | exact HB.out | apply below_alloc | apply pw_below_drewN | apply below_drew1) | exact HB.out)⟩
   replace c27 := Bool.eq_false_iff.mpr c27
   subst c27
   have H1 : (some false) = some r := by rw [if_neg (show ¬ (false = true) by decide)] at H; exact H
   clear H
   have H := H1
   clear H1
   obtain rfl := Option.some.inj H
   go_wp2_with (first | ((with_reducible refine gate_callee (f := 35) rfl ?_); refine goesL_ (some 47) rfl rfl Try.func35 (by kernel_rfl) rfl #[.slice A0 l0.length c0] rfl (by (try simp only [List.map_toArray, List.map_cons, List.map_nil]); first | done | rfl | (simp only [List.length_drop, List.length_take]; rfl)) ?_; (with_reducible refine (laws_toEntryS.calls kj9 _ _ l0 t117 _ ?side1 ?side2 A25.out).mono ?_); (case side1 => repeat (first | exact (Kd.C_below HR0.out HB.out) | (with_reducible refine Kd.C_alloc ?_ _) | (with_reducible refine Kd.C_drewN ?_ _) | (with_reducible refine Kd.C_drew ?_))); (case side2 => exact HC0.out); rintro e w74 ⟨v118, rfl, ho0, hb⟩; refine ⟨_, rfl, ?_⟩; have n0_ := Aside0.mk (Kd.R_below (pR_ HO_6.out) hb); have n1_ := Aside0.mk (Kd.R_elder' (pR_ HO_8.out) (Kd.R_base ho0) hb); have n2_ := Aside0.mk (Kd.R_below (pR_ HO_9.out) hb); have n3_ := Aside0.mk (Kd.R_lower (Kd.R_new' ho0 (Kd.R_lt (pR_ HO_8.out))) (below_size (pH_ HB.out))); have n4_ := Aside0.mk (below_step (pH_ HB.out) hb); clear HO_6; clear HO_8; clear HO_9; clear HB; have HO_6 := n0_; have HO_8 := n1_; have HO_9 := n2_; have HO119 := n3_; have HB := n4_; clear n0_ n1_ n2_ n3_ n4_; (try clear hb); (try clear hb2); (try clear hk); (try clear hi); (try clear ho0); obtain ⟨Ao75, co75, eo75⟩ := Kd.R_slice HO119.out; subst eo75) | ((with_reducible refine gate_callee (f := 37) rfl ?_); refine goesL_ (some 48) rfl rfl Try.func37 (by kernel_rfl) rfl #[.slice Ao16 t109.length co16, .slice Ao75 t117.length co75] rfl (by (try simp only [List.map_toArray, List.map_cons, List.map_nil]); first | done | rfl | (simp only [List.length_drop, List.length_take]; rfl)) ?_; (with_reducible refine (laws_eqEntryS.calls kj9 _ _ t109 _ _ t117 false _ ?side1 ?side2 ?side3 ?side4 A26.out).mono ?_); (case side1 => repeat (first | exact (Kd.R_reads' HO_8.out).2.2 | (with_reducible refine Kd.C_alloc ?_ _) | (with_reducible refine Kd.C_drewN ?_ _) | (with_reducible refine Kd.C_drew ?_))); (case side2 => exact (Kd.R_reads' HO_8.out).2.1); (case side3 => repeat (first | exact (Kd.R_reads' HO119.out).2.2 | (with_reducible refine Kd.C_alloc ?_ _) | (with_reducible refine Kd.C_drewN ?_ _) | (with_reducible refine Kd.C_drew ?_))); (case side4 => exact (Kd.R_reads' HO119.out).2.1); rintro e w76 ⟨rfl, hb⟩; refine ⟨_, rfl, ?_⟩; have n0_ := Aside0.mk (Kd.R_below (pR_ HO_6.out) hb); have n1_ := Aside0.mk (Kd.R_below (pR_ HO_8.out) hb); have n2_ := Aside0.mk (Kd.R_below (pR_ HO_9.out) hb); have n3_ := Aside0.mk (Kd.R_below (pR_ HO119.out) hb); have n4_ := Aside0.mk (below_step (pH_ HB.out) hb); clear HO_6; clear HO_8; clear HO_9; clear HO119; clear HB; have HO_6 := n0_; have HO_8 := n1_; have HO_9 := n2_; have HO119 := n3_; have HB := n4_; clear n0_ n1_ n2_ n3_ n4_; (try clear hb); (try clear hb2); (try clear hk); (try clear hi)))
   go_ret
   exact ⟨by first | rfl | (simp [errW_none, errW_some] <;> rfl) | (simp [*, errW_none, errW_some] <;> rfl), by repeat (first | (with_reducible first | exact HB.out | apply below_alloc | apply pw_below_drewN | apply below_drew1) | exact HB.out)⟩
end
end Go.Proofs.Ytodombkmnnggeaa.Q
