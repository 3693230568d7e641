-- Written by this session's texts and program for this claim. Lean checks it.
import Derived.Test.YtgojidjfidldbaaRows
import Derived.WalkKit
import Derived.ProofKit
import Derived.OpenShut
import Derived.ShutString
import Derived.ChangeOld
import Derived.Below
import Derived.SizedLaws
import Derived.Carry
import Derived.Test.YtgojidjfidldbaaVFnExactRaiseSurface4
namespace Go.Proofs.Ytgojidjfidldbaa.fnExactRaiseSurface
open Go.ChangeShapes Go.WideShapes Go.ChangeAt Go.RowKit
open Go.ChangeMaps (open_string shut_string)
open Go.Eng Go.Proofs.Ytgojidjfidldbaa.EngS
set_option linter.unusedVariables false
theorem own : ownKnob Try.prog.godebug = none := by kernel_rfl
theorem laidOut : laidOutB Try.prog = true := by kernel_rfl
set_option maxRecDepth 100000 in
theorem lifted (os : Os) (started : os.Started) (H : Type) (enc : TypeId × Value → H) :
    ReturnsInHanded {} Try.checked os 7 .any (Rows.fnExactRaiseSurfaceSpec.pre6 enc Try.prog Try.f7 Rows.fnExactRaiseSurfaceRow.domain false) (Rows.fnExactRaiseSurfaceSpec.post enc Try.prog Try.f7 false true false false) := by
  refine returnsInHanded_of_change_sized (C := Try.checked) own started (by kernel_rfl) Try.func7
    (ChangeSpec.witness6 (enc := enc) (C := Try.checked) false ⟨#[], #[.agg #[.int .i64 0, .int .i64 0, .slice none 0 0], .agg #[.int .i64 0, .int .i64 0, .slice none 0 0]], []⟩ 8 (by kernel_rfl) (by kernel_rfl) (by kernel_rfl) (by kernel_rfl)) ?_
  intro W base args ds gs before hval0 hW hcnd hsz0 _
  have hval : ∀ (j : Nat) t v, Try.f7.params[j]? = some t → args[j]? = some v → Value.okWide Try.prog W .any base t v := hval0
  have hW' := hW
  obtain ⟨p, q, hA0, hV, rfl, hfz, hnd⟩ := hW
  have hA : DataW.TrodAll enc Try.prog W 0 (fun _ => true) true Try.f7.params.toList args.toList ds p := hA0
  rw [Try.params7] at hA hval
  obtain ⟨v0, vs0, d0, ds0, p0, q0, hargs, rfl, rfl, h0, r0⟩ := trodAll_cons hA
  obtain ⟨v1, vs1, d1, ds1, p1, q1, rfl, rfl, rfl, h1, r1⟩ := trodAll_cons r0
  obtain ⟨rfl, rfl, rfl⟩ := trodAll_nil r1
  obtain rfl : args = #[v0, v1] := by cases args; simp_all
  obtain ⟨rfl, rfl⟩ := trodVars_none hV
  have k0 := h0
  have lt0 : ∀ x ∈ p0, x.block < W.heap.size := by obtain ⟨m, hm⟩ := k0; exact DataW.trod_lt m _ _ _ hm
  obtain ⟨fu0, hf0⟩ := h0
  obtain ⟨cs0, rfl, _, _⟩ : ∃ cs, v0 = .agg cs ∧ True ∧ True := by have hz := (hval 0 24 v0 rfl rfl); unfold Value.okWide at hz; rw [Try.underlying24] at hz; obtain ⟨cs, h1, _⟩ := hz; exact ⟨cs, h1, trivial, trivial⟩
  obtain ⟨x0, hw0, hK0⟩ := (eopens_struct Try.underlying24 (by kernel_rfl) (eopensL_cons rfl (eopens_int Try.underlying3 (by kernel_rfl)) (eopensL_cons rfl (eopens_int Try.underlying3 (by kernel_rfl)) (eopensL_one rfl (eopens_slice (el := fun n => PV.sc (.int .i64 n)) Try.underlying22 (by kernel_rfl) (eopens_int Try.underlying3 (by kernel_rfl)) (by decide) (.inr ⟨rfl, fun _ => ⟨rfl, rfl⟩⟩)))))).go hf0
  have k1 := h1
  have lt1 : ∀ x ∈ p1, x.block < W.heap.size := by obtain ⟨m, hm⟩ := k1; exact DataW.trod_lt m _ _ _ hm
  obtain ⟨fu1, hf1⟩ := h1
  obtain ⟨cs1, rfl, _, _⟩ : ∃ cs, v1 = .agg cs ∧ True ∧ True := by have hz := (hval 1 24 v1 rfl rfl); unfold Value.okWide at hz; rw [Try.underlying24] at hz; obtain ⟨cs, h1, _⟩ := hz; exact ⟨cs, h1, trivial, trivial⟩
  obtain ⟨x1, hw1, hK1⟩ := (eopens_struct Try.underlying24 (by kernel_rfl) (eopensL_cons rfl (eopens_int Try.underlying3 (by kernel_rfl)) (eopensL_cons rfl (eopens_int Try.underlying3 (by kernel_rfl)) (eopensL_one rfl (eopens_slice (el := fun n => PV.sc (.int .i64 n)) Try.underlying22 (by kernel_rfl) (eopens_int Try.underlying3 (by kernel_rfl)) (by decide) (.inr ⟨rfl, fun _ => ⟨rfl, rfl⟩⟩)))))).go hf1
  clear hA0 hval0 hsz0
  refine (law_calls (law_FnExactRaiseSurface x0 x1 hw0 hw1) (DRs_cons' (DR_struct (by simp [PV.isAg]) hK0) (DRs_cons' (DR_struct (by simp [PV.isAg]) hK1) rfl))).mono fun e W' hend => ?_
  obtain ⟨rfl, bel⟩ := hend
  exact ⟨_, rfl, _, _, _, [], _, [], hW', trodAll_mk1 (shut_bool Try.underlying4 _), (trodAll_cons_mk (Below.trod laidOut (by kernel_rfl) (of_decide_eq_true (by kernel_rfl)) k0 bel lt0) (trodAll_cons_mk (Below.trod laidOut (by kernel_rfl) (of_decide_eq_true (by kernel_rfl)) k1 bel lt1) trodAll_mk0)), rfl, bel.frame _, fun h => by cases h⟩
theorem over : Rows.fnExactRaiseSurfaceRow.holds Try.pinned (OpenSpec.ofChange Rows.fnExactRaiseSurfaceSpec) :=
  OpenClaim.holds_of_wide 7 Try.f7 rfl rfl rfl rfl rfl rfl rfl ⟨rfl, rfl, rfl, rfl, rfl⟩ rfl rfl rfl rfl rfl (by kernel_rfl) Try.func7 (by kernel_rfl)
    (of_decide_eq_true (by kernel_rfl)) (by unfold Func.isWrapper; first | (rw [if_pos (by decide +kernel)]; kernel_rfl) | (rw [if_neg (by decide +kernel)]; exact ⟨rfl, rfl⟩))
    (fun os started H enc _ => lifted os started H enc)
theorem proved : Rows.FnExactRaiseSurfaceSaid := over
#print axioms proved
end Go.Proofs.Ytgojidjfidldbaa.fnExactRaiseSurface
namespace Go.Proofs.Ytgojidjfidldbaa
/-- The row, under a short name, for the claim. -/
theorem fnExactRaiseSurface_holds : Rows.FnExactRaiseSurfaceSaid := fnExactRaiseSurface.proved
end Go.Proofs.Ytgojidjfidldbaa

