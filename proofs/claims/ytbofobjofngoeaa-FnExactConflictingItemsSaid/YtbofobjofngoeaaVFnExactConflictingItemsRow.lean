-- Written by this session's texts and program for this claim. Lean checks it.
import Derived.Test.YtbofobjofngoeaaRows
import Derived.WalkKit
import Derived.ProofKit
import Derived.OpenShut
import Derived.ShutString
import Derived.ChangeOld
import Derived.Below
import Derived.SizedLaws
import Derived.Carry
import Derived.HandedShaped
import Derived.Test.YtbofobjofngoeaaVFnExactConflictingItems5
namespace Go.Proofs.Ytbofobjofngoeaa.fnExactConflictingItems
open Go.ChangeShapes Go.WideShapes Go.ChangeAt Go.RowKit
open Go.ChangeMaps (open_string shut_string)
open Go.Eng Go.Proofs.Ytbofobjofngoeaa.EngS
set_option linter.unusedVariables false
theorem own : ownKnob Try.prog.godebug = none := by kernel_rfl
theorem laidOut : laidOutB Try.prog = true := by kernel_rfl
set_option maxRecDepth 100000 in
theorem lifted (os : Os) (started : os.Started) (H : Type) (enc : TypeId × Value → H) :
    ReturnsInHanded {} Try.checked os 10 .any (Rows.fnExactConflictingItemsSpec.pre6 enc Try.prog Try.f10 Rows.fnExactConflictingItemsRow.domain false) (Rows.fnExactConflictingItemsSpec.post enc Try.prog Try.f10 false true false false) := by
  refine returnsInHanded_of_change_shaped (C := Try.checked) own started (by kernel_rfl) Try.func10
    (ChangeSpec.witness6 (enc := enc) (C := Try.checked) false ⟨#[], #[.slice none 0 0, .int .i64 0], []⟩ 8 (by kernel_rfl) (by kernel_rfl) (by kernel_rfl) (by kernel_rfl)) ?_
  intro W base args ds gs before hval0 hW hcnd hsz0 hshaped _
  have hval : ∀ (j : Nat) t v, Try.f10.params[j]? = some t → args[j]? = some v → Value.okWide Try.prog W .any base t v := hval0
  have hW' := hW
  obtain ⟨p, q, hA0, hV, rfl, hfz, hnd⟩ := hW
  have hA : DataW.TrodAll enc Try.prog W 0 (fun _ => true) true Try.f10.params.toList args.toList ds p := hA0
  rw [Try.params10] at hA hval
  obtain ⟨v0, vs0, d0, ds0, p0, q0, hargs, rfl, rfl, h0, r0⟩ := trodAll_cons hA
  obtain ⟨v1, vs1, d1, ds1, p1, q1, rfl, rfl, rfl, h1, r1⟩ := trodAll_cons r0
  obtain ⟨rfl, rfl, rfl⟩ := trodAll_nil r1
  obtain rfl : args = #[v0, v1] := by cases args; simp_all
  obtain ⟨rfl, rfl⟩ := trodVars_none hV
  have k0 := h0
  have lt0 : ∀ x ∈ p0, x.block < W.heap.size := by obtain ⟨m, hm⟩ := k0; exact DataW.trod_lt m _ _ _ hm
  obtain ⟨fu0, hf0⟩ := h0
  obtain ⟨a0, len0, cap0, rfl⟩ := okWide_slice Try.underlying37 (hval 0 37 v0 rfl rfl)
  obtain ⟨x0, hw0, hK0⟩ := (eopens_slice (el := fun x => PV.ag ([PV.sc (.int .i64 x.1)] ++ [PV.sc (.int .i64 x.2.1)] ++ [PV.sl true 1 (x.2.2.1.map (fun n => PV.sc (.int .i64 n)))] ++ [PV.sc (.string x.2.2.2.1)] ++ [PV.sc (.string x.2.2.2.2)])) Try.underlying37 (by kernel_rfl) (eopens_struct Try.underlying94 (by kernel_rfl) (eopensL_cons rfl (eopens_int Try.underlying3 (by kernel_rfl)) (eopensL_cons rfl (eopens_int Try.underlying3 (by kernel_rfl)) (eopensL_cons rfl (eopens_slice (el := fun n => PV.sc (.int .i64 n)) Try.underlying47 (by kernel_rfl) (eopens_int Try.underlying3 (by kernel_rfl)) (by decide) (.inr ⟨rfl, fun _ => ⟨rfl, rfl⟩⟩)) (eopensL_cons rfl (eopens_str Try.underlying9 (by kernel_rfl)) (eopensL_one rfl (eopens_str Try.underlying9 (by kernel_rfl)))))))) (by decide) (.inl fun _ => rfl)).go hf0
  obtain ⟨x1, rfl, rfl, rfl, hw1⟩ := open_int Try.underlying3 (hval 1 3 v1 rfl rfl) h1
  clear hA0 hval0 hsz0
  refine (law_calls (law_FnExactConflictingItems x0 x1 hw0 hw1) hshaped (DRs_cons' (DR_cell hK0) (DRs_cons' DR_sc rfl))).mono fun e W' hend => ?_
  obtain ⟨rfl, bel⟩ := hend
  exact ⟨_, rfl, _, _, _, [], _, [], hW', trodAll_mk1 (shut_bool Try.underlying4 _), (trodAll_cons_mk (Below.trod laidOut (by kernel_rfl) (of_decide_eq_true (by kernel_rfl)) k0 bel lt0) (trodAll_cons_mk (shut_int Try.underlying3 hw1) trodAll_mk0)), rfl, bel.frame _, fun h => by cases h⟩
theorem over : Rows.fnExactConflictingItemsRow.holds Try.pinned (OpenSpec.ofChange Rows.fnExactConflictingItemsSpec) :=
  OpenClaim.holds_of_wide 10 Try.f10 rfl rfl rfl rfl rfl rfl rfl ⟨rfl, rfl, rfl, rfl, rfl⟩ rfl rfl rfl rfl rfl (by kernel_rfl) Try.func10 (by kernel_rfl)
    (of_decide_eq_true (by kernel_rfl)) (by unfold Func.isWrapper; first | (rw [if_pos (by decide +kernel)]; kernel_rfl) | (rw [if_neg (by decide +kernel)]; exact ⟨rfl, rfl⟩))
    (fun os started H enc _ => lifted os started H enc)
theorem proved : Rows.FnExactConflictingItemsSaid := over
#print axioms proved
end Go.Proofs.Ytbofobjofngoeaa.fnExactConflictingItems
namespace Go.Proofs.Ytbofobjofngoeaa
/-- The row, under a short name, for the claim. -/
theorem fnExactConflictingItems_holds : Rows.FnExactConflictingItemsSaid := fnExactConflictingItems.proved
end Go.Proofs.Ytbofobjofngoeaa

