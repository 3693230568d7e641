-- Written by a program of this session's for these claims. Lean checks it.
import Derived.Test.YtgojidjfidldbaaRows
import Derived.Test.YtgojidjfidldbaaZFnExactPrecedesB2
import Derived.Test.YtgojidjfidldbaaZFnExactPrecedesQo
import Derived.Test.YtgojidjfidldbaaZFnExactPrecedesPureFnExactPrecedes
import Derived.WalkKit
import Derived.ProofKit
import Derived.OpenShut
import Derived.ShutString
import Derived.ChangeOld
import Derived.Below
import Derived.SizedLaws
import Derived.Carry
namespace Go.Proofs.Ytgojidjfidldbaa.fnExactPrecedes
open Go.ChangeShapes Go.WideShapes Go.ChangeAt Go.RowKit
open Go.ChangeMaps (open_string shut_string)
open Go.Proofs.Ytgojidjfidldbaa.Q Go.Proofs.YtgojidjfidldbaaW.PrintWords Go.Proofs.Ytgojidjfidldbaa.Opn
set_option linter.unusedVariables false
theorem own : ownKnob Try.prog.godebug = none := by kernel_rfl
theorem laidOut : laidOutB Try.prog = true := by kernel_rfl
set_option maxRecDepth 100000 in
theorem lifted (os : Os) (started : os.Started) (H : Type) (enc : TypeId × Value → H) :
    ReturnsInHanded {} Try.checked os 4 .any (Rows.fnExactPrecedesSpec.pre6 enc Try.prog Try.f4 Rows.fnExactPrecedesRow.domain false) (Rows.fnExactPrecedesSpec.post enc Try.prog Try.f4 false true false false) := by
  refine returnsInHanded_of_change_sized (C := Try.checked) own started (by kernel_rfl) Try.func4
    (ChangeSpec.witness6 (enc := enc) (C := Try.checked) false ⟨#[], #[.agg #[.int .i64 0, .int .i64 0, .slice none 0 0, .string ByteArray.empty, .string ByteArray.empty], .agg #[.int .i64 0, .int .i64 0, .slice none 0 0, .string ByteArray.empty, .string ByteArray.empty]], []⟩ 8 (by kernel_rfl) (by kernel_rfl) (by kernel_rfl) (by kernel_rfl)) ?_
  intro W base args ds gs before hval0 hW hcnd hsz0 _
  have hval : ∀ (j : Nat) t v, Try.f4.params[j]? = some t → args[j]? = some v → Value.okWide Try.prog W .any base t v := hval0
  have hW' := hW
  obtain ⟨p, q, hA0, hV, rfl, hfz, hnd⟩ := hW
  have hA : DataW.TrodAll enc Try.prog W 0 (fun _ => true) true Try.f4.params.toList args.toList ds p := hA0
  rw [Try.params4] at hA hval
  obtain ⟨v0, vs0, d0, ds0, p0, q0, hargs, rfl, rfl, h0, r0⟩ := trodAll_cons hA
  obtain ⟨v1, vs1, d1, ds1, p1, q1, rfl, rfl, rfl, h1, r1⟩ := trodAll_cons r0
  obtain ⟨rfl, rfl, rfl⟩ := trodAll_nil r1
  obtain rfl : args = #[v0, v1] := by cases args; simp_all
  obtain ⟨rfl, rfl⟩ := trodVars_none hV
  have k0 := h0
  have lt0 : ∀ x ∈ p0, x.block < W.heap.size := by obtain ⟨m, hm⟩ := k0; exact DataW.trod_lt m _ _ _ hm
  obtain ⟨fu0, hf0⟩ := h0
  obtain ⟨cs0, rfl, _, _⟩ : ∃ cs, v0 = .agg cs ∧ True ∧ True := by have hz := (hval 0 32 v0 rfl rfl); unfold Value.okWide at hz; rw [Try.underlying32] at hz; obtain ⟨cs, h1, _⟩ := hz; exact ⟨cs, h1, trivial, trivial⟩
  obtain ⟨x0, hK0, hw0⟩ := opens32.go hf0
  obtain ⟨A0_2, c0_2, hcs0, hc0_2, hC0_2⟩ := k32_open hK0
  obtain rfl := agg_of hcs0
  have k1 := h1
  have lt1 : ∀ x ∈ p1, x.block < W.heap.size := by obtain ⟨m, hm⟩ := k1; exact DataW.trod_lt m _ _ _ hm
  obtain ⟨fu1, hf1⟩ := h1
  obtain ⟨cs1, rfl, _, _⟩ : ∃ cs, v1 = .agg cs ∧ True ∧ True := by have hz := (hval 1 32 v1 rfl rfl); unfold Value.okWide at hz; rw [Try.underlying32] at hz; obtain ⟨cs, h1, _⟩ := hz; exact ⟨cs, h1, trivial, trivial⟩
  obtain ⟨x1, hK1, hw1⟩ := opens32.go hf1
  obtain ⟨A1_2, c1_2, hcs1, hc1_2, hC1_2⟩ := k32_open hK1
  obtain rfl := agg_of hcs1
  obtain ⟨k, hk⟩ := Pure.FnExactPrecedes x0 x1 hw0 hw1
  clear hA0 hval0 hsz0
  refine (laws_FnExactPrecedes.calls k x0.f0 x0.f1 _ _ x0.f2 x0.f3 x0.f4 x1.f0 x1.f1 _ _ x1.f2 x1.f3 x1.f4 true W hC0_2 hc0_2 hC1_2 hc1_2 hk).mono fun e W' hend => ?_
  obtain ⟨rfl, bel0⟩ := hend
  have bel : Below W.heap.size W W' := bel0
  exact ⟨_, rfl, _, _, _, [], _, [], hW', trodAll_mk1 (shut_bool Try.underlying4 _), (trodAll_cons_mk (Below.trod laidOut (by kernel_rfl) (of_decide_eq_true (by kernel_rfl)) k0 bel lt0) (trodAll_cons_mk (Below.trod laidOut (by kernel_rfl) (of_decide_eq_true (by kernel_rfl)) k1 bel lt1) trodAll_mk0)), rfl, bel.frame _, fun h => by cases h⟩
theorem over : Rows.fnExactPrecedesRow.holds Try.pinned (OpenSpec.ofChange Rows.fnExactPrecedesSpec) :=
  OpenClaim.holds_of_wide 4 Try.f4 rfl rfl rfl rfl rfl rfl rfl ⟨rfl, rfl, rfl, rfl, rfl⟩ rfl rfl rfl rfl rfl (by kernel_rfl) Try.func4 (by kernel_rfl)
    (of_decide_eq_true (by kernel_rfl)) (by unfold Func.isWrapper; first | (rw [if_pos (by decide +kernel)]; kernel_rfl) | (rw [if_neg (by decide +kernel)]; exact ⟨rfl, rfl⟩))
    (fun os started H enc _ => lifted os started H enc)
theorem proved : Rows.FnExactPrecedesSaid := over
#print axioms proved
end Go.Proofs.Ytgojidjfidldbaa.fnExactPrecedes
namespace Go.Proofs.Ytgojidjfidldbaa
/-- The row, under a short name, for the claim. -/
theorem fnExactPrecedes_holds : Rows.FnExactPrecedesSaid := fnExactPrecedes.proved
end Go.Proofs.Ytgojidjfidldbaa
