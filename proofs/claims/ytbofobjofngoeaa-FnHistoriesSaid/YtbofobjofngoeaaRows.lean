/-
  No cell of these rows narrows 'for every input' (looked for: loops, veiled, ifaces, maps, wideKeys, modest, calm, conditions, laid).
  DERIVED. THE GIVEN ROWS OF THIS SEAT. 11 by the template 'for every input the law returns true; each argument reads behind the call as it read before'; 0 by the template 'total and deterministic' (their statements: YtbofobjofngoeaaTotals.lean).
  GIVEN WITH THE SEED: the statements are not yours to turn. If you find one false, say at which input.
  Laid BY PROGRAM, IN A SANDBOX (cutbox-rows.mjs): the forced cells as the released guide's own fill.sh prints them over the translation a7af812f62f274d7… (all of the seat's roots in one cut). By AI agents, Wed Nov 11 2026. No macro, syntax, notation, axiom, sorry.
-/
import Derived.Test.YtbofobjofngoeaaChecked
import GoSem.Claim
import GoSem.ClaimJoined
import GoSem.ClaimMapViews
import Derived.JoinedTies
import Derived.KernelRfl
namespace Go.Proofs.Ytbofobjofngoeaa
/- THE CELL 'sum', in the pinned program and in every row, IS THE sha256 OF THE DUMP (.gsa) THAT YtbofobjofngoeaaProg.lean LOADS. Nothing in Lean hashes anything: it is a label: what it is worth is what the hold of that sum in a sandbox is worth. -/
noncomputable def Try.pinned : Pinned := { name := "ytbofobjofngoeaa", sum := "a7af812f62f274d71faa2317dc77377d26ba98096a8eb969d25ac2d6456518e3", checked := Try.checked }
namespace Rows
def none {H : Type} : Left H := { results := [], args := [] }

/-- 'laws.FnChanged': WHATEVER THE INPUT: true; the input reads as it did. -/
def fnChangedSpec : ChangeSpec := { name := "fnChanged", fn := fun _ => fun
  | [d] => { results := [.lit (.bool true)], args := [d] }
  | _ => none }
def fnChangedRow : OpenClaim := { program := "ytbofobjofngoeaa", sum := "a7af812f62f274d71faa2317dc77377d26ba98096a8eb969d25ac2d6456518e3", func := "loop.example/g00876/laws.FnChanged", spec := "fnChanged", inPlace := ["internal/bytealg.IndexByteString", "internal/bytealg.IndexString"], unfollowed := true, recurses := true, named := ["internal/bytealg.MaxLen"], apart := false }
def FnChangedSaid : Prop := fnChangedRow.holds Try.pinned (OpenSpec.ofChange fnChangedSpec)

/-- ITS FALSE NEIGHBOUR: 'it returns false'. Refute it at one input. -/
def fnChangedWrong : ChangeSpec := { name := "fnChanged", fn := fun _ => fun
  | [d] => { results := [.lit (.bool false)], args := [d] }
  | _ => none }
def FnChangedWrongFalsely : Prop := fnChangedRow.holds Try.pinned (OpenSpec.ofChange fnChangedWrong)

/-- 'laws.FnExactIsValidHistory': WHATEVER THE INPUT: true; the input reads as it did. -/
def fnExactIsValidHistorySpec : ChangeSpec := { name := "fnExactIsValidHistory", fn := fun _ => fun
  | [d1, d2] => { results := [.lit (.bool true)], args := [d1, d2] }
  | _ => none }
def fnExactIsValidHistoryRow : OpenClaim := { program := "ytbofobjofngoeaa", sum := "a7af812f62f274d71faa2317dc77377d26ba98096a8eb969d25ac2d6456518e3", func := "loop.example/g00876/laws.FnExactIsValidHistory", spec := "fnExactIsValidHistory", apart := false }
def FnExactIsValidHistorySaid : Prop := fnExactIsValidHistoryRow.holds Try.pinned (OpenSpec.ofChange fnExactIsValidHistorySpec)

/-- ITS FALSE NEIGHBOUR: 'it returns false'. Refute it at one input. -/
def fnExactIsValidHistoryWrong : ChangeSpec := { name := "fnExactIsValidHistory", fn := fun _ => fun
  | [d1, d2] => { results := [.lit (.bool false)], args := [d1, d2] }
  | _ => none }
def FnExactIsValidHistoryWrongFalsely : Prop := fnExactIsValidHistoryRow.holds Try.pinned (OpenSpec.ofChange fnExactIsValidHistoryWrong)

/-- 'laws.FnExactLastEdit': WHATEVER THE INPUT: true; the input reads as it did. -/
def fnExactLastEditSpec : ChangeSpec := { name := "fnExactLastEdit", fn := fun _ => fun
  | [d1, d2, d3] => { results := [.lit (.bool true)], args := [d1, d2, d3] }
  | _ => none }
def fnExactLastEditRow : OpenClaim := { program := "ytbofobjofngoeaa", sum := "a7af812f62f274d71faa2317dc77377d26ba98096a8eb969d25ac2d6456518e3", func := "loop.example/g00876/laws.FnExactLastEdit", spec := "fnExactLastEdit", unfollowed := true, recurses := true, apart := false }
def FnExactLastEditSaid : Prop := fnExactLastEditRow.holds Try.pinned (OpenSpec.ofChange fnExactLastEditSpec)

/-- ITS FALSE NEIGHBOUR: 'it returns false'. Refute it at one input. -/
def fnExactLastEditWrong : ChangeSpec := { name := "fnExactLastEdit", fn := fun _ => fun
  | [d1, d2, d3] => { results := [.lit (.bool false)], args := [d1, d2, d3] }
  | _ => none }
def FnExactLastEditWrongFalsely : Prop := fnExactLastEditRow.holds Try.pinned (OpenSpec.ofChange fnExactLastEditWrong)

/-- 'laws.FnExactCurrentEdits': WHATEVER THE INPUT: true; the input reads as it did. -/
def fnExactCurrentEditsSpec : ChangeSpec := { name := "fnExactCurrentEdits", fn := fun _ => fun
  | [d1, d2, d3] => { results := [.lit (.bool true)], args := [d1, d2, d3] }
  | _ => none }
def fnExactCurrentEditsRow : OpenClaim := { program := "ytbofobjofngoeaa", sum := "a7af812f62f274d71faa2317dc77377d26ba98096a8eb969d25ac2d6456518e3", func := "loop.example/g00876/laws.FnExactCurrentEdits", spec := "fnExactCurrentEdits", unfollowed := true, recurses := true, apart := false }
def FnExactCurrentEditsSaid : Prop := fnExactCurrentEditsRow.holds Try.pinned (OpenSpec.ofChange fnExactCurrentEditsSpec)

/-- ITS FALSE NEIGHBOUR: 'it returns false'. Refute it at one input. -/
def fnExactCurrentEditsWrong : ChangeSpec := { name := "fnExactCurrentEdits", fn := fun _ => fun
  | [d1, d2, d3] => { results := [.lit (.bool false)], args := [d1, d2, d3] }
  | _ => none }
def FnExactCurrentEditsWrongFalsely : Prop := fnExactCurrentEditsRow.holds Try.pinned (OpenSpec.ofChange fnExactCurrentEditsWrong)

/-- 'laws.FnExactCausalOrder': WHATEVER THE INPUT: true; the input reads as it did. -/
def fnExactCausalOrderSpec : ChangeSpec := { name := "fnExactCausalOrder", fn := fun _ => fun
  | [d1, d2] => { results := [.lit (.bool true)], args := [d1, d2] }
  | _ => none }
def fnExactCausalOrderRow : OpenClaim := { program := "ytbofobjofngoeaa", sum := "a7af812f62f274d71faa2317dc77377d26ba98096a8eb969d25ac2d6456518e3", func := "loop.example/g00876/laws.FnExactCausalOrder", spec := "fnExactCausalOrder", apart := false }
def FnExactCausalOrderSaid : Prop := fnExactCausalOrderRow.holds Try.pinned (OpenSpec.ofChange fnExactCausalOrderSpec)

/-- ITS FALSE NEIGHBOUR: 'it returns false'. Refute it at one input. -/
def fnExactCausalOrderWrong : ChangeSpec := { name := "fnExactCausalOrder", fn := fun _ => fun
  | [d1, d2] => { results := [.lit (.bool false)], args := [d1, d2] }
  | _ => none }
def FnExactCausalOrderWrongFalsely : Prop := fnExactCausalOrderRow.holds Try.pinned (OpenSpec.ofChange fnExactCausalOrderWrong)

/-- 'laws.FnCausal': WHATEVER THE INPUT: true; the input reads as it did. -/
def fnCausalSpec : ChangeSpec := { name := "fnCausal", fn := fun _ => fun
  | [d] => { results := [.lit (.bool true)], args := [d] }
  | _ => none }
def fnCausalRow : OpenClaim := { program := "ytbofobjofngoeaa", sum := "a7af812f62f274d71faa2317dc77377d26ba98096a8eb969d25ac2d6456518e3", func := "loop.example/g00876/laws.FnCausal", spec := "fnCausal", apart := false }
def FnCausalSaid : Prop := fnCausalRow.holds Try.pinned (OpenSpec.ofChange fnCausalSpec)

/-- ITS FALSE NEIGHBOUR: 'it returns false'. Refute it at one input. -/
def fnCausalWrong : ChangeSpec := { name := "fnCausal", fn := fun _ => fun
  | [d] => { results := [.lit (.bool false)], args := [d] }
  | _ => none }
def FnCausalWrongFalsely : Prop := fnCausalRow.holds Try.pinned (OpenSpec.ofChange fnCausalWrong)

/-- 'laws.FnExactKnownBy': WHATEVER THE INPUT: true; the input reads as it did. -/
def fnExactKnownBySpec : ChangeSpec := { name := "fnExactKnownBy", fn := fun _ => fun
  | [d1, d2, d3] => { results := [.lit (.bool true)], args := [d1, d2, d3] }
  | _ => none }
def fnExactKnownByRow : OpenClaim := { program := "ytbofobjofngoeaa", sum := "a7af812f62f274d71faa2317dc77377d26ba98096a8eb969d25ac2d6456518e3", func := "loop.example/g00876/laws.FnExactKnownBy", spec := "fnExactKnownBy", unfollowed := true, recurses := true, apart := false }
def FnExactKnownBySaid : Prop := fnExactKnownByRow.holds Try.pinned (OpenSpec.ofChange fnExactKnownBySpec)

/-- ITS FALSE NEIGHBOUR: 'it returns false'. Refute it at one input. -/
def fnExactKnownByWrong : ChangeSpec := { name := "fnExactKnownBy", fn := fun _ => fun
  | [d1, d2, d3] => { results := [.lit (.bool false)], args := [d1, d2, d3] }
  | _ => none }
def FnExactKnownByWrongFalsely : Prop := fnExactKnownByRow.holds Try.pinned (OpenSpec.ofChange fnExactKnownByWrong)

/-- 'laws.FnExactConflictingItems': WHATEVER THE INPUT: true; the input reads as it did. -/
def fnExactConflictingItemsSpec : ChangeSpec := { name := "fnExactConflictingItems", fn := fun _ => fun
  | [d1, d2] => { results := [.lit (.bool true)], args := [d1, d2] }
  | _ => none }
def fnExactConflictingItemsRow : OpenClaim := { program := "ytbofobjofngoeaa", sum := "a7af812f62f274d71faa2317dc77377d26ba98096a8eb969d25ac2d6456518e3", func := "loop.example/g00876/laws.FnExactConflictingItems", spec := "fnExactConflictingItems", unfollowed := true, recurses := true, apart := false }
def FnExactConflictingItemsSaid : Prop := fnExactConflictingItemsRow.holds Try.pinned (OpenSpec.ofChange fnExactConflictingItemsSpec)

/-- ITS FALSE NEIGHBOUR: 'it returns false'. Refute it at one input. -/
def fnExactConflictingItemsWrong : ChangeSpec := { name := "fnExactConflictingItems", fn := fun _ => fun
  | [d1, d2] => { results := [.lit (.bool false)], args := [d1, d2] }
  | _ => none }
def FnExactConflictingItemsWrongFalsely : Prop := fnExactConflictingItemsRow.holds Try.pinned (OpenSpec.ofChange fnExactConflictingItemsWrong)

/-- 'laws.FnExactMergeHistories': WHATEVER THE INPUT: true; the input reads as it did. -/
def fnExactMergeHistoriesSpec : ChangeSpec := { name := "fnExactMergeHistories", fn := fun _ => fun
  | [d1, d2, d3] => { results := [.lit (.bool true)], args := [d1, d2, d3] }
  | _ => none }
def fnExactMergeHistoriesRow : OpenClaim := { program := "ytbofobjofngoeaa", sum := "a7af812f62f274d71faa2317dc77377d26ba98096a8eb969d25ac2d6456518e3", func := "loop.example/g00876/laws.FnExactMergeHistories", spec := "fnExactMergeHistories", unfollowed := true, recurses := true, apart := false }
def FnExactMergeHistoriesSaid : Prop := fnExactMergeHistoriesRow.holds Try.pinned (OpenSpec.ofChange fnExactMergeHistoriesSpec)

/-- ITS FALSE NEIGHBOUR: 'it returns false'. Refute it at one input. -/
def fnExactMergeHistoriesWrong : ChangeSpec := { name := "fnExactMergeHistories", fn := fun _ => fun
  | [d1, d2, d3] => { results := [.lit (.bool false)], args := [d1, d2, d3] }
  | _ => none }
def FnExactMergeHistoriesWrongFalsely : Prop := fnExactMergeHistoriesRow.holds Try.pinned (OpenSpec.ofChange fnExactMergeHistoriesWrong)

/-- 'laws.FnExactMakeEdit': WHATEVER THE INPUT: true; the input reads as it did. -/
def fnExactMakeEditSpec : ChangeSpec := { name := "fnExactMakeEdit", fn := fun _ => fun
  | [d1, d2, d3, d4, d5, d6] => { results := [.lit (.bool true)], args := [d1, d2, d3, d4, d5, d6] }
  | _ => none }
def fnExactMakeEditRow : OpenClaim := { program := "ytbofobjofngoeaa", sum := "a7af812f62f274d71faa2317dc77377d26ba98096a8eb969d25ac2d6456518e3", func := "loop.example/g00876/laws.FnExactMakeEdit", spec := "fnExactMakeEdit", unfollowed := true, recurses := true, apart := false }
def FnExactMakeEditSaid : Prop := fnExactMakeEditRow.holds Try.pinned (OpenSpec.ofChange fnExactMakeEditSpec)

/-- ITS FALSE NEIGHBOUR: 'it returns false'. Refute it at one input. -/
def fnExactMakeEditWrong : ChangeSpec := { name := "fnExactMakeEdit", fn := fun _ => fun
  | [d1, d2, d3, d4, d5, d6] => { results := [.lit (.bool false)], args := [d1, d2, d3, d4, d5, d6] }
  | _ => none }
def FnExactMakeEditWrongFalsely : Prop := fnExactMakeEditRow.holds Try.pinned (OpenSpec.ofChange fnExactMakeEditWrong)

/-- 'laws.FnHistories': WHATEVER THE INPUT: true; the input reads as it did. -/
def fnHistoriesSpec : ChangeSpec := { name := "fnHistories", fn := fun _ => fun
  | [d] => { results := [.lit (.bool true)], args := [d] }
  | _ => none }
def fnHistoriesRow : OpenClaim := { program := "ytbofobjofngoeaa", sum := "a7af812f62f274d71faa2317dc77377d26ba98096a8eb969d25ac2d6456518e3", func := "loop.example/g00876/laws.FnHistories", spec := "fnHistories", unfollowed := true, recurses := true, apart := false }
def FnHistoriesSaid : Prop := fnHistoriesRow.holds Try.pinned (OpenSpec.ofChange fnHistoriesSpec)

/-- ITS FALSE NEIGHBOUR: 'it returns false'. Refute it at one input. -/
def fnHistoriesWrong : ChangeSpec := { name := "fnHistories", fn := fun _ => fun
  | [d] => { results := [.lit (.bool false)], args := [d] }
  | _ => none }
def FnHistoriesWrongFalsely : Prop := fnHistoriesRow.holds Try.pinned (OpenSpec.ofChange fnHistoriesWrong)

/- THE SECOND FORM. 'bulk': how many values and letters a reading holds, each counted each time it is reached (what is shared counts as often as it is met; a slice's spare places count too). A statement '..UptoSaid' is the law's where the arguments, and the package variables that the reading takes, are together of bulk at most 1048576: NARROWER than '..Said'. Prove '..Said' where nothing that the law and all that it calls make is longer than what came in: it says more and counts as full. Else prove '..UptoSaid'. A law counts once. -/
mutual
def uptoBulk {H : Type} : DataW H → Nat
  | .lit (.string bytes) => bytes.length + 1
  | .lit _ => 1
  | .nil => 1
  | .ptr d => uptoBulk d + 1
  | .slice elems spare => uptoBulkAll elems + uptoBulkAll spare + 1
  | .agg parts => uptoBulkAll parts + 1
  | .iface _ d => uptoBulk d + 1
  | .map entries => uptoBulkEntries entries + 1
  | .held _ => 1
def uptoBulkAll {H : Type} : List (DataW H) → Nat
  | [] => 0
  | d :: r => uptoBulk d + uptoBulkAll r
def uptoBulkEntries {H : Type} : List (Lit × DataW H) → Nat
  | [] => 0
  | x :: r => uptoBulkEntry x + uptoBulkEntries r
def uptoBulkEntry {H : Type} : Lit × DataW H → Nat
  | (.string bytes, d) => bytes.length + uptoBulk d + 1
  | (_, d) => uptoBulk d + 1
 end
def uptoSmall : (H : Type) → List (DataW H) → Bool := fun _ ds => decide (uptoBulkAll ds ≤ 1048576)
def OpenSpec.upto (s : _root_.Go.ChangeSpec) : _root_.Go.OpenSpec := { _root_.Go.OpenSpec.ofChange s with cond := some uptoSmall }

/-- 'laws.FnChanged', WHERE WHAT IT READS IS OF BULK AT MOST 1048576: true; the input reads as it did. -/
def fnChangedUptoRow : OpenClaim := { program := "ytbofobjofngoeaa", sum := "a7af812f62f274d71faa2317dc77377d26ba98096a8eb969d25ac2d6456518e3", func := "loop.example/g00876/laws.FnChanged", spec := "fnChanged", inPlace := ["internal/bytealg.IndexByteString", "internal/bytealg.IndexString"], unfollowed := true, recurses := true, named := ["internal/bytealg.MaxLen"], apart := false, narrowed := true }
def FnChangedUptoSaid : Prop := fnChangedUptoRow.holds Try.pinned (OpenSpec.upto fnChangedSpec)

/-- 'laws.FnExactIsValidHistory', WHERE WHAT IT READS IS OF BULK AT MOST 1048576: true; the input reads as it did. -/
def fnExactIsValidHistoryUptoRow : OpenClaim := { program := "ytbofobjofngoeaa", sum := "a7af812f62f274d71faa2317dc77377d26ba98096a8eb969d25ac2d6456518e3", func := "loop.example/g00876/laws.FnExactIsValidHistory", spec := "fnExactIsValidHistory", apart := false, narrowed := true }
def FnExactIsValidHistoryUptoSaid : Prop := fnExactIsValidHistoryUptoRow.holds Try.pinned (OpenSpec.upto fnExactIsValidHistorySpec)

/-- 'laws.FnExactLastEdit', WHERE WHAT IT READS IS OF BULK AT MOST 1048576: true; the input reads as it did. -/
def fnExactLastEditUptoRow : OpenClaim := { program := "ytbofobjofngoeaa", sum := "a7af812f62f274d71faa2317dc77377d26ba98096a8eb969d25ac2d6456518e3", func := "loop.example/g00876/laws.FnExactLastEdit", spec := "fnExactLastEdit", unfollowed := true, recurses := true, apart := false, narrowed := true }
def FnExactLastEditUptoSaid : Prop := fnExactLastEditUptoRow.holds Try.pinned (OpenSpec.upto fnExactLastEditSpec)

/-- 'laws.FnExactCurrentEdits', WHERE WHAT IT READS IS OF BULK AT MOST 1048576: true; the input reads as it did. -/
def fnExactCurrentEditsUptoRow : OpenClaim := { program := "ytbofobjofngoeaa", sum := "a7af812f62f274d71faa2317dc77377d26ba98096a8eb969d25ac2d6456518e3", func := "loop.example/g00876/laws.FnExactCurrentEdits", spec := "fnExactCurrentEdits", unfollowed := true, recurses := true, apart := false, narrowed := true }
def FnExactCurrentEditsUptoSaid : Prop := fnExactCurrentEditsUptoRow.holds Try.pinned (OpenSpec.upto fnExactCurrentEditsSpec)

/-- 'laws.FnExactCausalOrder', WHERE WHAT IT READS IS OF BULK AT MOST 1048576: true; the input reads as it did. -/
def fnExactCausalOrderUptoRow : OpenClaim := { program := "ytbofobjofngoeaa", sum := "a7af812f62f274d71faa2317dc77377d26ba98096a8eb969d25ac2d6456518e3", func := "loop.example/g00876/laws.FnExactCausalOrder", spec := "fnExactCausalOrder", apart := false, narrowed := true }
def FnExactCausalOrderUptoSaid : Prop := fnExactCausalOrderUptoRow.holds Try.pinned (OpenSpec.upto fnExactCausalOrderSpec)

/-- 'laws.FnCausal', WHERE WHAT IT READS IS OF BULK AT MOST 1048576: true; the input reads as it did. -/
def fnCausalUptoRow : OpenClaim := { program := "ytbofobjofngoeaa", sum := "a7af812f62f274d71faa2317dc77377d26ba98096a8eb969d25ac2d6456518e3", func := "loop.example/g00876/laws.FnCausal", spec := "fnCausal", apart := false, narrowed := true }
def FnCausalUptoSaid : Prop := fnCausalUptoRow.holds Try.pinned (OpenSpec.upto fnCausalSpec)

/-- 'laws.FnExactKnownBy', WHERE WHAT IT READS IS OF BULK AT MOST 1048576: true; the input reads as it did. -/
def fnExactKnownByUptoRow : OpenClaim := { program := "ytbofobjofngoeaa", sum := "a7af812f62f274d71faa2317dc77377d26ba98096a8eb969d25ac2d6456518e3", func := "loop.example/g00876/laws.FnExactKnownBy", spec := "fnExactKnownBy", unfollowed := true, recurses := true, apart := false, narrowed := true }
def FnExactKnownByUptoSaid : Prop := fnExactKnownByUptoRow.holds Try.pinned (OpenSpec.upto fnExactKnownBySpec)

/-- 'laws.FnExactConflictingItems', WHERE WHAT IT READS IS OF BULK AT MOST 1048576: true; the input reads as it did. -/
def fnExactConflictingItemsUptoRow : OpenClaim := { program := "ytbofobjofngoeaa", sum := "a7af812f62f274d71faa2317dc77377d26ba98096a8eb969d25ac2d6456518e3", func := "loop.example/g00876/laws.FnExactConflictingItems", spec := "fnExactConflictingItems", unfollowed := true, recurses := true, apart := false, narrowed := true }
def FnExactConflictingItemsUptoSaid : Prop := fnExactConflictingItemsUptoRow.holds Try.pinned (OpenSpec.upto fnExactConflictingItemsSpec)

/-- 'laws.FnExactMergeHistories', WHERE WHAT IT READS IS OF BULK AT MOST 1048576: true; the input reads as it did. -/
def fnExactMergeHistoriesUptoRow : OpenClaim := { program := "ytbofobjofngoeaa", sum := "a7af812f62f274d71faa2317dc77377d26ba98096a8eb969d25ac2d6456518e3", func := "loop.example/g00876/laws.FnExactMergeHistories", spec := "fnExactMergeHistories", unfollowed := true, recurses := true, apart := false, narrowed := true }
def FnExactMergeHistoriesUptoSaid : Prop := fnExactMergeHistoriesUptoRow.holds Try.pinned (OpenSpec.upto fnExactMergeHistoriesSpec)

/-- 'laws.FnExactMakeEdit', WHERE WHAT IT READS IS OF BULK AT MOST 1048576: true; the input reads as it did. -/
def fnExactMakeEditUptoRow : OpenClaim := { program := "ytbofobjofngoeaa", sum := "a7af812f62f274d71faa2317dc77377d26ba98096a8eb969d25ac2d6456518e3", func := "loop.example/g00876/laws.FnExactMakeEdit", spec := "fnExactMakeEdit", unfollowed := true, recurses := true, apart := false, narrowed := true }
def FnExactMakeEditUptoSaid : Prop := fnExactMakeEditUptoRow.holds Try.pinned (OpenSpec.upto fnExactMakeEditSpec)

/-- 'laws.FnHistories', WHERE WHAT IT READS IS OF BULK AT MOST 1048576: true; the input reads as it did. -/
def fnHistoriesUptoRow : OpenClaim := { program := "ytbofobjofngoeaa", sum := "a7af812f62f274d71faa2317dc77377d26ba98096a8eb969d25ac2d6456518e3", func := "loop.example/g00876/laws.FnHistories", spec := "fnHistories", unfollowed := true, recurses := true, apart := false, narrowed := true }
def FnHistoriesUptoSaid : Prop := fnHistoriesUptoRow.holds Try.pinned (OpenSpec.upto fnHistoriesSpec)

end Rows
end Go.Proofs.Ytbofobjofngoeaa
