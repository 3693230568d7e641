/-
  No cell of these rows narrows 'for every input' (looked for: loops, veiled, ifaces, maps, wideKeys, modest, calm, conditions, laid).
  DERIVED. THE GIVEN ROWS OF THIS SEAT. 12 by the template 'for every input the law returns true; each argument reads behind the call as it read before'; 0 by the template 'total and deterministic' (their statements: YtlphkfkcfomlbaaTotals.lean).
  GIVEN WITH THE SEED: the statements are not yours to turn. If you find one false, say at which input.
  Laid BY PROGRAM, IN A SANDBOX (cutbox-rows.mjs): the forced cells as the released guide's own fill.sh prints them over the translation d86b77f969fa01fd… (all of the seat's roots in one cut). By AI agents, Wed Nov 11 2026. No macro, syntax, notation, axiom, sorry.
-/
import Derived.Test.YtlphkfkcfomlbaaChecked
import GoSem.Claim
import GoSem.ClaimJoined
import GoSem.ClaimMapViews
import Derived.JoinedTies
import Derived.KernelRfl
namespace Go.Proofs.Ytlphkfkcfomlbaa
/- THE CELL 'sum', in the pinned program and in every row, IS THE sha256 OF THE DUMP (.gsa) THAT YtlphkfkcfomlbaaProg.lean LOADS. Nothing in Lean hashes anything: it is a label: what it is worth is what the hold of that sum in a sandbox is worth. -/
noncomputable def Try.pinned : Pinned := { name := "ytlphkfkcfomlbaa", sum := "d86b77f969fa01fd52dc19b07ee27e7e05be4989ae81363c7492188963db0022", checked := Try.checked }
namespace Rows
def none {H : Type} : Left H := { results := [], args := [] }

/-- 'laws.FnHeights': WHATEVER THE INPUT: true; the input reads as it did. -/
def fnHeightsSpec : ChangeSpec := { name := "fnHeights", fn := fun _ => fun
  | [d] => { results := [.lit (.bool true)], args := [d] }
  | _ => none }
def fnHeightsRow : OpenClaim := { program := "ytlphkfkcfomlbaa", sum := "d86b77f969fa01fd52dc19b07ee27e7e05be4989ae81363c7492188963db0022", func := "loop.example/g00876/laws.FnHeights", spec := "fnHeights", unfollowed := true, recurses := true, apart := false }
def FnHeightsSaid : Prop := fnHeightsRow.holds Try.pinned (OpenSpec.ofChange fnHeightsSpec)

/-- ITS FALSE NEIGHBOUR: 'it returns false'. Refute it at one input. -/
def fnHeightsWrong : ChangeSpec := { name := "fnHeights", fn := fun _ => fun
  | [d] => { results := [.lit (.bool false)], args := [d] }
  | _ => none }
def FnHeightsWrongFalsely : Prop := fnHeightsRow.holds Try.pinned (OpenSpec.ofChange fnHeightsWrong)

/-- 'laws.FnFlows': WHATEVER THE INPUT: true; the input reads as it did. -/
def fnFlowsSpec : ChangeSpec := { name := "fnFlows", fn := fun _ => fun
  | [d] => { results := [.lit (.bool true)], args := [d] }
  | _ => none }
def fnFlowsRow : OpenClaim := { program := "ytlphkfkcfomlbaa", sum := "d86b77f969fa01fd52dc19b07ee27e7e05be4989ae81363c7492188963db0022", func := "loop.example/g00876/laws.FnFlows", spec := "fnFlows", unfollowed := true, recurses := true, apart := false }
def FnFlowsSaid : Prop := fnFlowsRow.holds Try.pinned (OpenSpec.ofChange fnFlowsSpec)

/-- ITS FALSE NEIGHBOUR: 'it returns false'. Refute it at one input. -/
def fnFlowsWrong : ChangeSpec := { name := "fnFlows", fn := fun _ => fun
  | [d] => { results := [.lit (.bool false)], args := [d] }
  | _ => none }
def FnFlowsWrongFalsely : Prop := fnFlowsRow.holds Try.pinned (OpenSpec.ofChange fnFlowsWrong)

/-- 'laws.FnExactIsValidSamples': WHATEVER THE INPUT: true; the input reads as it did. -/
def fnExactIsValidSamplesSpec : ChangeSpec := { name := "fnExactIsValidSamples", fn := fun _ => fun
  | [d] => { results := [.lit (.bool true)], args := [d] }
  | _ => none }
def fnExactIsValidSamplesRow : OpenClaim := { program := "ytlphkfkcfomlbaa", sum := "d86b77f969fa01fd52dc19b07ee27e7e05be4989ae81363c7492188963db0022", func := "loop.example/g00876/laws.FnExactIsValidSamples", spec := "fnExactIsValidSamples", apart := false }
def FnExactIsValidSamplesSaid : Prop := fnExactIsValidSamplesRow.holds Try.pinned (OpenSpec.ofChange fnExactIsValidSamplesSpec)

/-- ITS FALSE NEIGHBOUR: 'it returns false'. Refute it at one input. -/
def fnExactIsValidSamplesWrong : ChangeSpec := { name := "fnExactIsValidSamples", fn := fun _ => fun
  | [d] => { results := [.lit (.bool false)], args := [d] }
  | _ => none }
def FnExactIsValidSamplesWrongFalsely : Prop := fnExactIsValidSamplesRow.holds Try.pinned (OpenSpec.ofChange fnExactIsValidSamplesWrong)

/-- 'laws.FnExactCustodyBalance': WHATEVER THE INPUT: true; the input reads as it did. -/
def fnExactCustodyBalanceSpec : ChangeSpec := { name := "fnExactCustodyBalance", fn := fun _ => fun
  | [d] => { results := [.lit (.bool true)], args := [d] }
  | _ => none }
def fnExactCustodyBalanceRow : OpenClaim := { program := "ytlphkfkcfomlbaa", sum := "d86b77f969fa01fd52dc19b07ee27e7e05be4989ae81363c7492188963db0022", func := "loop.example/g00876/laws.FnExactCustodyBalance", spec := "fnExactCustodyBalance", apart := false }
def FnExactCustodyBalanceSaid : Prop := fnExactCustodyBalanceRow.holds Try.pinned (OpenSpec.ofChange fnExactCustodyBalanceSpec)

/-- ITS FALSE NEIGHBOUR: 'it returns false'. Refute it at one input. -/
def fnExactCustodyBalanceWrong : ChangeSpec := { name := "fnExactCustodyBalance", fn := fun _ => fun
  | [d] => { results := [.lit (.bool false)], args := [d] }
  | _ => none }
def FnExactCustodyBalanceWrongFalsely : Prop := fnExactCustodyBalanceRow.holds Try.pinned (OpenSpec.ofChange fnExactCustodyBalanceWrong)

/-- 'laws.FnExactLeftOf': WHATEVER THE INPUT: true; the input reads as it did. -/
def fnExactLeftOfSpec : ChangeSpec := { name := "fnExactLeftOf", fn := fun _ => fun
  | [d1, d2] => { results := [.lit (.bool true)], args := [d1, d2] }
  | _ => none }
def fnExactLeftOfRow : OpenClaim := { program := "ytlphkfkcfomlbaa", sum := "d86b77f969fa01fd52dc19b07ee27e7e05be4989ae81363c7492188963db0022", func := "loop.example/g00876/laws.FnExactLeftOf", spec := "fnExactLeftOf", apart := false }
def FnExactLeftOfSaid : Prop := fnExactLeftOfRow.holds Try.pinned (OpenSpec.ofChange fnExactLeftOfSpec)

/-- ITS FALSE NEIGHBOUR: 'it returns false'. Refute it at one input. -/
def fnExactLeftOfWrong : ChangeSpec := { name := "fnExactLeftOf", fn := fun _ => fun
  | [d1, d2] => { results := [.lit (.bool false)], args := [d1, d2] }
  | _ => none }
def FnExactLeftOfWrongFalsely : Prop := fnExactLeftOfRow.holds Try.pinned (OpenSpec.ofChange fnExactLeftOfWrong)

/-- 'laws.FnExactSamplesOf': WHATEVER THE INPUT: true; the input reads as it did. -/
def fnExactSamplesOfSpec : ChangeSpec := { name := "fnExactSamplesOf", fn := fun _ => fun
  | [d1, d2] => { results := [.lit (.bool true)], args := [d1, d2] }
  | _ => none }
def fnExactSamplesOfRow : OpenClaim := { program := "ytlphkfkcfomlbaa", sum := "d86b77f969fa01fd52dc19b07ee27e7e05be4989ae81363c7492188963db0022", func := "loop.example/g00876/laws.FnExactSamplesOf", spec := "fnExactSamplesOf", unfollowed := true, recurses := true, apart := false }
def FnExactSamplesOfSaid : Prop := fnExactSamplesOfRow.holds Try.pinned (OpenSpec.ofChange fnExactSamplesOfSpec)

/-- ITS FALSE NEIGHBOUR: 'it returns false'. Refute it at one input. -/
def fnExactSamplesOfWrong : ChangeSpec := { name := "fnExactSamplesOf", fn := fun _ => fun
  | [d1, d2] => { results := [.lit (.bool false)], args := [d1, d2] }
  | _ => none }
def FnExactSamplesOfWrongFalsely : Prop := fnExactSamplesOfRow.holds Try.pinned (OpenSpec.ofChange fnExactSamplesOfWrong)

/-- 'laws.FnExactAncestryOf': WHATEVER THE INPUT: true; the input reads as it did. -/
def fnExactAncestryOfSpec : ChangeSpec := { name := "fnExactAncestryOf", fn := fun _ => fun
  | [d1, d2] => { results := [.lit (.bool true)], args := [d1, d2] }
  | _ => none }
def fnExactAncestryOfRow : OpenClaim := { program := "ytlphkfkcfomlbaa", sum := "d86b77f969fa01fd52dc19b07ee27e7e05be4989ae81363c7492188963db0022", func := "loop.example/g00876/laws.FnExactAncestryOf", spec := "fnExactAncestryOf", apart := false }
def FnExactAncestryOfSaid : Prop := fnExactAncestryOfRow.holds Try.pinned (OpenSpec.ofChange fnExactAncestryOfSpec)

/-- ITS FALSE NEIGHBOUR: 'it returns false'. Refute it at one input. -/
def fnExactAncestryOfWrong : ChangeSpec := { name := "fnExactAncestryOf", fn := fun _ => fun
  | [d1, d2] => { results := [.lit (.bool false)], args := [d1, d2] }
  | _ => none }
def FnExactAncestryOfWrongFalsely : Prop := fnExactAncestryOfRow.holds Try.pinned (OpenSpec.ofChange fnExactAncestryOfWrong)

/-- 'laws.FnExactDerivedFrom': WHATEVER THE INPUT: true; the input reads as it did. -/
def fnExactDerivedFromSpec : ChangeSpec := { name := "fnExactDerivedFrom", fn := fun _ => fun
  | [d1, d2] => { results := [.lit (.bool true)], args := [d1, d2] }
  | _ => none }
def fnExactDerivedFromRow : OpenClaim := { program := "ytlphkfkcfomlbaa", sum := "d86b77f969fa01fd52dc19b07ee27e7e05be4989ae81363c7492188963db0022", func := "loop.example/g00876/laws.FnExactDerivedFrom", spec := "fnExactDerivedFrom", unfollowed := true, recurses := true, apart := false }
def FnExactDerivedFromSaid : Prop := fnExactDerivedFromRow.holds Try.pinned (OpenSpec.ofChange fnExactDerivedFromSpec)

/-- ITS FALSE NEIGHBOUR: 'it returns false'. Refute it at one input. -/
def fnExactDerivedFromWrong : ChangeSpec := { name := "fnExactDerivedFrom", fn := fun _ => fun
  | [d1, d2] => { results := [.lit (.bool false)], args := [d1, d2] }
  | _ => none }
def FnExactDerivedFromWrongFalsely : Prop := fnExactDerivedFromRow.holds Try.pinned (OpenSpec.ofChange fnExactDerivedFromWrong)

/-- 'laws.FnSamples': WHATEVER THE INPUT: true; the input reads as it did. -/
def fnSamplesSpec : ChangeSpec := { name := "fnSamples", fn := fun _ => fun
  | [d] => { results := [.lit (.bool true)], args := [d] }
  | _ => none }
def fnSamplesRow : OpenClaim := { program := "ytlphkfkcfomlbaa", sum := "d86b77f969fa01fd52dc19b07ee27e7e05be4989ae81363c7492188963db0022", func := "loop.example/g00876/laws.FnSamples", spec := "fnSamples", apart := false }
def FnSamplesSaid : Prop := fnSamplesRow.holds Try.pinned (OpenSpec.ofChange fnSamplesSpec)

/-- ITS FALSE NEIGHBOUR: 'it returns false'. Refute it at one input. -/
def fnSamplesWrong : ChangeSpec := { name := "fnSamples", fn := fun _ => fun
  | [d] => { results := [.lit (.bool false)], args := [d] }
  | _ => none }
def FnSamplesWrongFalsely : Prop := fnSamplesRow.holds Try.pinned (OpenSpec.ofChange fnSamplesWrong)

/-- 'laws.FnCover': WHATEVER THE INPUT: true; the input reads as it did. -/
def fnCoverSpec : ChangeSpec := { name := "fnCover", fn := fun _ => fun
  | [d] => { results := [.lit (.bool true)], args := [d] }
  | _ => none }
def fnCoverRow : OpenClaim := { program := "ytlphkfkcfomlbaa", sum := "d86b77f969fa01fd52dc19b07ee27e7e05be4989ae81363c7492188963db0022", func := "loop.example/g00876/laws.FnCover", spec := "fnCover", unfollowed := true, recurses := true, apart := false }
def FnCoverSaid : Prop := fnCoverRow.holds Try.pinned (OpenSpec.ofChange fnCoverSpec)

/-- ITS FALSE NEIGHBOUR: 'it returns false'. Refute it at one input. -/
def fnCoverWrong : ChangeSpec := { name := "fnCover", fn := fun _ => fun
  | [d] => { results := [.lit (.bool false)], args := [d] }
  | _ => none }
def FnCoverWrongFalsely : Prop := fnCoverRow.holds Try.pinned (OpenSpec.ofChange fnCoverWrong)

/-- 'laws.FnExactSmallestCover': WHATEVER THE INPUT: true; the input reads as it did. -/
def fnExactSmallestCoverSpec : ChangeSpec := { name := "fnExactSmallestCover", fn := fun _ => fun
  | [d1, d2, d3] => { results := [.lit (.bool true)], args := [d1, d2, d3] }
  | _ => none }
def fnExactSmallestCoverRow : OpenClaim := { program := "ytlphkfkcfomlbaa", sum := "d86b77f969fa01fd52dc19b07ee27e7e05be4989ae81363c7492188963db0022", func := "loop.example/g00876/laws.FnExactSmallestCover", spec := "fnExactSmallestCover", unfollowed := true, recurses := true, apart := false }
def FnExactSmallestCoverSaid : Prop := fnExactSmallestCoverRow.holds Try.pinned (OpenSpec.ofChange fnExactSmallestCoverSpec)

/-- ITS FALSE NEIGHBOUR: 'it returns false'. Refute it at one input. -/
def fnExactSmallestCoverWrong : ChangeSpec := { name := "fnExactSmallestCover", fn := fun _ => fun
  | [d1, d2, d3] => { results := [.lit (.bool false)], args := [d1, d2, d3] }
  | _ => none }
def FnExactSmallestCoverWrongFalsely : Prop := fnExactSmallestCoverRow.holds Try.pinned (OpenSpec.ofChange fnExactSmallestCoverWrong)

/-- 'laws.FnExactApplyStep': WHATEVER THE INPUT: true; the input reads as it did. -/
def fnExactApplyStepSpec : ChangeSpec := { name := "fnExactApplyStep", fn := fun _ => fun
  | [d1, d2] => { results := [.lit (.bool true)], args := [d1, d2] }
  | _ => none }
def fnExactApplyStepRow : OpenClaim := { program := "ytlphkfkcfomlbaa", sum := "d86b77f969fa01fd52dc19b07ee27e7e05be4989ae81363c7492188963db0022", func := "loop.example/g00876/laws.FnExactApplyStep", spec := "fnExactApplyStep", apart := false }
def FnExactApplyStepSaid : Prop := fnExactApplyStepRow.holds Try.pinned (OpenSpec.ofChange fnExactApplyStepSpec)

/-- ITS FALSE NEIGHBOUR: 'it returns false'. Refute it at one input. -/
def fnExactApplyStepWrong : ChangeSpec := { name := "fnExactApplyStep", fn := fun _ => fun
  | [d1, d2] => { results := [.lit (.bool false)], args := [d1, d2] }
  | _ => none }
def FnExactApplyStepWrongFalsely : Prop := fnExactApplyStepRow.holds Try.pinned (OpenSpec.ofChange fnExactApplyStepWrong)

/- THE SECOND FORM. 'bulk': how many values and letters a reading holds, each counted each time it is reached (what is shared counts as often as it is met; a slice's spare places count too). A statement '..UptoSaid' is the law's where the arguments, and the package variables that the reading takes, are together of bulk at most 1048576: NARROWER than '..Said'. Prove '..Said' where nothing that the law and all that it calls make is longer than what came in: it says more and counts as full. Else prove '..UptoSaid'. A law counts once. -/
mutual
def uptoBulk {H : Type} : DataW H → Nat
  | .lit (.string bytes) => bytes.length + 1
  | .lit _ => 1
  | .nil => 1
  | .ptr d => uptoBulk d + 1
  | .slice elems spare => uptoBulkAll elems + uptoBulkAll spare + 1
  | .agg parts => uptoBulkAll parts + 1
  | .iface _ d => uptoBulk d + 1
  | .map entries => uptoBulkEntries entries + 1
  | .held _ => 1
def uptoBulkAll {H : Type} : List (DataW H) → Nat
  | [] => 0
  | d :: r => uptoBulk d + uptoBulkAll r
def uptoBulkEntries {H : Type} : List (Lit × DataW H) → Nat
  | [] => 0
  | x :: r => uptoBulkEntry x + uptoBulkEntries r
def uptoBulkEntry {H : Type} : Lit × DataW H → Nat
  | (.string bytes, d) => bytes.length + uptoBulk d + 1
  | (_, d) => uptoBulk d + 1
 end
def uptoSmall : (H : Type) → List (DataW H) → Bool := fun _ ds => decide (uptoBulkAll ds ≤ 1048576)
def OpenSpec.upto (s : _root_.Go.ChangeSpec) : _root_.Go.OpenSpec := { _root_.Go.OpenSpec.ofChange s with cond := some uptoSmall }

/-- 'laws.FnHeights', WHERE WHAT IT READS IS OF BULK AT MOST 1048576: true; the input reads as it did. -/
def fnHeightsUptoRow : OpenClaim := { program := "ytlphkfkcfomlbaa", sum := "d86b77f969fa01fd52dc19b07ee27e7e05be4989ae81363c7492188963db0022", func := "loop.example/g00876/laws.FnHeights", spec := "fnHeights", unfollowed := true, recurses := true, apart := false, narrowed := true }
def FnHeightsUptoSaid : Prop := fnHeightsUptoRow.holds Try.pinned (OpenSpec.upto fnHeightsSpec)

/-- 'laws.FnFlows', WHERE WHAT IT READS IS OF BULK AT MOST 1048576: true; the input reads as it did. -/
def fnFlowsUptoRow : OpenClaim := { program := "ytlphkfkcfomlbaa", sum := "d86b77f969fa01fd52dc19b07ee27e7e05be4989ae81363c7492188963db0022", func := "loop.example/g00876/laws.FnFlows", spec := "fnFlows", unfollowed := true, recurses := true, apart := false, narrowed := true }
def FnFlowsUptoSaid : Prop := fnFlowsUptoRow.holds Try.pinned (OpenSpec.upto fnFlowsSpec)

/-- 'laws.FnExactIsValidSamples', WHERE WHAT IT READS IS OF BULK AT MOST 1048576: true; the input reads as it did. -/
def fnExactIsValidSamplesUptoRow : OpenClaim := { program := "ytlphkfkcfomlbaa", sum := "d86b77f969fa01fd52dc19b07ee27e7e05be4989ae81363c7492188963db0022", func := "loop.example/g00876/laws.FnExactIsValidSamples", spec := "fnExactIsValidSamples", apart := false, narrowed := true }
def FnExactIsValidSamplesUptoSaid : Prop := fnExactIsValidSamplesUptoRow.holds Try.pinned (OpenSpec.upto fnExactIsValidSamplesSpec)

/-- 'laws.FnExactCustodyBalance', WHERE WHAT IT READS IS OF BULK AT MOST 1048576: true; the input reads as it did. -/
def fnExactCustodyBalanceUptoRow : OpenClaim := { program := "ytlphkfkcfomlbaa", sum := "d86b77f969fa01fd52dc19b07ee27e7e05be4989ae81363c7492188963db0022", func := "loop.example/g00876/laws.FnExactCustodyBalance", spec := "fnExactCustodyBalance", apart := false, narrowed := true }
def FnExactCustodyBalanceUptoSaid : Prop := fnExactCustodyBalanceUptoRow.holds Try.pinned (OpenSpec.upto fnExactCustodyBalanceSpec)

/-- 'laws.FnExactLeftOf', WHERE WHAT IT READS IS OF BULK AT MOST 1048576: true; the input reads as it did. -/
def fnExactLeftOfUptoRow : OpenClaim := { program := "ytlphkfkcfomlbaa", sum := "d86b77f969fa01fd52dc19b07ee27e7e05be4989ae81363c7492188963db0022", func := "loop.example/g00876/laws.FnExactLeftOf", spec := "fnExactLeftOf", apart := false, narrowed := true }
def FnExactLeftOfUptoSaid : Prop := fnExactLeftOfUptoRow.holds Try.pinned (OpenSpec.upto fnExactLeftOfSpec)

/-- 'laws.FnExactSamplesOf', WHERE WHAT IT READS IS OF BULK AT MOST 1048576: true; the input reads as it did. -/
def fnExactSamplesOfUptoRow : OpenClaim := { program := "ytlphkfkcfomlbaa", sum := "d86b77f969fa01fd52dc19b07ee27e7e05be4989ae81363c7492188963db0022", func := "loop.example/g00876/laws.FnExactSamplesOf", spec := "fnExactSamplesOf", unfollowed := true, recurses := true, apart := false, narrowed := true }
def FnExactSamplesOfUptoSaid : Prop := fnExactSamplesOfUptoRow.holds Try.pinned (OpenSpec.upto fnExactSamplesOfSpec)

/-- 'laws.FnExactAncestryOf', WHERE WHAT IT READS IS OF BULK AT MOST 1048576: true; the input reads as it did. -/
def fnExactAncestryOfUptoRow : OpenClaim := { program := "ytlphkfkcfomlbaa", sum := "d86b77f969fa01fd52dc19b07ee27e7e05be4989ae81363c7492188963db0022", func := "loop.example/g00876/laws.FnExactAncestryOf", spec := "fnExactAncestryOf", apart := false, narrowed := true }
def FnExactAncestryOfUptoSaid : Prop := fnExactAncestryOfUptoRow.holds Try.pinned (OpenSpec.upto fnExactAncestryOfSpec)

/-- 'laws.FnExactDerivedFrom', WHERE WHAT IT READS IS OF BULK AT MOST 1048576: true; the input reads as it did. -/
def fnExactDerivedFromUptoRow : OpenClaim := { program := "ytlphkfkcfomlbaa", sum := "d86b77f969fa01fd52dc19b07ee27e7e05be4989ae81363c7492188963db0022", func := "loop.example/g00876/laws.FnExactDerivedFrom", spec := "fnExactDerivedFrom", unfollowed := true, recurses := true, apart := false, narrowed := true }
def FnExactDerivedFromUptoSaid : Prop := fnExactDerivedFromUptoRow.holds Try.pinned (OpenSpec.upto fnExactDerivedFromSpec)

/-- 'laws.FnSamples', WHERE WHAT IT READS IS OF BULK AT MOST 1048576: true; the input reads as it did. -/
def fnSamplesUptoRow : OpenClaim := { program := "ytlphkfkcfomlbaa", sum := "d86b77f969fa01fd52dc19b07ee27e7e05be4989ae81363c7492188963db0022", func := "loop.example/g00876/laws.FnSamples", spec := "fnSamples", apart := false, narrowed := true }
def FnSamplesUptoSaid : Prop := fnSamplesUptoRow.holds Try.pinned (OpenSpec.upto fnSamplesSpec)

/-- 'laws.FnCover', WHERE WHAT IT READS IS OF BULK AT MOST 1048576: true; the input reads as it did. -/
def fnCoverUptoRow : OpenClaim := { program := "ytlphkfkcfomlbaa", sum := "d86b77f969fa01fd52dc19b07ee27e7e05be4989ae81363c7492188963db0022", func := "loop.example/g00876/laws.FnCover", spec := "fnCover", unfollowed := true, recurses := true, apart := false, narrowed := true }
def FnCoverUptoSaid : Prop := fnCoverUptoRow.holds Try.pinned (OpenSpec.upto fnCoverSpec)

/-- 'laws.FnExactSmallestCover', WHERE WHAT IT READS IS OF BULK AT MOST 1048576: true; the input reads as it did. -/
def fnExactSmallestCoverUptoRow : OpenClaim := { program := "ytlphkfkcfomlbaa", sum := "d86b77f969fa01fd52dc19b07ee27e7e05be4989ae81363c7492188963db0022", func := "loop.example/g00876/laws.FnExactSmallestCover", spec := "fnExactSmallestCover", unfollowed := true, recurses := true, apart := false, narrowed := true }
def FnExactSmallestCoverUptoSaid : Prop := fnExactSmallestCoverUptoRow.holds Try.pinned (OpenSpec.upto fnExactSmallestCoverSpec)

/-- 'laws.FnExactApplyStep', WHERE WHAT IT READS IS OF BULK AT MOST 1048576: true; the input reads as it did. -/
def fnExactApplyStepUptoRow : OpenClaim := { program := "ytlphkfkcfomlbaa", sum := "d86b77f969fa01fd52dc19b07ee27e7e05be4989ae81363c7492188963db0022", func := "loop.example/g00876/laws.FnExactApplyStep", spec := "fnExactApplyStep", apart := false, narrowed := true }
def FnExactApplyStepUptoSaid : Prop := fnExactApplyStepUptoRow.holds Try.pinned (OpenSpec.upto fnExactApplyStepSpec)

end Rows
end Go.Proofs.Ytlphkfkcfomlbaa
