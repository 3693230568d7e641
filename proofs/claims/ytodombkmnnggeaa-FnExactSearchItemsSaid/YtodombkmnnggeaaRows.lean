/-
  No cell of these rows narrows 'for every input' (looked for: loops, veiled, ifaces, maps, wideKeys, modest, calm, conditions, laid).
  DERIVED. THE GIVEN ROWS OF THIS SEAT. 12 by the template 'for every input the law returns true; each argument reads behind the call as it read before'; 0 by the template 'total and deterministic' (their statements: YtodombkmnnggeaaTotals.lean).
  GIVEN WITH THE SEED: the statements are not yours to turn. If you find one false, say at which input.
  Laid BY PROGRAM, IN A SANDBOX (cutbox-rows.mjs): the forced cells as the released guide's own fill.sh prints them over the translation 6398a3022947879e… (all of the seat's roots in one cut). By AI agents, Wed Nov 11 2026. No macro, syntax, notation, axiom, sorry.
-/
import Derived.Test.YtodombkmnnggeaaChecked
import GoSem.Claim
import GoSem.ClaimJoined
import GoSem.ClaimMapViews
import Derived.JoinedTies
import Derived.KernelRfl
namespace Go.Proofs.Ytodombkmnnggeaa
/- THE CELL 'sum', in the pinned program and in every row, IS THE sha256 OF THE DUMP (.gsa) THAT YtodombkmnnggeaaProg.lean LOADS. Nothing in Lean hashes anything: it is a label: what it is worth is what the hold of that sum in a sandbox is worth. -/
noncomputable def Try.pinned : Pinned := { name := "ytodombkmnnggeaa", sum := "6398a3022947879e04a33fdae614d350128c751d0271d68dea6ce06f9bbd6f64", checked := Try.checked }
namespace Rows
def none {H : Type} : Left H := { results := [], args := [] }

/-- 'laws.FnCustody': WHATEVER THE INPUT: true; the input reads as it did. -/
def fnCustodySpec : ChangeSpec := { name := "fnCustody", fn := fun _ => fun
  | [d] => { results := [.lit (.bool true)], args := [d] }
  | _ => none }
def fnCustodyRow : OpenClaim := { program := "ytodombkmnnggeaa", sum := "6398a3022947879e04a33fdae614d350128c751d0271d68dea6ce06f9bbd6f64", func := "loop.example/g00876/laws.FnCustody", spec := "fnCustody", unfollowed := true, recurses := true, apart := false }
def FnCustodySaid : Prop := fnCustodyRow.holds Try.pinned (OpenSpec.ofChange fnCustodySpec)

/-- ITS FALSE NEIGHBOUR: 'it returns false'. Refute it at one input. -/
def fnCustodyWrong : ChangeSpec := { name := "fnCustody", fn := fun _ => fun
  | [d] => { results := [.lit (.bool false)], args := [d] }
  | _ => none }
def FnCustodyWrongFalsely : Prop := fnCustodyRow.holds Try.pinned (OpenSpec.ofChange fnCustodyWrong)

/-- 'laws.FnExactRunSteps': WHATEVER THE INPUT: true; the input reads as it did. -/
def fnExactRunStepsSpec : ChangeSpec := { name := "fnExactRunSteps", fn := fun _ => fun
  | [d1, d2] => { results := [.lit (.bool true)], args := [d1, d2] }
  | _ => none }
def fnExactRunStepsRow : OpenClaim := { program := "ytodombkmnnggeaa", sum := "6398a3022947879e04a33fdae614d350128c751d0271d68dea6ce06f9bbd6f64", func := "loop.example/g00876/laws.FnExactRunSteps", spec := "fnExactRunSteps", apart := false }
def FnExactRunStepsSaid : Prop := fnExactRunStepsRow.holds Try.pinned (OpenSpec.ofChange fnExactRunStepsSpec)

/-- ITS FALSE NEIGHBOUR: 'it returns false'. Refute it at one input. -/
def fnExactRunStepsWrong : ChangeSpec := { name := "fnExactRunSteps", fn := fun _ => fun
  | [d1, d2] => { results := [.lit (.bool false)], args := [d1, d2] }
  | _ => none }
def FnExactRunStepsWrongFalsely : Prop := fnExactRunStepsRow.holds Try.pinned (OpenSpec.ofChange fnExactRunStepsWrong)

/-- 'laws.FnExactIsValidRegister': WHATEVER THE INPUT: true; the input reads as it did. -/
def fnExactIsValidRegisterSpec : ChangeSpec := { name := "fnExactIsValidRegister", fn := fun _ => fun
  | [d] => { results := [.lit (.bool true)], args := [d] }
  | _ => none }
def fnExactIsValidRegisterRow : OpenClaim := { program := "ytodombkmnnggeaa", sum := "6398a3022947879e04a33fdae614d350128c751d0271d68dea6ce06f9bbd6f64", func := "loop.example/g00876/laws.FnExactIsValidRegister", spec := "fnExactIsValidRegister", unfollowed := true, recurses := true, apart := false }
def FnExactIsValidRegisterSaid : Prop := fnExactIsValidRegisterRow.holds Try.pinned (OpenSpec.ofChange fnExactIsValidRegisterSpec)

/-- ITS FALSE NEIGHBOUR: 'it returns false'. Refute it at one input. -/
def fnExactIsValidRegisterWrong : ChangeSpec := { name := "fnExactIsValidRegister", fn := fun _ => fun
  | [d] => { results := [.lit (.bool false)], args := [d] }
  | _ => none }
def FnExactIsValidRegisterWrongFalsely : Prop := fnExactIsValidRegisterRow.holds Try.pinned (OpenSpec.ofChange fnExactIsValidRegisterWrong)

/-- 'laws.FnExactItemState': WHATEVER THE INPUT: true; the input reads as it did. -/
def fnExactItemStateSpec : ChangeSpec := { name := "fnExactItemState", fn := fun _ => fun
  | [d1, d2] => { results := [.lit (.bool true)], args := [d1, d2] }
  | _ => none }
def fnExactItemStateRow : OpenClaim := { program := "ytodombkmnnggeaa", sum := "6398a3022947879e04a33fdae614d350128c751d0271d68dea6ce06f9bbd6f64", func := "loop.example/g00876/laws.FnExactItemState", spec := "fnExactItemState", unfollowed := true, recurses := true, apart := false }
def FnExactItemStateSaid : Prop := fnExactItemStateRow.holds Try.pinned (OpenSpec.ofChange fnExactItemStateSpec)

/-- ITS FALSE NEIGHBOUR: 'it returns false'. Refute it at one input. -/
def fnExactItemStateWrong : ChangeSpec := { name := "fnExactItemState", fn := fun _ => fun
  | [d1, d2] => { results := [.lit (.bool false)], args := [d1, d2] }
  | _ => none }
def FnExactItemStateWrongFalsely : Prop := fnExactItemStateRow.holds Try.pinned (OpenSpec.ofChange fnExactItemStateWrong)

/-- 'laws.FnExactRegisterAt': WHATEVER THE INPUT: true; the input reads as it did. -/
def fnExactRegisterAtSpec : ChangeSpec := { name := "fnExactRegisterAt", fn := fun _ => fun
  | [d1, d2] => { results := [.lit (.bool true)], args := [d1, d2] }
  | _ => none }
def fnExactRegisterAtRow : OpenClaim := { program := "ytodombkmnnggeaa", sum := "6398a3022947879e04a33fdae614d350128c751d0271d68dea6ce06f9bbd6f64", func := "loop.example/g00876/laws.FnExactRegisterAt", spec := "fnExactRegisterAt", unfollowed := true, recurses := true, apart := false }
def FnExactRegisterAtSaid : Prop := fnExactRegisterAtRow.holds Try.pinned (OpenSpec.ofChange fnExactRegisterAtSpec)

/-- ITS FALSE NEIGHBOUR: 'it returns false'. Refute it at one input. -/
def fnExactRegisterAtWrong : ChangeSpec := { name := "fnExactRegisterAt", fn := fun _ => fun
  | [d1, d2] => { results := [.lit (.bool false)], args := [d1, d2] }
  | _ => none }
def FnExactRegisterAtWrongFalsely : Prop := fnExactRegisterAtRow.holds Try.pinned (OpenSpec.ofChange fnExactRegisterAtWrong)

/-- 'laws.FnExactCompactRegister': WHATEVER THE INPUT: true; the input reads as it did. -/
def fnExactCompactRegisterSpec : ChangeSpec := { name := "fnExactCompactRegister", fn := fun _ => fun
  | [d] => { results := [.lit (.bool true)], args := [d] }
  | _ => none }
def fnExactCompactRegisterRow : OpenClaim := { program := "ytodombkmnnggeaa", sum := "6398a3022947879e04a33fdae614d350128c751d0271d68dea6ce06f9bbd6f64", func := "loop.example/g00876/laws.FnExactCompactRegister", spec := "fnExactCompactRegister", unfollowed := true, recurses := true, apart := false }
def FnExactCompactRegisterSaid : Prop := fnExactCompactRegisterRow.holds Try.pinned (OpenSpec.ofChange fnExactCompactRegisterSpec)

/-- ITS FALSE NEIGHBOUR: 'it returns false'. Refute it at one input. -/
def fnExactCompactRegisterWrong : ChangeSpec := { name := "fnExactCompactRegister", fn := fun _ => fun
  | [d] => { results := [.lit (.bool false)], args := [d] }
  | _ => none }
def FnExactCompactRegisterWrongFalsely : Prop := fnExactCompactRegisterRow.holds Try.pinned (OpenSpec.ofChange fnExactCompactRegisterWrong)

/-- 'laws.FnExactAppendEntry': WHATEVER THE INPUT: true; the input reads as it did. -/
def fnExactAppendEntrySpec : ChangeSpec := { name := "fnExactAppendEntry", fn := fun _ => fun
  | [d1, d2] => { results := [.lit (.bool true)], args := [d1, d2] }
  | _ => none }
def fnExactAppendEntryRow : OpenClaim := { program := "ytodombkmnnggeaa", sum := "6398a3022947879e04a33fdae614d350128c751d0271d68dea6ce06f9bbd6f64", func := "loop.example/g00876/laws.FnExactAppendEntry", spec := "fnExactAppendEntry", unfollowed := true, recurses := true, apart := false }
def FnExactAppendEntrySaid : Prop := fnExactAppendEntryRow.holds Try.pinned (OpenSpec.ofChange fnExactAppendEntrySpec)

/-- ITS FALSE NEIGHBOUR: 'it returns false'. Refute it at one input. -/
def fnExactAppendEntryWrong : ChangeSpec := { name := "fnExactAppendEntry", fn := fun _ => fun
  | [d1, d2] => { results := [.lit (.bool false)], args := [d1, d2] }
  | _ => none }
def FnExactAppendEntryWrongFalsely : Prop := fnExactAppendEntryRow.holds Try.pinned (OpenSpec.ofChange fnExactAppendEntryWrong)

/-- 'laws.FnExactItemNames': WHATEVER THE INPUT: true; the input reads as it did. -/
def fnExactItemNamesSpec : ChangeSpec := { name := "fnExactItemNames", fn := fun _ => fun
  | [d1, d2] => { results := [.lit (.bool true)], args := [d1, d2] }
  | _ => none }
def fnExactItemNamesRow : OpenClaim := { program := "ytodombkmnnggeaa", sum := "6398a3022947879e04a33fdae614d350128c751d0271d68dea6ce06f9bbd6f64", func := "loop.example/g00876/laws.FnExactItemNames", spec := "fnExactItemNames", unfollowed := true, recurses := true, apart := false }
def FnExactItemNamesSaid : Prop := fnExactItemNamesRow.holds Try.pinned (OpenSpec.ofChange fnExactItemNamesSpec)

/-- ITS FALSE NEIGHBOUR: 'it returns false'. Refute it at one input. -/
def fnExactItemNamesWrong : ChangeSpec := { name := "fnExactItemNames", fn := fun _ => fun
  | [d1, d2] => { results := [.lit (.bool false)], args := [d1, d2] }
  | _ => none }
def FnExactItemNamesWrongFalsely : Prop := fnExactItemNamesRow.holds Try.pinned (OpenSpec.ofChange fnExactItemNamesWrong)

/-- 'laws.FnExactHistoryOf': WHATEVER THE INPUT: true; the input reads as it did. -/
def fnExactHistoryOfSpec : ChangeSpec := { name := "fnExactHistoryOf", fn := fun _ => fun
  | [d1, d2] => { results := [.lit (.bool true)], args := [d1, d2] }
  | _ => none }
def fnExactHistoryOfRow : OpenClaim := { program := "ytodombkmnnggeaa", sum := "6398a3022947879e04a33fdae614d350128c751d0271d68dea6ce06f9bbd6f64", func := "loop.example/g00876/laws.FnExactHistoryOf", spec := "fnExactHistoryOf", unfollowed := true, recurses := true, apart := false }
def FnExactHistoryOfSaid : Prop := fnExactHistoryOfRow.holds Try.pinned (OpenSpec.ofChange fnExactHistoryOfSpec)

/-- ITS FALSE NEIGHBOUR: 'it returns false'. Refute it at one input. -/
def fnExactHistoryOfWrong : ChangeSpec := { name := "fnExactHistoryOf", fn := fun _ => fun
  | [d1, d2] => { results := [.lit (.bool false)], args := [d1, d2] }
  | _ => none }
def FnExactHistoryOfWrongFalsely : Prop := fnExactHistoryOfRow.holds Try.pinned (OpenSpec.ofChange fnExactHistoryOfWrong)

/-- 'laws.FnExactChangedItems': WHATEVER THE INPUT: true; the input reads as it did. -/
def fnExactChangedItemsSpec : ChangeSpec := { name := "fnExactChangedItems", fn := fun _ => fun
  | [d1, d2] => { results := [.lit (.bool true)], args := [d1, d2] }
  | _ => none }
def fnExactChangedItemsRow : OpenClaim := { program := "ytodombkmnnggeaa", sum := "6398a3022947879e04a33fdae614d350128c751d0271d68dea6ce06f9bbd6f64", func := "loop.example/g00876/laws.FnExactChangedItems", spec := "fnExactChangedItems", unfollowed := true, recurses := true, apart := false }
def FnExactChangedItemsSaid : Prop := fnExactChangedItemsRow.holds Try.pinned (OpenSpec.ofChange fnExactChangedItemsSpec)

/-- ITS FALSE NEIGHBOUR: 'it returns false'. Refute it at one input. -/
def fnExactChangedItemsWrong : ChangeSpec := { name := "fnExactChangedItems", fn := fun _ => fun
  | [d1, d2] => { results := [.lit (.bool false)], args := [d1, d2] }
  | _ => none }
def FnExactChangedItemsWrongFalsely : Prop := fnExactChangedItemsRow.holds Try.pinned (OpenSpec.ofChange fnExactChangedItemsWrong)

/-- 'laws.FnRegister': WHATEVER THE INPUT: true; the input reads as it did. -/
def fnRegisterSpec : ChangeSpec := { name := "fnRegister", fn := fun _ => fun
  | [d] => { results := [.lit (.bool true)], args := [d] }
  | _ => none }
def fnRegisterRow : OpenClaim := { program := "ytodombkmnnggeaa", sum := "6398a3022947879e04a33fdae614d350128c751d0271d68dea6ce06f9bbd6f64", func := "loop.example/g00876/laws.FnRegister", spec := "fnRegister", unfollowed := true, recurses := true, apart := false }
def FnRegisterSaid : Prop := fnRegisterRow.holds Try.pinned (OpenSpec.ofChange fnRegisterSpec)

/-- ITS FALSE NEIGHBOUR: 'it returns false'. Refute it at one input. -/
def fnRegisterWrong : ChangeSpec := { name := "fnRegister", fn := fun _ => fun
  | [d] => { results := [.lit (.bool false)], args := [d] }
  | _ => none }
def FnRegisterWrongFalsely : Prop := fnRegisterRow.holds Try.pinned (OpenSpec.ofChange fnRegisterWrong)

/-- 'laws.FnExactSearchItems': WHATEVER THE INPUT: true; the input reads as it did. -/
def fnExactSearchItemsSpec : ChangeSpec := { name := "fnExactSearchItems", fn := fun _ => fun
  | [d1, d2] => { results := [.lit (.bool true)], args := [d1, d2] }
  | _ => none }
def fnExactSearchItemsRow : OpenClaim := { program := "ytodombkmnnggeaa", sum := "6398a3022947879e04a33fdae614d350128c751d0271d68dea6ce06f9bbd6f64", func := "loop.example/g00876/laws.FnExactSearchItems", spec := "fnExactSearchItems", inPlace := ["internal/bytealg.IndexByteString", "internal/bytealg.IndexString"], unfollowed := true, recurses := true, named := ["internal/bytealg.MaxLen"], apart := false }
def FnExactSearchItemsSaid : Prop := fnExactSearchItemsRow.holds Try.pinned (OpenSpec.ofChange fnExactSearchItemsSpec)

/-- ITS FALSE NEIGHBOUR: 'it returns false'. Refute it at one input. -/
def fnExactSearchItemsWrong : ChangeSpec := { name := "fnExactSearchItems", fn := fun _ => fun
  | [d1, d2] => { results := [.lit (.bool false)], args := [d1, d2] }
  | _ => none }
def FnExactSearchItemsWrongFalsely : Prop := fnExactSearchItemsRow.holds Try.pinned (OpenSpec.ofChange fnExactSearchItemsWrong)

/- THE SECOND FORM. 'bulk': how many values and letters a reading holds, each counted each time it is reached (what is shared counts as often as it is met; a slice's spare places count too). A statement '..UptoSaid' is the law's where the arguments, and the package variables that the reading takes, are together of bulk at most 1048576: NARROWER than '..Said'. Prove '..Said' where nothing that the law and all that it calls make is longer than what came in: it says more and counts as full. Else prove '..UptoSaid'. A law counts once. -/
mutual
def uptoBulk {H : Type} : DataW H → Nat
  | .lit (.string bytes) => bytes.length + 1
  | .lit _ => 1
  | .nil => 1
  | .ptr d => uptoBulk d + 1
  | .slice elems spare => uptoBulkAll elems + uptoBulkAll spare + 1
  | .agg parts => uptoBulkAll parts + 1
  | .iface _ d => uptoBulk d + 1
  | .map entries => uptoBulkEntries entries + 1
  | .held _ => 1
def uptoBulkAll {H : Type} : List (DataW H) → Nat
  | [] => 0
  | d :: r => uptoBulk d + uptoBulkAll r
def uptoBulkEntries {H : Type} : List (Lit × DataW H) → Nat
  | [] => 0
  | x :: r => uptoBulkEntry x + uptoBulkEntries r
def uptoBulkEntry {H : Type} : Lit × DataW H → Nat
  | (.string bytes, d) => bytes.length + uptoBulk d + 1
  | (_, d) => uptoBulk d + 1
 end
def uptoSmall : (H : Type) → List (DataW H) → Bool := fun _ ds => decide (uptoBulkAll ds ≤ 1048576)
def OpenSpec.upto (s : _root_.Go.ChangeSpec) : _root_.Go.OpenSpec := { _root_.Go.OpenSpec.ofChange s with cond := some uptoSmall }

/-- 'laws.FnCustody', WHERE WHAT IT READS IS OF BULK AT MOST 1048576: true; the input reads as it did. -/
def fnCustodyUptoRow : OpenClaim := { program := "ytodombkmnnggeaa", sum := "6398a3022947879e04a33fdae614d350128c751d0271d68dea6ce06f9bbd6f64", func := "loop.example/g00876/laws.FnCustody", spec := "fnCustody", unfollowed := true, recurses := true, apart := false, narrowed := true }
def FnCustodyUptoSaid : Prop := fnCustodyUptoRow.holds Try.pinned (OpenSpec.upto fnCustodySpec)

/-- 'laws.FnExactRunSteps', WHERE WHAT IT READS IS OF BULK AT MOST 1048576: true; the input reads as it did. -/
def fnExactRunStepsUptoRow : OpenClaim := { program := "ytodombkmnnggeaa", sum := "6398a3022947879e04a33fdae614d350128c751d0271d68dea6ce06f9bbd6f64", func := "loop.example/g00876/laws.FnExactRunSteps", spec := "fnExactRunSteps", apart := false, narrowed := true }
def FnExactRunStepsUptoSaid : Prop := fnExactRunStepsUptoRow.holds Try.pinned (OpenSpec.upto fnExactRunStepsSpec)

/-- 'laws.FnExactIsValidRegister', WHERE WHAT IT READS IS OF BULK AT MOST 1048576: true; the input reads as it did. -/
def fnExactIsValidRegisterUptoRow : OpenClaim := { program := "ytodombkmnnggeaa", sum := "6398a3022947879e04a33fdae614d350128c751d0271d68dea6ce06f9bbd6f64", func := "loop.example/g00876/laws.FnExactIsValidRegister", spec := "fnExactIsValidRegister", unfollowed := true, recurses := true, apart := false, narrowed := true }
def FnExactIsValidRegisterUptoSaid : Prop := fnExactIsValidRegisterUptoRow.holds Try.pinned (OpenSpec.upto fnExactIsValidRegisterSpec)

/-- 'laws.FnExactItemState', WHERE WHAT IT READS IS OF BULK AT MOST 1048576: true; the input reads as it did. -/
def fnExactItemStateUptoRow : OpenClaim := { program := "ytodombkmnnggeaa", sum := "6398a3022947879e04a33fdae614d350128c751d0271d68dea6ce06f9bbd6f64", func := "loop.example/g00876/laws.FnExactItemState", spec := "fnExactItemState", unfollowed := true, recurses := true, apart := false, narrowed := true }
def FnExactItemStateUptoSaid : Prop := fnExactItemStateUptoRow.holds Try.pinned (OpenSpec.upto fnExactItemStateSpec)

/-- 'laws.FnExactRegisterAt', WHERE WHAT IT READS IS OF BULK AT MOST 1048576: true; the input reads as it did. -/
def fnExactRegisterAtUptoRow : OpenClaim := { program := "ytodombkmnnggeaa", sum := "6398a3022947879e04a33fdae614d350128c751d0271d68dea6ce06f9bbd6f64", func := "loop.example/g00876/laws.FnExactRegisterAt", spec := "fnExactRegisterAt", unfollowed := true, recurses := true, apart := false, narrowed := true }
def FnExactRegisterAtUptoSaid : Prop := fnExactRegisterAtUptoRow.holds Try.pinned (OpenSpec.upto fnExactRegisterAtSpec)

/-- 'laws.FnExactCompactRegister', WHERE WHAT IT READS IS OF BULK AT MOST 1048576: true; the input reads as it did. -/
def fnExactCompactRegisterUptoRow : OpenClaim := { program := "ytodombkmnnggeaa", sum := "6398a3022947879e04a33fdae614d350128c751d0271d68dea6ce06f9bbd6f64", func := "loop.example/g00876/laws.FnExactCompactRegister", spec := "fnExactCompactRegister", unfollowed := true, recurses := true, apart := false, narrowed := true }
def FnExactCompactRegisterUptoSaid : Prop := fnExactCompactRegisterUptoRow.holds Try.pinned (OpenSpec.upto fnExactCompactRegisterSpec)

/-- 'laws.FnExactAppendEntry', WHERE WHAT IT READS IS OF BULK AT MOST 1048576: true; the input reads as it did. -/
def fnExactAppendEntryUptoRow : OpenClaim := { program := "ytodombkmnnggeaa", sum := "6398a3022947879e04a33fdae614d350128c751d0271d68dea6ce06f9bbd6f64", func := "loop.example/g00876/laws.FnExactAppendEntry", spec := "fnExactAppendEntry", unfollowed := true, recurses := true, apart := false, narrowed := true }
def FnExactAppendEntryUptoSaid : Prop := fnExactAppendEntryUptoRow.holds Try.pinned (OpenSpec.upto fnExactAppendEntrySpec)

/-- 'laws.FnExactItemNames', WHERE WHAT IT READS IS OF BULK AT MOST 1048576: true; the input reads as it did. -/
def fnExactItemNamesUptoRow : OpenClaim := { program := "ytodombkmnnggeaa", sum := "6398a3022947879e04a33fdae614d350128c751d0271d68dea6ce06f9bbd6f64", func := "loop.example/g00876/laws.FnExactItemNames", spec := "fnExactItemNames", unfollowed := true, recurses := true, apart := false, narrowed := true }
def FnExactItemNamesUptoSaid : Prop := fnExactItemNamesUptoRow.holds Try.pinned (OpenSpec.upto fnExactItemNamesSpec)

/-- 'laws.FnExactHistoryOf', WHERE WHAT IT READS IS OF BULK AT MOST 1048576: true; the input reads as it did. -/
def fnExactHistoryOfUptoRow : OpenClaim := { program := "ytodombkmnnggeaa", sum := "6398a3022947879e04a33fdae614d350128c751d0271d68dea6ce06f9bbd6f64", func := "loop.example/g00876/laws.FnExactHistoryOf", spec := "fnExactHistoryOf", unfollowed := true, recurses := true, apart := false, narrowed := true }
def FnExactHistoryOfUptoSaid : Prop := fnExactHistoryOfUptoRow.holds Try.pinned (OpenSpec.upto fnExactHistoryOfSpec)

/-- 'laws.FnExactChangedItems', WHERE WHAT IT READS IS OF BULK AT MOST 1048576: true; the input reads as it did. -/
def fnExactChangedItemsUptoRow : OpenClaim := { program := "ytodombkmnnggeaa", sum := "6398a3022947879e04a33fdae614d350128c751d0271d68dea6ce06f9bbd6f64", func := "loop.example/g00876/laws.FnExactChangedItems", spec := "fnExactChangedItems", unfollowed := true, recurses := true, apart := false, narrowed := true }
def FnExactChangedItemsUptoSaid : Prop := fnExactChangedItemsUptoRow.holds Try.pinned (OpenSpec.upto fnExactChangedItemsSpec)

/-- 'laws.FnRegister', WHERE WHAT IT READS IS OF BULK AT MOST 1048576: true; the input reads as it did. -/
def fnRegisterUptoRow : OpenClaim := { program := "ytodombkmnnggeaa", sum := "6398a3022947879e04a33fdae614d350128c751d0271d68dea6ce06f9bbd6f64", func := "loop.example/g00876/laws.FnRegister", spec := "fnRegister", unfollowed := true, recurses := true, apart := false, narrowed := true }
def FnRegisterUptoSaid : Prop := fnRegisterUptoRow.holds Try.pinned (OpenSpec.upto fnRegisterSpec)

/-- 'laws.FnExactSearchItems', WHERE WHAT IT READS IS OF BULK AT MOST 1048576: true; the input reads as it did. -/
def fnExactSearchItemsUptoRow : OpenClaim := { program := "ytodombkmnnggeaa", sum := "6398a3022947879e04a33fdae614d350128c751d0271d68dea6ce06f9bbd6f64", func := "loop.example/g00876/laws.FnExactSearchItems", spec := "fnExactSearchItems", inPlace := ["internal/bytealg.IndexByteString", "internal/bytealg.IndexString"], unfollowed := true, recurses := true, named := ["internal/bytealg.MaxLen"], apart := false, narrowed := true }
def FnExactSearchItemsUptoSaid : Prop := fnExactSearchItemsUptoRow.holds Try.pinned (OpenSpec.upto fnExactSearchItemsSpec)

end Rows
end Go.Proofs.Ytodombkmnnggeaa
