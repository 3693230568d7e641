/-
  No cell of these rows narrows 'for every input' (looked for: loops, veiled, ifaces, maps, wideKeys, modest, calm, conditions, laid).
  DERIVED. THE GIVEN ROWS OF THIS SEAT. 12 by the template 'for every input the law returns true; each argument reads behind the call as it read before'; 0 by the template 'total and deterministic' (their statements: YtgojidjfidldbaaTotals.lean).
  GIVEN WITH THE SEED: the statements are not yours to turn. If you find one false, say at which input.
  Laid BY PROGRAM, IN A SANDBOX (cutbox-rows.mjs): the forced cells as the released guide's own fill.sh prints them over the translation fa54fdcb5c490b1c… (all of the seat's roots in one cut). By AI agents, Wed Nov 11 2026. No macro, syntax, notation, axiom, sorry.
-/
import Derived.Test.YtgojidjfidldbaaChecked
import GoSem.Claim
import GoSem.ClaimJoined
import GoSem.ClaimMapViews
import Derived.JoinedTies
import Derived.KernelRfl
namespace Go.Proofs.Ytgojidjfidldbaa
/- THE CELL 'sum', in the pinned program and in every row, IS THE sha256 OF THE DUMP (.gsa) THAT YtgojidjfidldbaaProg.lean LOADS. Nothing in Lean hashes anything: it is a label: what it is worth is what the hold of that sum in a sandbox is worth. -/
noncomputable def Try.pinned : Pinned := { name := "ytgojidjfidldbaa", sum := "fa54fdcb5c490b1c114e95929da9d320048756d8206d36c2e6b6d0675b04e10b", checked := Try.checked }
namespace Rows
def none {H : Type} : Left H := { results := [], args := [] }

/-- 'laws.FnExactIsValidSurface': WHATEVER THE INPUT: true; the input reads as it did. -/
def fnExactIsValidSurfaceSpec : ChangeSpec := { name := "fnExactIsValidSurface", fn := fun _ => fun
  | [d] => { results := [.lit (.bool true)], args := [d] }
  | _ => none }
def fnExactIsValidSurfaceRow : OpenClaim := { program := "ytgojidjfidldbaa", sum := "fa54fdcb5c490b1c114e95929da9d320048756d8206d36c2e6b6d0675b04e10b", func := "loop.example/g00876/laws.FnExactIsValidSurface", spec := "fnExactIsValidSurface", unfollowed := true, recurses := true, apart := false }
def FnExactIsValidSurfaceSaid : Prop := fnExactIsValidSurfaceRow.holds Try.pinned (OpenSpec.ofChange fnExactIsValidSurfaceSpec)

/-- ITS FALSE NEIGHBOUR: 'it returns false'. Refute it at one input. -/
def fnExactIsValidSurfaceWrong : ChangeSpec := { name := "fnExactIsValidSurface", fn := fun _ => fun
  | [d] => { results := [.lit (.bool false)], args := [d] }
  | _ => none }
def FnExactIsValidSurfaceWrongFalsely : Prop := fnExactIsValidSurfaceRow.holds Try.pinned (OpenSpec.ofChange fnExactIsValidSurfaceWrong)

/-- 'laws.FnExactPrecedes': WHATEVER THE INPUT: true; the input reads as it did. -/
def fnExactPrecedesSpec : ChangeSpec := { name := "fnExactPrecedes", fn := fun _ => fun
  | [d1, d2] => { results := [.lit (.bool true)], args := [d1, d2] }
  | _ => none }
def fnExactPrecedesRow : OpenClaim := { program := "ytgojidjfidldbaa", sum := "fa54fdcb5c490b1c114e95929da9d320048756d8206d36c2e6b6d0675b04e10b", func := "loop.example/g00876/laws.FnExactPrecedes", spec := "fnExactPrecedes", apart := false }
def FnExactPrecedesSaid : Prop := fnExactPrecedesRow.holds Try.pinned (OpenSpec.ofChange fnExactPrecedesSpec)

/-- ITS FALSE NEIGHBOUR: 'it returns false'. Refute it at one input. -/
def fnExactPrecedesWrong : ChangeSpec := { name := "fnExactPrecedes", fn := fun _ => fun
  | [d1, d2] => { results := [.lit (.bool false)], args := [d1, d2] }
  | _ => none }
def FnExactPrecedesWrongFalsely : Prop := fnExactPrecedesRow.holds Try.pinned (OpenSpec.ofChange fnExactPrecedesWrong)

/-- 'laws.FnExactSixVolume': WHATEVER THE INPUT: true; the input reads as it did. -/
def fnExactSixVolumeSpec : ChangeSpec := { name := "fnExactSixVolume", fn := fun _ => fun
  | [d1, d2] => { results := [.lit (.bool true)], args := [d1, d2] }
  | _ => none }
def fnExactSixVolumeRow : OpenClaim := { program := "ytgojidjfidldbaa", sum := "fa54fdcb5c490b1c114e95929da9d320048756d8206d36c2e6b6d0675b04e10b", func := "loop.example/g00876/laws.FnExactSixVolume", spec := "fnExactSixVolume", unfollowed := true, recurses := true, apart := false }
def FnExactSixVolumeSaid : Prop := fnExactSixVolumeRow.holds Try.pinned (OpenSpec.ofChange fnExactSixVolumeSpec)

/-- ITS FALSE NEIGHBOUR: 'it returns false'. Refute it at one input. -/
def fnExactSixVolumeWrong : ChangeSpec := { name := "fnExactSixVolume", fn := fun _ => fun
  | [d1, d2] => { results := [.lit (.bool false)], args := [d1, d2] }
  | _ => none }
def FnExactSixVolumeWrongFalsely : Prop := fnExactSixVolumeRow.holds Try.pinned (OpenSpec.ofChange fnExactSixVolumeWrong)

/-- 'laws.FnExactLayerVolume': WHATEVER THE INPUT: true; the input reads as it did. -/
def fnExactLayerVolumeSpec : ChangeSpec := { name := "fnExactLayerVolume", fn := fun _ => fun
  | [d1, d2] => { results := [.lit (.bool true)], args := [d1, d2] }
  | _ => none }
def fnExactLayerVolumeRow : OpenClaim := { program := "ytgojidjfidldbaa", sum := "fa54fdcb5c490b1c114e95929da9d320048756d8206d36c2e6b6d0675b04e10b", func := "loop.example/g00876/laws.FnExactLayerVolume", spec := "fnExactLayerVolume", unfollowed := true, recurses := true, apart := false }
def FnExactLayerVolumeSaid : Prop := fnExactLayerVolumeRow.holds Try.pinned (OpenSpec.ofChange fnExactLayerVolumeSpec)

/-- ITS FALSE NEIGHBOUR: 'it returns false'. Refute it at one input. -/
def fnExactLayerVolumeWrong : ChangeSpec := { name := "fnExactLayerVolume", fn := fun _ => fun
  | [d1, d2] => { results := [.lit (.bool false)], args := [d1, d2] }
  | _ => none }
def FnExactLayerVolumeWrongFalsely : Prop := fnExactLayerVolumeRow.holds Try.pinned (OpenSpec.ofChange fnExactLayerVolumeWrong)

/-- 'laws.FnExactRaiseSurface': WHATEVER THE INPUT: true; the input reads as it did. -/
def fnExactRaiseSurfaceSpec : ChangeSpec := { name := "fnExactRaiseSurface", fn := fun _ => fun
  | [d1, d2] => { results := [.lit (.bool true)], args := [d1, d2] }
  | _ => none }
def fnExactRaiseSurfaceRow : OpenClaim := { program := "ytgojidjfidldbaa", sum := "fa54fdcb5c490b1c114e95929da9d320048756d8206d36c2e6b6d0675b04e10b", func := "loop.example/g00876/laws.FnExactRaiseSurface", spec := "fnExactRaiseSurface", unfollowed := true, recurses := true, apart := false }
def FnExactRaiseSurfaceSaid : Prop := fnExactRaiseSurfaceRow.holds Try.pinned (OpenSpec.ofChange fnExactRaiseSurfaceSpec)

/-- ITS FALSE NEIGHBOUR: 'it returns false'. Refute it at one input. -/
def fnExactRaiseSurfaceWrong : ChangeSpec := { name := "fnExactRaiseSurface", fn := fun _ => fun
  | [d1, d2] => { results := [.lit (.bool false)], args := [d1, d2] }
  | _ => none }
def FnExactRaiseSurfaceWrongFalsely : Prop := fnExactRaiseSurfaceRow.holds Try.pinned (OpenSpec.ofChange fnExactRaiseSurfaceWrong)

/-- 'laws.FnExactSteepestEdge': WHATEVER THE INPUT: true; the input reads as it did. -/
def fnExactSteepestEdgeSpec : ChangeSpec := { name := "fnExactSteepestEdge", fn := fun _ => fun
  | [d] => { results := [.lit (.bool true)], args := [d] }
  | _ => none }
def fnExactSteepestEdgeRow : OpenClaim := { program := "ytgojidjfidldbaa", sum := "fa54fdcb5c490b1c114e95929da9d320048756d8206d36c2e6b6d0675b04e10b", func := "loop.example/g00876/laws.FnExactSteepestEdge", spec := "fnExactSteepestEdge", unfollowed := true, recurses := true, apart := false }
def FnExactSteepestEdgeSaid : Prop := fnExactSteepestEdgeRow.holds Try.pinned (OpenSpec.ofChange fnExactSteepestEdgeSpec)

/-- ITS FALSE NEIGHBOUR: 'it returns false'. Refute it at one input. -/
def fnExactSteepestEdgeWrong : ChangeSpec := { name := "fnExactSteepestEdge", fn := fun _ => fun
  | [d] => { results := [.lit (.bool false)], args := [d] }
  | _ => none }
def FnExactSteepestEdgeWrongFalsely : Prop := fnExactSteepestEdgeRow.holds Try.pinned (OpenSpec.ofChange fnExactSteepestEdgeWrong)

/-- 'laws.FnExactHeightAt': WHATEVER THE INPUT: true; the input reads as it did. -/
def fnExactHeightAtSpec : ChangeSpec := { name := "fnExactHeightAt", fn := fun _ => fun
  | [d1, d2, d3, d4] => { results := [.lit (.bool true)], args := [d1, d2, d3, d4] }
  | _ => none }
def fnExactHeightAtRow : OpenClaim := { program := "ytgojidjfidldbaa", sum := "fa54fdcb5c490b1c114e95929da9d320048756d8206d36c2e6b6d0675b04e10b", func := "loop.example/g00876/laws.FnExactHeightAt", spec := "fnExactHeightAt", unfollowed := true, recurses := true, apart := false }
def FnExactHeightAtSaid : Prop := fnExactHeightAtRow.holds Try.pinned (OpenSpec.ofChange fnExactHeightAtSpec)

/-- ITS FALSE NEIGHBOUR: 'it returns false'. Refute it at one input. -/
def fnExactHeightAtWrong : ChangeSpec := { name := "fnExactHeightAt", fn := fun _ => fun
  | [d1, d2, d3, d4] => { results := [.lit (.bool false)], args := [d1, d2, d3, d4] }
  | _ => none }
def FnExactHeightAtWrongFalsely : Prop := fnExactHeightAtRow.holds Try.pinned (OpenSpec.ofChange fnExactHeightAtWrong)

/-- 'laws.FnExactContourCells': WHATEVER THE INPUT: true; the input reads as it did. -/
def fnExactContourCellsSpec : ChangeSpec := { name := "fnExactContourCells", fn := fun _ => fun
  | [d1, d2] => { results := [.lit (.bool true)], args := [d1, d2] }
  | _ => none }
def fnExactContourCellsRow : OpenClaim := { program := "ytgojidjfidldbaa", sum := "fa54fdcb5c490b1c114e95929da9d320048756d8206d36c2e6b6d0675b04e10b", func := "loop.example/g00876/laws.FnExactContourCells", spec := "fnExactContourCells", unfollowed := true, recurses := true, apart := false }
def FnExactContourCellsSaid : Prop := fnExactContourCellsRow.holds Try.pinned (OpenSpec.ofChange fnExactContourCellsSpec)

/-- ITS FALSE NEIGHBOUR: 'it returns false'. Refute it at one input. -/
def fnExactContourCellsWrong : ChangeSpec := { name := "fnExactContourCells", fn := fun _ => fun
  | [d1, d2] => { results := [.lit (.bool false)], args := [d1, d2] }
  | _ => none }
def FnExactContourCellsWrongFalsely : Prop := fnExactContourCellsRow.holds Try.pinned (OpenSpec.ofChange fnExactContourCellsWrong)

/-- 'laws.FnExactFlowPath': WHATEVER THE INPUT: true; the input reads as it did. -/
def fnExactFlowPathSpec : ChangeSpec := { name := "fnExactFlowPath", fn := fun _ => fun
  | [d1, d2] => { results := [.lit (.bool true)], args := [d1, d2] }
  | _ => none }
def fnExactFlowPathRow : OpenClaim := { program := "ytgojidjfidldbaa", sum := "fa54fdcb5c490b1c114e95929da9d320048756d8206d36c2e6b6d0675b04e10b", func := "loop.example/g00876/laws.FnExactFlowPath", spec := "fnExactFlowPath", unfollowed := true, recurses := true, apart := false }
def FnExactFlowPathSaid : Prop := fnExactFlowPathRow.holds Try.pinned (OpenSpec.ofChange fnExactFlowPathSpec)

/-- ITS FALSE NEIGHBOUR: 'it returns false'. Refute it at one input. -/
def fnExactFlowPathWrong : ChangeSpec := { name := "fnExactFlowPath", fn := fun _ => fun
  | [d1, d2] => { results := [.lit (.bool false)], args := [d1, d2] }
  | _ => none }
def FnExactFlowPathWrongFalsely : Prop := fnExactFlowPathRow.holds Try.pinned (OpenSpec.ofChange fnExactFlowPathWrong)

/-- 'laws.FnExactSmoothSurface': WHATEVER THE INPUT: true; the input reads as it did. -/
def fnExactSmoothSurfaceSpec : ChangeSpec := { name := "fnExactSmoothSurface", fn := fun _ => fun
  | [d] => { results := [.lit (.bool true)], args := [d] }
  | _ => none }
def fnExactSmoothSurfaceRow : OpenClaim := { program := "ytgojidjfidldbaa", sum := "fa54fdcb5c490b1c114e95929da9d320048756d8206d36c2e6b6d0675b04e10b", func := "loop.example/g00876/laws.FnExactSmoothSurface", spec := "fnExactSmoothSurface", unfollowed := true, recurses := true, apart := false }
def FnExactSmoothSurfaceSaid : Prop := fnExactSmoothSurfaceRow.holds Try.pinned (OpenSpec.ofChange fnExactSmoothSurfaceSpec)

/-- ITS FALSE NEIGHBOUR: 'it returns false'. Refute it at one input. -/
def fnExactSmoothSurfaceWrong : ChangeSpec := { name := "fnExactSmoothSurface", fn := fun _ => fun
  | [d] => { results := [.lit (.bool false)], args := [d] }
  | _ => none }
def FnExactSmoothSurfaceWrongFalsely : Prop := fnExactSmoothSurfaceRow.holds Try.pinned (OpenSpec.ofChange fnExactSmoothSurfaceWrong)

/-- 'laws.FnExactBasinsOf': WHATEVER THE INPUT: true; the input reads as it did. -/
def fnExactBasinsOfSpec : ChangeSpec := { name := "fnExactBasinsOf", fn := fun _ => fun
  | [d] => { results := [.lit (.bool true)], args := [d] }
  | _ => none }
def fnExactBasinsOfRow : OpenClaim := { program := "ytgojidjfidldbaa", sum := "fa54fdcb5c490b1c114e95929da9d320048756d8206d36c2e6b6d0675b04e10b", func := "loop.example/g00876/laws.FnExactBasinsOf", spec := "fnExactBasinsOf", unfollowed := true, recurses := true, apart := false }
def FnExactBasinsOfSaid : Prop := fnExactBasinsOfRow.holds Try.pinned (OpenSpec.ofChange fnExactBasinsOfSpec)

/-- ITS FALSE NEIGHBOUR: 'it returns false'. Refute it at one input. -/
def fnExactBasinsOfWrong : ChangeSpec := { name := "fnExactBasinsOf", fn := fun _ => fun
  | [d] => { results := [.lit (.bool false)], args := [d] }
  | _ => none }
def FnExactBasinsOfWrongFalsely : Prop := fnExactBasinsOfRow.holds Try.pinned (OpenSpec.ofChange fnExactBasinsOfWrong)

/-- 'laws.FnVolumes': WHATEVER THE INPUT: true; the input reads as it did. -/
def fnVolumesSpec : ChangeSpec := { name := "fnVolumes", fn := fun _ => fun
  | [d] => { results := [.lit (.bool true)], args := [d] }
  | _ => none }
def fnVolumesRow : OpenClaim := { program := "ytgojidjfidldbaa", sum := "fa54fdcb5c490b1c114e95929da9d320048756d8206d36c2e6b6d0675b04e10b", func := "loop.example/g00876/laws.FnVolumes", spec := "fnVolumes", unfollowed := true, recurses := true, apart := false }
def FnVolumesSaid : Prop := fnVolumesRow.holds Try.pinned (OpenSpec.ofChange fnVolumesSpec)

/-- ITS FALSE NEIGHBOUR: 'it returns false'. Refute it at one input. -/
def fnVolumesWrong : ChangeSpec := { name := "fnVolumes", fn := fun _ => fun
  | [d] => { results := [.lit (.bool false)], args := [d] }
  | _ => none }
def FnVolumesWrongFalsely : Prop := fnVolumesRow.holds Try.pinned (OpenSpec.ofChange fnVolumesWrong)

/- THE SECOND FORM. 'bulk': how many values and letters a reading holds, each counted each time it is reached (what is shared counts as often as it is met; a slice's spare places count too). A statement '..UptoSaid' is the law's where the arguments, and the package variables that the reading takes, are together of bulk at most 1048576: NARROWER than '..Said'. Prove '..Said' where nothing that the law and all that it calls make is longer than what came in: it says more and counts as full. Else prove '..UptoSaid'. A law counts once. -/
mutual
def uptoBulk {H : Type} : DataW H → Nat
  | .lit (.string bytes) => bytes.length + 1
  | .lit _ => 1
  | .nil => 1
  | .ptr d => uptoBulk d + 1
  | .slice elems spare => uptoBulkAll elems + uptoBulkAll spare + 1
  | .agg parts => uptoBulkAll parts + 1
  | .iface _ d => uptoBulk d + 1
  | .map entries => uptoBulkEntries entries + 1
  | .held _ => 1
def uptoBulkAll {H : Type} : List (DataW H) → Nat
  | [] => 0
  | d :: r => uptoBulk d + uptoBulkAll r
def uptoBulkEntries {H : Type} : List (Lit × DataW H) → Nat
  | [] => 0
  | x :: r => uptoBulkEntry x + uptoBulkEntries r
def uptoBulkEntry {H : Type} : Lit × DataW H → Nat
  | (.string bytes, d) => bytes.length + uptoBulk d + 1
  | (_, d) => uptoBulk d + 1
 end
def uptoSmall : (H : Type) → List (DataW H) → Bool := fun _ ds => decide (uptoBulkAll ds ≤ 1048576)
def OpenSpec.upto (s : _root_.Go.ChangeSpec) : _root_.Go.OpenSpec := { _root_.Go.OpenSpec.ofChange s with cond := some uptoSmall }

/-- 'laws.FnExactIsValidSurface', WHERE WHAT IT READS IS OF BULK AT MOST 1048576: true; the input reads as it did. -/
def fnExactIsValidSurfaceUptoRow : OpenClaim := { program := "ytgojidjfidldbaa", sum := "fa54fdcb5c490b1c114e95929da9d320048756d8206d36c2e6b6d0675b04e10b", func := "loop.example/g00876/laws.FnExactIsValidSurface", spec := "fnExactIsValidSurface", unfollowed := true, recurses := true, apart := false, narrowed := true }
def FnExactIsValidSurfaceUptoSaid : Prop := fnExactIsValidSurfaceUptoRow.holds Try.pinned (OpenSpec.upto fnExactIsValidSurfaceSpec)

/-- 'laws.FnExactPrecedes', WHERE WHAT IT READS IS OF BULK AT MOST 1048576: true; the input reads as it did. -/
def fnExactPrecedesUptoRow : OpenClaim := { program := "ytgojidjfidldbaa", sum := "fa54fdcb5c490b1c114e95929da9d320048756d8206d36c2e6b6d0675b04e10b", func := "loop.example/g00876/laws.FnExactPrecedes", spec := "fnExactPrecedes", apart := false, narrowed := true }
def FnExactPrecedesUptoSaid : Prop := fnExactPrecedesUptoRow.holds Try.pinned (OpenSpec.upto fnExactPrecedesSpec)

/-- 'laws.FnExactSixVolume', WHERE WHAT IT READS IS OF BULK AT MOST 1048576: true; the input reads as it did. -/
def fnExactSixVolumeUptoRow : OpenClaim := { program := "ytgojidjfidldbaa", sum := "fa54fdcb5c490b1c114e95929da9d320048756d8206d36c2e6b6d0675b04e10b", func := "loop.example/g00876/laws.FnExactSixVolume", spec := "fnExactSixVolume", unfollowed := true, recurses := true, apart := false, narrowed := true }
def FnExactSixVolumeUptoSaid : Prop := fnExactSixVolumeUptoRow.holds Try.pinned (OpenSpec.upto fnExactSixVolumeSpec)

/-- 'laws.FnExactLayerVolume', WHERE WHAT IT READS IS OF BULK AT MOST 1048576: true; the input reads as it did. -/
def fnExactLayerVolumeUptoRow : OpenClaim := { program := "ytgojidjfidldbaa", sum := "fa54fdcb5c490b1c114e95929da9d320048756d8206d36c2e6b6d0675b04e10b", func := "loop.example/g00876/laws.FnExactLayerVolume", spec := "fnExactLayerVolume", unfollowed := true, recurses := true, apart := false, narrowed := true }
def FnExactLayerVolumeUptoSaid : Prop := fnExactLayerVolumeUptoRow.holds Try.pinned (OpenSpec.upto fnExactLayerVolumeSpec)

/-- 'laws.FnExactRaiseSurface', WHERE WHAT IT READS IS OF BULK AT MOST 1048576: true; the input reads as it did. -/
def fnExactRaiseSurfaceUptoRow : OpenClaim := { program := "ytgojidjfidldbaa", sum := "fa54fdcb5c490b1c114e95929da9d320048756d8206d36c2e6b6d0675b04e10b", func := "loop.example/g00876/laws.FnExactRaiseSurface", spec := "fnExactRaiseSurface", unfollowed := true, recurses := true, apart := false, narrowed := true }
def FnExactRaiseSurfaceUptoSaid : Prop := fnExactRaiseSurfaceUptoRow.holds Try.pinned (OpenSpec.upto fnExactRaiseSurfaceSpec)

/-- 'laws.FnExactSteepestEdge', WHERE WHAT IT READS IS OF BULK AT MOST 1048576: true; the input reads as it did. -/
def fnExactSteepestEdgeUptoRow : OpenClaim := { program := "ytgojidjfidldbaa", sum := "fa54fdcb5c490b1c114e95929da9d320048756d8206d36c2e6b6d0675b04e10b", func := "loop.example/g00876/laws.FnExactSteepestEdge", spec := "fnExactSteepestEdge", unfollowed := true, recurses := true, apart := false, narrowed := true }
def FnExactSteepestEdgeUptoSaid : Prop := fnExactSteepestEdgeUptoRow.holds Try.pinned (OpenSpec.upto fnExactSteepestEdgeSpec)

/-- 'laws.FnExactHeightAt', WHERE WHAT IT READS IS OF BULK AT MOST 1048576: true; the input reads as it did. -/
def fnExactHeightAtUptoRow : OpenClaim := { program := "ytgojidjfidldbaa", sum := "fa54fdcb5c490b1c114e95929da9d320048756d8206d36c2e6b6d0675b04e10b", func := "loop.example/g00876/laws.FnExactHeightAt", spec := "fnExactHeightAt", unfollowed := true, recurses := true, apart := false, narrowed := true }
def FnExactHeightAtUptoSaid : Prop := fnExactHeightAtUptoRow.holds Try.pinned (OpenSpec.upto fnExactHeightAtSpec)

/-- 'laws.FnExactContourCells', WHERE WHAT IT READS IS OF BULK AT MOST 1048576: true; the input reads as it did. -/
def fnExactContourCellsUptoRow : OpenClaim := { program := "ytgojidjfidldbaa", sum := "fa54fdcb5c490b1c114e95929da9d320048756d8206d36c2e6b6d0675b04e10b", func := "loop.example/g00876/laws.FnExactContourCells", spec := "fnExactContourCells", unfollowed := true, recurses := true, apart := false, narrowed := true }
def FnExactContourCellsUptoSaid : Prop := fnExactContourCellsUptoRow.holds Try.pinned (OpenSpec.upto fnExactContourCellsSpec)

/-- 'laws.FnExactFlowPath', WHERE WHAT IT READS IS OF BULK AT MOST 1048576: true; the input reads as it did. -/
def fnExactFlowPathUptoRow : OpenClaim := { program := "ytgojidjfidldbaa", sum := "fa54fdcb5c490b1c114e95929da9d320048756d8206d36c2e6b6d0675b04e10b", func := "loop.example/g00876/laws.FnExactFlowPath", spec := "fnExactFlowPath", unfollowed := true, recurses := true, apart := false, narrowed := true }
def FnExactFlowPathUptoSaid : Prop := fnExactFlowPathUptoRow.holds Try.pinned (OpenSpec.upto fnExactFlowPathSpec)

/-- 'laws.FnExactSmoothSurface', WHERE WHAT IT READS IS OF BULK AT MOST 1048576: true; the input reads as it did. -/
def fnExactSmoothSurfaceUptoRow : OpenClaim := { program := "ytgojidjfidldbaa", sum := "fa54fdcb5c490b1c114e95929da9d320048756d8206d36c2e6b6d0675b04e10b", func := "loop.example/g00876/laws.FnExactSmoothSurface", spec := "fnExactSmoothSurface", unfollowed := true, recurses := true, apart := false, narrowed := true }
def FnExactSmoothSurfaceUptoSaid : Prop := fnExactSmoothSurfaceUptoRow.holds Try.pinned (OpenSpec.upto fnExactSmoothSurfaceSpec)

/-- 'laws.FnExactBasinsOf', WHERE WHAT IT READS IS OF BULK AT MOST 1048576: true; the input reads as it did. -/
def fnExactBasinsOfUptoRow : OpenClaim := { program := "ytgojidjfidldbaa", sum := "fa54fdcb5c490b1c114e95929da9d320048756d8206d36c2e6b6d0675b04e10b", func := "loop.example/g00876/laws.FnExactBasinsOf", spec := "fnExactBasinsOf", unfollowed := true, recurses := true, apart := false, narrowed := true }
def FnExactBasinsOfUptoSaid : Prop := fnExactBasinsOfUptoRow.holds Try.pinned (OpenSpec.upto fnExactBasinsOfSpec)

/-- 'laws.FnVolumes', WHERE WHAT IT READS IS OF BULK AT MOST 1048576: true; the input reads as it did. -/
def fnVolumesUptoRow : OpenClaim := { program := "ytgojidjfidldbaa", sum := "fa54fdcb5c490b1c114e95929da9d320048756d8206d36c2e6b6d0675b04e10b", func := "loop.example/g00876/laws.FnVolumes", spec := "fnVolumes", unfollowed := true, recurses := true, apart := false, narrowed := true }
def FnVolumesUptoSaid : Prop := fnVolumesUptoRow.holds Try.pinned (OpenSpec.upto fnVolumesSpec)

end Rows
end Go.Proofs.Ytgojidjfidldbaa
