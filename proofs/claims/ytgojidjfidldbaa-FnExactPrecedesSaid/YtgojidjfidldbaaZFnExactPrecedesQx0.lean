-- Written by a program of this session's for these claims, over the words beside it. Lean checks it.
import Derived.Test.YtgojidjfidldbaaProg
import Derived.Below
import Derived.Deep.Draws
import Derived.Deep.AppendLies
import Derived.Maps.AppendAt
import Derived.OwnWalk
import Derived.Laws.BytesArg
import Derived.Laws.MakeOwn
import Derived.Laws.OwnMore
import Derived.Deep.OwnRows
import Derived.Tactics
import Derived.Lib.ConvBytes
import Derived.Laws.Slices
import Derived.WalkKit
import Derived.KernelRfl
import Derived.RowKit3
import Derived.Deep.LoopGhost
import Derived.Deep.QuietTactic
import Derived.BigQuiet
import Derived.WideLaws
import Derived.Deep.DeepCutAuto
import Derived.Deep.CutBlock
import Derived.Deep.RegionHeld3
import Derived.Laws.Rows
import Derived.Lib.AppendStr
import Derived.ArgAppend
import Derived.Laws.IdiomCopy
import Derived.OrdersHeld
import Derived.Laws.BitsLemmas
import Derived.RowKit
import Derived.Lib.SliceRun
import Derived.Test.YtgojidjfidldbaaZFnExactPrecedesWWords
import Derived.Test.YtgojidjfidldbaaZFnExactPrecedesWLast
import Derived.Test.YtgojidjfidldbaaZFnExactPrecedesWTab
import Derived.Test.YtgojidjfidldbaaZFnExactPrecedesWFour
import Derived.Test.YtgojidjfidldbaaZFnExactPrecedesWQPut
import Derived.Test.YtgojidjfidldbaaZFnExactPrecedesWApart
import Derived.Test.YtgojidjfidldbaaZFnExactPrecedesWArr
import Derived.Test.YtgojidjfidldbaaZFnExactPrecedesWZeros
import Derived.Test.YtgojidjfidldbaaZFnExactPrecedesWFoot
import Derived.Test.YtgojidjfidldbaaZFnExactPrecedesWKept
import Derived.Test.YtgojidjfidldbaaZFnExactPrecedesWShare
import Derived.Test.YtgojidjfidldbaaZFnExactPrecedesWN
import Derived.Test.YtgojidjfidldbaaZFnExactPrecedesWFootNe
import Derived.Test.YtgojidjfidldbaaZFnExactPrecedesWAt
import Derived.Test.YtgojidjfidldbaaZFnExactPrecedesWEqStruct
import Derived.Test.YtgojidjfidldbaaZFnExactPrecedesWRepsOne
import Derived.Test.YtgojidjfidldbaaZFnExactPrecedesWInv
import Derived.Test.YtgojidjfidldbaaZFnExactPrecedesWInvWords
import Derived.Test.YtgojidjfidldbaaZFnExactPrecedesWGuard
import Derived.Test.YtgojidjfidldbaaZFnExactPrecedesWNEv
import Derived.Test.YtgojidjfidldbaaZFnExactPrecedesWMore
import Derived.Test.YtgojidjfidldbaaZFnExactPrecedesCl
namespace Go.Proofs.Ytgojidjfidldbaa.Q
open Go.RowKit Go.Proofs.YtgojidjfidldbaaW.PrintWords Go.Proofs.YtgojidjfidldbaaW.PrintLast Go.Proofs.YtgojidjfidldbaaW.PrintMore
attribute [local go_sem] max2_int min2_int max_two min_two max_three min_three max_four min_four   -- for this text's walks alone
set_option linter.unusedVariables false
set_option linter.unusedSimpArgs false



def errW : Option Int → Value
  | none => .nilIface
  | some c => .iface 0 (.int .i64 c)
theorem errW_none : errW none = .nilIface := rfl
theorem errW_some (c : Int) : errW (some c) = .iface 0 (.int .i64 c) := rfl

theorem info3 : (Try.prog.info? 3).map (fun i => (i.zero, i.size, i.bytes)) = some (some (.int .i64 0), 1, 8) := by kernel_rfl
-- the values' own types
/-! #### struct type 24 -/
structure S24 where
  f0 : Int
  f1 : Int
  f2 : (List Int)
def k24 : Kd S24 := Kd.iso (Kd.pair (Kd.int .i64) (Kd.pair (Kd.int .i64) (Kd.slice 3 (Kd.int .i64)))) (fun x : S24 => (x.f0, x.f1, x.f2))
/-! #### struct type 32 -/
structure S32 where
  f0 : Int
  f1 : Int
  f2 : (List Int)
  f3 : ByteArray
  f4 : ByteArray
def k32 : Kd S32 := Kd.iso (Kd.pair (Kd.int .i64) (Kd.pair (Kd.int .i64) (Kd.pair (Kd.slice 3 (Kd.int .i64)) (Kd.pair Kd.string Kd.string)))) (fun x : S32 => (x.f0, x.f1, x.f2, x.f3, x.f4))
theorem k32_open {w : World} {x : S32} {cs : List Value} (h : k32.K w x cs) : ∃ A2 c2, cs = [.int .i64 x.f0, .int .i64 x.f1, .slice A2 x.f2.length c2, .string x.f3, .string x.f4] ∧ x.f2.length ≤ c2 ∧ (Kd.int .i64).C w A2 x.f2.length x.f2 := by
  obtain ⟨_, _, rfl, rfl, ⟨_, _, rfl, rfl, ⟨_, _, rfl, ⟨A2, c2, rfl, l2, g2⟩, ⟨_, _, rfl, rfl, rfl⟩⟩⟩⟩ := h
  exact ⟨A2, c2, rfl, l2, g2⟩
end Go.Proofs.Ytgojidjfidldbaa.Q
