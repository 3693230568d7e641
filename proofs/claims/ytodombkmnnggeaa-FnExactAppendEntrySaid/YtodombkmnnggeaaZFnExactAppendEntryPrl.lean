/- What the registers' functions answer. -/
import Derived.Test.YtodombkmnnggeaaZFnExactAppendEntryPq
import Derived.Test.YtodombkmnnggeaaZFnExactAppendEntryB3
import Derived.Test.YtodombkmnnggeaaZFnExactAppendEntryB4
namespace Go.Proofs.Ytodombkmnnggeaa.Pp
open Go.RowKit Go.Proofs.Ytodombkmnnggeaa.Q Go.Proofs.YtodombkmnnggeaaW.PrintWords Go.Proofs.Ytodombkmnnggeaa.Pl Go.Proofs.Ytodombkmnnggeaa.Pname Go.Proofs.Ytodombkmnnggeaa.Pr

theorem implEntry (l : List S70) (h : l.length ≤ 1048577) : impl_Entry.f l = some l := by
  unfold impl_Entry.f
  simp only [Option.bind_some]
  rw [if_pos (by simp; omega)]
  simp

theorem appendEntry (l : List S70) (a : Int) (b c : ByteArray) (ho : okE l) (h : l.length ≤ 1048576) (hb : b.size ≤ 9223372036854775807) (hc : c.size ≤ 9223372036854775807) : Both (fun v => v.1.length ≤ 1048577) (fun k => spec_AppendEntry.f k l a b c) (fun k => impl_AppendEntry.f k l a b c) := by
  have hl := ho.1
  have ho' : okE (l ++ [⟨a, b, c⟩]) := by
    refine ⟨by simp; omega, fun x hx => ?_⟩
    rcases List.mem_append.1 hx with hx | hx
    · exact ho.2 x hx
    · rw [List.mem_singleton] at hx
      rw [hx]
      exact ⟨hb, hc⟩
  unfold spec_AppendEntry.f impl_AppendEntry.f
  refine Both.bindCL rfl (Both.posL (by rw [List.length_nil]; omega) (Both.bindCL rfl (Both.bindCL rfl ?_)))
  rw [List.nil_append]
  refine Both.posL (by simp; omega) (Both.bindCL rfl (Both.bindL (specGood l ho) (Both.bindR (implValid l ho) (Both.ite Iff.rfl (fun _ => ?_) (fun _ => Both.some (by simp))))))
  refine Both.bindCR (implEntry l hl) (Both.bindCR rfl (Both.posR (by simp; omega) (Both.bindCR rfl ?_)))
  refine Both.bindL (specGood _ ho') (Both.bindR (implValid _ ho') (Both.ite Iff.rfl (fun _ => Both.some ho'.1) (fun _ => Both.some (by simp))))

end Go.Proofs.Ytodombkmnnggeaa.Pp
