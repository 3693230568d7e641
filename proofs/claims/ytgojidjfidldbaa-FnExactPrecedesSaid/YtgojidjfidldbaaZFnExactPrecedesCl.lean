/- Plain lemmas: a call through a function value that is known. -/
import Derived.Test.YtgojidjfidldbaaZFnExactPrecedesWLast
import Derived.Test.YtgojidjfidldbaaZFnExactPrecedesWMore
namespace Go.Proofs.YtgojidjfidldbaaW.PrintMore
open Go.RowKit Go.Proofs.YtgojidjfidldbaaW.PrintWords Go.Proofs.YtgojidjfidldbaaW.PrintLast
section
variable {P : Program} {ops : Array Oper} {Q : Exit → Act → World → Prop} {o : Oper} {rest : List Oper} {a : Act} {W : World}
end
theorem beq_nil_ (l : List UInt8) : (l == []) = l.isEmpty := by cases l <;> rfl
theorem bne_nil_ (l : List UInt8) : (l != []) = !l.isEmpty := by cases l <;> rfl
end Go.Proofs.YtgojidjfidldbaaW.PrintMore
