/- Plain lemmas: a call through a function value that is known. -/
import Derived.Test.YtlphkfkcfomlbaaZFnExactAncestryOfWLast
import Derived.Test.YtlphkfkcfomlbaaZFnExactAncestryOfWMore
namespace Go.Proofs.YtlphkfkcfomlbaaW.PrintMore
open Go.RowKit Go.Proofs.YtlphkfkcfomlbaaW.PrintWords Go.Proofs.YtlphkfkcfomlbaaW.PrintLast
section
variable {P : Program} {ops : Array Oper} {Q : Exit → Act → World → Prop} {o : Oper} {rest : List Oper} {a : Act} {W : World}
end
end Go.Proofs.YtlphkfkcfomlbaaW.PrintMore
