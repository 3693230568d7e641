/- What the registers' functions answer. -/
import Derived.Test.YtodombkmnnggeaaZFnExactIsValidRegisterQx0
import Derived.Test.YtodombkmnnggeaaZFnExactIsValidRegisterPq
namespace Go.Proofs.Ytodombkmnnggeaa.Pp
open Go.RowKit Go.Proofs.Ytodombkmnnggeaa.Q Go.Proofs.YtodombkmnnggeaaW.PrintWords Go.Proofs.Ytodombkmnnggeaa.Pl Go.Proofs.Ytodombkmnnggeaa.Pname Go.Proofs.Ytodombkmnnggeaa.Pr

end Go.Proofs.Ytodombkmnnggeaa.Pp
