/- The texts of marks. -/
import Derived.Test.YtodombkmnnggeaaZFnExactIsValidRegisterQx0
import Derived.Test.YtodombkmnnggeaaZFnExactIsValidRegisterPh
namespace Go.Proofs.Ytodombkmnnggeaa.Pt
open Go.RowKit Go.Proofs.Ytodombkmnnggeaa.Q Go.Proofs.YtodombkmnnggeaaW.PrintWords Go.Proofs.Ytodombkmnnggeaa.Pl

end Go.Proofs.Ytodombkmnnggeaa.Pt
