/- The texts of marks. -/
import Derived.Test.YtodombkmnnggeaaZFnExactItemStateQx0
import Derived.Test.YtodombkmnnggeaaZFnExactItemStateB1
import Derived.Test.YtodombkmnnggeaaZFnExactItemStateB2
import Derived.Test.YtodombkmnnggeaaZFnExactItemStateB3
import Derived.Test.YtodombkmnnggeaaZFnExactItemStatePh
namespace Go.Proofs.Ytodombkmnnggeaa.Pt
open Go.RowKit Go.Proofs.Ytodombkmnnggeaa.Q Go.Proofs.YtodombkmnnggeaaW.PrintWords Go.Proofs.Ytodombkmnnggeaa.Pl

end Go.Proofs.Ytodombkmnnggeaa.Pt
