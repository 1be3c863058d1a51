import Derived.Test.YtmfaopjfdedheaaWInv
import Derived.Test.YtmfaopjfdedheaaWFootNe
namespace Go.Proofs.YtmfaopjfdedheaaW.PrintWords
open Go.RowKit
end Go.Proofs.YtmfaopjfdedheaaW.PrintWords
namespace Go.Proofs.YtmfaopjfdedheaaW.PrintLast
section
variable {ops : Array Oper} {a : Act} {o og : Oper} {g : Nat} {t : Tmp} {u : Bool}
end
end Go.Proofs.YtmfaopjfdedheaaW.PrintLast
