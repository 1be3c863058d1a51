import Derived.Test.YtoggblomknemoaaWInv
import Derived.Test.YtoggblomknemoaaWFootNe
namespace Go.Proofs.YtoggblomknemoaaW.PrintWords
open Go.RowKit
end Go.Proofs.YtoggblomknemoaaW.PrintWords
namespace Go.Proofs.YtoggblomknemoaaW.PrintLast
section
variable {ops : Array Oper} {a : Act} {o og : Oper} {g : Nat} {t : Tmp} {u : Bool}
end
end Go.Proofs.YtoggblomknemoaaW.PrintLast
