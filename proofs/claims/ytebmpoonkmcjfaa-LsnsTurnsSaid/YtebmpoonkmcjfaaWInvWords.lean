import Derived.Test.YtebmpoonkmcjfaaWInv
import Derived.Test.YtebmpoonkmcjfaaWFootNe
namespace Go.Proofs.YtebmpoonkmcjfaaW.PrintWords
open Go.RowKit
end Go.Proofs.YtebmpoonkmcjfaaW.PrintWords
namespace Go.Proofs.YtebmpoonkmcjfaaW.PrintLast
section
variable {ops : Array Oper} {a : Act} {o og : Oper} {g : Nat} {t : Tmp} {u : Bool}
end
end Go.Proofs.YtebmpoonkmcjfaaW.PrintLast
