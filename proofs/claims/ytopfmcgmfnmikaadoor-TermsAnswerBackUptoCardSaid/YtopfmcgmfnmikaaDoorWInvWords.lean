import Derived.Test.YtopfmcgmfnmikaaDoorWInv
import Derived.Test.YtopfmcgmfnmikaaDoorWFootNe
namespace Go.Proofs.YtopfmcgmfnmikaaDoorW.PrintWords
open Go.RowKit
end Go.Proofs.YtopfmcgmfnmikaaDoorW.PrintWords
namespace Go.Proofs.YtopfmcgmfnmikaaDoorW.PrintLast
section
variable {ops : Array Oper} {a : Act} {o og : Oper} {g : Nat} {t : Tmp} {u : Bool}
end
end Go.Proofs.YtopfmcgmfnmikaaDoorW.PrintLast
