-- The print's words, trimmed by trim.py: theorems that nothing names are cut.
import Derived.Test.YtinfcbfdeacllaaDoorWInv
import Derived.Test.YtinfcbfdeacllaaDoorWFootNe
namespace Go.Proofs.YtinfcbfdeacllaaDoorW.PrintWords
open Go.RowKit
end Go.Proofs.YtinfcbfdeacllaaDoorW.PrintWords
namespace Go.Proofs.YtinfcbfdeacllaaDoorW.PrintLast
section
variable {ops : Array Oper} {a : Act} {o og : Oper} {g : Nat} {t : Tmp} {u : Bool}
end
end Go.Proofs.YtinfcbfdeacllaaDoorW.PrintLast
