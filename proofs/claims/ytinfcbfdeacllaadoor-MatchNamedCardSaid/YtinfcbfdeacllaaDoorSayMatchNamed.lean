/- The pure statement of the law accountinglaw49_MatchNamed. -/
import Derived.Test.YtinfcbfdeacllaaDoorPx39
import Derived.Test.YtinfcbfdeacllaaDoorOpnJ
namespace Go.Proofs.YtinfcbfdeacllaaDoor.P
open Go.RowKit Go.Proofs.YtinfcbfdeacllaaDoorW.PrintWords Go.Proofs.YtinfcbfdeacllaaDoorW.PrintLast
open Go.Proofs.YtinfcbfdeacllaaDoor.Op
def accountinglaw49_MatchNamed.Pure : Prop := ∀ (l0 : List (S50)) (a1 : Int) (a2 : Int), (FitL fit50) l0 → (fun n => (Lit.int .i64 n).wf = true) a1 → (fun n => (Lit.int .i64 n).wf = true) a2 → ∃ k, accountinglaw49_MatchNamed.f k l0 a1 a2 = some true
end Go.Proofs.YtinfcbfdeacllaaDoor.P
