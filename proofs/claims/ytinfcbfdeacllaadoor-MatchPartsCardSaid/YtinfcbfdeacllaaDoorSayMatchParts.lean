/- The pure statement of the law accountinglaw49_MatchParts. -/
import Derived.Test.YtinfcbfdeacllaaDoorPx37
import Derived.Test.YtinfcbfdeacllaaDoorOpnJ
namespace Go.Proofs.YtinfcbfdeacllaaDoor.P
open Go.RowKit Go.Proofs.YtinfcbfdeacllaaDoorW.PrintWords Go.Proofs.YtinfcbfdeacllaaDoorW.PrintLast
open Go.Proofs.YtinfcbfdeacllaaDoor.Op
def accountinglaw49_MatchParts.Pure : Prop := ∀ (a0 : S25), fit25 a0 → ∃ k, accountinglaw49_MatchParts.f k a0.f0 a0.f1 a0.f2 = some true
end Go.Proofs.YtinfcbfdeacllaaDoor.P
