/- The pure statement of the law accountinglaw49_MatchMirror. -/
import Derived.Test.YtinfcbfdeacllaaDoorPx38
import Derived.Test.YtinfcbfdeacllaaDoorOpnJ
namespace Go.Proofs.YtinfcbfdeacllaaDoor.P
open Go.RowKit Go.Proofs.YtinfcbfdeacllaaDoorW.PrintWords Go.Proofs.YtinfcbfdeacllaaDoorW.PrintLast
open Go.Proofs.YtinfcbfdeacllaaDoor.Op
def accountinglaw49_MatchMirror.Pure : Prop := ∀ (a0 : S25) (a1 : Int), fit25 a0 → (fun n => (Lit.int .i64 n).wf = true) a1 → ∃ k, accountinglaw49_MatchMirror.f k a0.f0 a0.f1 a0.f2 a1 = some true
end Go.Proofs.YtinfcbfdeacllaaDoor.P
