/- The pure statement of the law accountinglaw19_SheetPicks. -/
import Derived.Test.YtmflggbpiadkjaaPx33
import Derived.Test.YtmflggbpiadkjaaOpnJ
namespace Go.Proofs.Ytmflggbpiadkjaa.P
open Go.RowKit Go.Proofs.YtmflggbpiadkjaaW.PrintWords Go.Proofs.YtmflggbpiadkjaaW.PrintLast
open Go.Proofs.Ytmflggbpiadkjaa.Op
def accountinglaw19_SheetPicks.Pure : Prop := ∀ (l0 : List (S34)) (a1 : S32), (FitL fit34) l0 → fit32 a1 → ∃ k, accountinglaw19_SheetPicks.f k l0 a1.f0 a1.f1 a1.f2 a1.f3 a1.f4 = some true
end Go.Proofs.Ytmflggbpiadkjaa.P
