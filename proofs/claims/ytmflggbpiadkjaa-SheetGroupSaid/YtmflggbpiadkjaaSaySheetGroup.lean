/- The pure statement of the law accountinglaw19_SheetGroup. -/
import Derived.Test.YtmflggbpiadkjaaPx38
import Derived.Test.YtmflggbpiadkjaaOpnJ
namespace Go.Proofs.Ytmflggbpiadkjaa.P
open Go.RowKit Go.Proofs.YtmflggbpiadkjaaW.PrintWords Go.Proofs.YtmflggbpiadkjaaW.PrintLast
open Go.Proofs.Ytmflggbpiadkjaa.Op
def accountinglaw19_SheetGroup.Pure : Prop := ∀ (l0 : List (S34)) (l1 : List (S34)), (FitL fit34) l0 → (FitL fit34) l1 → ∃ k, accountinglaw19_SheetGroup.f k l0 l1 = some true
end Go.Proofs.Ytmflggbpiadkjaa.P
