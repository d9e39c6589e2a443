/- The pure statement of the law accountinglaw19_SheetOf. -/
import Derived.Test.YtmflggbpiadkjaaPx19
import Derived.Test.YtmflggbpiadkjaaOpnJ
namespace Go.Proofs.Ytmflggbpiadkjaa.P
open Go.RowKit Go.Proofs.YtmflggbpiadkjaaW.PrintWords Go.Proofs.YtmflggbpiadkjaaW.PrintLast
open Go.Proofs.Ytmflggbpiadkjaa.Op
def accountinglaw19_SheetOf.Pure : Prop := ∀ (l0 : List (S34)), (FitL fit34) l0 → ∃ k, accountinglaw19_SheetOf.f k l0 = some true
end Go.Proofs.Ytmflggbpiadkjaa.P
