/- The pure statement of the law accountinglaw19_SheetBases. -/
import Derived.Test.YtmflggbpiadkjaaPx26
import Derived.Test.YtmflggbpiadkjaaOpnJ
namespace Go.Proofs.Ytmflggbpiadkjaa.P
open Go.RowKit Go.Proofs.YtmflggbpiadkjaaW.PrintWords Go.Proofs.YtmflggbpiadkjaaW.PrintLast
open Go.Proofs.Ytmflggbpiadkjaa.Op
def accountinglaw19_SheetBases.Pure : Prop := ∀ (l0 : List (S34)), (FitL fit34) l0 → ∃ k, accountinglaw19_SheetBases.f k l0 = some true
end Go.Proofs.Ytmflggbpiadkjaa.P
