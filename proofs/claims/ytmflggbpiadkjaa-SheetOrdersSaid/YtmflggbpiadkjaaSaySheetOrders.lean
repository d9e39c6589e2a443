/- The pure statement of the law accountinglaw19_SheetOrders. -/
import Derived.Test.YtmflggbpiadkjaaPx28
import Derived.Test.YtmflggbpiadkjaaOpnJ
namespace Go.Proofs.Ytmflggbpiadkjaa.P
open Go.RowKit Go.Proofs.YtmflggbpiadkjaaW.PrintWords Go.Proofs.YtmflggbpiadkjaaW.PrintLast
open Go.Proofs.Ytmflggbpiadkjaa.Op
def accountinglaw19_SheetOrders.Pure : Prop := ∀ (a0 : S32) (a1 : S32) (a2 : S32), fit32 a0 → fit32 a1 → fit32 a2 → ∃ k, accountinglaw19_SheetOrders.f k a0.f0 a0.f1 a0.f2 a0.f3 a0.f4 a1.f0 a1.f1 a1.f2 a1.f3 a1.f4 a2.f0 a2.f1 a2.f2 a2.f3 a2.f4 = some true
end Go.Proofs.Ytmflggbpiadkjaa.P
