/- The pure statement of the law accountinglaw15_FlowDuties. -/
import Derived.Test.YtbbhichndfbooaaHandDuties
import Derived.Test.YtbbhichndfbooaaOpn
namespace Go.Proofs.Ytbbhichndfbooaa.P
open Go.RowKit Go.Proofs.YtbbhichndfbooaaW.PrintWords Go.Proofs.YtbbhichndfbooaaW.PrintLast
open Go.Proofs.Ytbbhichndfbooaa.Op
def accountinglaw15_FlowDuties.Pure : Prop := ∀ (a0 : S25) (l1 : List (S46)), fit25 a0 → (FitL fit46) l1 → accountinglaw15_FlowDuties.f a0.f0 a0.f1 l1 = some true
end Go.Proofs.Ytbbhichndfbooaa.P
