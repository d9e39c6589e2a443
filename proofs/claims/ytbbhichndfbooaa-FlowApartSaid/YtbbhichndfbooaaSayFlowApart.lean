/- The pure statement of the law accountinglaw15_FlowApart. -/
import Derived.Test.YtbbhichndfbooaaHandApart
import Derived.Test.YtbbhichndfbooaaOpn
namespace Go.Proofs.Ytbbhichndfbooaa.P
open Go.RowKit Go.Proofs.YtbbhichndfbooaaW.PrintWords Go.Proofs.YtbbhichndfbooaaW.PrintLast
open Go.Proofs.Ytbbhichndfbooaa.Op
def accountinglaw15_FlowApart.Pure : Prop := ∀ (a0 : S25) (l1 : List (S46)), fit25 a0 → (FitL fit46) l1 → accountinglaw15_FlowApart.f a0.f0 a0.f1 l1 = some true
end Go.Proofs.Ytbbhichndfbooaa.P
