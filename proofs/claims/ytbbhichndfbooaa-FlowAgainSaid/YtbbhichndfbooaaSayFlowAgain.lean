/- The pure statement of the law accountinglaw15_FlowAgain. -/
import Derived.Test.YtbbhichndfbooaaHandAgain
import Derived.Test.YtbbhichndfbooaaOpnJ
namespace Go.Proofs.Ytbbhichndfbooaa.P
open Go.RowKit Go.Proofs.YtbbhichndfbooaaW.PrintWords Go.Proofs.YtbbhichndfbooaaW.PrintLast
open Go.Proofs.Ytbbhichndfbooaa.Op
def accountinglaw15_FlowAgain.Pure : Prop := ∀ (a0 : S25) (l1 : List (S46)), fit25 a0 → (FitL fit46) l1 → accountinglaw15_FlowAgain.f a0.f0 a0.f1 l1 = some true
end Go.Proofs.Ytbbhichndfbooaa.P
