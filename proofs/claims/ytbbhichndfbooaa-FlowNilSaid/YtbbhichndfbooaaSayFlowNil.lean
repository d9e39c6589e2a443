/- The pure statement of the law accountinglaw15_FlowNil. -/
import Derived.Test.YtbbhichndfbooaaHandFlowNil
import Derived.Test.YtbbhichndfbooaaOpn
namespace Go.Proofs.Ytbbhichndfbooaa.P
open Go.RowKit Go.Proofs.YtbbhichndfbooaaW.PrintWords Go.Proofs.YtbbhichndfbooaaW.PrintLast
open Go.Proofs.Ytbbhichndfbooaa.Op
def accountinglaw15_FlowNil.Pure : Prop := ∀ (a0 : S46), fit46 a0 → accountinglaw15_FlowNil.f a0.f0 a0.f1 a0.f2 a0.f3 = some true
end Go.Proofs.Ytbbhichndfbooaa.P
