/- The pure statement of the law FlowNil. -/
import Derived.Test.YtbbhichndfbooaaSayFlowNil
namespace Go.Proofs.Ytbbhichndfbooaa.Pure
open Go.RowKit Go.Proofs.Ytbbhichndfbooaa.P Go.Proofs.Ytbbhichndfbooaa.Op Go.Proofs.YtbbhichndfbooaaW.PrintWords Go.Proofs.YtbbhichndfbooaaW.PrintLast
theorem FlowNil : accountinglaw15_FlowNil.Pure := fun _ _ => rfl
end Go.Proofs.Ytbbhichndfbooaa.Pure
