/- The pure statement of the law FlowAgain. -/
import Derived.Test.YtbbhichndfbooaaSayFlowAgain
namespace Go.Proofs.Ytbbhichndfbooaa.Pure
open Go.RowKit Go.Proofs.Ytbbhichndfbooaa.P Go.Proofs.Ytbbhichndfbooaa.Op Go.Proofs.YtbbhichndfbooaaW.PrintWords Go.Proofs.YtbbhichndfbooaaW.PrintLast
theorem FlowAgain : accountinglaw15_FlowAgain.Pure := by
  intro a0 l1 h0 h1
  have hl := h0.1.1
  unfold maxLen at hl
  exact if_pos ⟨by omega, fun o ho => (h1.2 o ho).2.1⟩
end Go.Proofs.Ytbbhichndfbooaa.Pure
