/- The chapter's examples hold (interco). -/
import Derived.Test.YtmflggbpiadkjaaPx54
import Derived.KernelRfl
namespace Go.Proofs.Ytmflggbpiadkjaa.P
open Go.RowKit Go.Proofs.YtmflggbpiadkjaaW.PrintWords Go.Proofs.YtmflggbpiadkjaaW.PrintLast
set_option maxRecDepth 100000 in
theorem livesi60 : accountinglaw44_lives.f 60 = some true := by kernel_rfl
theorem livesi_ev : Ev (fun k => accountinglaw44_lives.f k) true := Ev.of (fun k => accountinglaw44_lives.mono k) livesi60
end Go.Proofs.Ytmflggbpiadkjaa.P
