/- The chapter's examples hold. -/
import Derived.Test.YtmflggbpiadkjaaPxA
import Derived.KernelRfl
namespace Go.Proofs.Ytmflggbpiadkjaa.P
open Go.RowKit Go.Proofs.YtmflggbpiadkjaaW.PrintWords Go.Proofs.YtmflggbpiadkjaaW.PrintLast
set_option maxRecDepth 100000 in
theorem lives60 : accountinglaw19_lives.f 60 = some true := by kernel_rfl
theorem lives_ev : Ev (fun k => accountinglaw19_lives.f k) true := Ev.of (fun k => accountinglaw19_lives.mono k) lives60
end Go.Proofs.Ytmflggbpiadkjaa.P
