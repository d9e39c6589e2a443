/- The examples of the chapter. -/
import Derived.Test.YtbljhfdmimmblaaSpecA
import Derived.Test.YtbljhfdmimmblaaPx15
namespace Go.Proofs.Ytbljhfdmimmblaa.Sp
open Go.RowKit Go.Proofs.Ytbljhfdmimmblaa.P Go.Proofs.YtbljhfdmimmblaaW.PrintWords Go.Proofs.YtbljhfdmimmblaaW.PrintLast
theorem lives_ev : Ev (fun k => accountinglaw09_lives.f k) true := Ev.of accountinglaw09_lives.mono accountinglaw09_lives.true_at
theorem lives_tail : Ev (fun k => (accountinglaw09_lives.f k).bind fun t => some t) true := Ev.bind lives_ev (Ev.now _)

end Go.Proofs.Ytbljhfdmimmblaa.Sp
