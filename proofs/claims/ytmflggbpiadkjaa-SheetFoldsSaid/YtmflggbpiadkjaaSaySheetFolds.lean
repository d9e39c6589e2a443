/- The pure statement of the law accountinglaw19_SheetFolds. -/
import Derived.Test.YtmflggbpiadkjaaPx23
import Derived.Test.YtmflggbpiadkjaaOpnJ
namespace Go.Proofs.Ytmflggbpiadkjaa.P
open Go.RowKit Go.Proofs.YtmflggbpiadkjaaW.PrintWords Go.Proofs.YtmflggbpiadkjaaW.PrintLast
open Go.Proofs.Ytmflggbpiadkjaa.Op
def accountinglaw19_SheetFolds.Pure : Prop := ∀ (l0 : List (S34)) (a1 : Int), (FitL fit34) l0 → (fun n => (Lit.int .i64 n).wf = true) a1 → ∃ k, accountinglaw19_SheetFolds.f k l0 a1 = some true
end Go.Proofs.Ytmflggbpiadkjaa.P
