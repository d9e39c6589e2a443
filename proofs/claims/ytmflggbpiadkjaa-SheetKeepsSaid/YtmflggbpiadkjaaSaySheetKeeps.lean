/- The pure statement of the law accountinglaw19_SheetKeeps. -/
import Derived.Test.YtmflggbpiadkjaaPx24
import Derived.Test.YtmflggbpiadkjaaOpnJ
namespace Go.Proofs.Ytmflggbpiadkjaa.P
open Go.RowKit Go.Proofs.YtmflggbpiadkjaaW.PrintWords Go.Proofs.YtmflggbpiadkjaaW.PrintLast
open Go.Proofs.Ytmflggbpiadkjaa.Op
def accountinglaw19_SheetKeeps.Pure : Prop := ∀ (l0 : List (S34)) (a1 : Int) (a2 : Int), (FitL fit34) l0 → (fun n => (Lit.int .i64 n).wf = true) a1 → (fun n => (Lit.int .i64 n).wf = true) a2 → ∃ k, accountinglaw19_SheetKeeps.f k l0 a1 a2 = some true
end Go.Proofs.Ytmflggbpiadkjaa.P
