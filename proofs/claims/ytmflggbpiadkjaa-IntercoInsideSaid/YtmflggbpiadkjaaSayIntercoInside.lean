/- The pure statement of the law accountinglaw44_IntercoInside. -/
import Derived.Test.YtmflggbpiadkjaaPx55
import Derived.Test.YtmflggbpiadkjaaOpnJ
namespace Go.Proofs.Ytmflggbpiadkjaa.P
open Go.RowKit Go.Proofs.YtmflggbpiadkjaaW.PrintWords Go.Proofs.YtmflggbpiadkjaaW.PrintLast
open Go.Proofs.Ytmflggbpiadkjaa.Op
def accountinglaw44_IntercoInside.Pure : Prop := ∀ (l0 : List (S34)) (l1 : List ByteArray), (FitL fit34) l0 → (FitL (fun s => s.size ≤ maxLen)) l1 → ∃ k, accountinglaw44_IntercoInside.f k l0 l1 = some true
end Go.Proofs.Ytmflggbpiadkjaa.P
