/- The pure statement of the law accountinglaw44_IntercoOrder. -/
import Derived.Test.YtmflggbpiadkjaaPx68
import Derived.Test.YtmflggbpiadkjaaOpnJ
namespace Go.Proofs.Ytmflggbpiadkjaa.P
open Go.RowKit Go.Proofs.YtmflggbpiadkjaaW.PrintWords Go.Proofs.YtmflggbpiadkjaaW.PrintLast
open Go.Proofs.Ytmflggbpiadkjaa.Op
def accountinglaw44_IntercoOrder.Pure : Prop := ∀ (l0 : List (S34)) (a1 : ByteArray) (a2 : ByteArray) (l3 : List ByteArray), (FitL fit34) l0 → (fun s => s.size ≤ maxLen) a1 → (fun s => s.size ≤ maxLen) a2 → (FitL (fun s => s.size ≤ maxLen)) l3 → ∃ k, accountinglaw44_IntercoOrder.f k l0 a1 a2 l3 = some true
end Go.Proofs.Ytmflggbpiadkjaa.P
