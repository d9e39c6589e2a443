/- The pure statement of the law accountinglaw44_IntercoZero. -/
import Derived.Test.YtmflggbpiadkjaaPx65
import Derived.Test.YtmflggbpiadkjaaOpnJ
namespace Go.Proofs.Ytmflggbpiadkjaa.P
open Go.RowKit Go.Proofs.YtmflggbpiadkjaaW.PrintWords Go.Proofs.YtmflggbpiadkjaaW.PrintLast
open Go.Proofs.Ytmflggbpiadkjaa.Op
def accountinglaw44_IntercoZero.Pure : Prop := ∀ (l0 : List (S34)) (a1 : ByteArray) (a2 : ByteArray) (l3 : List ByteArray), (FitL fit34) l0 → (fun s => s.size ≤ maxLen) a1 → (fun s => s.size ≤ maxLen) a2 → (FitL (fun s => s.size ≤ maxLen)) l3 → ∃ k, accountinglaw44_IntercoZero.f k l0 a1 a2 l3 = some true
end Go.Proofs.Ytmflggbpiadkjaa.P
