/- The pure statement of the law accountinglaw09_DimsMatch. -/
import Derived.Test.YtbljhfdmimmblaaPx25
import Derived.Test.YtbljhfdmimmblaaOpn
namespace Go.Proofs.Ytbljhfdmimmblaa.P
open Go.RowKit Go.Proofs.YtbljhfdmimmblaaW.PrintWords Go.Proofs.YtbljhfdmimmblaaW.PrintLast
open Go.Proofs.Ytbljhfdmimmblaa.Op
def accountinglaw09_DimsMatch.Pure : Prop := ∀ (l0 : List (S39)) (l1 : List (S39)), (FitL fit39) l0 → (FitL fit39) l1 → ∃ k, accountinglaw09_DimsMatch.f k l0 l1 = some true
end Go.Proofs.Ytbljhfdmimmblaa.P
