/- The pure statement of the law accountinglaw09_DimsMake. -/
import Derived.Test.YtbljhfdmimmblaaPx23
import Derived.Test.YtbljhfdmimmblaaOpn
namespace Go.Proofs.Ytbljhfdmimmblaa.P
open Go.RowKit Go.Proofs.YtbljhfdmimmblaaW.PrintWords Go.Proofs.YtbljhfdmimmblaaW.PrintLast
open Go.Proofs.Ytbljhfdmimmblaa.Op
def accountinglaw09_DimsMake.Pure : Prop := ∀ (l0 : List (S39)), (FitL fit39) l0 → ∃ k, accountinglaw09_DimsMake.f k l0 = some true
end Go.Proofs.Ytbljhfdmimmblaa.P
