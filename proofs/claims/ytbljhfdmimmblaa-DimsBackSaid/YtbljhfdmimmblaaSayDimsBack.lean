/- The pure statement of the law accountinglaw09_DimsBack. -/
import Derived.Test.YtbljhfdmimmblaaPx30
import Derived.Test.YtbljhfdmimmblaaOpn
namespace Go.Proofs.Ytbljhfdmimmblaa.P
open Go.RowKit Go.Proofs.YtbljhfdmimmblaaW.PrintWords Go.Proofs.YtbljhfdmimmblaaW.PrintLast
open Go.Proofs.Ytbljhfdmimmblaa.Op
def accountinglaw09_DimsBack.Pure : Prop := ∀ (l0 : List (S39)) (a1 : ByteArray), (FitL fit39) l0 → (fun s => s.size ≤ maxLen) a1 → ∃ k, accountinglaw09_DimsBack.f k l0 a1 = some true
end Go.Proofs.Ytbljhfdmimmblaa.P
