/- The pure statement of the law accountinglaw09_DimsText. -/
import Derived.Test.YtbljhfdmimmblaaPx29
import Derived.Test.YtbljhfdmimmblaaOpn
namespace Go.Proofs.Ytbljhfdmimmblaa.P
open Go.RowKit Go.Proofs.YtbljhfdmimmblaaW.PrintWords Go.Proofs.YtbljhfdmimmblaaW.PrintLast
open Go.Proofs.Ytbljhfdmimmblaa.Op
def accountinglaw09_DimsText.Pure : Prop := ∀ (l0 : List (S39)) (a1 : ByteArray), (FitL fit39) l0 → (fun s => s.size ≤ maxLen) a1 → ∃ k, accountinglaw09_DimsText.f k l0 a1 = some true
end Go.Proofs.Ytbljhfdmimmblaa.P
