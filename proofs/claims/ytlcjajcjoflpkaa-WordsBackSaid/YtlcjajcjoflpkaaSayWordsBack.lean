/- The pure statement of the law accountinglaw06_WordsBack. -/
import Derived.Test.YtlcjajcjoflpkaaPx22
import Derived.Test.YtlcjajcjoflpkaaOpn
namespace Go.Proofs.Ytlcjajcjoflpkaa.P
open Go.RowKit Go.Proofs.YtlcjajcjoflpkaaW.PrintWords Go.Proofs.YtlcjajcjoflpkaaW.PrintLast
open Go.Proofs.Ytlcjajcjoflpkaa.Op
def accountinglaw06_WordsBack.Pure : Prop := ∀ (l0 : List (S39)), (FitL fit39) l0 → ∃ k, accountinglaw06_WordsBack.f k l0 = some true
end Go.Proofs.Ytlcjajcjoflpkaa.P
