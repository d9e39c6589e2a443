/- A row of the call's own, as an element of a row that leads to what is shared. -/
import Derived.Test.YtinfcbfdeacllaaDoorWMore
namespace Go.Proofs.YtinfcbfdeacllaaDoorW.PrintWords.Kd
open Go.RowKit Go.Proofs.YtinfcbfdeacllaaDoorW.PrintWords Go.Proofs.YtinfcbfdeacllaaDoorW.PrintLast Go.Proofs.YtinfcbfdeacllaaDoorW.PrintMore
theorem FK_own {α : Type} {d : Kd α} {e base : Nat} {ok : Nat → Prop} {W : World} {u : Value} {xs : List α} (h : d.R e W base ok u xs) : FK (Kd.slice e d) W ok xs [u] := by
  obtain ⟨A, c, rfl⟩ := R_slice h
  exact FK_slice_mk (R_reads' h).2.1 (R_F h)
end Go.Proofs.YtinfcbfdeacllaaDoorW.PrintWords.Kd
