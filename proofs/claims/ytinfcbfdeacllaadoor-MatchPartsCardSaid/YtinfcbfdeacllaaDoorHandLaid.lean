/- From the condition on the listed variable to the table. -/
import Derived.Test.YtinfcbfdeacllaaDoorRows
import Derived.Test.YtinfcbfdeacllaaDoorHandTab
import Derived.Lib.LaidTab
import Derived.LaidMore
import Derived.Stop.Joined
import Derived.ProofKit
import Derived.SevenTiedAt
namespace Go.Proofs.YtinfcbfdeacllaaDoor.P
open Go.ChangeShapes Go.WideShapes Go.RowKit
theorem gLen : Tryd.prog.globalNamed "accounting/days.lengths" = some 0 := by kernel_rfl
theorem tLen : (Tryd.prog.globals[0]?).map (·.type) = some 93 := by kernel_rfl
/-- The door's own heap meets the condition. -/
theorem door_met (os : Os) (args : Array Value) : laidMetH Tryd.prog Rows.matchRunsRow.laid ((World.doorLaid Tryd.prog 400 os).forCall (fun _ _ => 0) ⟨#[], args, []⟩).memory :=
  laidMetH_of_parts3 (fuel := 8) (laidMet_of_run' 8 (by kernel_rfl) (by kernel_rfl)) (by kernel_rfl) (by kernel_rfl)
theorem tab_of_laid {W : World} (h : laidMetH Tryd.prog Rows.matchRunsRow.laid W) : Tab W := by
  rw [MakeChecks.laidMetH_plain _ _ _ (by kernel_rfl)] at h
  obtain ⟨ps, ⟨g0, t0, cs0, f0, p0, q0, hg0, ht0, hv0, hd0, _, _⟩, _⟩ := h
  obtain rfl := Option.some.inj (gLen.symm.trans hg0)
  obtain rfl := Option.some.inj (tLen.symm.trans ht0)
  have e := Go.Lib.cells_of_tab (k := .i64) (zs := lens) Tryd.underlying93 Tryd.underlying3 (by kernel_rfl) (by kernel_rfl) hd0
  intro i hi
  have := World.var?_cell hg0 hv0 i
  obtain ⟨l⟩ := cs0
  have e' : l = lens.map fun z => Value.int .i64 z := e
  subst e'
  rw [this]
  have hl : i < lens.length := hi
  simp [List.getD, hl]
end Go.Proofs.YtinfcbfdeacllaaDoor.P
