/- Small lemmas beside the print: a cell that is stored into twice. -/
import Derived.RowKit
import Derived.WalkKit
namespace Go.Proofs.Ytmflggbpiadkjaa.Aid
theorem cell_set_map (w : World) (b i : Nat) (v : Value) : (w.setCell ⟨b, i, none⟩ v).cell? ⟨b, i, none⟩ = (w.cell? ⟨b, i, none⟩).bind fun _ => some v := by
  unfold World.setCell World.cell?
  simp only [Array.getElem?_modify]
  cases h : w.heap[b]? with
  | none => simp
  | some o =>
    cases o with
    | cells c e f =>
      simp
      by_cases hi : i < c.size
      · simp [hi]
      · simp [hi]
    | _ => simp
theorem bind_some_ {α β : Type} (x : α) (f : α → Option β) : (some x).bind f = f x := rfl
end Go.Proofs.Ytmflggbpiadkjaa.Aid
