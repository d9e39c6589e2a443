/- How many words a line has. -/
import Derived.Test.YtlcjajcjoflpkaaSpecC
namespace Go.Proofs.Ytlcjajcjoflpkaa.Sp
open Go.RowKit Go.Proofs.Ytlcjajcjoflpkaa.P Go.Proofs.YtlcjajcjoflpkaaW.PrintWords Go.Proofs.YtlcjajcjoflpkaaW.PrintLast
set_option linter.unusedSimpArgs false
set_option linter.unusedVariables false

theorem cutL_len (f : Nat) : ∀ (l : List UInt8) (i : Nat), (cutL f l i).1.length ≤ f := by
  induction f with
  | zero => intro l i; simp [cutL]
  | succ f ih =>
    intro l i
    cases l with
    | nil => simp [cutL]
    | cons u r =>
      unfold cutL
      split
      · simp
      · split
        · have := ih r (i + 1); omega
        · split
          · split
            · simp; exact ih _ _
            · simp
          · simp
theorem cutS_len (s : ByteArray) : (cutS s).1.length ≤ 1000 := by
  unfold cutS
  split
  · simp
  · unfold cutAns
    have := cutL_len (s.size + 1) (D s 0) 0
    split <;> simp <;> omega

end Go.Proofs.Ytlcjajcjoflpkaa.Sp
