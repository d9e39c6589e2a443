/- The comparisons of strings <=, >= and > in the terms of <, for a walk. -/
import Derived.Laws.Strings
namespace Go.Proofs.Ytmflggbpiadkjaa.P
open Go
theorem bytesLess_tri : ∀ a b : List UInt8, (Op.bytesLess a b || a == b) = !Op.bytesLess b a
  | [], [] => rfl
  | [], _ :: _ => rfl
  | _ :: _, [] => rfl
  | a :: x, b :: y => by
    have ih := bytesLess_tri x y
    simp only [Op.bytesLess]
    by_cases h : a = b
    · subst h
      have hl : ¬ a < a := UInt8.lt_irrefl a
      have hx : ((a :: x) == (a :: y)) = (x == y) := by rw [Bool.eq_iff_iff]; simp
      rw [hx]
      simp only [hl, decide_false, Bool.false_or, beq_self_eq_true, Bool.true_and]
      exact ih
    · have hx : ((a :: x) == (b :: y)) = false := by rw [Bool.eq_false_iff]; simp [h]
      have h1 : (a == b) = false := by simp [h]
      have h2 : (b == a) = false := by simp [Ne.symm h]
      rw [hx, h1, h2]
      simp only [Bool.false_and, Bool.or_false]
      rw [Bool.eq_iff_iff]
      simp only [decide_eq_true_eq, Bool.not_eq_true', decide_eq_false_iff_not]
      have : ¬ a.toNat = b.toNat := fun e => h (UInt8.toNat_inj.mp e)
      rw [UInt8.lt_iff_toNat_lt, UInt8.lt_iff_toNat_lt]
      omega
@[go_sem] theorem leq_less (t : TypeId) (a b : ByteArray) : binOp .leq t (.string a) (.string b) = pure (.bool (!Op.bytesLess b.toList a.toList)) := by
  rw [← bytesLess_tri]; simp [binOp, Op.stringOp]
@[go_sem] theorem gtr_less (t : TypeId) (a b : ByteArray) : binOp .gtr t (.string a) (.string b) = pure (.bool (Op.bytesLess b.toList a.toList)) := by
  have := bytesLess_tri a.toList b.toList
  have e : binOp .gtr t (.string a) (.string b) = pure (.bool !(Op.bytesLess a.toList b.toList || a.toList == b.toList)) := by simp [binOp, Op.stringOp]
  rw [e, this, Bool.not_not]
@[go_sem] theorem geq_less (t : TypeId) (a b : ByteArray) : binOp .geq t (.string a) (.string b) = pure (.bool (!Op.bytesLess a.toList b.toList)) := by simp [binOp, Op.stringOp]
end Go.Proofs.Ytmflggbpiadkjaa.P
