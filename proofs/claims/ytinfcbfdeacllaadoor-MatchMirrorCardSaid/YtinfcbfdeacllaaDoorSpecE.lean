/- Equal lists are found equal. -/
import Derived.Test.YtinfcbfdeacllaaDoorSpecK
import Derived.Test.YtinfcbfdeacllaaDoorPx7
import Derived.Test.YtinfcbfdeacllaaDoorPx8
namespace Go.Proofs.YtinfcbfdeacllaaDoor.Sp
open Go.RowKit Go.Proofs.YtinfcbfdeacllaaDoor.P Go.Proofs.YtinfcbfdeacllaaDoorW.PrintWords Go.Proofs.YtinfcbfdeacllaaDoorW.PrintLast
set_option linter.unusedVariables false
set_option linter.unusedSimpArgs false
theorem ints_l0 (l : List Int) (hl : l.length ≤ 1000000) : ∀ (n i : Nat), l.length - i = n → i ≤ l.length → Ev (fun k => accountingref49_Ints.l0 k l l (i : Int)) true := by
  intro n
  induction n with
  | zero =>
    intro i hn hi
    refine Ev.step (fun k => accountingref49_Ints.l0.eq_2 _ _ _ k) ?_
    simp only [if_neg (show ¬ ((i : Int) < (l.length : Int)) by omega)]
    exact Ev.now _
  | succ n ih =>
    intro i hn hi
    have hw : wrap64 ((i : Int) + 1) = ((i + 1 : Nat) : Int) := by rw [w64 (by omega) (by omega)]; omega
    refine Ev.step (fun k => accountingref49_Ints.l0.eq_2 _ _ _ k) ?_
    simp only [if_pos (show ((i : Int) < (l.length : Int)) by omega), if_pos (show (0 : Int) ≤ (i : Int) by omega), hw, if_true]
    exact ih (i + 1) (by omega) (by omega)
theorem ints_ev (l : List Int) (hl : l.length ≤ 1000000) : Ev (fun k => accountingref49_Ints.f k l l) true := by
  unfold accountingref49_Ints.f
  simp only [if_true]
  exact ints_l0 l hl _ 0 rfl (Nat.zero_le _)
theorem same_l0 (l : List S54) (hl : l.length ≤ 1000000) (hi : ∀ x ∈ l, x.f1.length ≤ 1000000) : ∀ (n i : Nat), l.length - i = n → i ≤ l.length → Ev (fun k => accountingref49_Same.l0 k l l (i : Int)) true := by
  intro n
  induction n with
  | zero =>
    intro i hn hii
    refine Ev.step (fun k => accountingref49_Same.l0.eq_2 _ _ _ k) ?_
    simp only [if_neg (show ¬ ((i : Int) < (l.length : Int)) by omega)]
    exact Ev.now _
  | succ n ih =>
    intro i hn hii
    have hw : wrap64 ((i : Int) + 1) = ((i + 1 : Nat) : Int) := by rw [w64 (by omega) (by omega)]; omega
    refine Ev.step (fun k => accountingref49_Same.l0.eq_2 _ _ _ k) ?_
    simp only [if_pos (show ((i : Int) < (l.length : Int)) by omega), if_pos (show (0 : Int) ≤ (i : Int) by omega), hw, if_true]
    refine (ints_ev _ (hi _ (rd54_mem (by omega)))).bind ?_
    simp only [if_true]
    exact ih (i + 1) (by omega) (by omega)
theorem same_ev (l : List S54) (hl : l.length ≤ 1000000) (hi : ∀ x ∈ l, x.f1.length ≤ 1000000) : Ev (fun k => accountingref49_Same.f k l l) true := by
  unfold accountingref49_Same.f
  simp only [if_true]
  exact same_l0 l hl hi _ 0 rfl (Nat.zero_le _)
end Go.Proofs.YtinfcbfdeacllaaDoor.Sp
