/- The bases' sum of the reference. -/
import Derived.Test.YtmflggbpiadkjaaPx25
import Derived.Test.YtmflggbpiadkjaaSpecS
import Derived.Test.YtmflggbpiadkjaaSpecB
namespace Go.Proofs.Ytmflggbpiadkjaa.P
open Go.RowKit Go.Sort Go.Proofs.YtmflggbpiadkjaaW.PrintWords Go.Proofs.YtmflggbpiadkjaaW.PrintLast Go.Proofs.Ytmflggbpiadkjaa.Op
set_option linter.unusedVariables false
set_option linter.unusedSimpArgs false
theorem refbase_l0 (l : List S34) (hl : l.length ≤ 1000000) (hok : ∀ x ∈ l, i64ok x.f1 ∧ i64ok x.f2) : ∀ (n i : Nat), l.length - i = n → i ≤ l.length → Ev (fun k => accountingref19_Base.l0 k l ((bass l).take i) (i : Int)) (baseK l) := by
  have hb : (bass l).length = l.length := List.length_map _
  intro n
  induction n with
  | zero =>
    intro i hn hi
    refine Ev.step (fun k => accountingref19_Base.l0.eq_2 _ _ _ k) ?_
    rw [List.take_of_length_le (show (bass l).length ≤ i by omega)]
    simp only [if_neg (show ¬ ((i : Int) < (l.length : Int)) by omega)]
    refine Ev.bind (rsum_ev (bass l) (by omega) (fun x hx => by
      obtain ⟨c, hc, rfl⟩ := List.mem_map.1 hx
      exact (hok c hc).2)) ?_
    unfold baseK
    by_cases h : fitB (bass l).sum = true
    · simp only [if_pos h, if_pos (fit_i64 h), if_true, fits_pure, h, Option.bind_some]; exact Ev.now _
    · rw [Bool.not_eq_true] at h
      by_cases h2 : i64ok (bass l).sum
      · simp only [if_pos h2, if_true, fits_pure, h, Option.bind_some, Bool.false_eq_true, if_false]; exact Ev.now _
      · simp only [if_neg h2, h, Bool.false_eq_true, if_false]; exact Ev.now _
  | succ n ih =>
    intro i hn hi
    have hil : i < l.length := by omega
    have hw : wrap64 ((i : Int) + 1) = ((i + 1 : Nat) : Int) := by rw [w64 (by omega) (by omega)]; omega
    have ht : (bass l).take i ++ [l[i].f2] = (bass l).take (i + 1) := by
      rw [List.take_add_one, List.getElem?_eq_getElem (by omega)]
      unfold bass
      rw [List.getElem_map]
      rfl
    refine Ev.step (fun k => accountingref19_Base.l0.eq_2 _ _ _ k) ?_
    simp only [if_pos (show ((i : Int) < (l.length : Int)) by omega), if_pos (show (0 : Int) ≤ (i : Int) by omega), if_pos (show ((bass l).take i).length < 17592186044416 by rw [List.length_take]; omega), hw, rd34_at hil, ht]
    exact ih (i + 1) (by omega) (by omega)
theorem refbase_ev (l : List S34) (h : OkS l) : Ev (fun k => accountingref19_Base.f k l) (baseK l) :=
  refbase_l0 l h.1 h.2 _ 0 rfl (Nat.zero_le _)
end Go.Proofs.Ytmflggbpiadkjaa.P
