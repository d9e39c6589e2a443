/- SheetAny: the order of the cells does not matter. -/
import Derived.Test.YtmflggbpiadkjaaSaySheetAny
import Derived.Test.YtmflggbpiadkjaaSpecSm
import Derived.Test.YtmflggbpiadkjaaSpecC
import Derived.Test.YtmflggbpiadkjaaSpecLv
namespace Go.Proofs.Ytmflggbpiadkjaa.Pure
set_option linter.unusedVariables false
set_option linter.unusedSimpArgs false
open Go.RowKit Go.Proofs.Ytmflggbpiadkjaa.P Go.Proofs.Ytmflggbpiadkjaa.Op Go.Proofs.YtmflggbpiadkjaaW.PrintWords Go.Proofs.YtmflggbpiadkjaaW.PrintLast
theorem mk34 (x : S34) : (⟨⟨x.f0.f0, x.f0.f1, x.f0.f2, x.f0.f3, x.f0.f4⟩, x.f1, x.f2⟩ : S34) = x := rfl
theorem any_l0 (l : List S34) (hl : l.length ≤ 300) (hok : OkS l) : ∀ (i : Nat), i ≤ l.length → Ev (fun k => accountinglaw19_SheetAny.l0 k l ((l.drop i).reverse) ((i : Int) - 1)) true := by
  intro i
  induction i with
  | zero =>
    intro hi
    refine Ev.step (fun k => accountinglaw19_SheetAny.l0.eq_2 _ _ _ k) ?_
    simp only [List.drop_zero, if_neg (show ¬ ((((0 : Nat) : Int) - 1) ≥ 0) by omega)]
    have hok2 : OkS l.reverse := ⟨by rw [List.length_reverse]; exact hok.1, fun x hx => hok.2 x (List.mem_reverse.1 hx)⟩
    unfold sheet_Of.f
    simp only [if_pos hok, if_pos hok2, Option.bind_some]
    have e : ofK l.reverse = ofK l := ofK_congr (fun k => ⟨sumA_perm (List.reverse_perm l) k, sumB_perm (List.reverse_perm l) k⟩)
    rw [e]
    refine Ev.bind (same_ev (ofK l).1 (ofK_len hok)) ?_
    simp only [if_true]
    exact Ev.bind lives_ev (Ev.now _)
  | succ i ih =>
    intro hi
    have hil : i < l.length := by omega
    have e0 : (((i + 1 : Nat) : Int) - 1) = (i : Int) := by omega
    have hw : wrap64 ((i : Int) - 1) = (i : Int) - 1 := w64 (by omega) (by omega)
    have hd : (l.drop i).reverse = (l.drop (i + 1)).reverse ++ [l[i]] := by rw [List.drop_eq_getElem_cons hil, List.reverse_cons]
    refine Ev.step (fun k => accountinglaw19_SheetAny.l0.eq_2 _ _ _ k) ?_
    simp only [e0, if_pos (show ((i : Int) ≥ 0) by omega), if_pos (show (0 : Int) ≤ (i : Int) by omega), if_pos (show (i : Int) < (l.length : Int) by omega), if_pos (show ((l.drop (i + 1)).reverse).length < 1466015503701 by rw [List.length_reverse, List.length_drop]; omega), rd34_at hil, hw, mk34, ← hd]
    exact ih (by omega)
theorem SheetAny : accountinglaw19_SheetAny.Pure := by
  intro l h
  refine Ev.rounds ?_
  unfold accountinglaw19_SheetAny.f accountinglaw19_large.f
  simp only [Option.bind_some, decide_eq_true_eq]
  by_cases hl : (l.length : Int) > 300
  · simp only [if_pos hl]; exact Ev.now _
  · simp only [if_neg hl]
    have hok := okS_fit h (by omega)
    have hw : wrap64 ((l.length : Int) - 1) = (l.length : Int) - 1 := w64 (by omega) (by omega)
    have h0 := any_l0 l (by omega) hok l.length (Nat.le_refl _)
    rw [List.drop_length] at h0
    rw [hw]
    exact h0
end Go.Proofs.Ytmflggbpiadkjaa.Pure
