/- Negation, Add and Sub of the reference, in plain words. -/
import Derived.Test.YtmflggbpiadkjaaPx39
import Derived.Test.YtmflggbpiadkjaaPx40
import Derived.Test.YtmflggbpiadkjaaPx41
import Derived.Test.YtmflggbpiadkjaaPx42
import Derived.Test.YtmflggbpiadkjaaSpecN
import Derived.Test.YtmflggbpiadkjaaSpecK
namespace Go.Proofs.Ytmflggbpiadkjaa.P
open Go.RowKit Go.Sort Go.Proofs.YtmflggbpiadkjaaW.PrintWords Go.Proofs.YtmflggbpiadkjaaW.PrintLast Go.Proofs.Ytmflggbpiadkjaa.Op
set_option linter.unusedVariables false
set_option linter.unusedSimpArgs false
theorem minus_l0 (l : List S34) (hl : l.length ≤ 1000000) (hr : RightL l) : ∀ (n i : Nat), l.length - i = n → i ≤ l.length → Ev (fun k => accountingref19_minus.l0 k l ((l.take i).map negC) (i : Int)) (l.map negC) := by
  intro n
  induction n with
  | zero =>
    intro i hn hi
    refine Ev.step (fun k => accountingref19_minus.l0.eq_2 _ _ _ k) ?_
    rw [List.take_of_length_le (by omega)]
    simp only [if_neg (show ¬ ((i : Int) < (l.length : Int)) by omega)]
    exact Ev.now _
  | succ n ih =>
    intro i hn hi
    have hil : i < l.length := by omega
    have hb := fit_bnd hr _ (List.getElem_mem hil)
    have hw : wrap64 ((i : Int) + 1) = ((i + 1 : Nat) : Int) := by rw [w64 (by omega) (by omega)]; omega
    have hw1 : wrap64 (-l[i].f1) = -l[i].f1 := w64 (by omega) (by omega)
    have hw2 : wrap64 (-l[i].f2) = -l[i].f2 := w64 (by omega) (by omega)
    have ht : (l.take i).map negC ++ [negC l[i]] = (l.take (i + 1)).map negC := by
      rw [List.take_add_one, List.getElem?_eq_getElem hil, List.map_append]; rfl
    have hlen : ((l.take i).map negC).length < 1466015503701 := by rw [List.length_map, List.length_take]; omega
    have e : (⟨⟨l[i].f0.f0, l[i].f0.f1, l[i].f0.f2, l[i].f0.f3, l[i].f0.f4⟩, -l[i].f1, -l[i].f2⟩ : S34) = negC l[i] := rfl
    refine Ev.step (fun k => accountingref19_minus.l0.eq_2 _ _ _ k) ?_
    simp only [if_pos (show ((i : Int) < (l.length : Int)) by omega), if_pos (show (0 : Int) ≤ (i : Int) by omega), hw, rd34_at hil, if_pos hlen, hw1, hw2, e, ht]
    exact ih (i + 1) (by omega) (by omega)
theorem minus_ev (l : List S34) (hl : l.length ≤ 1000000) (hr : RightL l) : Ev (fun k => accountingref19_minus.f k l) (l.map negC) := minus_l0 l hl hr _ 0 rfl (Nat.zero_le _)
theorem refadd_ev (a b : List S34) (hl : a.length + b.length ≤ 1000000) : Ev (fun k => accountingref19_Add.f k a b) (addK a b) := by
  unfold accountingref19_Add.f accountingref19_Right.f addK
  simp only [Option.bind_some]
  by_cases ha : rightB a = true
  · simp only [if_pos ha]
    by_cases hb : rightB b = true
    · simp only [if_pos hb, if_pos (show rightB a = true ∧ rightB b = true from ⟨ha, hb⟩), List.nil_append, List.length_nil, Nat.zero_add, if_pos (show a.length < 1466015503701 by omega), if_pos (show a.length + b.length < 1466015503701 by omega)]
      exact Ev.bind (refof_ev _ (okS_app ((right_iff a).1 ha) ((right_iff b).1 hb) hl)) (Ev.now _)
    · simp only [if_neg hb, if_neg (show ¬ (rightB a = true ∧ rightB b = true) from fun h => hb h.2)]
      exact Ev.now _
  · simp only [if_neg ha, if_neg (show ¬ (rightB a = true ∧ rightB b = true) from fun h => ha h.1)]
    exact Ev.now _
theorem refsub_ev (a b : List S34) (hl : a.length + b.length ≤ 1000000) : Ev (fun k => accountingref19_Sub.f k a b) (subK a b) := by
  unfold accountingref19_Sub.f accountingref19_Right.f subK
  simp only [Option.bind_some]
  have bad : Ev (fun k => accountingref19_Sub.j0 k a b true) (([] : List S34), (2 : Int)) := by
    refine Ev.step (fun k => accountingref19_Sub.j0.eq_2 _ _ _ k) ?_
    simp only [if_true]
    exact Ev.now _
  by_cases ha : rightB a = true
  · simp only [if_pos ha]
    by_cases hb : rightB b = true
    · simp only [hb, Bool.not_true, if_pos (show rightB a = true ∧ True from ⟨ha, trivial⟩)]
      have hl' : a.length + (b.map negC).length ≤ 1000000 := by rw [List.length_map]; exact hl
      refine Ev.step (fun k => accountingref19_Sub.j0.eq_2 _ _ _ k) ?_
      simp only [Bool.false_eq_true, if_false, Option.bind_some, List.nil_append, List.length_nil, Nat.zero_add, if_pos (show a.length < 1466015503701 by omega)]
      refine Ev.bind (minus_ev b (by omega) ((right_iff b).1 hb)) ?_
      simp only [if_pos (show a.length + (b.map negC).length < 1466015503701 by omega)]
      exact Ev.bind (refof_ev _ (okS_app ((right_iff a).1 ha) (right_neg ((right_iff b).1 hb)) hl')) (Ev.now _)
    · have hb' : rightB b = false := by simpa using hb
      simp only [hb', Bool.not_false, if_neg (show ¬ (rightB a = true ∧ false = true) from fun h => absurd h.2 (by decide))]
      exact bad
  · simp only [if_neg ha, if_neg (show ¬ (rightB a = true ∧ rightB b = true) from fun h => ha h.1)]
    exact bad
theorem negf_ev (a : List S34) (hl : a.length ≤ 1000000) : Ev (fun k => sheet_Neg.f k a) (negK a) := by
  unfold sheet_Neg.f sheet_Right.f negK
  simp only [Option.bind_some]
  by_cases ha : rightB a = true
  · simp only [if_pos ha]
    exact Ev.bind (neg_ev a hl ((right_iff a).1 ha)) (Ev.now _)
  · simp only [if_neg ha]; exact Ev.now _
theorem refneg_ev (a : List S34) (hl : a.length ≤ 1000000) : Ev (fun k => accountingref19_Neg.f k a) (negK a) := by
  unfold accountingref19_Neg.f accountingref19_Right.f negK
  simp only [Option.bind_some]
  by_cases ha : rightB a = true
  · simp only [if_pos ha]
    exact Ev.bind (minus_ev a hl ((right_iff a).1 ha)) (Ev.now _)
  · simp only [if_neg ha]; exact Ev.now _
end Go.Proofs.Ytmflggbpiadkjaa.P
