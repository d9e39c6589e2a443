/- Inside of the reference, in plain words. -/
import Derived.Test.YtmflggbpiadkjaaSpecI
import Derived.Test.YtmflggbpiadkjaaPx47
namespace Go.Proofs.Ytmflggbpiadkjaa.P
open Go.RowKit Go.Sort Go.Proofs.YtmflggbpiadkjaaW.PrintWords Go.Proofs.YtmflggbpiadkjaaW.PrintLast Go.Proofs.Ytmflggbpiadkjaa.Op
set_option linter.unusedVariables false
set_option linter.unusedSimpArgs false
theorem member_l0 (m : List ByteArray) (s : ByteArray) (hm : m.length ≤ 1000000) : ∀ (n i : Nat), m.length - i = n → i ≤ m.length → Ev (fun k => accountingref44_member.l0 k m s (i : Int)) (hasB (m.drop i) s) := by
  intro n
  induction n with
  | zero =>
    intro i hn hi
    refine Ev.step (fun k => accountingref44_member.l0.eq_2 _ _ _ k) ?_
    rw [List.drop_of_length_le (by omega)]
    simp only [if_neg (show ¬ ((i : Int) < (m.length : Int)) by omega)]
    exact Ev.now _
  | succ n ih =>
    intro i hn hi
    have hil : i < m.length := by omega
    have hw : wrap64 ((i : Int) + 1) = ((i + 1 : Nat) : Int) := by rw [w64 (by omega) (by omega)]; omega
    refine Ev.step (fun k => accountingref44_member.l0.eq_2 _ _ _ k) ?_
    simp only [if_pos (show ((i : Int) < (m.length : Int)) by omega), if_pos (show (0 : Int) ≤ (i : Int) by omega), hw, rdB_at hil]
    have e : hasB (m.drop i) s = (m[i].toList == s.toList || hasB (m.drop (i + 1)) s) := by
      rw [List.drop_eq_getElem_cons hil]; rfl
    rw [e]
    by_cases c : m[i].toList = s.toList
    · simp only [if_pos c, beq_iff_eq.2 c, Bool.true_or]; exact Ev.now _
    · simp only [if_neg c, beq_eq_false_iff_ne.2 c, Bool.false_or]
      exact ih (i + 1) (by omega) (by omega)
theorem member_ev (m : List ByteArray) (s : ByteArray) (hm : m.length ≤ 1000000) : Ev (fun k => accountingref44_member.f k m s) (hasB m s) := member_l0 m s hm _ 0 rfl (Nat.zero_le _)
theorem is_ev (m : List ByteArray) (c : S34) (hm : m.length ≤ 1000000) : Ev (fun k => accountingref44_Is.f k c.f0.f0 c.f0.f1 c.f0.f2 c.f0.f3 c.f0.f4 c.f1 c.f2 m) (insB m c.f0) := by
  unfold accountingref44_Is.f insB
  refine Ev.bind (member_ev m c.f0.f0 hm) ?_
  cases hasB m c.f0.f0 with
  | false => simp only [Bool.false_eq_true, if_false, Bool.false_and]; exact Ev.now _
  | true =>
    simp only [if_true, Bool.true_and]
    refine Ev.bind (member_ev m c.f0.f3 hm) ?_
    cases hasB m c.f0.f3 with
    | false => simp only [Bool.false_eq_true, if_false, Bool.false_and]; exact Ev.now _
    | true => simp only [if_true, Bool.true_and]; exact Ev.now _
theorem refinside_l0 (m : List ByteArray) (l : List S34) (hl : l.length ≤ 1000000) (hm : m.length ≤ 1000000) : ∀ (n i : Nat), l.length - i = n → i ≤ l.length → Ev (fun k => accountingref44_Inside.l0 k l m (inK m (l.take i)) (outK m (l.take i)) (i : Int)) (inK m l, outK m l) := by
  intro n
  induction n with
  | zero =>
    intro i hn hi
    refine Ev.step (fun k => accountingref44_Inside.l0.eq_2 _ _ _ _ _ k) ?_
    rw [List.take_of_length_le (by omega)]
    simp only [if_neg (show ¬ ((i : Int) < (l.length : Int)) by omega)]
    exact Ev.now _
  | succ n ih =>
    intro i hn hi
    have hil : i < l.length := by omega
    have hw : wrap64 ((i : Int) + 1) = ((i + 1 : Nat) : Int) := by rw [w64 (by omega) (by omega)]; omega
    have h1 := in_le m (l.take i)
    have h2 := out_le m (l.take i)
    rw [List.length_take] at h1 h2
    have ih := ih (i + 1) (by omega) (by omega)
    rw [in_take m l hil, out_take m l hil] at ih
    refine Ev.step (fun k => accountingref44_Inside.l0.eq_2 _ _ _ _ _ k) ?_
    simp only [if_pos (show ((i : Int) < (l.length : Int)) by omega), if_pos (show (0 : Int) ≤ (i : Int) by omega), hw, rd34_at hil]
    refine Ev.bind (is_ev m l[i] hm) ?_
    simp only [if_pos (show (inK m (l.take i)).length < 1466015503701 by omega), if_pos (show (outK m (l.take i)).length < 1466015503701 by omega), mk34I]
    by_cases c : insB m l[i].f0 = true
    · rw [if_pos c, if_pos c] at ih
      simp only [if_pos c]; exact ih
    · rw [if_neg c, if_neg c] at ih
      simp only [if_neg c]; exact ih
theorem refinside_ev (m : List ByteArray) (l : List S34) (hl : l.length ≤ 1000000) (hm : m.length ≤ 1000000) : Ev (fun k => accountingref44_Inside.f k l m) (inK m l, outK m l) :=
  refinside_l0 m l hl hm _ 0 rfl (Nat.zero_le _)
end Go.Proofs.Ytmflggbpiadkjaa.P
