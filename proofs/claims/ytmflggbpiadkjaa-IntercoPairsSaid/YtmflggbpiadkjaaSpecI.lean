/- Inside of both sides, in plain words. -/
import Derived.Test.YtmflggbpiadkjaaHandInr
import Derived.Test.YtmflggbpiadkjaaSpecU
namespace Go.Proofs.Ytmflggbpiadkjaa.P
open Go.RowKit Go.Sort Go.Proofs.YtmflggbpiadkjaaW.PrintWords Go.Proofs.YtmflggbpiadkjaaW.PrintLast Go.Proofs.Ytmflggbpiadkjaa.Op
set_option linter.unusedVariables false
set_option linter.unusedSimpArgs false
def inK (m : List ByteArray) (l : List S34) : List S34 := l.filter (fun c => insB m c.f0)
def outK (m : List ByteArray) (l : List S34) : List S34 := l.filter (fun c => !insB m c.f0)
theorem in_take (m : List ByteArray) (l : List S34) {i : Nat} (h : i < l.length) : inK m (l.take (i + 1)) = if insB m l[i].f0 = true then inK m (l.take i) ++ [l[i]] else inK m (l.take i) := by
  unfold inK
  rw [List.take_add_one, List.getElem?_eq_getElem h, List.filter_append]
  show _ ++ List.filter _ [l[i]] = _
  by_cases c : insB m l[i].f0 = true
  · rw [if_pos c, List.filter_cons_of_pos (by exact c)]; rfl
  · rw [if_neg c, List.filter_cons_of_neg (by exact c)]; simp
theorem out_take (m : List ByteArray) (l : List S34) {i : Nat} (h : i < l.length) : outK m (l.take (i + 1)) = if insB m l[i].f0 = true then outK m (l.take i) else outK m (l.take i) ++ [l[i]] := by
  unfold outK
  rw [List.take_add_one, List.getElem?_eq_getElem h, List.filter_append]
  show _ ++ List.filter _ [l[i]] = _
  by_cases c : insB m l[i].f0 = true
  · rw [if_pos c, List.filter_cons_of_neg (by simp [c])]; simp
  · rw [if_neg c, List.filter_cons_of_pos (by simp [c])]; rfl
theorem in_le (m : List ByteArray) (l : List S34) : (inK m l).length ≤ l.length := List.length_filter_le _ _
theorem out_le (m : List ByteArray) (l : List S34) : (outK m l).length ≤ l.length := List.length_filter_le _ _
theorem in_out (m : List ByteArray) : ∀ (l : List S34), (inK m l).length + (outK m l).length = l.length
  | [] => rfl
  | c :: r => by
    have ih := in_out m r
    unfold inK outK at ih ⊢
    by_cases h : insB m c.f0 = true
    · rw [List.filter_cons_of_pos (by exact h), List.filter_cons_of_neg (by simp [h])]
      simp only [List.length_cons]
      omega
    · rw [List.filter_cons_of_neg (by exact h), List.filter_cons_of_pos (by simp [h])]
      simp only [List.length_cons]
      omega
theorem mk34I (x : S34) : (⟨⟨x.f0.f0, x.f0.f1, x.f0.f2, x.f0.f3, x.f0.f4⟩, x.f1, x.f2⟩ : S34) = x := rfl
theorem inside_pure (m : List ByteArray) (x : S32) : interco_inside.f m x.f0 x.f1 x.f2 x.f3 x.f4 = some (insB m x) := rfl
theorem inside_l0 (m : List ByteArray) (l : List S34) (hl : l.length ≤ 1000000) : ∀ (n i : Nat), l.length - i = n → i ≤ l.length → Ev (fun k => interco_Inside.l0 k (inK m (l.take i)) (outK m (l.take i)) l (l.length : Int) (i : Int) m) (inK m l, outK m l) := by
  intro n
  induction n with
  | zero =>
    intro i hn hi
    refine Ev.step (fun k => interco_Inside.l0.eq_2 _ _ _ _ _ _ k) ?_
    rw [List.take_of_length_le (by omega)]
    simp only [if_neg (show ¬ ((i : Int) < (l.length : Int)) by omega)]
    exact Ev.now _
  | succ n ih =>
    intro i hn hi
    have hil : i < l.length := by omega
    have hw : wrap64 ((i : Int) + 1) = ((i + 1 : Nat) : Int) := by rw [w64 (by omega) (by omega)]; omega
    have h1 := in_le m (l.take i)
    have h2 := out_le m (l.take i)
    rw [List.length_take] at h1 h2
    have ih := ih (i + 1) (by omega) (by omega)
    rw [in_take m l hil, out_take m l hil] at ih
    refine Ev.step (fun k => interco_Inside.l0.eq_2 _ _ _ _ _ _ k) ?_
    simp only [if_pos (show ((i : Int) < (l.length : Int)) by omega), if_pos (show (0 : Int) ≤ (i : Int) by omega), hw, rd34_at hil, inside_pure, Option.bind_some, if_pos (show (inK m (l.take i)).length < 1466015503701 by omega), if_pos (show (outK m (l.take i)).length < 1466015503701 by omega), mk34I]
    by_cases c : insB m l[i].f0 = true
    · rw [if_pos c, if_pos c] at ih
      simp only [if_pos c]; exact ih
    · rw [if_neg c, if_neg c] at ih
      simp only [if_neg c]; exact ih
theorem inside_ev (m : List ByteArray) (l : List S34) (hl : l.length ≤ 1000000) (h : FitM l m) : Ev (fun k => interco_Inside.f k l m) (inK m l, outK m l) := by
  unfold interco_Inside.f
  simp only [if_pos h]
  exact inside_l0 m l hl _ 0 rfl (Nat.zero_le _)
theorem rdB_at {m : List ByteArray} {i : Nat} (h : i < m.length) : rdOf ByteArray.empty m (i : Int) = m[i] := by simp [rdOf, h]
theorem fitM_of {l : List S34} {m : List ByteArray} (h : (FitL fit34) l) (hm : (FitL (fun s : ByteArray => s.size ≤ maxLen)) m) (hml : m.length ≤ 1000000) : FitM l m :=
  ⟨hml, hm.2, fun c hc => ⟨(h.2 c hc).1.1, (h.2 c hc).1.2.2.2.1⟩⟩
end Go.Proofs.Ytmflggbpiadkjaa.P
