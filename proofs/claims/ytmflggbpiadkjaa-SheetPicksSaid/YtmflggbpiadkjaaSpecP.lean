/- Match, Get and Pick of both sides, in plain words. -/
import Derived.Test.YtmflggbpiadkjaaPx27
import Derived.Test.YtmflggbpiadkjaaPx29
import Derived.Test.YtmflggbpiadkjaaPx30
import Derived.Test.YtmflggbpiadkjaaPx31
import Derived.Test.YtmflggbpiadkjaaPx32
import Derived.Test.YtmflggbpiadkjaaSpecW
import Derived.Test.YtmflggbpiadkjaaRgtJ
namespace Go.Proofs.Ytmflggbpiadkjaa.P
open Go.RowKit Go.Proofs.YtmflggbpiadkjaaW.PrintWords Go.Proofs.YtmflggbpiadkjaaW.PrintLast
set_option linter.unusedVariables false
set_option linter.unusedSimpArgs false
def gM (a b : ByteArray) (t : Option Bool) : Option Bool := if a.toList = ([] : List UInt8) then t else if a.toList = b.toList then t else some false
theorem gM_eq (a b : ByteArray) (r : List (ByteArray × ByteArray)) : gM a b (some (matchL r)) = some (matchL ((a, b) :: r)) := by
  unfold gM
  rw [matchL]
  by_cases h : a.toList = []
  · rw [if_pos h, if_pos (Or.inl h)]
  · rw [if_neg h]
    by_cases h2 : a.toList = b.toList
    · rw [if_pos h2, if_pos (Or.inr h2)]
    · rw [if_neg h2, if_neg (fun c => c.elim h h2)]
theorem gM_last (a b : ByteArray) : (if a.toList = ([] : List UInt8) then some true else some (a.toList == b.toList)) = some (matchL [(a, b)]) := by
  rw [matchL, matchL]
  by_cases h : a.toList = []
  · rw [if_pos h, if_pos (Or.inl h)]
  · rw [if_neg h]
    by_cases h2 : a.toList = b.toList
    · rw [if_pos (Or.inr h2), h2, BEq.rfl]
    · rw [if_neg (fun c => c.elim h h2), beq_eq_false_iff_ne.2 h2]
theorem refMatch_pure (x y : S32) : accountingref19_Match.f x.f0 x.f1 x.f2 x.f3 x.f4 y.f0 y.f1 y.f2 y.f3 y.f4 = some (matchK x y) := by
  have e : accountingref19_Match.f x.f0 x.f1 x.f2 x.f3 x.f4 y.f0 y.f1 y.f2 y.f3 y.f4 = gM x.f0 y.f0 (gM x.f1 y.f1 (gM x.f2 y.f2 (gM x.f3 y.f3 (if x.f4.toList = ([] : List UInt8) then some true else some (x.f4.toList == y.f4.toList))))) := rfl
  rw [e, gM_last, gM_eq, gM_eq, gM_eq, gM_eq]
  rfl
theorem sheetMatch_pure (x y : S32) : sheet_Match.f x.f0 x.f1 x.f2 x.f3 x.f4 y.f0 y.f1 y.f2 y.f3 y.f4 = some (matchK x y) := rfl
theorem match_none (y : S32) : matchK z32 y = true := by
  have h : ∀ l : List (ByteArray × ByteArray), (∀ p ∈ l, p.1.toList = []) → matchL l = true := by
    intro l
    induction l with
    | nil => intro _; rfl
    | cons p r ih =>
      intro hp
      rw [matchL, if_pos (Or.inl (hp p (by simp)))]
      exact ih (fun q hq => hp q (by simp [hq]))
  refine h _ (fun p hp => ?_)
  unfold flds at hp
  simp only [List.mem_cons, List.not_mem_nil, or_false] at hp
  rcases hp with rfl | rfl | rfl | rfl | rfl <;> exact (ByteArray.toList_eq _).trans rfl
/-! ### Get -/
def getK (key : S32) : List S34 → Int × Int
  | [] => (0, 0)
  | c :: r => if cmpK c.f0 key = 0 then (c.f1, c.f2) else getK key r
theorem get_l0 (l : List S34) (key : S32) (hl : l.length ≤ 1000000) : ∀ (n i : Nat), l.length - i = n → i ≤ l.length → Ev (fun k => sheet_Get.l0 k l (l.length : Int) (i : Int) key.f0 key.f1 key.f2 key.f3 key.f4) (getK key (l.drop i)) := by
  intro n
  induction n with
  | zero =>
    intro i hn hi
    refine Ev.step (fun k => sheet_Get.l0.eq_2 _ _ _ _ _ _ _ _ k) ?_
    rw [List.drop_of_length_le (by omega)]
    simp only [if_neg (show ¬ ((i : Int) < (l.length : Int)) by omega)]
    exact Ev.now _
  | succ n ih =>
    intro i hn hi
    have hil : i < l.length := by omega
    have hw : wrap64 ((i : Int) + 1) = ((i + 1 : Nat) : Int) := by rw [w64 (by omega) (by omega)]; omega
    refine Ev.step (fun k => sheet_Get.l0.eq_2 _ _ _ _ _ _ _ _ k) ?_
    rw [List.drop_eq_getElem_cons hil, getK]
    simp only [if_pos (show ((i : Int) < (l.length : Int)) by omega), if_pos (show (0 : Int) ≤ (i : Int) by omega), hw, rd34_at hil, key_beq, decide_eq_true_eq]
    by_cases c : cmpK l[i].f0 key = 0
    · simp only [if_pos c]; exact Ev.now _
    · simp only [if_neg c]; exact ih (i + 1) (by omega) (by omega)
theorem get_ev (l : List S34) (key : S32) (hl : l.length ≤ 1000000) : Ev (fun k => sheet_Get.f k l key.f0 key.f1 key.f2 key.f3 key.f4) (getK key l) := get_l0 l key hl _ 0 rfl (Nat.zero_le _)
theorem refget_l0 (l : List S34) (key : S32) (hl : l.length ≤ 1000000) : ∀ (n i : Nat), l.length - i = n → i ≤ l.length → Ev (fun k => accountingref19_Get.l0 k l (i : Int) key.f0 key.f1 key.f2 key.f3 key.f4) (getK key (l.drop i)) := by
  intro n
  induction n with
  | zero =>
    intro i hn hi
    refine Ev.step (fun k => accountingref19_Get.l0.eq_2 _ _ _ _ _ _ _ k) ?_
    rw [List.drop_of_length_le (by omega)]
    simp only [if_neg (show ¬ ((i : Int) < (l.length : Int)) by omega)]
    exact Ev.now _
  | succ n ih =>
    intro i hn hi
    have hil : i < l.length := by omega
    have hw : wrap64 ((i : Int) + 1) = ((i + 1 : Nat) : Int) := by rw [w64 (by omega) (by omega)]; omega
    refine Ev.step (fun k => accountingref19_Get.l0.eq_2 _ _ _ _ _ _ _ k) ?_
    rw [List.drop_eq_getElem_cons hil, getK]
    simp only [if_pos (show ((i : Int) < (l.length : Int)) by omega), if_pos (show (0 : Int) ≤ (i : Int) by omega), hw, rd34_at hil, key_beq, decide_eq_true_eq]
    by_cases c : cmpK l[i].f0 key = 0
    · simp only [if_pos c]; exact Ev.now _
    · simp only [if_neg c]; exact ih (i + 1) (by omega) (by omega)
theorem refget_ev (l : List S34) (key : S32) (hl : l.length ≤ 1000000) : Ev (fun k => accountingref19_Get.f k l key.f0 key.f1 key.f2 key.f3 key.f4) (getK key l) := refget_l0 l key hl _ 0 rfl (Nat.zero_le _)
/-! ### Pick -/
def pickK (key : S32) (l : List S34) : List S34 := l.filter (fun c => matchK key c.f0)
theorem mk34' (x : S34) : (⟨⟨x.f0.f0, x.f0.f1, x.f0.f2, x.f0.f3, x.f0.f4⟩, x.f1, x.f2⟩ : S34) = x := rfl
theorem pickK_take (key : S32) (l : List S34) {i : Nat} (h : i < l.length) : pickK key (l.take (i + 1)) = if matchK key l[i].f0 = true then pickK key (l.take i) ++ [l[i]] else pickK key (l.take i) := by
  unfold pickK
  rw [List.take_add_one, List.getElem?_eq_getElem h, List.filter_append]
  show _ ++ List.filter _ [l[i]] = _
  by_cases c : matchK key l[i].f0 = true
  · rw [if_pos c, List.filter_cons_of_pos (by exact c)]; rfl
  · rw [if_neg c, List.filter_cons_of_neg (by exact c)]; simp
theorem pickK_le (key : S32) (l : List S34) : (pickK key l).length ≤ l.length := List.length_filter_le _ _
theorem pick_l0 (l : List S34) (key : S32) (hl : l.length ≤ 1000000) : ∀ (n i : Nat), l.length - i = n → i ≤ l.length → Ev (fun k => sheet_Pick.l0 k (pickK key (l.take i)) l (l.length : Int) (i : Int) key.f0 key.f1 key.f2 key.f3 key.f4) (pickK key l) := by
  intro n
  induction n with
  | zero =>
    intro i hn hi
    refine Ev.step (fun k => sheet_Pick.l0.eq_2 _ _ _ _ _ _ _ _ _ k) ?_
    rw [List.take_of_length_le (by omega)]
    simp only [if_neg (show ¬ ((i : Int) < (l.length : Int)) by omega)]
    exact Ev.now _
  | succ n ih =>
    intro i hn hi
    have hil : i < l.length := by omega
    have hw : wrap64 ((i : Int) + 1) = ((i + 1 : Nat) : Int) := by rw [w64 (by omega) (by omega)]; omega
    have hp := pickK_le key (l.take i)
    rw [List.length_take] at hp
    have ih := ih (i + 1) (by omega) (by omega)
    rw [pickK_take key l hil] at ih
    refine Ev.step (fun k => sheet_Pick.l0.eq_2 _ _ _ _ _ _ _ _ _ k) ?_
    simp only [if_pos (show ((i : Int) < (l.length : Int)) by omega), if_pos (show (0 : Int) ≤ (i : Int) by omega), hw, rd34_at hil, sheetMatch_pure, Option.bind_some, if_pos (show (pickK key (l.take i)).length < 1466015503701 by omega), mk34']
    by_cases c : matchK key l[i].f0 = true
    · rw [if_pos c] at ih
      simp only [if_pos c]; exact ih
    · rw [if_neg c] at ih
      simp only [if_neg c]; exact ih
theorem pick_ev (l : List S34) (key : S32) (hl : l.length ≤ 1000000) : Ev (fun k => sheet_Pick.f k l key.f0 key.f1 key.f2 key.f3 key.f4) (pickK key l) := pick_l0 l key hl _ 0 rfl (Nat.zero_le _)
theorem refpick_l0 (l : List S34) (key : S32) (hl : l.length ≤ 1000000) : ∀ (n i : Nat), l.length - i = n → i ≤ l.length → Ev (fun k => accountingref19_Pick.l0 k l (pickK key (l.take i)) (i : Int) key.f0 key.f1 key.f2 key.f3 key.f4) (pickK key l) := by
  intro n
  induction n with
  | zero =>
    intro i hn hi
    refine Ev.step (fun k => accountingref19_Pick.l0.eq_2 _ _ _ _ _ _ _ _ k) ?_
    rw [List.take_of_length_le (by omega)]
    simp only [if_neg (show ¬ ((i : Int) < (l.length : Int)) by omega)]
    exact Ev.now _
  | succ n ih =>
    intro i hn hi
    have hil : i < l.length := by omega
    have hw : wrap64 ((i : Int) + 1) = ((i + 1 : Nat) : Int) := by rw [w64 (by omega) (by omega)]; omega
    have hp := pickK_le key (l.take i)
    rw [List.length_take] at hp
    have ih := ih (i + 1) (by omega) (by omega)
    rw [pickK_take key l hil] at ih
    refine Ev.step (fun k => accountingref19_Pick.l0.eq_2 _ _ _ _ _ _ _ _ k) ?_
    simp only [if_pos (show ((i : Int) < (l.length : Int)) by omega), if_pos (show (0 : Int) ≤ (i : Int) by omega), hw, rd34_at hil, refMatch_pure, Option.bind_some, if_pos (show (pickK key (l.take i)).length < 1466015503701 by omega), mk34']
    by_cases c : matchK key l[i].f0 = true
    · rw [if_pos c] at ih
      simp only [if_pos c]; exact ih
    · rw [if_neg c] at ih
      simp only [if_neg c]; exact ih
theorem refpick_ev (l : List S34) (key : S32) (hl : l.length ≤ 1000000) : Ev (fun k => accountingref19_Pick.f k l key.f0 key.f1 key.f2 key.f3 key.f4) (pickK key l) := refpick_l0 l key hl _ 0 rfl (Nat.zero_le _)
end Go.Proofs.Ytmflggbpiadkjaa.P
