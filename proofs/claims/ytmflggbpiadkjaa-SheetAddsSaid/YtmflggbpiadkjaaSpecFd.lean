/- Fold of both sides, in plain words. -/
import Derived.Test.YtmflggbpiadkjaaPxA
import Derived.Test.YtmflggbpiadkjaaSpecW
import Derived.Test.YtmflggbpiadkjaaSpecC
namespace Go.Proofs.Ytmflggbpiadkjaa.P
open Go.RowKit Go.Proofs.YtmflggbpiadkjaaW.PrintWords Go.Proofs.YtmflggbpiadkjaaW.PrintLast
set_option linter.unusedVariables false
set_option linter.unusedSimpArgs false
def keyM (mask : Int) (k : S32) : S32 := keptK k mask
def rkM (mask : Int) (c : S34) : S34 := rekey (keyM mask) c
/-- What Fold answers. -/
def foldK (l : List S34) (mask : Int) : List S34 × Int := if rightB l = true ∧ 0 ≤ mask ∧ mask ≤ 31 then ofK (l.map (rkM mask)) else ([], 2)
theorem kept_pure (x : S32) (mask : Int) (h0 : 0 ≤ mask) (h1 : mask ≤ 31) : sheet_kept.f x.f0 x.f1 x.f2 x.f3 x.f4 mask = some ((keyM mask x).f0, (keyM mask x).f1, (keyM mask x).f2, (keyM mask x).f3, (keyM mask x).f4) := by
  unfold sheet_kept.f
  rw [if_pos ⟨h0, h1⟩]
  rfl
theorem okS_rk {l : List S34} (h : OkS l) (mask : Int) : OkS (l.map (rkM mask)) := by
  refine ⟨by rw [List.length_map]; exact h.1, fun x hx => ?_⟩
  obtain ⟨c, hc, rfl⟩ := List.mem_map.1 hx
  exact h.2 c hc
theorem map_step {α : Type} (f : α → α) (l : List α) {i : Nat} (h : i < l.length) : ((l.take i).map f ++ l.drop i).set i (f l[i]) = (l.take (i + 1)).map f ++ l.drop (i + 1) := by
  have hlen : ((l.take i).map f).length = i := by rw [List.length_map, List.length_take]; omega
  rw [List.set_append_right _ _ (by omega), hlen, Nat.sub_self, List.drop_eq_getElem_cons h, List.take_add_one, List.getElem?_eq_getElem h, List.map_append, List.append_assoc]
  rfl
theorem map_rd (f : S34 → S34) (l : List S34) {i : Nat} (h : i < l.length) : rd_T34 ((l.take i).map f ++ l.drop i) (i : Int) = l[i] := by
  have hlen : ((l.take i).map f).length = i := by rw [List.length_map, List.length_take]; omega
  rw [rd34_at (by rw [List.length_append, hlen, List.length_drop]; omega), List.getElem_append_right (by omega), List.getElem_drop]
  simp only [hlen, Nat.sub_self, Nat.add_zero]
theorem map_len {α : Type} (f : α → α) (l : List α) {i : Nat} (h : i ≤ l.length) : ((l.take i).map f ++ l.drop i).length = l.length := by
  rw [List.length_append, List.length_map, List.length_take, List.length_drop]; omega
theorem fold_l0 (l : List S34) (mask : Int) (h0 : 0 ≤ mask) (h1 : mask ≤ 31) (hok : OkS l) : ∀ (n i : Nat), l.length - i = n → i ≤ l.length → Ev (fun k => sheet_Fold.l0 k mask ((l.take i).map (rkM mask) ++ l.drop i) (l.length : Int) (i : Int)) (ofK (l.map (rkM mask))) := by
  have hl := hok.1
  intro n
  induction n with
  | zero =>
    intro i hn hi
    refine Ev.step (fun k => sheet_Fold.l0.eq_2 _ _ _ _ k) ?_
    rw [List.take_of_length_le (by omega), List.drop_of_length_le (by omega), List.append_nil]
    unfold sheet_Of.f
    simp only [if_neg (show ¬ ((i : Int) < (l.length : Int)) by omega), if_pos (okS_rk hok mask), Option.bind_some]
    exact Ev.now _
  | succ n ih =>
    intro i hn hi
    have hil : i < l.length := by omega
    have hw : wrap64 ((i : Int) + 1) = ((i + 1 : Nat) : Int) := by rw [w64 (by omega) (by omega)]; omega
    have hs := map_step (rkM mask) l hil
    have e : (⟨⟨(keyM mask l[i].f0).f0, (keyM mask l[i].f0).f1, (keyM mask l[i].f0).f2, (keyM mask l[i].f0).f3, (keyM mask l[i].f0).f4⟩, l[i].f1, l[i].f2⟩ : S34) = rkM mask l[i] := rfl
    refine Ev.step (fun k => sheet_Fold.l0.eq_2 _ _ _ _ k) ?_
    simp only [if_pos (show ((i : Int) < (l.length : Int)) by omega), if_pos (show (0 : Int) ≤ (i : Int) by omega), hw, map_len (rkM mask) l (Nat.le_of_lt hil), map_rd (rkM mask) l hil, kept_pure _ _ h0 h1, Option.bind_some, Int.toNat_natCast, e, hs]
    exact ih (i + 1) (by omega) (by omega)
theorem fold_ev (l : List S34) (mask : Int) (hok : OkS l) : Ev (fun k => sheet_Fold.f k l mask) (foldK l mask) := by
  have hl := hok.1
  unfold sheet_Fold.f sheet_Right.f foldK
  simp only [Option.bind_some]
  have bad : Ev (fun k => sheet_Fold.j0 k l mask true) (([] : List S34), (2 : Int)) := by
    refine Ev.step (fun k => sheet_Fold.j0.eq_2 _ _ _ k) ?_
    simp only [if_true]
    exact Ev.now _
  by_cases hr : rightB l = true
  · simp only [if_pos hr]
    by_cases c0 : mask < 0
    · simp only [if_pos c0, if_neg (show ¬ (rightB l = true ∧ 0 ≤ mask ∧ mask ≤ 31) from fun h => by omega)]
      exact bad
    · simp only [if_neg c0]
      by_cases c1 : mask > 31
      · simp only [decide_eq_true c1, if_neg (show ¬ (rightB l = true ∧ 0 ≤ mask ∧ mask ≤ 31) from fun h => by omega)]
        exact bad
      · simp only [decide_eq_false c1, if_pos (show rightB l = true ∧ 0 ≤ mask ∧ mask ≤ 31 from ⟨hr, by omega, by omega⟩)]
        refine Ev.step (fun k => sheet_Fold.j0.eq_2 _ _ _ k) ?_
        unfold slices_Clone.f
        simp only [Bool.false_eq_true, if_false, if_pos hl, Option.bind_some]
        exact fold_l0 l mask (by omega) (by omega) hok _ 0 rfl (Nat.zero_le _)
  · simp only [if_neg hr, if_neg (show ¬ (rightB l = true ∧ 0 ≤ mask ∧ mask ≤ 31) from fun h => hr h.1)]
    exact bad
theorem foldK_len {l : List S34} (mask : Int) (h : OkS l) : (foldK l mask).1.length ≤ 1000000 := by
  unfold foldK
  split
  · exact ofK_len (okS_rk h mask)
  · exact Nat.zero_le _
end Go.Proofs.Ytmflggbpiadkjaa.P
