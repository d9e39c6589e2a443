/- Negation, Add and Sub, in plain words. -/
import Derived.Test.YtmflggbpiadkjaaPx35
import Derived.Test.YtmflggbpiadkjaaPx36
import Derived.Test.YtmflggbpiadkjaaPx37
import Derived.Test.YtmflggbpiadkjaaSpecFd
namespace Go.Proofs.Ytmflggbpiadkjaa.P
open Go.RowKit Go.Sort Go.Proofs.YtmflggbpiadkjaaW.PrintWords Go.Proofs.YtmflggbpiadkjaaW.PrintLast Go.Proofs.Ytmflggbpiadkjaa.Op
set_option linter.unusedVariables false
set_option linter.unusedSimpArgs false
theorem right_neg {l : List S34} (h : RightL l) : RightL (l.map negC) := by
  refine ⟨fun c hc => ?_, by rw [List.map_map]; exact h.2⟩
  obtain ⟨x, hx, rfl⟩ := List.mem_map.1 hc
  have h1 := (bad_iff x).1 (h.1 x hx)
  refine (bad_iff _).2 ⟨?_, ?_, ?_⟩
  · have h2 := h1.1
    unfold nzC at h2 ⊢
    rw [decide_eq_true_iff] at h2 ⊢
    show -x.f1 ≠ 0 ∨ -x.f2 ≠ 0
    omega
  · have h2 := h1.2.1
    unfold fitB at h2 ⊢
    rw [Bool.and_eq_true, decide_eq_true_iff, decide_eq_true_iff] at h2 ⊢
    show -1000000000000000 ≤ -x.f1 ∧ -x.f1 ≤ 1000000000000000
    omega
  · have h2 := h1.2.2
    unfold fitB at h2 ⊢
    rw [Bool.and_eq_true, decide_eq_true_iff, decide_eq_true_iff] at h2 ⊢
    show -1000000000000000 ≤ -x.f2 ∧ -x.f2 ≤ 1000000000000000
    omega
theorem fit_bnd {l : List S34} (h : RightL l) : ∀ c ∈ l, -1000000000000000 ≤ c.f1 ∧ c.f1 ≤ 1000000000000000 ∧ -1000000000000000 ≤ c.f2 ∧ c.f2 ≤ 1000000000000000 := by
  intro c hc
  have h1 := (bad_iff c).1 (h.1 c hc)
  have h2 := h1.2.1
  have h3 := h1.2.2
  unfold fitB at h2 h3
  rw [Bool.and_eq_true, decide_eq_true_iff, decide_eq_true_iff] at h2 h3
  omega
theorem neg_l0 (l : List S34) (hl : l.length ≤ 1000000) (hr : RightL l) : ∀ (n i : Nat), l.length - i = n → i ≤ l.length → Ev (fun k => sheet_negated.l0 k ((l.take i).map negC ++ l.drop i) (l.length : Int) (i : Int)) (l.map negC) := by
  intro n
  induction n with
  | zero =>
    intro i hn hi
    refine Ev.step (fun k => sheet_negated.l0.eq_2 _ _ _ k) ?_
    rw [List.take_of_length_le (by omega), List.drop_of_length_le (by omega), List.append_nil]
    simp only [if_neg (show ¬ ((i : Int) < (l.length : Int)) by omega)]
    exact Ev.now _
  | succ n ih =>
    intro i hn hi
    have hil : i < l.length := by omega
    have hb := fit_bnd hr _ (List.getElem_mem hil)
    have hw : wrap64 ((i : Int) + 1) = ((i + 1 : Nat) : Int) := by rw [w64 (by omega) (by omega)]; omega
    have hw1 : wrap64 (-l[i].f1) = -l[i].f1 := w64 (by omega) (by omega)
    have hw2 : wrap64 (-l[i].f2) = -l[i].f2 := w64 (by omega) (by omega)
    have hs := map_step negC l hil
    have hlen := map_len negC l (Nat.le_of_lt hil)
    have hrd : ∀ x : S34, rd_T34 (((l.take i).map negC ++ l.drop i).set i x) (i : Int) = x := fun x => by
      rw [rd34_at (by rw [List.length_set, hlen]; exact hil), List.getElem_set_self]
    have e : (⟨⟨l[i].f0.f0, l[i].f0.f1, l[i].f0.f2, l[i].f0.f3, l[i].f0.f4⟩, -l[i].f1, -l[i].f2⟩ : S34) = negC l[i] := rfl
    refine Ev.step (fun k => sheet_negated.l0.eq_2 _ _ _ k) ?_
    simp only [if_pos (show ((i : Int) < (l.length : Int)) by omega), if_pos (show (0 : Int) ≤ (i : Int) by omega), hw, hlen, map_rd negC l hil, Option.bind_some, Int.toNat_natCast, hrd, hw1, hw2, List.set_set, e, hs]
    exact ih (i + 1) (by omega) (by omega)
theorem neg_ev (l : List S34) (hl : l.length ≤ 1000000) (hr : RightL l) : Ev (fun k => sheet_negated.f k l) (l.map negC) := by
  unfold sheet_negated.f slices_Clone.f
  simp only [if_pos hl, Option.bind_some]
  exact neg_l0 l hl hr _ 0 rfl (Nat.zero_le _)
/-- What Add and Sub answer. -/
def addK (a b : List S34) : List S34 × Int := if rightB a = true ∧ rightB b = true then ofK (a ++ b) else ([], 2)
def subK (a b : List S34) : List S34 × Int := if rightB a = true ∧ rightB b = true then ofK (a ++ b.map negC) else ([], 2)
def negK (a : List S34) : List S34 × Int := if rightB a = true then (a.map negC, 0) else ([], 2)
theorem okS_app {a b : List S34} (ha : RightL a) (hb : RightL b) (hl : a.length + b.length ≤ 1000000) : OkS (a ++ b) := by
  refine ⟨by rw [List.length_append]; exact hl, fun x hx => ?_⟩
  rcases List.mem_append.1 hx with h | h
  · have := fit_bnd ha x h; unfold i64ok; omega
  · have := fit_bnd hb x h; unfold i64ok; omega
theorem add_ev (a b : List S34) (hl : a.length + b.length ≤ 1000000) : Ev (fun k => sheet_Add.f k a b) (addK a b) := by
  unfold sheet_Add.f sheet_Right.f addK
  simp only [Option.bind_some]
  have bad : Ev (fun k => sheet_Add.j0 k a b true) (([] : List S34), (2 : Int)) := by
    refine Ev.step (fun k => sheet_Add.j0.eq_2 _ _ _ k) ?_
    simp only [if_true]
    exact Ev.now _
  by_cases ha : rightB a = true
  · simp only [if_pos ha]
    by_cases hb : rightB b = true
    · simp only [hb, Bool.not_true, if_pos (show rightB a = true ∧ True from ⟨ha, trivial⟩)]
      have hc : [a, b].flatten = a ++ b := by simp
      refine Ev.step (fun k => sheet_Add.j0.eq_2 _ _ _ k) ?_
      unfold slices_Concat.f sheet_Of.f
      simp only [Bool.false_eq_true, if_false, hc, if_pos (show ([a, b].length ≤ 1000 ∧ (a ++ b).length ≤ 1000000) from ⟨by simp, by rw [List.length_append]; exact hl⟩), Option.bind_some, if_pos (okS_app ((right_iff a).1 ha) ((right_iff b).1 hb) hl)]
      exact Ev.now _
    · have hb' : rightB b = false := by simpa using hb
      simp only [hb', Bool.not_false, if_neg (show ¬ (rightB a = true ∧ false = true) from fun h => absurd h.2 (by decide))]
      exact bad
  · simp only [if_neg ha, if_neg (show ¬ (rightB a = true ∧ rightB b = true) from fun h => ha h.1)]
    exact bad
theorem sub_ev (a b : List S34) (hl : a.length + b.length ≤ 1000000) : Ev (fun k => sheet_Sub.f k a b) (subK a b) := by
  unfold sheet_Sub.f sheet_Right.f subK
  simp only [Option.bind_some]
  have bad : Ev (fun k => sheet_Sub.j0 k a b true) (([] : List S34), (2 : Int)) := by
    refine Ev.step (fun k => sheet_Sub.j0.eq_2 _ _ _ k) ?_
    simp only [if_true]
    exact Ev.now _
  by_cases ha : rightB a = true
  · simp only [if_pos ha]
    by_cases hb : rightB b = true
    · simp only [hb, Bool.not_true, if_pos (show rightB a = true ∧ True from ⟨ha, trivial⟩)]
      have hc : [a, b.map negC].flatten = a ++ b.map negC := by simp
      have hl' : a.length + (b.map negC).length ≤ 1000000 := by rw [List.length_map]; exact hl
      refine Ev.step (fun k => sheet_Sub.j0.eq_2 _ _ _ k) ?_
      simp only [Bool.false_eq_true, if_false]
      refine Ev.bind (neg_ev b (by omega) ((right_iff b).1 hb)) ?_
      unfold slices_Concat.f sheet_Of.f
      simp only [hc, if_pos (show ([a, b.map negC].length ≤ 1000 ∧ (a ++ b.map negC).length ≤ 1000000) from ⟨by simp, by rw [List.length_append]; exact hl'⟩), Option.bind_some, if_pos (okS_app ((right_iff a).1 ha) (right_neg ((right_iff b).1 hb)) hl')]
      exact Ev.now _
    · have hb' : rightB b = false := by simpa using hb
      simp only [hb', Bool.not_false, if_neg (show ¬ (rightB a = true ∧ false = true) from fun h => absurd h.2 (by decide))]
      exact bad
  · simp only [if_neg ha, if_neg (show ¬ (rightB a = true ∧ rightB b = true) from fun h => ha h.1)]
    exact bad
theorem addK_len (a b : List S34) (hl : a.length + b.length ≤ 1000000) : (addK a b).1.length ≤ 1000000 := by
  unfold addK
  split
  · have := ofK_le (a ++ b)
    rw [List.length_append] at this
    omega
  · exact Nat.zero_le _
theorem subK_len (a b : List S34) (hl : a.length + b.length ≤ 1000000) : (subK a b).1.length ≤ 1000000 := by
  unfold subK
  split
  · have := ofK_le (a ++ b.map negC)
    rw [List.length_append, List.length_map] at this
    omega
  · exact Nat.zero_le _
theorem negK_len (a : List S34) (hl : a.length ≤ 1000000) : (negK a).1.length ≤ 1000000 := by
  unfold negK
  split
  · rw [List.length_map]; exact hl
  · exact Nat.zero_le _
end Go.Proofs.Ytmflggbpiadkjaa.P
