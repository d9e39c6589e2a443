/- The bases' sum of sheet.Base. -/
import Derived.Test.YtmflggbpiadkjaaPx16
import Derived.Test.YtmflggbpiadkjaaSpecU
namespace Go.Proofs.Ytmflggbpiadkjaa.P
open Go.RowKit Go.Sort Go.Proofs.YtmflggbpiadkjaaW.PrintWords Go.Proofs.YtmflggbpiadkjaaW.PrintLast Go.Proofs.Ytmflggbpiadkjaa.Op
set_option linter.unusedVariables false
set_option linter.unusedSimpArgs false
theorem far_pure (n : Int) : sheet_far.f n = some (!fitB n) := by
  unfold sheet_far.f fitB
  by_cases h : n > 1000000000000000
  · rw [if_pos h, decide_eq_false (show ¬ n ≤ 1000000000000000 by omega), Bool.and_false]; rfl
  · rw [if_neg h, decide_eq_true (show n ≤ 1000000000000000 by omega), Bool.and_true]
    congr 1
    rw [← decide_not]
    exact decide_eq_decide.2 (by omega)
/-- What Base answers. -/
def baseK (l : List S34) : Int × Int := if fitB (bass l).sum = true then ((bass l).sum, 0) else (0, 4)
theorem total_pure (l : List Int) (hl : l.length ≤ 1000000) (hok : ∀ x ∈ l, i64ok x) : sheet_total.f l = some (totF l) := by
  unfold sheet_total.f num_Sum.f totF
  rw [if_pos hl, if_pos hok]
  by_cases h : i64ok l.sum
  · simp only [if_pos h, Option.bind_some, if_true, far_pure, Bool.not_not]
  · simp only [if_neg h, Option.bind_some, if_false, Bool.false_eq_true]
theorem base_l0 (l : List S34) (hl : l.length ≤ 1000000) (hok : ∀ x ∈ l, i64ok x.f1 ∧ i64ok x.f2) : ∀ (n i : Nat), l.length - i = n → i ≤ l.length → Ev (fun k => sheet_Base.l0 k (zsI (bass l) i) l (l.length : Int) (i : Int)) (baseK l) := by
  have hb : (bass l).length = l.length := List.length_map _
  intro n
  induction n with
  | zero =>
    intro i hn hi
    refine Ev.step (fun k => sheet_Base.l0.eq_2 _ _ _ _ k) ?_
    have hi2 : i = (bass l).length := by omega
    have hz := zsI_all (bass l)
    rw [← hi2] at hz
    simp only [if_neg (show ¬ ((i : Int) < (l.length : Int)) by omega), hz]
    simp only [total_pure (bass l) (by omega) (fun x hx => by
      obtain ⟨c, hc, rfl⟩ := List.mem_map.1 hx
      exact (hok c hc).2), Option.bind_some, tot_2]
    unfold baseK
    by_cases h : fitB (bass l).sum = true
    · simp only [if_pos h, tot_1 h]; exact Ev.now _
    · simp only [if_neg h]; exact Ev.now _
  | succ n ih =>
    intro i hn hi
    have hil : i < l.length := by omega
    have hw : wrap64 ((i : Int) + 1) = ((i + 1 : Nat) : Int) := by rw [w64 (by omega) (by omega)]; omega
    have hs := zsI_set (bass l) (i := i) (by omega)
    have hg : (bass l)[i]'(by omega) = (l[i]).f2 := by unfold bass; rw [List.getElem_map]
    rw [hg] at hs
    refine Ev.step (fun k => sheet_Base.l0.eq_2 _ _ _ _ k) ?_
    simp only [if_pos (show ((i : Int) < (l.length : Int)) by omega), if_pos (show (0 : Int) ≤ (i : Int) by omega), hw, rd34_at hil, zsI_len (bass l) (show i ≤ (bass l).length by omega), hb, Int.toNat_natCast, hs]
    exact ih (i + 1) (by omega) (by omega)
theorem base_ev (l : List S34) (h : OkS l) : Ev (fun k => sheet_Base.f k l) (baseK l) := by
  unfold sheet_Base.f
  have hl := h.1
  simp only [if_pos (show 0 ≤ (l.length : Int) by omega), Int.toNat_natCast, if_pos (show l.length ≤ 35184372088832 by omega)]
  have e : List.replicate l.length (0 : Int) = zsI (bass l) 0 := by unfold zsI bass; simp
  rw [e]
  exact base_l0 l hl h.2 _ 0 rfl (Nat.zero_le _)
end Go.Proofs.Ytmflggbpiadkjaa.P
