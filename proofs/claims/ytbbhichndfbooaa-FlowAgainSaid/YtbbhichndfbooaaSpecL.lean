/- The printed loops come to an end: right, light. -/
import Derived.Test.YtbbhichndfbooaaSpecF
import Derived.Test.YtbbhichndfbooaaPx2
import Derived.Test.YtbbhichndfbooaaPx3
namespace Go.Proofs.Ytbbhichndfbooaa.P
open Go.RowKit Go.Proofs.YtbbhichndfbooaaW.PrintWords Go.Proofs.YtbbhichndfbooaaW.PrintLast
set_option linter.unusedVariables false
set_option linter.unusedSimpArgs false
theorem w64r {x : Int} (h0 : 0 ≤ x) (h1 : x ≤ 9223372036854775807) : wrap64 x = x := by unfold wrap64; omega
theorem right_some (steps : List S60) (hl : steps.length ≤ 9223372036854775807) : ∃ b k, flow_right.f k steps = some b := by
  have key : ∀ (n i : Nat), steps.length - i = n → i ≤ steps.length → ∃ b, Ev (fun k => flow_right.l0 k steps steps (steps.length : Int) (i : Int)) b := by
    intro n
    induction n with
    | zero =>
      intro i hn hi
      refine ⟨true, Ev.step (fun k => flow_right.l0.eq_2 _ _ _ _ k) ?_⟩
      simp only [if_neg (show ¬ ((i : Int) < (steps.length : Int)) by omega)]
      exact Ev.now _
    | succ n ih =>
      intro i hn hi
      have hw : wrap64 ((i : Int) + 1) = ((i + 1 : Nat) : Int) := by rw [w64r (by omega) (by omega)]; omega
      have hw1 : 0 < i → wrap64 ((i : Int) - 1) = (i : Int) - 1 := fun _ => w64r (by omega) (by omega)
      obtain ⟨b, hb⟩ := ih (i + 1) (by omega) (by omega)
      have g1 : (i : Int) < (steps.length : Int) := by omega
      have g2 : (0 : Int) ≤ (i : Int) := by omega
      by_cases h1 : (rd_T60 steps (i : Int)).f0 < 0
      · refine ⟨false, Ev.step (fun k => flow_right.l0.eq_2 _ _ _ _ k) ?_⟩
        simp only [if_pos g1, if_pos g2, if_pos h1]
        exact Ev.now _
      by_cases h0 : i = 0
      · have g3 : ¬ (i : Int) > 0 := by omega
        by_cases h2 : (rd_T60 steps (i : Int)).f1 < 0
        · refine ⟨false, Ev.step (fun k => flow_right.l0.eq_2 _ _ _ _ k) ?_⟩
          simp only [if_pos g1, if_pos g2, if_neg h1, if_neg g3, if_pos h2]
          exact Ev.now _
        by_cases h3 : (rd_T60 steps (i : Int)).f1 > 5
        · refine ⟨false, Ev.step (fun k => flow_right.l0.eq_2 _ _ _ _ k) ?_⟩
          simp only [if_pos g1, if_pos g2, if_neg h1, if_neg g3, if_neg h2, if_pos h3]
          exact Ev.now _
        · refine ⟨b, Ev.step (fun k => flow_right.l0.eq_2 _ _ _ _ k) ?_⟩
          simp only [if_pos g1, if_pos g2, if_neg h1, if_neg g3, if_neg h2, if_neg h3, hw]
          exact hb
      · have g3 : (i : Int) > 0 := by omega
        have g4 : (0 : Int) ≤ (i : Int) - 1 := by omega
        have g5 : (i : Int) - 1 < (steps.length : Int) := by omega
        have e1 := hw1 (by omega)
        by_cases h4 : (rd_T60 steps ((i : Int) - 1)).f0 ≥ (rd_T60 steps (i : Int)).f0
        · refine ⟨false, Ev.step (fun k => flow_right.l0.eq_2 _ _ _ _ k) ?_⟩
          simp only [if_pos g1, if_pos g2, if_neg h1, if_pos g3, e1, if_pos g4, if_pos g5, if_pos h4]
          exact Ev.now _
        by_cases h2 : (rd_T60 steps (i : Int)).f1 < 0
        · refine ⟨false, Ev.step (fun k => flow_right.l0.eq_2 _ _ _ _ k) ?_⟩
          simp only [if_pos g1, if_pos g2, if_neg h1, if_pos g3, e1, if_pos g4, if_pos g5, if_neg h4, if_pos h2]
          exact Ev.now _
        by_cases h3 : (rd_T60 steps (i : Int)).f1 > 5
        · refine ⟨false, Ev.step (fun k => flow_right.l0.eq_2 _ _ _ _ k) ?_⟩
          simp only [if_pos g1, if_pos g2, if_neg h1, if_pos g3, e1, if_pos g4, if_pos g5, if_neg h4, if_neg h2, if_pos h3]
          exact Ev.now _
        · refine ⟨b, Ev.step (fun k => flow_right.l0.eq_2 _ _ _ _ k) ?_⟩
          simp only [if_pos g1, if_pos g2, if_neg h1, if_pos g3, e1, if_pos g4, if_pos g5, if_neg h4, if_neg h2, if_neg h3, hw]
          exact hb
  obtain ⟨b, hb⟩ := key _ 0 rfl (Nat.zero_le _)
  exact ⟨b, hb.rounds⟩
theorem light_some (steps : List S60) (apprs : List ByteArray) (ops : List S46) : ∃ b k, accountinglaw15_light.f k steps apprs ops = some b ∧ (b = true → steps.length ≤ 250 ∧ apprs.length ≤ 250 ∧ ops.length ≤ 40) := by
  have bad : Ev (fun k => accountinglaw15_light.j0 k ops true steps apprs) false := by
    refine Ev.step (fun k => accountinglaw15_light.j0.eq_2 _ _ _ _ k) ?_
    simp only [if_true]
    exact Ev.now _
  unfold accountinglaw15_light.f
  by_cases h1 : (steps.length : Int) > 250
  · obtain ⟨k, hk⟩ := bad.rounds
    exact ⟨false, k, by rw [if_pos h1]; exact hk, fun h => by cases h⟩
  by_cases h2 : (apprs.length : Int) > 250
  · obtain ⟨k, hk⟩ := bad.rounds
    exact ⟨false, k, by rw [if_neg h1, if_pos h2]; exact hk, fun h => by cases h⟩
  by_cases h3 : (ops.length : Int) > 40
  · obtain ⟨k, hk⟩ := bad.rounds
    exact ⟨false, k, by rw [if_neg h1, if_neg h2, decide_eq_true h3]; exact hk, fun h => by cases h⟩
  have key1 : ∀ (n i : Nat), ops.length - i = n → i ≤ ops.length → ∃ b, Ev (fun k => accountinglaw15_light.l1 k ops (i : Int)) b := by
    intro n
    induction n with
    | zero =>
      intro i hn hi
      refine ⟨true, Ev.step (fun k => accountinglaw15_light.l1.eq_2 _ _ k) ?_⟩
      simp only [if_neg (show ¬ ((i : Int) < (ops.length : Int)) by omega)]
      exact Ev.now _
    | succ n ih =>
      intro i hn hi
      have hw : wrap64 ((i : Int) + 1) = ((i + 1 : Nat) : Int) := by rw [w64r (by omega) (by omega)]; omega
      obtain ⟨b, hb⟩ := ih (i + 1) (by omega) (by omega)
      by_cases h : (((rd_T46 ops (i : Int)).f2).size : Int) > 100
      · refine ⟨false, Ev.step (fun k => accountinglaw15_light.l1.eq_2 _ _ k) ?_⟩
        simp only [if_pos (show ((i : Int) < (ops.length : Int)) by omega), if_pos (show (0 : Int) ≤ (i : Int) by omega), if_pos h]
        exact Ev.now _
      · refine ⟨b, Ev.step (fun k => accountinglaw15_light.l1.eq_2 _ _ k) ?_⟩
        simp only [if_pos (show ((i : Int) < (ops.length : Int)) by omega), if_pos (show (0 : Int) ≤ (i : Int) by omega), if_neg h, hw]
        exact hb
  obtain ⟨b1, hb1⟩ := key1 _ 0 rfl (Nat.zero_le _)
  have key0 : ∀ (n i : Nat), apprs.length - i = n → i ≤ apprs.length → ∃ b, Ev (fun k => accountinglaw15_light.l0 k ops (i : Int) steps apprs) b := by
    intro n
    induction n with
    | zero =>
      intro i hn hi
      refine ⟨b1, Ev.step (fun k => accountinglaw15_light.l0.eq_2 _ _ _ _ k) ?_⟩
      simp only [if_neg (show ¬ ((i : Int) < (apprs.length : Int)) by omega)]
      exact hb1
    | succ n ih =>
      intro i hn hi
      have hw : wrap64 ((i : Int) + 1) = ((i + 1 : Nat) : Int) := by rw [w64r (by omega) (by omega)]; omega
      obtain ⟨b, hb⟩ := ih (i + 1) (by omega) (by omega)
      by_cases h : ((rdOf ByteArray.empty apprs (i : Int)).size : Int) > 100
      · refine ⟨false, Ev.step (fun k => accountinglaw15_light.l0.eq_2 _ _ _ _ k) ?_⟩
        simp only [if_pos (show ((i : Int) < (apprs.length : Int)) by omega), if_pos (show (0 : Int) ≤ (i : Int) by omega), if_pos h]
        exact Ev.now _
      · refine ⟨b, Ev.step (fun k => accountinglaw15_light.l0.eq_2 _ _ _ _ k) ?_⟩
        simp only [if_pos (show ((i : Int) < (apprs.length : Int)) by omega), if_pos (show (0 : Int) ≤ (i : Int) by omega), if_neg h, hw]
        exact hb
  obtain ⟨b, hb⟩ := key0 _ 0 rfl (Nat.zero_le _)
  have hj : Ev (fun k => accountinglaw15_light.j0 k ops false steps apprs) b := by
    refine Ev.step (fun k => accountinglaw15_light.j0.eq_2 _ _ _ _ k) ?_
    simp only [Bool.false_eq_true, if_false]
    exact hb
  obtain ⟨k, hk⟩ := hj.rounds
  exact ⟨b, k, by rw [if_neg h1, if_neg h2, decide_eq_false h3]; exact hk, fun _ => by omega⟩
end Go.Proofs.Ytbbhichndfbooaa.P
