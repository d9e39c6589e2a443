/- The pure statement of the law MatchRuns. -/
import Derived.Test.YtinfcbfdeacllaaDoorSayMatchRuns
import Derived.Test.YtinfcbfdeacllaaDoorSpecJ
namespace Go.Proofs.YtinfcbfdeacllaaDoor.Pure
open Go.RowKit Go.Proofs.YtinfcbfdeacllaaDoor.P Go.Proofs.YtinfcbfdeacllaaDoor.Op Go.Proofs.YtinfcbfdeacllaaDoorW.PrintWords Go.Proofs.YtinfcbfdeacllaaDoorW.PrintLast Go.Proofs.YtinfcbfdeacllaaDoor.Sp
theorem MatchRuns : accountinglaw49_MatchRuns.Pure := by
  intro a0 hfit
  obtain ⟨⟨_, hl⟩, ⟨_, hb⟩, _⟩ := hfit
  refine Ev.rounds ?_
  obtain ⟨b, hbv, hsm⟩ := large_ev a0.f0 a0.f1
  unfold accountinglaw49_MatchRuns.f
  refine hbv.bind ?_
  cases b
  · obtain ⟨h30, h60⟩ := hsm rfl
    simp only [Bool.false_eq_true, if_false, run_some a0.f0 a0.f1 a0.f2 (fun x hx => (hl x hx).2.2.1) (fun x hx => (hb x hx).2.2.2) (by omega) (by omega), Option.bind_some]
    refine (rrun_ev a0.f0 a0.f1 a0.f2).bind ?_
    simp only [if_true]
    refine Ev.bind (a := true) ?_ ?_
    · by_cases h : checkOf a0.f0 a0.f1 a0.f2 = 0
      · simp only [if_pos h]
        have := runOf_len a0.f0 a0.f1 a0.f2
        exact same_ev _ (by omega) (runOf_short _ _ _ (by omega))
      · simp only [if_neg h]
        exact same_ev _ (by simp) (by simp)
    · simp only [if_true]
      exact lives_ev.bind (Ev.now _)
  · simp only [if_true]
    exact lives_ev.bind (Ev.now _)
end Go.Proofs.YtinfcbfdeacllaaDoor.Pure
