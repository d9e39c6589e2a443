/- The pure statement of the law MatchIsRight. -/
import Derived.Test.YtinfcbfdeacllaaDoorSayMatchIsRight
import Derived.Test.YtinfcbfdeacllaaDoorSpecG
namespace Go.Proofs.YtinfcbfdeacllaaDoor.Pure
open Go.RowKit Go.Proofs.YtinfcbfdeacllaaDoor.P Go.Proofs.YtinfcbfdeacllaaDoor.Op Go.Proofs.YtinfcbfdeacllaaDoorW.PrintWords Go.Proofs.YtinfcbfdeacllaaDoorW.PrintLast Go.Proofs.YtinfcbfdeacllaaDoor.Sp
theorem MatchIsRight : accountinglaw49_MatchIsRight.Pure := by
  intro a0 hfit
  obtain ⟨⟨_, hl⟩, ⟨_, hb⟩, _⟩ := hfit
  refine Ev.rounds ?_
  obtain ⟨b, hbv, hsm⟩ := large_ev a0.f0 a0.f1
  unfold accountinglaw49_MatchIsRight.f
  refine hbv.bind ?_
  cases b
  · obtain ⟨h30, h60⟩ := hsm rfl
    have hok : ∀ x ∈ a0.f1, i64ok x.f2 := fun x hx => wf_range (hb x hx).2.2.1
    simp only [Bool.false_eq_true, if_false, run_some a0.f0 a0.f1 a0.f2 (fun x hx => (hl x hx).2.2.1) (fun x hx => (hb x hx).2.2.2) (by omega) (by omega), Option.bind_some]
    by_cases hc : checkOf a0.f0 a0.f1 a0.f2 = 0
    · simp only [if_pos hc]
      have hlen := runOf_len a0.f0 a0.f1 a0.f2
      have hr := right_some a0.f0 a0.f1 (runOf a0.f0 a0.f1 a0.f2) (runOf_short _ _ _ (by omega)) hok (by omega) (by omega)
      rw [run_right ((fine_iff _ _ _).1 hc)] at hr
      simp only [hr, Option.bind_some, if_true]
      exact lives_ev.bind (Ev.now _)
    · simp only [if_neg hc]
      have hr := right_some a0.f0 a0.f1 [] (fun x hx => by cases hx) hok (by simp) (by omega)
      have h0 : (([] : List S54).length : Int) = 0 := rfl
      simp only [h0, if_true, hr, Option.bind_some]
      show Ev (fun k => if rightFrom a0.f0 a0.f1 [] 0 0 _ = true then _ else _) true
      simp only [rightFrom, if_true]
      exact lives_ev.bind (Ev.now _)
  · simp only [if_true]
    exact lives_ev.bind (Ev.now _)
end Go.Proofs.YtinfcbfdeacllaaDoor.Pure
