/- The pure statement of the law MatchChecks. -/
import Derived.Test.YtinfcbfdeacllaaDoorSayMatchChecks
import Derived.Test.YtinfcbfdeacllaaDoorSpecM
namespace Go.Proofs.YtinfcbfdeacllaaDoor.Pure
open Go.RowKit Go.Proofs.YtinfcbfdeacllaaDoor.P Go.Proofs.YtinfcbfdeacllaaDoor.Op Go.Proofs.YtinfcbfdeacllaaDoorW.PrintWords Go.Proofs.YtinfcbfdeacllaaDoorW.PrintLast Go.Proofs.YtinfcbfdeacllaaDoor.Sp
theorem MatchChecks : accountinglaw49_MatchChecks.Pure := by
  intro a0 hfit
  obtain ⟨⟨_, hl⟩, ⟨_, hb⟩, ⟨hm0, hm⟩⟩ := hfit
  refine Ev.rounds ?_
  obtain ⟨b, hbv, hsm⟩ := large_ev a0.f0 a0.f1
  have hlive : Ev (fun k => accountinglaw49_MatchChecks.j0 k true a0.f0 a0.f1 a0.f2) true := by
    refine Ev.step (fun k => accountinglaw49_MatchChecks.j0.eq_2 _ _ _ _ k) ?_
    simp only [if_true]
    exact lives_ev.bind (Ev.now _)
  unfold accountinglaw49_MatchChecks.f
  refine hbv.bind ?_
  cases b
  · obtain ⟨h30, h60⟩ := hsm rfl
    have hok : ∀ x ∈ a0.f1, i64ok x.f2 := fun x hx => wf_range (hb x hx).2.2.1
    have h2 : ∀ x ∈ a0.f2, x.f1.length ≤ 9223372036854775807 := fun x hx => by
      have := (hm x hx).2.1
      unfold maxLen at this
      omega
    simp only [Bool.false_eq_true, if_false]
    obtain ⟨b2, hlo, hsm2⟩ := long_ev a0.f2 (by unfold maxLen at hm0; omega)
    refine hlo.bind ?_
    cases b2
    · have h40 := hsm2 rfl
      refine Ev.step (fun k => accountinglaw49_MatchChecks.j0.eq_2 _ _ _ _ k) ?_
      simp only [Bool.false_eq_true, if_false]
      refine (restS_ev a0.f2 (by omega) h2 a0.f0 a0.f1 (by omega) (by omega)).bind ?_
      refine (rrest_ev a0.f0 a0.f1 a0.f2 (by omega) (by omega) (by omega) h2).bind ?_
      have l1 : (Sp.leftOf a0.f0.length (a0.f2.map (·.f0))).length ≤ 1000000 := Nat.le_trans (Sp.leftOf_len _ _) (by omega)
      have l2 : (Sp.leftOf a0.f1.length (a0.f2.flatMap (·.f1))).length ≤ 1000000 := Nat.le_trans (Sp.leftOf_len _ _) (by omega)
      refine (ints_ev _ l1).bind ?_
      simp only [if_true]
      refine (ints_ev _ l2).bind ?_
      simp only [if_true, right_some2 a0.f0 a0.f1 a0.f2 h2 hok (by omega) (by omega), Option.bind_some]
      refine (right_ev a0.f0 a0.f1 a0.f2 (by omega) hok (by omega) h2).bind ?_
      simp only [beq_self_eq_true, if_true]
      exact lives_ev.bind (Ev.now _)
    · exact hlive
  · simp only [if_true]
    exact hlive
end Go.Proofs.YtinfcbfdeacllaaDoor.Pure
