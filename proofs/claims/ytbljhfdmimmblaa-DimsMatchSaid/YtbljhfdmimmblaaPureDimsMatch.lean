/- The pure law of DimsMatch. -/
import Derived.Test.YtbljhfdmimmblaaSpecL
import Derived.Test.YtbljhfdmimmblaaSayDimsMatch
namespace Go.Proofs.Ytbljhfdmimmblaa.Pure
open Go.RowKit Go.Proofs.Ytbljhfdmimmblaa.P Go.Proofs.Ytbljhfdmimmblaa.Sp Go.Proofs.YtbljhfdmimmblaaW.PrintWords Go.Proofs.YtbljhfdmimmblaaW.PrintLast
theorem match_ev (l0 l1 : List S39) : Ev (fun k => accountinglaw09_DimsMatch.f k l0 l1) true := by
  unfold accountinglaw09_DimsMatch.f
  have j1 : Ev (fun k => accountinglaw09_DimsMatch.j0 k l0 l1 true) true := by
    refine Ev.step (fun k => accountinglaw09_DimsMatch.j0.eq_2 _ _ _ k) ?_
    simp only [if_true]
    exact lives_tail
  refine Ev.bind (light_ev l0) ?_
  cases h0 : lightB l0
  · simpa using j1
  simp only [if_true]
  refine Ev.bind (light_ev l1) ?_
  cases h1 : lightB l1
  · simpa using j1
  simp only [lightB, Bool.and_eq_true, decide_eq_true_eq] at h0 h1
  simp only [Bool.not_true]
  refine Ev.step (fun k => accountinglaw09_DimsMatch.j0.eq_2 _ _ _ k) ?_
  simp only [Bool.false_eq_true, if_false]
  refine Ev.bind (Match_ev l0 l1 (by omega) (by omega)) ?_
  refine Ev.bind (refMatch_ev l0 l1 (by omega) (by omega)) ?_
  simp only [beq_self_eq_true, if_true]
  exact lives_tail
theorem DimsMatch : accountinglaw09_DimsMatch.Pure := fun l0 l1 _ _ => (match_ev l0 l1).rounds
end Go.Proofs.Ytbljhfdmimmblaa.Pure
