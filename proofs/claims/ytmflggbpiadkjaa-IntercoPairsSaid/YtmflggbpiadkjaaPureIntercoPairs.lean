/- IntercoPairs: Pairs of both sides answers the same. -/
import Derived.Test.YtmflggbpiadkjaaSayIntercoPairs
import Derived.Test.YtmflggbpiadkjaaSpecQr
import Derived.Test.YtmflggbpiadkjaaSpecLi
namespace Go.Proofs.Ytmflggbpiadkjaa.Pure
set_option linter.unusedVariables false
set_option linter.unusedSimpArgs false
open Go.RowKit Go.Proofs.Ytmflggbpiadkjaa.P Go.Proofs.Ytmflggbpiadkjaa.Op Go.Proofs.YtmflggbpiadkjaaW.PrintWords Go.Proofs.YtmflggbpiadkjaaW.PrintLast
theorem IntercoPairs : accountinglaw44_IntercoPairs.Pure := by
  intro l m h hm
  refine Ev.rounds ?_
  unfold accountinglaw44_IntercoPairs.f accountinglaw44_large.f
  by_cases hl : (l.length : Int) > 200
  · simp only [if_pos hl, Option.bind_some, if_true]; exact Ev.now _
  simp only [if_neg hl, Option.bind_some, decide_eq_true_eq]
  by_cases hl2 : (m.length : Int) > 100
  · simp only [if_pos hl2]; exact Ev.now _
  simp only [if_neg hl2]
  have h1 := pairsK_len m l
  refine Ev.bind (pairs_ev m l (by omega) (fitM_of h hm (by omega))) ?_
  refine Ev.bind (refpairs_ev m l (by omega) (by omega)) ?_
  refine Ev.bind (same89_ev _ (by omega)) ?_
  simp only [if_true]
  exact Ev.bind livesi_ev (Ev.now _)
end Go.Proofs.Ytmflggbpiadkjaa.Pure
