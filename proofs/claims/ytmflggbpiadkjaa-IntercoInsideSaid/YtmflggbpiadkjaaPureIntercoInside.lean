/- IntercoInside: Inside of both sides divides the cells in the same way. -/
import Derived.Test.YtmflggbpiadkjaaSayIntercoInside
import Derived.Test.YtmflggbpiadkjaaSpecIr
import Derived.Test.YtmflggbpiadkjaaSpecSm
import Derived.Test.YtmflggbpiadkjaaSpecLi
namespace Go.Proofs.Ytmflggbpiadkjaa.Pure
set_option linter.unusedVariables false
set_option linter.unusedSimpArgs false
open Go.RowKit Go.Proofs.Ytmflggbpiadkjaa.P Go.Proofs.Ytmflggbpiadkjaa.Op Go.Proofs.YtmflggbpiadkjaaW.PrintWords Go.Proofs.YtmflggbpiadkjaaW.PrintLast
theorem IntercoInside : accountinglaw44_IntercoInside.Pure := by
  intro l m h hm
  refine Ev.rounds ?_
  unfold accountinglaw44_IntercoInside.f accountinglaw44_large.f
  by_cases hl : (l.length : Int) > 200
  · simp only [if_pos hl, Option.bind_some, if_true]; exact Ev.now _
  simp only [if_neg hl, Option.bind_some, decide_eq_true_eq]
  by_cases hl2 : (m.length : Int) > 100
  · simp only [if_pos hl2]; exact Ev.now _
  simp only [if_neg hl2]
  have h1 := in_le m l
  have h2 := out_le m l
  refine Ev.bind (inside_ev m l (by omega) (fitM_of h hm (by omega))) ?_
  refine Ev.bind (refinside_ev m l (by omega) (by omega)) ?_
  refine Ev.bind (same_ev (inK m l) (by omega)) ?_
  simp only [if_true]
  refine Ev.bind (same_ev (outK m l) (by omega)) ?_
  have h3 := in_out m l
  have hw : wrap64 (((inK m l).length : Int) + ((outK m l).length : Int)) = (l.length : Int) := by rw [w64 (by omega) (by omega)]; omega
  simp only [if_true, hw]
  exact Ev.bind livesi_ev (Ev.now _)
end Go.Proofs.Ytmflggbpiadkjaa.Pure
