/- IntercoZero: the bases of an elimination add up to 0. -/
import Derived.Test.YtmflggbpiadkjaaSayIntercoZero
import Derived.Test.YtmflggbpiadkjaaSpecEl
import Derived.Test.YtmflggbpiadkjaaSpecLi
import Derived.Test.YtmflggbpiadkjaaSpecZ
namespace Go.Proofs.Ytmflggbpiadkjaa.Pure
set_option linter.unusedVariables false
set_option linter.unusedSimpArgs false
open Go.RowKit Go.Proofs.Ytmflggbpiadkjaa.P Go.Proofs.Ytmflggbpiadkjaa.Op Go.Proofs.YtmflggbpiadkjaaW.PrintWords Go.Proofs.YtmflggbpiadkjaaW.PrintLast
theorem IntercoZero : accountinglaw44_IntercoZero.Pure := by
  intro l cur diff m h hc hd hm
  refine Ev.rounds ?_
  unfold accountinglaw44_IntercoZero.f accountinglaw44_large.f
  by_cases hl : (l.length : Int) > 200
  · simp only [if_pos hl, Option.bind_some, if_true]; exact Ev.now _
  simp only [if_neg hl, Option.bind_some, decide_eq_true_eq]
  by_cases hl2 : (m.length : Int) > 100
  · simp only [if_pos hl2]; exact Ev.now _
  simp only [if_neg hl2]
  have h1 := elimK_len cur diff m l (by omega)
  have hlv : Ev (fun k => (accountinglaw44_lives.f k).bind fun t => some t) true := Ev.bind livesi_ev (Ev.now _)
  refine Ev.bind (elim_ev cur diff m l (by omega) (fitM_of h hm (by omega)) hc) ?_
  have hr := elimK_right cur diff m l
  refine Ev.bind (refbase_ev _ (okS_right hr (by omega))) ?_
  rw [elimK_base cur diff m l]
  by_cases h0 : (elimK cur diff m l).2 = 0
  · simp only [if_pos h0, if_true]; exact hlv
  · simp only [if_neg h0, if_true, elimK_none cur diff m l h0, List.length_nil, Int.natCast_zero]
    exact hlv
end Go.Proofs.Ytmflggbpiadkjaa.Pure
