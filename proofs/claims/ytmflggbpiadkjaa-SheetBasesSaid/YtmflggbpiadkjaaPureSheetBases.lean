/- SheetBases: both sides answer the bases' sum, or the error. -/
import Derived.Test.YtmflggbpiadkjaaSaySheetBases
import Derived.Test.YtmflggbpiadkjaaSpecS
import Derived.Test.YtmflggbpiadkjaaSpecLv
namespace Go.Proofs.Ytmflggbpiadkjaa.Pure
set_option linter.unusedVariables false
set_option linter.unusedSimpArgs false
open Go.RowKit Go.Proofs.Ytmflggbpiadkjaa.P Go.Proofs.Ytmflggbpiadkjaa.Op Go.Proofs.YtmflggbpiadkjaaW.PrintWords Go.Proofs.YtmflggbpiadkjaaW.PrintLast
theorem SheetBases : accountinglaw19_SheetBases.Pure := by
  intro l h
  refine Ev.rounds ?_
  unfold accountinglaw19_SheetBases.f accountinglaw19_large.f
  simp only [Option.bind_some, decide_eq_true_eq]
  by_cases hl : (l.length : Int) > 300
  · simp only [if_pos hl]; exact Ev.now _
  · simp only [if_neg hl]
    have hok := okS_fit h (by omega)
    refine Ev.bind (base_ev l hok) ?_
    refine Ev.bind (refbase_ev l hok) ?_
    simp only [if_true]
    exact Ev.bind lives_ev (Ev.now _)
end Go.Proofs.Ytmflggbpiadkjaa.Pure
