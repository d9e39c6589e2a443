/- SheetOf: both sides answer the same sheet. -/
import Derived.Test.YtmflggbpiadkjaaSaySheetOf
import Derived.Test.YtmflggbpiadkjaaSpecK
import Derived.Test.YtmflggbpiadkjaaSpecC
import Derived.Test.YtmflggbpiadkjaaSpecLv
namespace Go.Proofs.Ytmflggbpiadkjaa.Pure
set_option linter.unusedVariables false
set_option linter.unusedSimpArgs false
open Go.RowKit Go.Proofs.Ytmflggbpiadkjaa.P Go.Proofs.Ytmflggbpiadkjaa.Op Go.Proofs.YtmflggbpiadkjaaW.PrintWords Go.Proofs.YtmflggbpiadkjaaW.PrintLast
theorem SheetOf : accountinglaw19_SheetOf.Pure := by
  intro l h
  refine Ev.rounds ?_
  unfold accountinglaw19_SheetOf.f accountinglaw19_large.f sheet_Of.f sheet_Right.f accountingref19_Right.f
  simp only [Option.bind_some, decide_eq_true_eq]
  by_cases hl : (l.length : Int) > 300
  · simp only [if_pos hl]; exact Ev.now _
  · simp only [if_neg hl]
    have hok := okS_fit h (by omega)
    simp only [if_pos hok, Option.bind_some]
    refine Ev.bind (refof_ev l hok) ?_
    refine Ev.bind (same_ev (ofK l).1 (ofK_len hok)) ?_
    simp only [if_true, BEq.rfl, rightB_ofK]
    have hlv : Ev (fun k => (accountinglaw19_lives.f k).bind fun t => some t) true := Ev.bind lives_ev (Ev.now _)
    by_cases h0 : (ofK l).2 = 0
    · simp only [if_pos h0]; exact hlv
    · simp only [if_neg h0]; exact hlv
end Go.Proofs.Ytmflggbpiadkjaa.Pure
