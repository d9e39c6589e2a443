/- SheetFolds: Fold of both sides answers the same. -/
import Derived.Test.YtmflggbpiadkjaaSaySheetFolds
import Derived.Test.YtmflggbpiadkjaaSpecFd
import Derived.Test.YtmflggbpiadkjaaSpecFr
import Derived.Test.YtmflggbpiadkjaaSpecSm
import Derived.Test.YtmflggbpiadkjaaSpecLv
namespace Go.Proofs.Ytmflggbpiadkjaa.Pure
set_option linter.unusedVariables false
set_option linter.unusedSimpArgs false
open Go.RowKit Go.Proofs.Ytmflggbpiadkjaa.P Go.Proofs.Ytmflggbpiadkjaa.Op Go.Proofs.YtmflggbpiadkjaaW.PrintWords Go.Proofs.YtmflggbpiadkjaaW.PrintLast
theorem SheetFolds : accountinglaw19_SheetFolds.Pure := by
  intro l mask h hm
  refine Ev.rounds ?_
  unfold accountinglaw19_SheetFolds.f accountinglaw19_large.f
  simp only [Option.bind_some, decide_eq_true_eq]
  by_cases hl : (l.length : Int) > 300
  · simp only [if_pos hl]; exact Ev.now _
  · simp only [if_neg hl]
    have hok := okS_fit h (by omega)
    refine Ev.bind (fold_ev l mask hok) ?_
    refine Ev.bind (reffold_ev l mask hok) ?_
    refine Ev.bind (same_ev _ (foldK_len mask hok)) ?_
    simp only [if_true]
    exact Ev.bind lives_ev (Ev.now _)
end Go.Proofs.Ytmflggbpiadkjaa.Pure
