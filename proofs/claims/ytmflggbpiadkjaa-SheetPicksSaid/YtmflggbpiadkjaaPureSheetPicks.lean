/- SheetPicks: Get and Pick of both sides answer the same. -/
import Derived.Test.YtmflggbpiadkjaaSaySheetPicks
import Derived.Test.YtmflggbpiadkjaaSpecP
import Derived.Test.YtmflggbpiadkjaaSpecSm
import Derived.Test.YtmflggbpiadkjaaSpecLv
namespace Go.Proofs.Ytmflggbpiadkjaa.Pure
set_option linter.unusedVariables false
set_option linter.unusedSimpArgs false
open Go.RowKit Go.Proofs.Ytmflggbpiadkjaa.P Go.Proofs.Ytmflggbpiadkjaa.Op Go.Proofs.YtmflggbpiadkjaaW.PrintWords Go.Proofs.YtmflggbpiadkjaaW.PrintLast
theorem SheetPicks : accountinglaw19_SheetPicks.Pure := by
  intro l key h hkey
  refine Ev.rounds ?_
  unfold accountinglaw19_SheetPicks.f accountinglaw19_large.f
  simp only [Option.bind_some, decide_eq_true_eq]
  by_cases hl : (l.length : Int) > 300
  · simp only [if_pos hl]; exact Ev.now _
  · simp only [if_neg hl]
    have hl' : l.length ≤ 1000000 := by omega
    refine Ev.bind (get_ev l key hl') ?_
    refine Ev.bind (refget_ev l key hl') ?_
    simp only [if_true]
    refine Ev.bind (pick_ev l key hl') ?_
    refine Ev.bind (refpick_ev l key hl') ?_
    have hp := pickK_le key l
    refine Ev.bind (same_ev (pickK key l) (by omega)) ?_
    simp only [if_true]
    have hz := pick_ev l z32 hl'
    have e : pickK z32 l = l := List.filter_eq_self.2 (fun c _ => match_none c.f0)
    rw [e] at hz
    refine Ev.bind hz ?_
    refine Ev.bind (same_ev l hl') ?_
    simp only [if_true]
    exact Ev.bind lives_ev (Ev.now _)
end Go.Proofs.Ytmflggbpiadkjaa.Pure
