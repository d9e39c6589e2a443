/- SheetAdds: Add, Sub and Neg of both sides answer the same. -/
import Derived.Test.YtmflggbpiadkjaaSaySheetAdds
import Derived.Test.YtmflggbpiadkjaaSpecN
import Derived.Test.YtmflggbpiadkjaaSpecNr
import Derived.Test.YtmflggbpiadkjaaSpecSm
import Derived.Test.YtmflggbpiadkjaaSpecLv
namespace Go.Proofs.Ytmflggbpiadkjaa.Pure
set_option linter.unusedVariables false
set_option linter.unusedSimpArgs false
open Go.RowKit Go.Proofs.Ytmflggbpiadkjaa.P Go.Proofs.Ytmflggbpiadkjaa.Op Go.Proofs.YtmflggbpiadkjaaW.PrintWords Go.Proofs.YtmflggbpiadkjaaW.PrintLast
theorem SheetAdds : accountinglaw19_SheetAdds.Pure := by
  intro a b ha hb
  refine Ev.rounds ?_
  unfold accountinglaw19_SheetAdds.f accountinglaw19_large.f
  simp only [Option.bind_some, decide_eq_true_eq]
  have out : Ev (fun k => accountinglaw19_SheetAdds.j0 k a b true) true := by
    refine Ev.step (fun k => accountinglaw19_SheetAdds.j0.eq_2 _ _ _ k) ?_
    simp only [if_true]
    exact Ev.now _
  by_cases hl : (a.length : Int) > 300
  · simp only [if_pos hl]; exact out
  simp only [if_neg hl]
  by_cases hl2 : (b.length : Int) > 300
  · simp only [decide_eq_true hl2]; exact out
  simp only [decide_eq_false hl2]
  have hlen : a.length + b.length ≤ 1000000 := by omega
  refine Ev.step (fun k => accountinglaw19_SheetAdds.j0.eq_2 _ _ _ k) ?_
  simp only [Bool.false_eq_true, if_false]
  refine Ev.bind (add_ev a b hlen) ?_
  refine Ev.bind (refadd_ev a b hlen) ?_
  refine Ev.bind (same_ev _ (addK_len a b hlen)) ?_
  simp only [if_true]
  refine Ev.bind lives_ev ?_
  simp only [Bool.not_true]
  refine Ev.step (fun k => accountinglaw19_SheetAdds.j1.eq_2 _ _ _ k) ?_
  simp only [Bool.false_eq_true, if_false]
  refine Ev.bind (sub_ev a b hlen) ?_
  refine Ev.bind (refsub_ev a b hlen) ?_
  refine Ev.bind (same_ev _ (subK_len a b hlen)) ?_
  simp only [if_true, bne_self_eq_false]
  refine Ev.step (fun k => accountinglaw19_SheetAdds.j2.eq_2 _ _ k) ?_
  simp only [Bool.false_eq_true, if_false]
  refine Ev.bind (negf_ev a (by omega)) ?_
  refine Ev.bind (refneg_ev a (by omega)) ?_
  refine Ev.bind (same_ev _ (negK_len a (by omega))) ?_
  simp only [if_true, BEq.rfl]
  exact Ev.now _
end Go.Proofs.Ytmflggbpiadkjaa.Pure
