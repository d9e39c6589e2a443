/- The pure law of DimsText. -/
import Derived.Test.YtbljhfdmimmblaaSpecL
import Derived.Test.YtbljhfdmimmblaaSpecX
import Derived.Test.YtbljhfdmimmblaaSayDimsText
namespace Go.Proofs.Ytbljhfdmimmblaa.Pure
open Go.RowKit Go.Proofs.Ytbljhfdmimmblaa.P Go.Proofs.Ytbljhfdmimmblaa.Sp Go.Proofs.YtbljhfdmimmblaaW.PrintWords Go.Proofs.YtbljhfdmimmblaaW.PrintLast
theorem light_short {l : List S39} (h : lightB l = true) : l.length ≤ 20 ∧ shortL l := by
  simp only [lightB, Bool.and_eq_true, decide_eq_true_eq] at h
  refine ⟨h.1, ?_⟩
  intro i hi
  rw [rd39 hi]
  have := List.all_eq_true.mp h.2 _ (List.getElem_mem hi)
  simp only [small, Bool.and_eq_true, decide_eq_true_eq] at this
  omega
theorem text_ev (l0 : List S39) (a1 : ByteArray) : Ev (fun k => accountinglaw09_DimsText.f k l0 a1) true := by
  unfold accountinglaw09_DimsText.f
  have j1 : Ev (fun k => accountinglaw09_DimsText.j0 k l0 a1 true) true := by
    refine Ev.step (fun k => accountinglaw09_DimsText.j0.eq_2 _ _ _ k) ?_
    simp only [if_true]
    exact lives_tail
  refine Ev.bind (light_ev l0) ?_
  cases h0 : lightB l0
  · simpa using j1
  have hl := light_short h0
  simp only [if_true]
  by_cases h1 : (a1.size : Int) > 400
  · simp only [decide_eq_true h1]; exact j1
  simp only [decide_eq_false h1]
  refine Ev.step (fun k => accountinglaw09_DimsText.j0.eq_2 _ _ _ k) ?_
  simp only [Bool.false_eq_true, if_false]
  refine Ev.bind (Text_ev l0) ?_
  refine Ev.bind (refText_ev l0 (by omega) hl.2) ?_
  refine Ev.bind (Parse_ev a1 (by omega)) ?_
  refine Ev.bind (refParse_ev a1 (by omega)) ?_
  simp only [if_true]
  refine Ev.bind (same_ev _ (parseB_len a1)) ?_
  simp only [if_true]
  exact lives_tail
theorem DimsText : accountinglaw09_DimsText.Pure := fun l0 a1 _ _ => (text_ev l0 a1).rounds
end Go.Proofs.Ytbljhfdmimmblaa.Pure
