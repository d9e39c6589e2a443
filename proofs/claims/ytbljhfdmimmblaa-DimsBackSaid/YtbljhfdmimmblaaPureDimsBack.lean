/- The pure law of DimsBack. -/
import Derived.Test.YtbljhfdmimmblaaSpecL
import Derived.Test.YtbljhfdmimmblaaSpecX
import Derived.Test.YtbljhfdmimmblaaSayDimsBack
namespace Go.Proofs.Ytbljhfdmimmblaa.Pure
open Go.RowKit Go.Proofs.Ytbljhfdmimmblaa.P Go.Proofs.Ytbljhfdmimmblaa.Sp Go.Proofs.YtbljhfdmimmblaaW.PrintWords Go.Proofs.YtbljhfdmimmblaaW.PrintLast
theorem back_j1 (a1 : ByteArray) (hs : a1.size ≤ 1000) : Ev (fun k => accountinglaw09_DimsBack.j1 k a1) true := by
  refine Ev.step (fun k => accountinglaw09_DimsBack.j1.eq_2 _ k) ?_
  refine Ev.bind (Parse_ev a1 hs) ?_
  by_cases h : (parseB a1).2 = 0
  · simp only [if_pos h]
    have e := text_parse a1 (parseB a1).1 (Prod.ext rfl h)
    refine Ev.bind (Text_ev _) ?_
    rw [e]
    simp only [if_true]
    exact lives_tail
  · simp only [if_neg h]
    exact lives_tail
theorem back_ev (l0 : List S39) (a1 : ByteArray) : Ev (fun k => accountinglaw09_DimsBack.f k l0 a1) true := by
  unfold accountinglaw09_DimsBack.f
  have j1 : Ev (fun k => accountinglaw09_DimsBack.j0 k l0 a1 true) true := by
    refine Ev.step (fun k => accountinglaw09_DimsBack.j0.eq_2 _ _ _ k) ?_
    simp only [if_true]
    exact lives_tail
  refine Ev.bind (light_ev l0) ?_
  cases h0 : lightB l0
  · simpa using j1
  simp only [if_true]
  by_cases h1 : (a1.size : Int) > 400
  · simp only [decide_eq_true h1]; exact j1
  simp only [decide_eq_false h1]
  refine Ev.step (fun k => accountinglaw09_DimsBack.j0.eq_2 _ _ _ k) ?_
  simp only [Bool.false_eq_true, if_false]
  refine Ev.bind (Text_ev l0) ?_
  refine Ev.bind (Right_ev l0) ?_
  cases hr : rightB l0
  · have e : (textL l0) = (⟨#[]⟩, 14) := by unfold textL; simp [hr]
    simp only [e]
    exact back_j1 a1 (by omega)
  · have e : (textL l0).2 = 0 := by unfold textL; simp [hr]
    have hp := parse_text l0 hr
    have hsz : (textL l0).1.size ≤ 1000 := text_size l0
    simp only [e]
    refine Ev.bind (Parse_ev _ hsz) ?_
    simp only [hp, if_true]
    refine Ev.bind (same_ev l0 (by have := (right_named hr).1; omega)) ?_
    simp only [if_true]
    exact back_j1 a1 (by omega)
theorem DimsBack : accountinglaw09_DimsBack.Pure := fun l0 a1 _ _ => (back_ev l0 a1).rounds
end Go.Proofs.Ytbljhfdmimmblaa.Pure
