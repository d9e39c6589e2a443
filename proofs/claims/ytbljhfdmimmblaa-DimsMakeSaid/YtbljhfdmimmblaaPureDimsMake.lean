/- The pure law of DimsMake. -/
import Derived.Test.YtbljhfdmimmblaaSpecW
import Derived.Test.YtbljhfdmimmblaaSayDimsMake
namespace Go.Proofs.Ytbljhfdmimmblaa.Pure
open Go.RowKit Go.Proofs.Ytbljhfdmimmblaa.P Go.Proofs.Ytbljhfdmimmblaa.Sp Go.Proofs.YtbljhfdmimmblaaW.PrintWords Go.Proofs.YtbljhfdmimmblaaW.PrintLast
theorem make_ev (l0 : List S39) : Ev (fun k => accountinglaw09_DimsMake.f k l0) true := by
  unfold accountinglaw09_DimsMake.f
  refine Ev.bind (light_ev l0) ?_
  cases h0 : lightB l0
  · simp only [Bool.false_eq_true, if_false]
    exact lives_tail
  have hl := light_short h0
  simp only [if_true]
  refine Ev.bind (Make_ev l0) ?_
  refine Ev.bind (refMake_ev l0 hl.2) ?_
  refine Ev.bind (Right_ev l0) ?_
  refine Ev.bind (refRight_ev l0 (by omega) hl.2) ?_
  simp only [beq_self_eq_true, if_true]
  refine Ev.bind (same_ev _ (makeB_len l0)) ?_
  simp only [if_true]
  exact lives_tail
theorem DimsMake : accountinglaw09_DimsMake.Pure := fun l0 _ => (make_ev l0).rounds
end Go.Proofs.Ytbljhfdmimmblaa.Pure
