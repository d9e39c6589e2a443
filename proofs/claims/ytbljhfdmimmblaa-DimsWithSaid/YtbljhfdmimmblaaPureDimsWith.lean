/- The pure law of DimsWith. -/
import Derived.Test.YtbljhfdmimmblaaSpecV
import Derived.Test.YtbljhfdmimmblaaSayDimsWith
namespace Go.Proofs.Ytbljhfdmimmblaa.Pure
open Go.RowKit Go.Proofs.Ytbljhfdmimmblaa.P Go.Proofs.Ytbljhfdmimmblaa.Sp Go.Proofs.YtbljhfdmimmblaaW.PrintWords Go.Proofs.YtbljhfdmimmblaaW.PrintLast
theorem with_ev (l0 : List S39) (t0 t1 : ByteArray) : Ev (fun k => accountinglaw09_DimsWith.f k l0 t0 t1) true := by
  unfold accountinglaw09_DimsWith.f
  have j1 : Ev (fun k => accountinglaw09_DimsWith.j0 k l0 true t0 t1) true := by
    refine Ev.step (fun k => accountinglaw09_DimsWith.j0.eq_2 _ _ _ _ k) ?_
    simp only [if_true]
    exact lives_tail
  refine Ev.bind (light_ev l0) ?_
  cases h0 : lightB l0
  · simpa using j1
  have hl := light_short h0
  simp only [if_true]
  refine Ev.bind (light_ev [⟨t0, t1⟩]) ?_
  cases h1 : lightB [⟨t0, t1⟩]
  · simpa using j1
  have ht : t0.size ≤ 100 ∧ t1.size ≤ 100 := by
    simpa [lightB, small] using h1
  simp only [Bool.not_true]
  refine Ev.step (fun k => accountinglaw09_DimsWith.j0.eq_2 _ _ _ _ k) ?_
  simp only [Bool.false_eq_true, if_false]
  refine Ev.bind (With_ev l0 t0 t1) ?_
  refine Ev.bind (refWith_ev l0 (by omega) hl.2 t0 t1 (by omega) (by omega)) ?_
  refine Ev.bind (same_ev _ (withL_len l0 t0 t1)) ?_
  simp only [if_true]
  exact lives_tail
theorem DimsWith : accountinglaw09_DimsWith.Pure := fun l0 a1 _ _ => (with_ev l0 a1.f0 a1.f1).rounds
end Go.Proofs.Ytbljhfdmimmblaa.Pure
