/- The words of any line, or the first problem: the program and the reference agree, for every line. -/
import Derived.Test.YtlcjajcjoflpkaaSpecD
import Derived.Test.YtlcjajcjoflpkaaSpecE
import Derived.Test.YtlcjajcjoflpkaaPx18
namespace Go.Proofs.Ytlcjajcjoflpkaa.Pure
open Go.RowKit Go.Proofs.Ytlcjajcjoflpkaa.P Go.Proofs.Ytlcjajcjoflpkaa.Sp Go.Proofs.YtlcjajcjoflpkaaW.PrintWords Go.Proofs.YtlcjajcjoflpkaaW.PrintLast

theorem WordsCut : accountinglaw06_WordsCut.Pure := by
  intro s hs
  have h : Ev (fun k => accountinglaw06_WordsCut.f k s) true := by
    unfold accountinglaw06_WordsCut.f
    by_cases hb : (s.size : Int) > 1000
    · simp only [if_pos hb]
      exact lives_tail
    · simp only [if_neg hb]
      refine Ev.bind (words_Cut_ev s) ?_
      refine Ev.bind (accountingref06_Cut_ev s) ?_
      refine Ev.bind (same_ev _ (by have := cutS_len s; omega)) ?_
      simp only [if_true]
      exact lives_tail
  exact h.rounds
end Go.Proofs.Ytlcjajcjoflpkaa.Pure
