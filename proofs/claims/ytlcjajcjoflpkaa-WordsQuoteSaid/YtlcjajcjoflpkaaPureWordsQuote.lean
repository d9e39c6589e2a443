/- The quoted text of any string: the program and the reference agree, for every string. -/
import Derived.Test.YtlcjajcjoflpkaaSpecQ
import Derived.Test.YtlcjajcjoflpkaaPx19
namespace Go.Proofs.Ytlcjajcjoflpkaa.Pure
open Go.RowKit Go.Proofs.Ytlcjajcjoflpkaa.P Go.Proofs.Ytlcjajcjoflpkaa.Sp Go.Proofs.YtlcjajcjoflpkaaW.PrintWords Go.Proofs.YtlcjajcjoflpkaaW.PrintLast

theorem WordsQuote : accountinglaw06_WordsQuote.Pure := by
  intro s hs
  have h : Ev (fun k => accountinglaw06_WordsQuote.f k s) true := by
    unfold accountinglaw06_WordsQuote.f
    by_cases hb : (s.size : Int) > 1000
    · simp only [if_pos hb]
      exact lives_tail
    · simp only [if_neg hb]
      refine Ev.bind (words_Quote_ev s (by omega)) ?_
      refine Ev.bind (accountingref06_Quote_ev s (by omega)) ?_
      simp only [if_true]
      exact lives_tail
  exact h.rounds
end Go.Proofs.Ytlcjajcjoflpkaa.Pure
