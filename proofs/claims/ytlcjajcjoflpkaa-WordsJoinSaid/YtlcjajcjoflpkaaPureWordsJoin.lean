/- The line of any words: the program and the reference agree, for every list of words. -/
import Derived.Test.YtlcjajcjoflpkaaSpecAllJ
import Derived.Test.YtlcjajcjoflpkaaSayWordsJoin
namespace Go.Proofs.Ytlcjajcjoflpkaa.Pure
open Go.RowKit Go.Proofs.Ytlcjajcjoflpkaa.P Go.Proofs.Ytlcjajcjoflpkaa.Sp Go.Proofs.Ytlcjajcjoflpkaa.Op Go.Proofs.YtlcjajcjoflpkaaW.PrintWords Go.Proofs.YtlcjajcjoflpkaaW.PrintLast

theorem WordsJoin : accountinglaw06_WordsJoin.Pure := by
  intro l hl
  have h : Ev (fun k => accountinglaw06_WordsJoin.f k l) true := by
    unfold accountinglaw06_WordsJoin.f
    refine Ev.bind (light_ev l) ?_
    cases hb : lightB l
    · simp only [Bool.false_eq_true, if_false]
      exact lives_tail
    · have h60 : l.length ≤ 60 ∧ ∀ y ∈ l, y.f1.size ≤ 500 := by simpa [lightB] using hb
      simp only [if_true]
      refine Ev.bind (words_Join_ev l h60.2 (by omega)) ?_
      refine Ev.bind (accountingref06_Join_ev l h60.2 (by omega)) ?_
      simp only [if_true]
      exact lives_tail
  exact h.rounds
end Go.Proofs.Ytlcjajcjoflpkaa.Pure
