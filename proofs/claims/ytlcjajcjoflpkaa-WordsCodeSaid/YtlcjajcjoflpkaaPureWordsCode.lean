/- Which strings are codes and plain texts, for every string (sizes are those that a string can have). -/
import Derived.Test.YtlcjajcjoflpkaaSpecE
import Derived.Test.YtlcjajcjoflpkaaPx12
namespace Go.Proofs.Ytlcjajcjoflpkaa.Pure
open Go.RowKit Go.Proofs.Ytlcjajcjoflpkaa.P Go.Proofs.Ytlcjajcjoflpkaa.Sp Go.Proofs.YtlcjajcjoflpkaaW.PrintWords Go.Proofs.YtlcjajcjoflpkaaW.PrintLast

theorem WordsCode : accountinglaw06_WordsCode.Pure := by
  intro s hs
  have h : Ev (fun k => accountinglaw06_WordsCode.f k s) true := by
    unfold accountinglaw06_WordsCode.f
    by_cases hb : (s.size : Int) > 1000
    · simp only [if_pos hb]
      exact lives_tail
    · simp only [if_neg hb, words_Code_f, words_Plain_f, Option.bind_some]
      refine Ev.bind (refCode_ev s (by omega)) ?_
      simp only [beq_self_eq_true, if_true]
      refine Ev.bind (refPlain_ev s (by omega)) ?_
      simp only [beq_self_eq_true, if_true]
      exact lives_tail
  exact h.rounds
end Go.Proofs.Ytlcjajcjoflpkaa.Pure
