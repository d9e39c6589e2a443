/- The words of a joined line are the joined words, for every list of words. -/
import Derived.Test.YtlcjajcjoflpkaaSpecAllL
import Derived.Test.YtlcjajcjoflpkaaSayWordsBack
namespace Go.Proofs.Ytlcjajcjoflpkaa.Pure
set_option linter.unusedSimpArgs false
set_option linter.unusedVariables false
open Go.RowKit Go.Proofs.Ytlcjajcjoflpkaa.P Go.Proofs.Ytlcjajcjoflpkaa.Sp Go.Proofs.Ytlcjajcjoflpkaa.Op Go.Proofs.YtlcjajcjoflpkaaW.PrintWords Go.Proofs.YtlcjajcjoflpkaaW.PrintLast

theorem back_loop (a b : List S39) (hk : b.map key = a.map key) (hl : a.length ≤ 100000) : ∀ (n i : Nat), a.length - i = n → i ≤ a.length → Ev (fun k => accountinglaw06_WordsBack.l0 k a b (i : Int)) true := by
  have hlen : b.length = a.length := by simpa using congrArg List.length hk
  intro n
  induction n with
  | zero =>
    intro i hn hi
    refine Ev.step (fun k => accountinglaw06_WordsBack.l0.eq_2 _ _ _ k) ?_
    simp only [if_neg (show ¬ ((i : Int) < (a.length : Int)) by omega)]
    exact lives_tail
  | succ n ih =>
    intro i hn hi
    refine Ev.step (fun k => accountinglaw06_WordsBack.l0.eq_2 _ _ _ k) ?_
    have hw : wrap64 ((i : Int) + 1) = ((i + 1 : Nat) : Int) := by rw [w64 (by omega) (by omega)]; omega
    obtain ⟨e0, e1⟩ := key_at b a hk i (by omega)
    simp only [if_pos (show ((i : Int) < (a.length : Int)) by omega), if_pos (show (0 : Int) ≤ (i : Int) by omega), if_pos (show ((i : Int) < (b.length : Int)) by omega), e0, e1, if_true, hw]
    exact ih (i + 1) (by omega) (by omega)
theorem WordsBack : accountinglaw06_WordsBack.Pure := by
  intro l hfit
  have h : Ev (fun k => accountinglaw06_WordsBack.f k l) true := by
    unfold accountinglaw06_WordsBack.f
    refine Ev.bind (light_ev l) ?_
    cases hb : lightB l
    · simp only [Bool.false_eq_true, if_false]
      exact lives_tail
    have h60 : l.length ≤ 60 ∧ ∀ y ∈ l, y.f1.size ≤ 500 := by simpa [lightB] using hb
    have e0 : (⟨#[]⟩ : ByteArray).toList = [] := by rw [toL]
    simp only [if_true]
    refine Ev.bind (words_Join_ev l h60.2 (by omega)) ?_
    rw [joinS_all]
    by_cases hok : okAll l = true
    · simp only [if_pos hok]
      by_cases h4 : (joinB l).tail.length > 400
      · simp only [if_pos h4, show ¬ ((9 : Int) = 0) by decide, if_false, e0, if_true]
        exact lives_tail
      · simp only [if_neg h4, if_true]
        refine Ev.bind (words_Cut_ev _) ?_
        obtain ⟨ts, hc, hk⟩ := cutS_join l hok h4
        have hlen : ts.length = l.length := by simpa using congrArg List.length hk
        simp only [hc, if_true, size_mk, hlen, bne_self_eq_false]
        refine Ev.step (fun k => accountinglaw06_WordsBack.j0.eq_2 _ _ _ k) ?_
        simp only [Bool.false_eq_true, if_false]
        exact back_loop l ts hk (by omega) _ 0 rfl (by omega)
    · simp only [if_neg hok, show ¬ ((5 : Int) = 0) by decide, if_false, e0, if_true, Bool.false_eq_true]
      exact lives_tail
  exact h.rounds
end Go.Proofs.Ytlcjajcjoflpkaa.Pure
