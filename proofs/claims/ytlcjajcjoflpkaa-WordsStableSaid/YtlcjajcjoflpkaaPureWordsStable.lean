/- Joining the words of a line and cutting it again yields the same words, for every line. -/
import Derived.Test.YtlcjajcjoflpkaaSpecL
import Derived.Test.YtlcjajcjoflpkaaPx23
namespace Go.Proofs.Ytlcjajcjoflpkaa.Pure
set_option linter.unusedSimpArgs false
set_option linter.unusedVariables false
open Go.RowKit Go.Proofs.Ytlcjajcjoflpkaa.P Go.Proofs.Ytlcjajcjoflpkaa.Sp Go.Proofs.YtlcjajcjoflpkaaW.PrintWords Go.Proofs.YtlcjajcjoflpkaaW.PrintLast

theorem stable_loop (a b : List S39) (hk : b.map key = a.map key) (hp : a.Pairwise fun x y => x.f2 < y.f2) (hl : a.length ≤ 100000) : ∀ (n i : Nat), a.length - i = n → i ≤ a.length → Ev (fun k => accountinglaw06_WordsStable.l0 k a b (i : Int)) true := by
  have hlen : b.length = a.length := by simpa using congrArg List.length hk
  intro n
  induction n with
  | zero =>
    intro i hn hi
    refine Ev.step (fun k => accountinglaw06_WordsStable.l0.eq_2 _ _ _ k) ?_
    simp only [if_neg (show ¬ ((i : Int) < (a.length : Int)) by omega)]
    exact lives_tail
  | succ n ih =>
    intro i hn hi
    refine Ev.step (fun k => accountinglaw06_WordsStable.l0.eq_2 _ _ _ k) ?_
    have hw : wrap64 ((i : Int) + 1) = ((i + 1 : Nat) : Int) := by rw [w64 (by omega) (by omega)]; omega
    obtain ⟨e0, e1⟩ := key_at b a hk i (by omega)
    have hi' := ih (i + 1) (by omega) (by omega)
    simp only [if_pos (show ((i : Int) < (a.length : Int)) by omega), if_pos (show (0 : Int) ≤ (i : Int) by omega), if_pos (show ((i : Int) < (b.length : Int)) by omega), e0, e1, if_true, hw]
    by_cases h0 : (i : Int) > 0
    · have hw1 : wrap64 ((i : Int) - 1) = ((i - 1 : Nat) : Int) := by rw [w64 (by omega) (by omega)]; omega
      have ha : (rd_T39 a ((i - 1 : Nat) : Int)).f2 < (rd_T39 a (i : Int)).f2 := by
        have e1 : rd_T39 a ((i - 1 : Nat) : Int) = a[i - 1] := by simp [rd_T39, List.getD_eq_getElem?_getD, List.getElem?_eq_getElem (show i - 1 < a.length by omega)]
        have e2 : rd_T39 a (i : Int) = a[i] := by simp [rd_T39, List.getD_eq_getElem?_getD, List.getElem?_eq_getElem (show i < a.length by omega)]
        rw [e1, e2]
        exact List.pairwise_iff_getElem.mp hp (i - 1) i (by omega) (by omega) (by omega)
      simp only [if_pos h0, hw1, if_pos (show (0 : Int) ≤ ((i - 1 : Nat) : Int) by omega), if_pos (show (((i - 1 : Nat) : Int) < (a.length : Int)) by omega), if_neg (show ¬ ((rd_T39 a (i : Int)).f2 ≤ (rd_T39 a ((i - 1 : Nat) : Int)).f2) by omega)]
      exact hi'
    · simp only [if_neg h0]
      exact hi'
theorem WordsStable : accountinglaw06_WordsStable.Pure := by
  intro s hs
  have h : Ev (fun k => accountinglaw06_WordsStable.f k s) true := by
    unfold accountinglaw06_WordsStable.f
    by_cases hb : (s.size : Int) > 400
    · simp only [if_pos hb]
      exact lives_tail
    simp only [if_neg hb]
    refine Ev.bind (words_Cut_ev s) ?_
    have hcut : cutS s = cutAns s.size [] (cutL (s.size + 1) (D s 0) 0) := by unfold cutS; rw [if_neg (by omega)]
    have htk := cutL_toks (s.size + 1) (D s 0) 0
    have htx := cutL_texts (s.size + 1) (D s 0) 0
    have hat := (cutL_ats (s.size + 1) (D s 0) 0).2
    have hln := cutL_len (s.size + 1) (D s 0) 0
    generalize cutL (s.size + 1) (D s 0) 0 = c at hcut htk htx hat hln
    rw [hcut]
    unfold cutAns
    by_cases hc : c.2.2 = 0
    case neg =>
      simp only [if_neg hc, if_neg (show ¬ ((c.2.2 : Int) = 0) by omega), List.length_nil, Int.natCast_zero, if_true]
      exact lives_tail
    simp only [if_pos hc, List.nil_append, if_true]
    have hsz : ∀ y ∈ c.1, y.f1.size ≤ 400 := fun y hy => by have := htx y hy; rw [D_size] at this; omega
    have hok : okAll c.1 = true := by
      unfold okAll
      rw [List.all_eq_true]
      exact fun y hy => tok_notS y (htk y hy) (hsz y hy)
    refine Ev.bind (words_Join_ev c.1 (fun y hy => by have := hsz y hy; omega) (by omega)) ?_
    rw [joinS_all]
    simp only [if_pos hok]
    by_cases h4 : (joinB c.1).tail.length > 400
    · simp only [if_pos h4, if_true]
      exact lives_tail
    simp only [if_neg h4, show ¬ ((0 : Int) = 9) by decide, if_false, if_true]
    refine Ev.bind (words_Cut_ev _) ?_
    obtain ⟨ts, hct, hk⟩ := cutS_join c.1 hok h4
    have hlen : ts.length = c.1.length := by simpa using congrArg List.length hk
    simp only [hct, if_true, hlen, bne_self_eq_false]
    refine Ev.step (fun k => accountinglaw06_WordsStable.j0.eq_2 _ _ _ k) ?_
    simp only [Bool.false_eq_true, if_false]
    exact stable_loop c.1 ts hk hat (by omega) _ 0 rfl (by omega)
  exact h.rounds
end Go.Proofs.Ytlcjajcjoflpkaa.Pure
