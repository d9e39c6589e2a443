/- A comment at the end of a line changes nothing but its length, for every line and comment. -/
import Derived.Test.YtlcjajcjoflpkaaSpecL
import Derived.Test.YtlcjajcjoflpkaaPx24
namespace Go.Proofs.Ytlcjajcjoflpkaa.Pure
set_option linter.unusedSimpArgs false
set_option linter.unusedVariables false
open Go.RowKit Go.Proofs.Ytlcjajcjoflpkaa.P Go.Proofs.Ytlcjajcjoflpkaa.Sp Go.Proofs.YtlcjajcjoflpkaaW.PrintWords Go.Proofs.YtlcjajcjoflpkaaW.PrintLast

theorem WordsComment : accountinglaw06_WordsComment.Pure := by
  intro s c hs hcs
  have big : Ev (fun k => accountinglaw06_WordsComment.j0 k s c true) true := by
    refine Ev.step (fun k => accountinglaw06_WordsComment.j0.eq_2 _ _ _ k) ?_
    simp only [if_true]
    exact lives_tail
  have h : Ev (fun k => accountinglaw06_WordsComment.f k s c) true := by
    unfold accountinglaw06_WordsComment.f
    by_cases h1 : (s.size : Int) > 200
    · simp only [if_pos h1]
      exact big
    simp only [if_neg h1]
    by_cases h2 : (c.size : Int) > 100
    · simp only [h2, decide_true]
      exact big
    simp only [h2, decide_false]
    refine Ev.step (fun k => accountinglaw06_WordsComment.j0.eq_2 _ _ _ k) ?_
    simp only [Bool.false_eq_true, if_false]
    refine Ev.bind (words_Cut_ev s) ?_
    have hcut : cutS s = cutAns s.size [] (cutL (s.size + 1) (D s 0) 0) := by unfold cutS; rw [if_neg (by omega)]
    have hln := cutL_len (s.size + 1) (D s 0) 0
    by_cases hc : (cutL (s.size + 1) (D s 0) 0).2.2 = 0
    case neg =>
      have e : cutS s = ([], (((cutL (s.size + 1) (D s 0) 0).2.1 : Nat) : Int), (((cutL (s.size + 1) (D s 0) 0).2.2 : Nat) : Int)) := by rw [hcut]; simp [cutAns, hc]
      simp only [e, if_neg (show ¬ ((((cutL (s.size + 1) (D s 0) 0).2.2 : Nat) : Int) = 0) by omega), List.length_nil, Int.natCast_zero, if_true]
      exact lives_tail
    have e : cutS s = ((cutL (s.size + 1) (D s 0) 0).1, (s.size : Int), 0) := by rw [hcut]; simp [cutAns, hc]
    have hz2 : (⟨#[32, 35]⟩ : ByteArray).size = 2 := rfl
    have hz : (s ++ (⟨#[32, 35]⟩ : ByteArray)).size = s.size + 2 := by simp [hz2]
    have hz3 : ((s ++ (⟨#[32, 35]⟩ : ByteArray)) ++ c).size = s.size + 2 + c.size := by simp [hz2]
    have hD : D ((s ++ (⟨#[32, 35]⟩ : ByteArray)) ++ c) 0 = D s 0 ++ 32 :: 35 :: D c 0 := by
      simp only [D0, app_data]; simp
    have hsame : cutL (s.size + 2 + c.size + 1) (D s 0 ++ 32 :: 35 :: D c 0) 0 = cutL (s.size + 1) (D s 0) 0 := by
      have hf : s.size + 2 + c.size + 1 = (s.size + 1 + c.size) + 2 := by omega
      have hm := cutL_more (D s 0) 0 (s.size + 1) (by rw [D_size]; omega) c.size
      rw [hf, cutL_comment (D c 0) (s.size + 1 + c.size) (D s 0) 0 (by rw [D_size]; omega) (by rw [hm]; exact hc), hm]
    have e2 : cutS ((s ++ (⟨#[32, 35]⟩ : ByteArray)) ++ c) = ((cutL (s.size + 1) (D s 0) 0).1, (((s ++ (⟨#[32, 35]⟩ : ByteArray)) ++ c).size : Int), 0) := by
      unfold cutS
      rw [if_neg (by omega), hD, hz3, hsame]
      simp [cutAns, hc]
    simp only [e, if_true, if_pos (show s.size + 2 ≤ 9223372036854775807 by omega), if_pos (show (s ++ (⟨#[32, 35]⟩ : ByteArray)).size + c.size ≤ 9223372036854775807 by omega)]
    refine Ev.bind (words_Cut_ev _) ?_
    simp only [e2, if_true]
    refine Ev.bind (same_ev _ (by omega)) ?_
    simp only [if_true]
    exact lives_tail
  exact h.rounds
end Go.Proofs.Ytlcjajcjoflpkaa.Pure
