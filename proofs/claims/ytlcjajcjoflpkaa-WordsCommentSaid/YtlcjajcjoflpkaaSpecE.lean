/- The examples of the chapter; equal lists of words; codes and plain texts. -/
import Derived.Test.YtlcjajcjoflpkaaSpecA
import Derived.Test.YtlcjajcjoflpkaaPx9
import Derived.Test.YtlcjajcjoflpkaaPx11
import Derived.Test.YtlcjajcjoflpkaaPx12
namespace Go.Proofs.Ytlcjajcjoflpkaa.Sp
open Go.RowKit Go.Proofs.Ytlcjajcjoflpkaa.P Go.Proofs.YtlcjajcjoflpkaaW.PrintWords Go.Proofs.YtlcjajcjoflpkaaW.PrintLast
set_option linter.unusedSimpArgs false
set_option linter.unusedVariables false

theorem lives_ev : Ev (fun k => accountinglaw06_lives.f k) true := Ev.of accountinglaw06_lives.mono accountinglaw06_lives.true_at
theorem lives_tail : Ev (fun k => (accountinglaw06_lives.f k).bind fun t => some t) true := Ev.bind lives_ev (Ev.now _)

theorem same_l0 (l : List S39) (hl : l.length ≤ 1000000) : ∀ (n i : Nat), l.length - i = n → i ≤ l.length → Ev (fun k => accountingref06_Same.l0 k l l (i : Int)) true := by
  intro n
  induction n with
  | zero =>
    intro i hn hi
    refine Ev.step (fun k => accountingref06_Same.l0.eq_2 _ _ _ k) ?_
    simp only [if_neg (show ¬ ((i : Int) < (l.length : Int)) by omega)]
    exact Ev.now _
  | succ n ih =>
    intro i hn hi
    refine Ev.step (fun k => accountingref06_Same.l0.eq_2 _ _ _ k) ?_
    have hw : wrap64 ((i : Int) + 1) = ((i + 1 : Nat) : Int) := by rw [w64 (by omega) (by omega)]; omega
    simp only [if_pos (show ((i : Int) < (l.length : Int)) by omega), if_pos (show (0 : Int) ≤ (i : Int) by omega), hw, beq_self_eq_true, Bool.not_true, Bool.or_false, Bool.false_eq_true, if_false]
    exact ih (i + 1) (by omega) (by omega)
theorem same_ev (l : List S39) (hl : l.length ≤ 1000000) : Ev (fun k => accountingref06_Same.f k l l) true := by
  unfold accountingref06_Same.f
  simp only [if_true]
  exact same_l0 l hl _ 0 rfl (by omega)

theorem refCode_l0 (s : ByteArray) (hs : s.size ≤ 100000) : ∀ (n i : Nat), s.size - i = n → i ≤ s.size → Ev (fun k => accountingref06_Code.l0 k s (i : Int)) (allFrom isCodeByte s i && (decide (0 < s.size) && decide (s.size ≤ 12))) := by
  intro n
  induction n with
  | zero =>
    intro i hn hi
    refine Ev.step (fun k => accountingref06_Code.l0.eq_2 _ _ k) ?_
    obtain rfl : i = s.size := by omega
    simp only [if_neg (show ¬ ((s.size : Int) < (s.size : Int)) by omega), allFrom_end, Bool.true_and]
    by_cases h : 0 < s.size
    · simp only [if_pos (show (s.size : Int) ≥ 1 by omega), h, decide_true, Bool.true_and]
      have : decide ((s.size : Int) ≤ 12) = decide (s.size ≤ 12) := by rw [Bool.eq_iff_iff]; simp; omega
      rw [this]; exact Ev.now _
    · simp only [if_neg (show ¬ (s.size : Int) ≥ 1 by omega), h, decide_false, Bool.false_and]; exact Ev.now _
  | succ n ih =>
    intro i hn hi
    refine Ev.step (fun k => accountingref06_Code.l0.eq_2 _ _ k) ?_
    have hw : wrap64 ((i : Int) + 1) = ((i + 1 : Nat) : Int) := by rw [w64 (by omega) (by omega)]; omega
    have hst := allFrom_step isCodeByte s i (by omega)
    have hor := isCodeByte_or (bt s (i : Int))
    simp only [if_pos (show ((i : Int) < (s.size : Int)) by omega), if_pos (show (0 : Int) ≤ (i : Int) by omega), hw, ref_letter_f, ref_digit_f, Option.bind_some]
    rw [hst, hor]
    have hi' := ih (i + 1) (by omega) (by omega)
    cases h1 : isLetter (bt s (i : Int)) <;> cases h2 : isDigit (bt s (i : Int)) <;> simp <;> first | exact Ev.now _ | simpa using hi'
theorem refPlain_l0 (s : ByteArray) (hs : s.size ≤ 100000) : ∀ (n i : Nat), s.size - i = n → i ≤ s.size → Ev (fun k => accountingref06_Plain.l0 k s (i : Int)) (allFrom isPrintable s i && decide (s.size ≤ 60)) := by
  intro n
  induction n with
  | zero =>
    intro i hn hi
    refine Ev.step (fun k => accountingref06_Plain.l0.eq_2 _ _ k) ?_
    obtain rfl : i = s.size := by omega
    simp only [if_neg (show ¬ ((s.size : Int) < (s.size : Int)) by omega), allFrom_end, Bool.true_and]
    have : decide ((s.size : Int) ≤ 60) = decide (s.size ≤ 60) := by rw [Bool.eq_iff_iff]; simp; omega
    rw [this]; exact Ev.now _
  | succ n ih =>
    intro i hn hi
    refine Ev.step (fun k => accountingref06_Plain.l0.eq_2 _ _ k) ?_
    have hw : wrap64 ((i : Int) + 1) = ((i + 1 : Nat) : Int) := by rw [w64 (by omega) (by omega)]; omega
    have hst := allFrom_step isPrintable s i (by omega)
    simp only [if_pos (show ((i : Int) < (s.size : Int)) by omega), if_pos (show (0 : Int) ≤ (i : Int) by omega), hw]
    rw [hst]
    have hi' := ih (i + 1) (by omega) (by omega)
    by_cases h1 : bt s (i : Int) < 32
    · simp only [if_pos h1]
      have : isPrintable (bt s (i : Int)) = false := decide_eq_false (by omega)
      rw [this]; exact Ev.now _
    simp only [if_neg h1]
    by_cases h2 : bt s (i : Int) > 126
    · simp only [if_pos h2]
      have : isPrintable (bt s (i : Int)) = false := decide_eq_false (by omega)
      rw [this]; exact Ev.now _
    simp only [if_neg h2]
    have : isPrintable (bt s (i : Int)) = true := decide_eq_true (by omega)
    rw [this]; simpa using hi'
def plainB (s : ByteArray) : Bool := decide (s.size ≤ 60) && allFrom isPrintable s 0
theorem refPlain_ev (s : ByteArray) (hs : s.size ≤ 100000) : Ev (fun k => accountingref06_Plain.f k s) (plainB s) := by
  have := refPlain_l0 s hs _ 0 rfl (by omega)
  rw [Bool.and_comm] at this
  exact this
theorem words_Plain_f (s : ByteArray) : words_Plain.f s = some (plainB s) := rfl
def codeB (s : ByteArray) : Bool := decide (0 < s.size) && (decide (s.size ≤ 12) && allFrom isCodeByte s 0)
theorem words_Code_f (s : ByteArray) : words_Code.f s = some (codeB s) := rfl
theorem refCode_ev (s : ByteArray) (hs : s.size ≤ 100000) : Ev (fun k => accountingref06_Code.f k s) (codeB s) := by
  have := refCode_l0 s hs _ 0 rfl (by omega)
  have e : (allFrom isCodeByte s 0 && (decide (0 < s.size) && decide (s.size ≤ 12))) = codeB s := by
    unfold codeB; rw [Bool.and_comm, Bool.and_assoc]
  rw [e] at this
  exact this

end Go.Proofs.Ytlcjajcjoflpkaa.Sp
