/- What the functions of the layer 'words' and of its reference compute, byte by byte: names, numbers, quoted texts, signs. -/
import Derived.Test.YtlcjajcjoflpkaaPx8
import Derived.Test.YtlcjajcjoflpkaaPx14
import Derived.Test.YtlcjajcjoflpkaaPx15
import Derived.Test.YtlcjajcjoflpkaaHandB
import Derived.Laws.Strings
namespace Go.Proofs.Ytlcjajcjoflpkaa.Sp
set_option linter.unusedSimpArgs false
set_option linter.unusedVariables false
open Go.RowKit Go.Proofs.Ytlcjajcjoflpkaa.P Go.Proofs.YtlcjajcjoflpkaaW.PrintWords Go.Proofs.YtlcjajcjoflpkaaW.PrintLast

theorem w64 {x : Int} (h0 : 0 ≤ x) (h1 : x < 9223372036854775000) : wrap64 x = x := by unfold wrap64; omega
theorem w64s {i : Nat} {n : Nat} (h : i < n) (hn : n ≤ 1000000) (j : Nat) (hj : j ≤ 1000000) : wrap64 ((i : Int) + (j : Int)) = ((i + j : Nat) : Int) := by rw [w64 (by omega) (by omega)]; omega

/-- The bytes of s from i on. -/
def D (s : ByteArray) (i : Nat) : List UInt8 := s.data.toList.drop i
theorem D_len (s : ByteArray) (i : Nat) : (D s i).length = s.size - i := by simp [D]
theorem D_cons {s : ByteArray} {i : Nat} (h : i < s.size) : ∃ u, D s i = u :: D s (i + 1) ∧ bt s (i : Int) = (u.toNat : Int) := by
  have h' : i < s.data.toList.length := by simpa using h
  refine ⟨s.data.toList[i], ?_, ?_⟩
  · unfold D; rw [List.drop_eq_getElem_cons h']
  · unfold bt; rw [dif_pos (by simpa using h)]; rfl
theorem D_end {s : ByteArray} {i : Nat} (h : s.size ≤ i) : D s i = [] := by unfold D; rw [List.drop_of_length_le (by simpa using h)]
theorem D_drop (s : ByteArray) (i j : Nat) : (D s i).drop j = D s (i + j) := by unfold D; rw [List.drop_drop]
theorem extract_D (s : ByteArray) (i n : Nat) : (s.extract i (i + n)).data.toList = (D s i).take n := by
  unfold D
  rw [ByteArray.data_extract, Array.toList_extract]
  simp [List.extract_eq_take_drop]

def lt (u : UInt8) : Bool := isLetter u.toNat
def dg (u : UInt8) : Bool := isDigit u.toNat
def cb (u : UInt8) : Bool := isLetter u.toNat || isDigit u.toNat

theorem words_letter_f (c : Int) : words_letter.f c = some (isLetter c) := by
  unfold words_letter.f isLetter
  repeat' split
  all_goals (congr 1; rw [Bool.eq_iff_iff]; simp; omega)
theorem words_digit_f (c : Int) : words_digit.f c = some (isDigit c) := by
  unfold words_digit.f isDigit
  repeat' split
  all_goals (congr 1; rw [Bool.eq_iff_iff]; simp; omega)
theorem ref_letter_f (c : Int) : accountingref06_letter.f c = some (isLetter c) := words_letter_f c
theorem ref_digit_f (c : Int) : accountingref06_digit.f c = some (isDigit c) := words_digit_f c
theorem words_printable_f (c : Int) : words_printable.f c = some (isPrintable c) := by
  unfold words_printable.f isPrintable
  repeat' split
  all_goals (congr 1; rw [Bool.eq_iff_iff]; simp; omega)

def headDig : List UInt8 → Bool
  | [] => false
  | u :: _ => dg u
theorem words_digitAt_f (s : ByteArray) (i : Nat) : words_digitAt.f s (i : Int) = some (headDig (D s i)) := by
  unfold words_digitAt.f
  by_cases h : i < s.size
  · obtain ⟨u, hu, hb⟩ := D_cons h
    rw [if_pos (by omega), if_pos (by omega), words_digit_f, hb, hu]; rfl
  · rw [if_neg (by omega), D_end (by omega)]; rfl
theorem ref_follows_f (s : ByteArray) (i : Nat) : accountingref06_follows.f s (i : Int) = some (headDig (D s i)) := words_digitAt_f s i

/-- The length of the name at the begin. -/
def lenName : List UInt8 → Nat
  | [] => 0
  | u :: r => if cb u then lenName r + 1 else 0
def isSep (u : UInt8) : Bool := u == 46 || u == 47 || u == 45
/-- The length of what goes on with a number. -/
def numTail : List UInt8 → Nat
  | [] => 0
  | u :: r => if cb u || (isSep u && headDig r) then numTail r + 1 else 0
theorem lenName_le (l : List UInt8) : lenName l ≤ l.length := by
  induction l with
  | nil => simp [lenName]
  | cons u r ih => unfold lenName; split <;> simp <;> omega
theorem numTail_le (l : List UInt8) : numTail l ≤ l.length := by
  induction l with
  | nil => simp [numTail]
  | cons u r ih => unfold numTail; split <;> simp <;> omega

theorem nameEnd_ev (s : ByteArray) (hs : s.size ≤ 100000) : ∀ (n i : Nat), s.size - i = n → i ≤ s.size → Ev (fun k => words_nameEnd.l0 k s (i : Int)) ((i + lenName (D s i) : Nat) : Int) := by
  intro n
  induction n with
  | zero =>
    intro i hn hi
    refine Ev.step (fun k => words_nameEnd.l0.eq_2 _ _ k) ?_
    rw [D_end (by omega)]
    simp only [if_neg (show ¬ ((i : Int) < (s.size : Int)) by omega)]
    exact Ev.now _
  | succ n ih =>
    intro i hn hi
    have h : i < s.size := by omega
    obtain ⟨u, hu, hb⟩ := D_cons h
    refine Ev.step (fun k => words_nameEnd.l0.eq_2 _ _ k) ?_
    have hw : wrap64 ((i : Int) + 1) = ((i + 1 : Nat) : Int) := by rw [w64 (by omega) (by omega)]; omega
    have hi' := ih (i + 1) (by omega) (by omega)
    simp only [if_pos (show ((i : Int) < (s.size : Int)) by omega), if_pos (show (0 : Int) ≤ (i : Int) by omega), words_letter_f, words_digit_f, Option.bind_some, hb, hu, lenName, hw]
    cases h1 : isLetter (u.toNat : Int) <;> cases h2 : isDigit (u.toNat : Int) <;> simp only [show cb u = (isLetter (u.toNat : Int) || isDigit (u.toNat : Int)) from rfl, h1, h2, Bool.or_true, Bool.or_false, Bool.true_or, Bool.false_or, if_true, reduceIte, Bool.false_eq_true]
    case false.false => exact Ev.now _
    all_goals (rw [show i + (lenName (D s (i + 1)) + 1) = i + 1 + lenName (D s (i + 1)) by omega]; exact hi')

theorem refName_ev (s : ByteArray) (hs : s.size ≤ 100000) (i : Nat) (hi : i ≤ s.size) : Ev (fun k => accountingref06_name.l0 k s (i : Int)) ((i + lenName (D s i) : Nat) : Int) := by
  have e : ∀ k (x : Int), accountingref06_name.l0 k s x = words_nameEnd.l0 k s x := by
    intro k
    induction k with
    | zero => intro x; rfl
    | succ k ih => intro x; rw [accountingref06_name.l0, words_nameEnd.l0]; simp only [ih, ref_letter_f, ref_digit_f, words_letter_f, words_digit_f]
  exact Ev.congr (fun k => e k _) (nameEnd_ev s hs _ i rfl hi)

theorem numberEnd_ev (s : ByteArray) (hs : s.size ≤ 100000) : ∀ (n i : Nat), s.size - i = n → i ≤ s.size → Ev (fun k => words_numberEnd.l0 k s (i : Int)) ((i + numTail (D s i) : Nat) : Int) := by
  intro n
  induction n with
  | zero =>
    intro i hn hi
    refine Ev.step (fun k => words_numberEnd.l0.eq_2 _ _ k) ?_
    rw [D_end (by omega)]
    simp only [if_neg (show ¬ ((i : Int) < (s.size : Int)) by omega)]
    exact Ev.now _
  | succ n ih =>
    intro i hn hi
    have h : i < s.size := by omega
    obtain ⟨u, hu, hb⟩ := D_cons h
    have hw : wrap64 ((i : Int) + 1) = ((i + 1 : Nat) : Int) := by rw [w64 (by omega) (by omega)]; omega
    have hi' := ih (i + 1) (by omega) (by omega)
    have j1 : ∀ b : Bool, b = isSep u → Ev (fun k => words_numberEnd.j1 k s (i : Int) (u.toNat : Int) b) ((i + numTail (D s i) : Nat) : Int) := by
      rintro b rfl
      refine Ev.step (fun k => words_numberEnd.j1.eq_2 _ _ _ _ k) ?_
      simp only [hw, words_digitAt_f, words_letter_f, words_digit_f, Option.bind_some, hu, numTail]
      have hcb : cb u = (isLetter (u.toNat : Int) || isDigit (u.toNat : Int)) := rfl
      cases hq : isSep u
      · have j2 : ∀ b : Bool, Ev (fun k => words_numberEnd.j2 k s (i : Int) b) (if b then ((i + (numTail (D s (i + 1)) + 1) : Nat) : Int) else (i : Int)) := by
          intro b
          refine Ev.step (fun k => words_numberEnd.j2.eq_2 _ _ _ k) ?_
          cases b
          · exact Ev.now _
          · simp only [hw, if_true]
            rw [show i + (numTail (D s (i + 1)) + 1) = i + 1 + numTail (D s (i + 1)) by omega]; exact hi'
        cases h1 : isLetter (u.toNat : Int)
        · have := j2 (isDigit (u.toNat : Int))
          cases h2 : isDigit (u.toNat : Int) <;> simpa [h1, h2, hcb] using this
        · have := j2 true
          simpa [h1, hcb] using this
      · have hc : isLetter (u.toNat : Int) = false ∧ isDigit (u.toNat : Int) = false := by
          have : u = 46 ∨ u = 47 ∨ u = 45 := by simpa [isSep, or_assoc] using hq
          rcases this with rfl | rfl | rfl <;> decide
        rw [hc.1, hc.2] at hcb
        cases h3 : headDig (D s (i + 1))
        · simp [hcb]; exact Ev.now _
        · simp [hcb]
          rw [show (i : Int) + ((numTail (D s (i + 1)) : Int) + 1) = ((i + 1 + numTail (D s (i + 1)) : Nat) : Int) by omega]; exact hi'
    refine Ev.step (fun k => words_numberEnd.l0.eq_2 _ _ k) ?_
    simp only [if_pos (show ((i : Int) < (s.size : Int)) by omega), if_pos (show (0 : Int) ≤ (i : Int) by omega), hb]
    by_cases h46 : (u.toNat : Int) = 46
    · simp only [if_pos h46]
      exact j1 true (by have : u = 46 := UInt8.toNat_inj.mp (by show u.toNat = 46; omega)
                        subst this; rfl)
    · simp only [if_neg h46]
      by_cases h47 : (u.toNat : Int) = 47
      · simp only [if_pos h47]
        exact j1 true (by have : u = 47 := UInt8.toNat_inj.mp (by show u.toNat = 47; omega)
                          subst this; rfl)
      · simp only [if_neg h47]
        refine j1 _ ?_
        rw [Bool.eq_iff_iff]
        simp only [isSep, beq_iff_eq, Bool.or_eq_true]
        constructor
        · intro e; exact .inr (UInt8.toNat_inj.mp (by show u.toNat = 45; omega))
        · rintro ((rfl | rfl) | rfl)
          · exact absurd rfl h46
          · exact absurd rfl h47
          · rfl

theorem refNumber_ev (s : ByteArray) (hs : s.size ≤ 100000) : ∀ (n i : Nat), s.size - i = n → i ≤ s.size → Ev (fun k => accountingref06_number.l0 k s (i : Int)) ((i + numTail (D s i) : Nat) : Int) := by
  intro n
  induction n with
  | zero =>
    intro i hn hi
    refine Ev.step (fun k => accountingref06_number.l0.eq_2 _ _ k) ?_
    rw [D_end (by omega)]
    simp only [if_neg (show ¬ ((i : Int) < (s.size : Int)) by omega)]
    exact Ev.now _
  | succ n ih =>
    intro i hn hi
    have h : i < s.size := by omega
    obtain ⟨u, hu, hb⟩ := D_cons h
    have hw : wrap64 ((i : Int) + 1) = ((i + 1 : Nat) : Int) := by rw [w64 (by omega) (by omega)]; omega
    have hi' := ih (i + 1) (by omega) (by omega)
    have hi2 : Ev (fun k => accountingref06_number.l0 k s ((i + 1 : Nat) : Int)) ((i + (numTail (D s (i + 1)) + 1) : Nat) : Int) := by
      rw [show i + (numTail (D s (i + 1)) + 1) = i + 1 + numTail (D s (i + 1)) by omega]; exact hi'
    refine Ev.step (fun k => accountingref06_number.l0.eq_2 _ _ k) ?_
    simp only [if_pos (show ((i : Int) < (s.size : Int)) by omega), if_pos (show (0 : Int) ≤ (i : Int) by omega), hb, ref_letter_f, ref_digit_f, Option.bind_some, hw, ref_follows_f, hu, numTail]
    have hcb : cb u = (isLetter (u.toNat : Int) || isDigit (u.toNat : Int)) := rfl
    cases h1 : isLetter (u.toNat : Int)
    · cases h2 : isDigit (u.toNat : Int)
      · have sep : isSep u = decide ((u.toNat : Int) = 46 ∨ (u.toNat : Int) = 47 ∨ (u.toNat : Int) = 45) := by
          rw [Bool.eq_iff_iff]
          simp only [isSep, beq_iff_eq, Bool.or_eq_true, decide_eq_true_eq, ← UInt8.toNat_inj]
          simp
          omega
        rw [sep]
        cases h3 : headDig (D s (i + 1)) <;> by_cases h46 : (u.toNat : Int) = 46 <;> by_cases h47 : (u.toNat : Int) = 47 <;> by_cases h45 : (u.toNat : Int) = 45 <;> simp [h46, h47, h45, h1, h2, hcb] <;> first | exact Ev.now _ | simpa using hi2
      · simpa [h1, h2, hcb] using hi2
    · simpa [h1, hcb] using hi2
end Go.Proofs.Ytlcjajcjoflpkaa.Sp
