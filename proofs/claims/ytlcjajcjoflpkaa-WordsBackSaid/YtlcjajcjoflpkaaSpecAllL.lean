/- Texts of mine, joined: SpecA, SpecB, SpecC, SpecE, SpecD, SpecQP, SpecM, SpecN, SpecK, SpecL. -/
import Derived.Test.YtlcjajcjoflpkaaPx8
import Derived.Test.YtlcjajcjoflpkaaPx14
import Derived.Test.YtlcjajcjoflpkaaPx15
import Derived.Test.YtlcjajcjoflpkaaHandB
import Derived.Laws.Strings
import Derived.Test.YtlcjajcjoflpkaaPx13
import Derived.Test.YtlcjajcjoflpkaaPx16
import Derived.Test.YtlcjajcjoflpkaaPx18
import Derived.Test.YtlcjajcjoflpkaaPx9
import Derived.Test.YtlcjajcjoflpkaaPx11
import Derived.Test.YtlcjajcjoflpkaaPx12
import Derived.Test.YtlcjajcjoflpkaaPx10
import Derived.Test.YtlcjajcjoflpkaaPx20
/- What the functions of the layer 'words' and of its reference compute, byte by byte: names, numbers, quoted texts, signs. -/
namespace Go.Proofs.Ytlcjajcjoflpkaa.Sp
set_option linter.unusedSimpArgs false
set_option linter.unusedVariables false
open Go.RowKit Go.Proofs.Ytlcjajcjoflpkaa.P Go.Proofs.YtlcjajcjoflpkaaW.PrintWords Go.Proofs.YtlcjajcjoflpkaaW.PrintLast

theorem w64 {x : Int} (h0 : 0 ≤ x) (h1 : x < 9223372036854775000) : wrap64 x = x := by unfold wrap64; omega
theorem w64s {i : Nat} {n : Nat} (h : i < n) (hn : n ≤ 1000000) (j : Nat) (hj : j ≤ 1000000) : wrap64 ((i : Int) + (j : Int)) = ((i + j : Nat) : Int) := by rw [w64 (by omega) (by omega)]; omega

/-- The bytes of s from i on. -/
def D (s : ByteArray) (i : Nat) : List UInt8 := s.data.toList.drop i
theorem D_len (s : ByteArray) (i : Nat) : (D s i).length = s.size - i := by simp [D]
theorem D_cons {s : ByteArray} {i : Nat} (h : i < s.size) : ∃ u, D s i = u :: D s (i + 1) ∧ bt s (i : Int) = (u.toNat : Int) := by
  have h' : i < s.data.toList.length := by simpa using h
  refine ⟨s.data.toList[i], ?_, ?_⟩
  · unfold D; rw [List.drop_eq_getElem_cons h']
  · unfold bt; rw [dif_pos (by simpa using h)]; rfl
theorem D_end {s : ByteArray} {i : Nat} (h : s.size ≤ i) : D s i = [] := by unfold D; rw [List.drop_of_length_le (by simpa using h)]
theorem D_drop (s : ByteArray) (i j : Nat) : (D s i).drop j = D s (i + j) := by unfold D; rw [List.drop_drop]
theorem extract_D (s : ByteArray) (i n : Nat) : (s.extract i (i + n)).data.toList = (D s i).take n := by
  unfold D
  rw [ByteArray.data_extract, Array.toList_extract]
  simp [List.extract_eq_take_drop]

def lt (u : UInt8) : Bool := isLetter u.toNat
def dg (u : UInt8) : Bool := isDigit u.toNat
def cb (u : UInt8) : Bool := isLetter u.toNat || isDigit u.toNat

theorem words_letter_f (c : Int) : words_letter.f c = some (isLetter c) := by
  unfold words_letter.f isLetter
  repeat' split
  all_goals (congr 1; rw [Bool.eq_iff_iff]; simp; omega)
theorem words_digit_f (c : Int) : words_digit.f c = some (isDigit c) := by
  unfold words_digit.f isDigit
  repeat' split
  all_goals (congr 1; rw [Bool.eq_iff_iff]; simp; omega)
theorem ref_letter_f (c : Int) : accountingref06_letter.f c = some (isLetter c) := words_letter_f c
theorem ref_digit_f (c : Int) : accountingref06_digit.f c = some (isDigit c) := words_digit_f c
theorem words_printable_f (c : Int) : words_printable.f c = some (isPrintable c) := by
  unfold words_printable.f isPrintable
  repeat' split
  all_goals (congr 1; rw [Bool.eq_iff_iff]; simp; omega)

def headDig : List UInt8 → Bool
  | [] => false
  | u :: _ => dg u
theorem words_digitAt_f (s : ByteArray) (i : Nat) : words_digitAt.f s (i : Int) = some (headDig (D s i)) := by
  unfold words_digitAt.f
  by_cases h : i < s.size
  · obtain ⟨u, hu, hb⟩ := D_cons h
    rw [if_pos (by omega), if_pos (by omega), words_digit_f, hb, hu]; rfl
  · rw [if_neg (by omega), D_end (by omega)]; rfl
theorem ref_follows_f (s : ByteArray) (i : Nat) : accountingref06_follows.f s (i : Int) = some (headDig (D s i)) := words_digitAt_f s i

/-- The length of the name at the begin. -/
def lenName : List UInt8 → Nat
  | [] => 0
  | u :: r => if cb u then lenName r + 1 else 0
def isSep (u : UInt8) : Bool := u == 46 || u == 47 || u == 45
/-- The length of what goes on with a number. -/
def numTail : List UInt8 → Nat
  | [] => 0
  | u :: r => if cb u || (isSep u && headDig r) then numTail r + 1 else 0
theorem lenName_le (l : List UInt8) : lenName l ≤ l.length := by
  induction l with
  | nil => simp [lenName]
  | cons u r ih => unfold lenName; split <;> simp <;> omega
theorem numTail_le (l : List UInt8) : numTail l ≤ l.length := by
  induction l with
  | nil => simp [numTail]
  | cons u r ih => unfold numTail; split <;> simp <;> omega

theorem nameEnd_ev (s : ByteArray) (hs : s.size ≤ 100000) : ∀ (n i : Nat), s.size - i = n → i ≤ s.size → Ev (fun k => words_nameEnd.l0 k s (i : Int)) ((i + lenName (D s i) : Nat) : Int) := by
  intro n
  induction n with
  | zero =>
    intro i hn hi
    refine Ev.step (fun k => words_nameEnd.l0.eq_2 _ _ k) ?_
    rw [D_end (by omega)]
    simp only [if_neg (show ¬ ((i : Int) < (s.size : Int)) by omega)]
    exact Ev.now _
  | succ n ih =>
    intro i hn hi
    have h : i < s.size := by omega
    obtain ⟨u, hu, hb⟩ := D_cons h
    refine Ev.step (fun k => words_nameEnd.l0.eq_2 _ _ k) ?_
    have hw : wrap64 ((i : Int) + 1) = ((i + 1 : Nat) : Int) := by rw [w64 (by omega) (by omega)]; omega
    have hi' := ih (i + 1) (by omega) (by omega)
    simp only [if_pos (show ((i : Int) < (s.size : Int)) by omega), if_pos (show (0 : Int) ≤ (i : Int) by omega), words_letter_f, words_digit_f, Option.bind_some, hb, hu, lenName, hw]
    cases h1 : isLetter (u.toNat : Int) <;> cases h2 : isDigit (u.toNat : Int) <;> simp only [show cb u = (isLetter (u.toNat : Int) || isDigit (u.toNat : Int)) from rfl, h1, h2, Bool.or_true, Bool.or_false, Bool.true_or, Bool.false_or, if_true, reduceIte, Bool.false_eq_true]
    case false.false => exact Ev.now _
    all_goals (rw [show i + (lenName (D s (i + 1)) + 1) = i + 1 + lenName (D s (i + 1)) by omega]; exact hi')

theorem refName_ev (s : ByteArray) (hs : s.size ≤ 100000) (i : Nat) (hi : i ≤ s.size) : Ev (fun k => accountingref06_name.l0 k s (i : Int)) ((i + lenName (D s i) : Nat) : Int) := by
  have e : ∀ k (x : Int), accountingref06_name.l0 k s x = words_nameEnd.l0 k s x := by
    intro k
    induction k with
    | zero => intro x; rfl
    | succ k ih => intro x; rw [accountingref06_name.l0, words_nameEnd.l0]; simp only [ih, ref_letter_f, ref_digit_f, words_letter_f, words_digit_f]
  exact Ev.congr (fun k => e k _) (nameEnd_ev s hs _ i rfl hi)

theorem numberEnd_ev (s : ByteArray) (hs : s.size ≤ 100000) : ∀ (n i : Nat), s.size - i = n → i ≤ s.size → Ev (fun k => words_numberEnd.l0 k s (i : Int)) ((i + numTail (D s i) : Nat) : Int) := by
  intro n
  induction n with
  | zero =>
    intro i hn hi
    refine Ev.step (fun k => words_numberEnd.l0.eq_2 _ _ k) ?_
    rw [D_end (by omega)]
    simp only [if_neg (show ¬ ((i : Int) < (s.size : Int)) by omega)]
    exact Ev.now _
  | succ n ih =>
    intro i hn hi
    have h : i < s.size := by omega
    obtain ⟨u, hu, hb⟩ := D_cons h
    have hw : wrap64 ((i : Int) + 1) = ((i + 1 : Nat) : Int) := by rw [w64 (by omega) (by omega)]; omega
    have hi' := ih (i + 1) (by omega) (by omega)
    have j1 : ∀ b : Bool, b = isSep u → Ev (fun k => words_numberEnd.j1 k s (i : Int) (u.toNat : Int) b) ((i + numTail (D s i) : Nat) : Int) := by
      rintro b rfl
      refine Ev.step (fun k => words_numberEnd.j1.eq_2 _ _ _ _ k) ?_
      simp only [hw, words_digitAt_f, words_letter_f, words_digit_f, Option.bind_some, hu, numTail]
      have hcb : cb u = (isLetter (u.toNat : Int) || isDigit (u.toNat : Int)) := rfl
      cases hq : isSep u
      · have j2 : ∀ b : Bool, Ev (fun k => words_numberEnd.j2 k s (i : Int) b) (if b then ((i + (numTail (D s (i + 1)) + 1) : Nat) : Int) else (i : Int)) := by
          intro b
          refine Ev.step (fun k => words_numberEnd.j2.eq_2 _ _ _ k) ?_
          cases b
          · exact Ev.now _
          · simp only [hw, if_true]
            rw [show i + (numTail (D s (i + 1)) + 1) = i + 1 + numTail (D s (i + 1)) by omega]; exact hi'
        cases h1 : isLetter (u.toNat : Int)
        · have := j2 (isDigit (u.toNat : Int))
          cases h2 : isDigit (u.toNat : Int) <;> simpa [h1, h2, hcb] using this
        · have := j2 true
          simpa [h1, hcb] using this
      · have hc : isLetter (u.toNat : Int) = false ∧ isDigit (u.toNat : Int) = false := by
          have : u = 46 ∨ u = 47 ∨ u = 45 := by simpa [isSep, or_assoc] using hq
          rcases this with rfl | rfl | rfl <;> decide
        rw [hc.1, hc.2] at hcb
        cases h3 : headDig (D s (i + 1))
        · simp [hcb]; exact Ev.now _
        · simp [hcb]
          rw [show (i : Int) + ((numTail (D s (i + 1)) : Int) + 1) = ((i + 1 + numTail (D s (i + 1)) : Nat) : Int) by omega]; exact hi'
    refine Ev.step (fun k => words_numberEnd.l0.eq_2 _ _ k) ?_
    simp only [if_pos (show ((i : Int) < (s.size : Int)) by omega), if_pos (show (0 : Int) ≤ (i : Int) by omega), hb]
    by_cases h46 : (u.toNat : Int) = 46
    · simp only [if_pos h46]
      exact j1 true (by have : u = 46 := UInt8.toNat_inj.mp (by show u.toNat = 46; omega)
                        subst this; rfl)
    · simp only [if_neg h46]
      by_cases h47 : (u.toNat : Int) = 47
      · simp only [if_pos h47]
        exact j1 true (by have : u = 47 := UInt8.toNat_inj.mp (by show u.toNat = 47; omega)
                          subst this; rfl)
      · simp only [if_neg h47]
        refine j1 _ ?_
        rw [Bool.eq_iff_iff]
        simp only [isSep, beq_iff_eq, Bool.or_eq_true]
        constructor
        · intro e; exact .inr (UInt8.toNat_inj.mp (by show u.toNat = 45; omega))
        · rintro ((rfl | rfl) | rfl)
          · exact absurd rfl h46
          · exact absurd rfl h47
          · rfl

theorem refNumber_ev (s : ByteArray) (hs : s.size ≤ 100000) : ∀ (n i : Nat), s.size - i = n → i ≤ s.size → Ev (fun k => accountingref06_number.l0 k s (i : Int)) ((i + numTail (D s i) : Nat) : Int) := by
  intro n
  induction n with
  | zero =>
    intro i hn hi
    refine Ev.step (fun k => accountingref06_number.l0.eq_2 _ _ k) ?_
    rw [D_end (by omega)]
    simp only [if_neg (show ¬ ((i : Int) < (s.size : Int)) by omega)]
    exact Ev.now _
  | succ n ih =>
    intro i hn hi
    have h : i < s.size := by omega
    obtain ⟨u, hu, hb⟩ := D_cons h
    have hw : wrap64 ((i : Int) + 1) = ((i + 1 : Nat) : Int) := by rw [w64 (by omega) (by omega)]; omega
    have hi' := ih (i + 1) (by omega) (by omega)
    have hi2 : Ev (fun k => accountingref06_number.l0 k s ((i + 1 : Nat) : Int)) ((i + (numTail (D s (i + 1)) + 1) : Nat) : Int) := by
      rw [show i + (numTail (D s (i + 1)) + 1) = i + 1 + numTail (D s (i + 1)) by omega]; exact hi'
    refine Ev.step (fun k => accountingref06_number.l0.eq_2 _ _ k) ?_
    simp only [if_pos (show ((i : Int) < (s.size : Int)) by omega), if_pos (show (0 : Int) ≤ (i : Int) by omega), hb, ref_letter_f, ref_digit_f, Option.bind_some, hw, ref_follows_f, hu, numTail]
    have hcb : cb u = (isLetter (u.toNat : Int) || isDigit (u.toNat : Int)) := rfl
    cases h1 : isLetter (u.toNat : Int)
    · cases h2 : isDigit (u.toNat : Int)
      · have sep : isSep u = decide ((u.toNat : Int) = 46 ∨ (u.toNat : Int) = 47 ∨ (u.toNat : Int) = 45) := by
          rw [Bool.eq_iff_iff]
          simp only [isSep, beq_iff_eq, Bool.or_eq_true, decide_eq_true_eq, ← UInt8.toNat_inj]
          simp
          omega
        rw [sep]
        cases h3 : headDig (D s (i + 1)) <;> by_cases h46 : (u.toNat : Int) = 46 <;> by_cases h47 : (u.toNat : Int) = 47 <;> by_cases h45 : (u.toNat : Int) = 45 <;> simp [h46, h47, h45, h1, h2, hcb] <;> first | exact Ev.now _ | simpa using hi2
      · simpa [h1, h2, hcb] using hi2
    · simpa [h1, hcb] using hi2
end Go.Proofs.Ytlcjajcjoflpkaa.Sp

/- What the functions of the layer 'words' and of its reference compute, byte by byte: signs and quoted texts. -/
namespace Go.Proofs.Ytlcjajcjoflpkaa.Sp
set_option linter.unusedSimpArgs false
set_option linter.unusedVariables false
open Go.RowKit Go.Proofs.Ytlcjajcjoflpkaa.P Go.Proofs.YtlcjajcjoflpkaaW.PrintWords Go.Proofs.YtlcjajcjoflpkaaW.PrintLast

def sign2 : List UInt8 → Bool
  | u :: v :: _ => (u == 60 && v == 61) || (u == 62 && v == 61) || (u == 33 && v == 61) || (u == 46 && v == 46)
  | _ => false
def ones : List UInt8 := [40, 41, 123, 125, 91, 93, 44, 59, 58, 61, 43, 45, 42, 47, 60, 62, 124, 38, 33, 64, 37]
def sign1 : List UInt8 → Bool
  | u :: _ => ones.contains u
  | _ => false
def signLen (l : List UInt8) : Nat := if sign2 l then 2 else if sign1 l then 1 else 0

theorem u8_eq (u : UInt8) (n : Nat) (h : n < 256) : ((u.toNat : Int) = (n : Int)) ↔ u = UInt8.ofNat n := by
  rw [← UInt8.toNat_inj]
  simp [UInt8.toNat_ofNat']
  omega
theorem signEnd_j (s : ByteArray) (hs : s.size ≤ 100000) (i : Nat) (hi : i < s.size) : Ev (fun k => words_signEnd.j0 k s (i : Int)) ((i + (if sign1 (D s i) then 1 else 0) : Nat) : Int) := by
  obtain ⟨u, hu, hb⟩ := D_cons hi
  refine Ev.step (fun k => words_signEnd.j0.eq_2 _ _ k) ?_
  have hw : wrap64 ((i : Int) + 1) = ((i + 1 : Nat) : Int) := by rw [w64 (by omega) (by omega)]; omega
  simp only [if_pos (show ((i : Int) < (s.size : Int)) by omega), if_pos (show (0 : Int) ≤ (i : Int) by omega), hb, hw, hu, sign1]
  have e : ∀ (c : Int) (a b : Option Int), (if c = 40 then a else if c = 41 then a else if c = 123 then a else if c = 125 then a else if c = 91 then a else if c = 93 then a else if c = 44 then a else if c = 59 then a else if c = 58 then a else if c = 61 then a else if c = 43 then a else if c = 45 then a else if c = 42 then a else if c = 47 then a else if c = 60 then a else if c = 62 then a else if c = 124 then a else if c = 38 then a else if c = 33 then a else if c = 64 then a else if c = 37 then a else b) = if [40, 41, 123, 125, 91, 93, 44, 59, 58, 61, 43, 45, 42, 47, 60, 62, 124, 38, 33, 64, 37].contains c then a else b := by
    intro c a b
    by_cases h : [40, 41, 123, 125, 91, 93, 44, 59, 58, 61, 43, 45, 42, 47, 60, 62, 124, 38, 33, 64, 37].contains c = true
    · rw [if_pos h]
      simp only [List.contains_eq_mem, List.mem_cons, decide_eq_true_eq, List.not_mem_nil, or_false] at h
      rcases h with rfl | rfl | rfl | rfl | rfl | rfl | rfl | rfl | rfl | rfl | rfl | rfl | rfl | rfl | rfl | rfl | rfl | rfl | rfl | rfl | rfl <;> rfl
    · rw [if_neg h]
      simp only [List.contains_eq_mem, List.mem_cons, decide_eq_true_eq, List.not_mem_nil, or_false, not_or] at h
      obtain ⟨h1, h2, h3, h4, h5, h6, h7, h8, h9, h10, h11, h12, h13, h14, h15, h16, h17, h18, h19, h20, h21⟩ := h
      rw [if_neg h1, if_neg h2, if_neg h3, if_neg h4, if_neg h5, if_neg h6, if_neg h7, if_neg h8, if_neg h9, if_neg h10, if_neg h11, if_neg h12, if_neg h13, if_neg h14, if_neg h15, if_neg h16, if_neg h17, if_neg h18, if_neg h19, if_neg h20, if_neg h21]
  simp only [e]
  have hc : ([40, 41, 123, 125, 91, 93, 44, 59, 58, 61, 43, 45, 42, 47, 60, 62, 124, 38, 33, 64, 37] : List Int).contains (u.toNat : Int) = ones.contains u := by
    have : ∀ v : UInt8, ([40, 41, 123, 125, 91, 93, 44, 59, 58, 61, 43, 45, 42, 47, 60, 62, 124, 38, 33, 64, 37] : List Int).contains (v.toNat : Int) = ones.contains v := by
      intro v
      have := (fun (n : Fin 256) => (by revert n; decide +kernel : ([40, 41, 123, 125, 91, 93, 44, 59, 58, 61, 43, 45, 42, 47, 60, 62, 124, 38, 33, 64, 37] : List Int).contains ((UInt8.ofNat n.val).toNat : Int) = ones.contains (UInt8.ofNat n.val))) ⟨v.toNat, v.toNat_lt⟩
      simpa using this
    exact this u
  rw [hc]
  cases ones.contains u <;> exact Ev.now _
theorem toL {s : ByteArray} : s.toList = s.data.toList := ByteArray.toList_eq s
theorem ext2 (s : ByteArray) (i : Nat) (n : Nat) : (s.extract ((i : Int)).toNat (((i + n : Nat) : Int)).toNat).toList = (D s i).take n := by
  rw [toL, Int.toNat_natCast, Int.toNat_natCast, extract_D]
theorem D_two {s : ByteArray} {i : Nat} (h : i + 1 < s.size) : ∃ u v, D s i = u :: v :: D s (i + 2) := by
  obtain ⟨u, hu, _⟩ := D_cons (show i < s.size by omega)
  obtain ⟨v, hv, _⟩ := D_cons h
  exact ⟨u, v, by rw [hu, hv]⟩
theorem D_short {s : ByteArray} {i : Nat} (h : ¬ i + 1 < s.size) : sign2 (D s i) = false := by
  by_cases h' : i < s.size
  · obtain ⟨u, hu, _⟩ := D_cons h'
    rw [hu, D_end (by omega)]; rfl
  · rw [D_end (by omega)]; rfl

theorem signEnd_ev (s : ByteArray) (hs : s.size ≤ 100000) (i : Nat) (hi : i < s.size) : Ev (fun k => words_signEnd.f k s (i : Int)) ((i + signLen (D s i) : Nat) : Int) := by
  have hj := signEnd_j s hs i hi
  have hw : wrap64 ((i : Int) + 2) = ((i + 2 : Nat) : Int) := by rw [w64 (by omega) (by omega)]; omega
  unfold words_signEnd.f
  by_cases h : i + 1 < s.size
  · obtain ⟨u, v, huv⟩ := D_two h
    simp only [hw, if_pos (show (((i + 2 : Nat) : Int) ≤ (s.size : Int)) by omega), if_pos (show (0 : Int) ≤ (i : Int) by omega), if_pos (show (i : Int) ≤ ((i + 2 : Nat) : Int) by omega), ext2]
    have h2 : (D s i).take 2 = [u, v] := by rw [huv]; rfl
    have e : ∀ (a b : UInt8), ([u, v] = [a, b]) = (u = a ∧ v = b) := fun a b => by simp
    simp only [h2, e, signLen]
    have hs2 : sign2 (D s i) = decide ((u = 60 ∧ v = 61) ∨ (u = 62 ∧ v = 61) ∨ (u = 33 ∧ v = 61) ∨ (u = 46 ∧ v = 46)) := by
      rw [huv]; simp only [sign2]; rw [Bool.eq_iff_iff]; simp [or_assoc]
    by_cases c1 : u = 60 ∧ v = 61
    · simp only [hs2, c1, true_or, decide_true, if_true, and_self]; exact Ev.now _
    by_cases c2 : u = 62 ∧ v = 61
    · simp only [hs2, if_neg c1, c2, true_or, or_true, decide_true, if_true, and_self]; exact Ev.now _
    by_cases c3 : u = 33 ∧ v = 61
    · simp only [hs2, if_neg c1, if_neg c2, c3, true_or, or_true, decide_true, if_true, and_self]; exact Ev.now _
    by_cases c4 : u = 46 ∧ v = 46
    · simp only [hs2, if_neg c1, if_neg c2, if_neg c3, c4, true_or, or_true, decide_true, if_true, and_self]; exact Ev.now _
    have : sign2 (D s i) = false := by rw [hs2, decide_eq_false_iff_not]; rintro (h | h | h | h) <;> contradiction
    simp only [if_neg c1, if_neg c2, if_neg c3, if_neg c4, this, Bool.false_eq_true, if_false]
    exact hj
  · simp only [hw, if_neg (show ¬ (((i + 2 : Nat) : Int) ≤ (s.size : Int)) by omega), signLen, D_short h, Bool.false_eq_true, if_false]
    exact hj

theorem in_ev (t : ByteArray) : ∀ (xs ys : List ByteArray), xs.length + ys.length ≤ 1000 → Ev (fun k => accountingref06_in.l0 k (xs ++ ys) t ((xs.length : Nat) : Int)) (ys.any fun x => x.toList == t.toList) := by
  intro xs ys
  induction ys generalizing xs with
  | nil =>
    intro hl
    refine Ev.step (fun k => accountingref06_in.l0.eq_2 _ _ _ k) ?_
    simp only [if_neg (show ¬ ((xs.length : Int) < ((xs ++ []).length : Int)) by simp)]
    exact Ev.now _
  | cons y ys ih =>
    intro hl
    have h1 : (xs.length : Int) < ((xs ++ y :: ys).length : Int) := by simp; omega
    have h2 : (0 : Int) ≤ (xs.length : Int) := by omega
    have h3 : rdOf ByteArray.empty (xs ++ y :: ys) (xs.length : Int) = y := by simp [rdOf]
    have hw : wrap64 ((xs.length : Int) + 1) = (((xs ++ [y]).length : Nat) : Int) := by simp at hl ⊢; rw [w64 (by omega) (by omega)]
    refine Ev.step (fun k => accountingref06_in.l0.eq_2 _ _ _ k) ?_
    simp only [if_pos h1, if_pos h2, h3, hw, List.any_cons]
    by_cases hy : y.toList = t.toList
    · simp only [if_pos hy, hy, beq_self_eq_true, Bool.true_or]; exact Ev.now _
    · have : (y.toList == t.toList) = false := by simpa using hy
      simp only [if_neg hy, this, Bool.false_or]
      have := ih (xs ++ [y]) (by simp at hl ⊢; omega)
      simpa using this
theorem refIn_ev (t : ByteArray) (ys : List ByteArray) (h : ys.length ≤ 1000) : Ev (fun k => accountingref06_in.f k ys t) (ys.any fun x => x.toList == t.toList) := in_ev t [] ys (by simpa using h)

theorem refSign_j (s : ByteArray) (hs : s.size ≤ 100000) (i : Nat) (hi : i < s.size) : Ev (fun k => accountingref06_sign.j0 k s (i : Int) false) (((if sign1 (D s i) then 1 else 0 : Nat)) : Int) := by
  obtain ⟨u, hu, hb⟩ := D_cons hi
  have hw : wrap64 ((i : Int) + 1) = ((i + 1 : Nat) : Int) := by rw [w64 (by omega) (by omega)]; omega
  refine Ev.step (fun k => accountingref06_sign.j0.eq_2 _ _ _ k) ?_
  simp only [hw, if_pos (show (0 : Int) ≤ (i : Int) by omega), if_pos (show (i : Int) ≤ ((i + 1 : Nat) : Int) by omega), if_pos (show ((i + 1 : Nat) : Int) ≤ (s.size : Int) by omega), Bool.false_eq_true, if_false]
  refine Ev.bind (refIn_ev _ _ ?_) ?_
  · simp only [List.length_cons, List.length_nil]; omega
  have : (List.any [(⟨#[40]⟩ : ByteArray), (⟨#[41]⟩ : ByteArray), (⟨#[123]⟩ : ByteArray), (⟨#[125]⟩ : ByteArray), (⟨#[91]⟩ : ByteArray), (⟨#[93]⟩ : ByteArray), (⟨#[44]⟩ : ByteArray), (⟨#[59]⟩ : ByteArray), (⟨#[58]⟩ : ByteArray), (⟨#[61]⟩ : ByteArray), (⟨#[43]⟩ : ByteArray), (⟨#[45]⟩ : ByteArray), (⟨#[42]⟩ : ByteArray), (⟨#[47]⟩ : ByteArray), (⟨#[60]⟩ : ByteArray), (⟨#[62]⟩ : ByteArray), (⟨#[124]⟩ : ByteArray), (⟨#[38]⟩ : ByteArray), (⟨#[33]⟩ : ByteArray), (⟨#[64]⟩ : ByteArray), (⟨#[37]⟩ : ByteArray)] fun x => x.toList == (s.extract ((i : Int)).toNat (((i + 1 : Nat) : Int)).toNat).toList) = sign1 (D s i) := by
    rw [ext2, hu]
    have : (u :: D s (i + 1)).take 1 = [u] := rfl
    rw [this]
    simp only [sign1, ones, List.any_cons, List.any_nil, List.contains_cons, List.contains_nil, toL, Bool.or_false]
    have e : ∀ a : UInt8, ([a] == [u]) = (u == a) := fun a => by rw [Bool.eq_iff_iff]; simp; exact ⟨Eq.symm, Eq.symm⟩
    simp only [e]
  rw [this]
  cases sign1 (D s i) <;> exact Ev.now _
theorem refSign_ev (s : ByteArray) (hs : s.size ≤ 100000) (i : Nat) (hi : i < s.size) : Ev (fun k => accountingref06_sign.f k s (i : Int)) ((signLen (D s i) : Nat) : Int) := by
  have hj := refSign_j s hs i hi
  have hw : wrap64 ((i : Int) + 2) = ((i + 2 : Nat) : Int) := by rw [w64 (by omega) (by omega)]; omega
  have hw1 : wrap64 ((i : Int) + 1) = ((i + 1 : Nat) : Int) := by rw [w64 (by omega) (by omega)]; omega
  unfold accountingref06_sign.f
  by_cases h : i + 1 < s.size
  · obtain ⟨u, v, huv⟩ := D_two h
    simp only [hw, hw1, if_pos (show (((i + 1 : Nat) : Int) < (s.size : Int)) by omega), if_pos (show (((i + 2 : Nat) : Int) ≤ (s.size : Int)) by omega), if_pos (show (0 : Int) ≤ (i : Int) by omega), if_pos (show (i : Int) ≤ ((i + 2 : Nat) : Int) by omega)]
    refine Ev.bind (refIn_ev _ _ ?_) ?_
    · simp only [List.length_cons, List.length_nil]; omega
    have : (List.any [(⟨#[60, 61]⟩ : ByteArray), (⟨#[62, 61]⟩ : ByteArray), (⟨#[33, 61]⟩ : ByteArray), (⟨#[46, 46]⟩ : ByteArray)] fun x => x.toList == (s.extract ((i : Int)).toNat (((i + 2 : Nat) : Int)).toNat).toList) = sign2 (D s i) := by
      rw [ext2, huv]
      have : (u :: v :: D s (i + 2)).take 2 = [u, v] := rfl
      rw [this]
      simp only [sign2, List.any_cons, List.any_nil, toL, Bool.or_false]
      have e : ∀ a b : UInt8, ([a, b] == [u, v]) = (u == a && v == b) := fun a b => by rw [Bool.eq_iff_iff]; simp; exact ⟨fun ⟨x, y⟩ => ⟨x.symm, y.symm⟩, fun ⟨x, y⟩ => ⟨x.symm, y.symm⟩⟩
      simp only [e, Bool.or_assoc]
    rw [this]
    cases hq : sign2 (D s i)
    · simp only [signLen, hq, Bool.false_eq_true, if_false]; exact hj
    · refine Ev.step (fun k => accountingref06_sign.j0.eq_2 _ _ _ k) ?_
      simp only [signLen, hq, if_true]; exact Ev.now _
  · simp only [hw1, if_neg (show ¬ (((i + 1 : Nat) : Int) < (s.size : Int)) by omega), signLen, D_short h, Bool.false_eq_true, if_false]
    exact hj

/-- What stands behind an opening quotation mark: the text, how many bytes, and what is wrong (5: a byte, 6: no end). -/
def qt : List UInt8 → List UInt8 × Nat × Nat
  | [] => ([], 0, 6)
  | [u] => if u = 34 then ([], 1, 0) else if u = 92 then ([], 0, 5) else if isPrintable u.toNat then ([u], 1, 6) else ([], 0, 5)
  | u :: v :: r => if u = 34 then ([], 1, 0) else if u = 92 then (if v = 34 ∨ v = 92 then (v :: (qt r).1, (qt r).2.1 + 2, (qt r).2.2) else ([], 0, 5))
    else if isPrintable u.toNat then (u :: (qt (v :: r)).1, (qt (v :: r)).2.1 + 1, (qt (v :: r)).2.2) else ([], 0, 5)
theorem qt_end (r : List UInt8) : qt (34 :: r) = ([], 1, 0) := by cases r <;> simp [qt]
theorem qt_plain (u : UInt8) (r : List UInt8) (h1 : ¬ u = 34) (h2 : ¬ u = 92) (h3 : isPrintable u.toNat = true) : qt (u :: r) = (u :: (qt r).1, (qt r).2.1 + 1, (qt r).2.2) := by
  cases r with
  | nil => simp [qt, h1, h2, h3]
  | cons v r => simp only [qt, if_neg h1, if_neg h2, if_pos h3]
theorem qt_bad (u : UInt8) (r : List UInt8) (h1 : ¬ u = 34) (h2 : ¬ u = 92) (h3 : isPrintable u.toNat = false) : qt (u :: r) = ([], 0, 5) := by
  cases r with
  | nil => simp [qt, h1, h2, h3]
  | cons v r => simp [qt, if_neg h1, if_neg h2, h3]
theorem qt_esc (v : UInt8) (r : List UInt8) (h : v = 34 ∨ v = 92) : qt (92 :: v :: r) = (v :: (qt r).1, (qt r).2.1 + 2, (qt r).2.2) := by
  simp only [qt, if_neg (show ¬ (92 : UInt8) = 34 by decide), if_true, if_pos h]
theorem qt_esc_no (r : List UInt8) (h : ∀ v r', r = v :: r' → ¬ (v = 34 ∨ v = 92)) : qt (92 :: r) = ([], 0, 5) := by
  cases r with
  | nil => simp [qt]
  | cons v r => simp only [qt, if_neg (show ¬ (92 : UInt8) = 34 by decide), if_true, if_neg (h v r rfl)]
theorem qt_le : ∀ (n : Nat) (l : List UInt8), l.length ≤ n → (qt l).1.length ≤ l.length ∧ (qt l).2.1 ≤ l.length ∧ ((qt l).2.2 = 0 → (qt l).1.length + 1 ≤ (qt l).2.1) := by
  intro n
  induction n with
  | zero => intro l hl; obtain rfl : l = [] := List.length_eq_zero_iff.mp (by omega); simp [qt]
  | succ n ih =>
    intro l hl
    cases l with
    | nil => simp [qt]
    | cons u r =>
      by_cases h1 : u = 34
      · subst h1; rw [qt_end]; simp
      by_cases h2 : u = 92
      · subst h2
        by_cases h : ∃ v r', r = v :: r' ∧ (v = 34 ∨ v = 92)
        · obtain ⟨v, r', rfl, hv⟩ := h
          rw [qt_esc v r' hv]
          have := ih r' (by simp at hl; omega)
          simp at this ⊢; omega
        · rw [qt_esc_no r (fun v r' e hv => h ⟨v, r', e, hv⟩)]; simp
      cases h3 : isPrintable (u.toNat : Int)
      · rw [qt_bad u r h1 h2 h3]; simp
      · rw [qt_plain u r h1 h2 h3]
        have := ih r (by simp at hl; omega)
        simp at this ⊢; omega
def toI (l : List UInt8) : List Int := l.map fun u => (u.toNat : Int)
theorem strOf_toI (l : List UInt8) : strOfNums (toI l) = ⟨l.toArray⟩ := by
  unfold strOfNums toI
  rw [List.map_map]
  have : ((fun n : Int => UInt8.ofNat n.toNat) ∘ fun u : UInt8 => (u.toNat : Int)) = id := by funext u; simp
  rw [this, List.map_id]
theorem u_eq (u : UInt8) (n : Nat) (h : n < 256) : (((u.toNat : Nat) : Int) = (n : Int)) = (u = UInt8.ofNat n) := propext (u8_eq u n h)
theorem c34 (u : UInt8) : (((u.toNat : Nat) : Int) = 34) = (u = 34) := u_eq u 34 (by omega)
theorem c92 (u : UInt8) : (((u.toNat : Nat) : Int) = 92) = (u = 92) := u_eq u 92 (by omega)
/-- The answer of the quoted text whose bytes from j on are told by q, what is before is acc. -/
def qAns (i j : Nat) (acc : List UInt8) (q : List UInt8 × Nat × Nat) : ByteArray × Int × Int × Int :=
  if q.2.2 = 0 then (⟨(acc ++ q.1).toArray⟩, ((j + q.2.1 : Nat) : Int), 0, 0) else if q.2.2 = 6 then (⟨#[]⟩, 0, (i : Int), 6) else (⟨#[]⟩, 0, ((j + q.2.1 : Nat) : Int), 5)
theorem qAns_step (i j n : Nat) (acc : List UInt8) (v : UInt8) (q : List UInt8 × Nat × Nat) : qAns i (j + n) (acc ++ [v]) q = qAns i j acc (v :: q.1, q.2.1 + n, q.2.2) := by
  unfold qAns
  simp only [List.append_assoc, List.singleton_append, show j + n + q.2.1 = j + (q.2.1 + n) by omega]
theorem toI_snoc (l : List UInt8) (v : UInt8) : toI l ++ [(v.toNat : Int)] = toI (l ++ [v]) := by simp [toI]

theorem quoted_ev (s : ByteArray) (hs : s.size ≤ 100000) (i : Nat) : ∀ (n j : Nat) (acc : List UInt8), s.size - j ≤ n → j ≤ s.size → acc.length ≤ j → Ev (fun k => words_quoted.l0 k s (i : Int) (toI acc) (j : Int) 0 0) (qAns i j acc (qt (D s j))) := by
  intro n
  induction n with
  | zero =>
    intro j acc hn hj ha
    refine Ev.step (fun k => words_quoted.l0.eq_2 _ _ _ _ _ _ k) ?_
    rw [D_end (by omega)]
    simp only [if_neg (show ¬ ((j : Int) < (s.size : Int)) by omega)]
    exact Ev.now _
  | succ n ih =>
    intro j acc hn hj ha
    by_cases h : j < s.size
    case neg =>
      refine Ev.step (fun k => words_quoted.l0.eq_2 _ _ _ _ _ _ k) ?_
      rw [D_end (by omega)]
      simp only [if_neg (show ¬ ((j : Int) < (s.size : Int)) by omega)]
      exact Ev.now _
    obtain ⟨u, hu, hb⟩ := D_cons h
    have hw : wrap64 ((j : Int) + 1) = ((j + 1 : Nat) : Int) := by rw [w64 (by omega) (by omega)]; omega
    have hw2 : wrap64 (((j + 1 : Nat) : Int) + 1) = ((j + 2 : Nat) : Int) := by rw [w64 (by omega) (by omega)]; omega
    have hw3 : wrap64 (((j + 1 : Nat) : Int) - 1) = (j : Int) := by rw [w64 (by omega) (by omega)]; omega
    have hl : (toI acc).length < 140737488355328 := by simp [toI]; omega
    refine Ev.step (fun k => words_quoted.l0.eq_2 _ _ _ _ _ _ k) ?_
    simp only [if_pos (show ((j : Int) < (s.size : Int)) by omega), if_pos (show (0 : Int) ≤ (j : Int) by omega), hb, hw, hw2, hw3, c34, c92, if_pos hl, words_printable_f, Option.bind_some, toI_snoc, strOf_toI]
    by_cases h1 : u = 34
    · subst h1
      rw [hu, qt_end]
      simp only [if_true]
      have : qAns i j acc ([], 1, 0) = (⟨acc.toArray⟩, ((j + 1 : Nat) : Int), 0, 0) := by simp [qAns]
      rw [this]; exact Ev.now _
    simp only [if_neg h1]
    by_cases h2 : u = 92
    · subst h2
      simp only [if_true]
      by_cases h3 : j + 1 < s.size
      · obtain ⟨v, hv, hbv⟩ := D_cons h3
        simp only [if_neg (show ¬ (((j + 1 : Nat) : Int) ≥ (s.size : Int)) by omega), if_pos (show (0 : Int) ≤ ((j + 1 : Nat) : Int) by omega), if_pos (show (((j + 1 : Nat) : Int) < (s.size : Int)) by omega), hbv, c34, c92, toI_snoc]
        have hi := ih (j + 2) (acc ++ [v]) (by omega) (by omega) (by simp; omega)
        rw [qAns_step i j 2 acc v] at hi
        by_cases h4 : v = 34
        · simp only [if_pos h4]
          rw [hu, hv, qt_esc v _ (.inl h4)]; exact hi
        simp only [if_neg h4]
        by_cases h5 : v = 92
        · simp only [if_pos h5]
          rw [hu, hv, qt_esc v _ (.inr h5)]; exact hi
        simp only [if_neg h5]
        rw [hu, hv, qt_esc_no _ (by rintro v' r' e; obtain ⟨rfl, _⟩ := List.cons.inj e; exact not_or.mpr ⟨h4, h5⟩)]
        exact Ev.now _
      · simp only [if_pos (show (((j + 1 : Nat) : Int) ≥ (s.size : Int)) by omega)]
        rw [hu, D_end (show s.size ≤ j + 1 by omega), qt_esc_no _ (by intro v' r' e; cases e)]
        exact Ev.now _
    simp only [if_neg h2]
    cases h3 : isPrintable (u.toNat : Int)
    · rw [hu, qt_bad u _ h1 h2 h3]
      exact Ev.now _
    · simp only [if_true]
      have hi := ih (j + 1) (acc ++ [u]) (by omega) (by omega) (by simp; omega)
      rw [qAns_step i j 1 acc u] at hi
      rw [hu, qt_plain u _ h1 h2 h3]; exact hi

/-- The reference asks of the length at the closing mark. -/
def qAnsR (i j : Nat) (acc : List UInt8) (q : List UInt8 × Nat × Nat) : ByteArray × Int × Int × Int :=
  if q.2.2 = 0 then (if (acc ++ q.1).length > 60 then (⟨#[]⟩, 0, (i : Int), 9) else (⟨(acc ++ q.1).toArray⟩, ((j + q.2.1 : Nat) : Int), 0, 0)) else if q.2.2 = 6 then (⟨#[]⟩, 0, (i : Int), 6) else (⟨#[]⟩, 0, ((j + q.2.1 : Nat) : Int), 5)
theorem qAnsR_step (i j n : Nat) (acc : List UInt8) (v : UInt8) (q : List UInt8 × Nat × Nat) : qAnsR i (j + n) (acc ++ [v]) q = qAnsR i j acc (v :: q.1, q.2.1 + n, q.2.2) := by
  unfold qAnsR
  simp only [List.append_assoc, List.singleton_append, show j + n + q.2.1 = j + (q.2.1 + n) by omega]
theorem refText_ev (s : ByteArray) (hs : s.size ≤ 100000) (i : Nat) : ∀ (n j : Nat) (acc : List UInt8), s.size - j ≤ n → j ≤ s.size → acc.length ≤ j → Ev (fun k => accountingref06_text.l0 k s (i : Int) (toI acc) (j : Int)) (qAnsR i j acc (qt (D s j))) := by
  intro n
  induction n with
  | zero =>
    intro j acc hn hj ha
    refine Ev.step (fun k => accountingref06_text.l0.eq_2 _ _ _ _ k) ?_
    rw [D_end (by omega)]
    simp only [if_neg (show ¬ ((j : Int) < (s.size : Int)) by omega)]
    exact Ev.now _
  | succ n ih =>
    intro j acc hn hj ha
    by_cases h : j < s.size
    case neg =>
      refine Ev.step (fun k => accountingref06_text.l0.eq_2 _ _ _ _ k) ?_
      rw [D_end (by omega)]
      simp only [if_neg (show ¬ ((j : Int) < (s.size : Int)) by omega)]
      exact Ev.now _
    obtain ⟨u, hu, hb⟩ := D_cons h
    have hw : wrap64 ((j : Int) + 1) = ((j + 1 : Nat) : Int) := by rw [w64 (by omega) (by omega)]; omega
    have hw2 : wrap64 (((j + 1 : Nat) : Int) + 1) = ((j + 2 : Nat) : Int) := by rw [w64 (by omega) (by omega)]; omega
    have hl : (toI acc).length < 140737488355328 := by simp [toI]; omega
    have hlen : (toI acc).length = acc.length := by simp [toI]
    refine Ev.step (fun k => accountingref06_text.l0.eq_2 _ _ _ _ k) ?_
    simp only [if_pos (show ((j : Int) < (s.size : Int)) by omega), if_pos (show (0 : Int) ≤ (j : Int) by omega), hb, hw, c34, strOf_toI, hlen]
    by_cases h1 : u = 34
    · subst h1
      rw [hu, qt_end]
      simp only [if_true]
      by_cases h6 : (acc.length : Int) > 60
      · have : qAnsR i j acc ([], 1, 0) = (⟨#[]⟩, 0, (i : Int), 9) := by simp [qAnsR]; omega
        rw [this]; simp only [if_pos h6]; exact Ev.now _
      · have : qAnsR i j acc ([], 1, 0) = (⟨acc.toArray⟩, ((j + 1 : Nat) : Int), 0, 0) := by simp [qAnsR]; omega
        rw [this]; simp only [if_neg h6]; exact Ev.now _
    simp only [if_neg h1]
    have hp : isPrintable (u.toNat : Int) = decide (32 ≤ (u.toNat : Int) ∧ (u.toNat : Int) ≤ 126) := rfl
    have j1 : Ev (fun k => accountingref06_text.j1 k s (i : Int) (toI acc) (j : Int) (u.toNat : Int) (!(isPrintable (u.toNat : Int)))) (qAnsR i j acc (qt (D s j))) := by
      refine Ev.step (fun k => accountingref06_text.j1.eq_2 _ _ _ _ _ _ k) ?_
      simp only [hw, hw2, c92, if_pos hl, toI_snoc]
      by_cases h2 : u = 92
      · subst h2
        simp only [show (!(isPrintable (((92 : UInt8).toNat : Nat) : Int))) = false from by decide, Bool.false_eq_true, if_false, if_true]
        by_cases h3 : j + 1 < s.size
        · obtain ⟨v, hv, hbv⟩ := D_cons h3
          simp only [if_neg (show ¬ (((j + 1 : Nat) : Int) ≥ (s.size : Int)) by omega), if_pos (show (0 : Int) ≤ ((j + 1 : Nat) : Int) by omega), if_pos (show (((j + 1 : Nat) : Int) < (s.size : Int)) by omega), hbv, c34, c92, toI_snoc]
          have hi := ih (j + 2) (acc ++ [v]) (by omega) (by omega) (by simp; omega)
          rw [qAnsR_step i j 2 acc v] at hi
          by_cases h4 : v = 34
          · simp only [if_pos h4]
            rw [hu, hv, qt_esc v _ (.inl h4)]; exact hi
          simp only [if_neg h4]
          by_cases h5 : v = 92
          · simp only [if_pos h5]
            rw [hu, hv, qt_esc v _ (.inr h5)]; exact hi
          simp only [if_neg h5]
          rw [hu, hv, qt_esc_no _ (by rintro v' r' e; obtain ⟨rfl, _⟩ := List.cons.inj e; exact not_or.mpr ⟨h4, h5⟩)]
          exact Ev.now _
        · simp only [if_pos (show (((j + 1 : Nat) : Int) ≥ (s.size : Int)) by omega)]
          rw [hu, D_end (show s.size ≤ j + 1 by omega), qt_esc_no _ (by intro v' r' e; cases e)]
          exact Ev.now _
      cases h3 : isPrintable (u.toNat : Int)
      · rw [hu, qt_bad u _ h1 h2 h3]
        exact Ev.now _
      · simp only [Bool.not_true, Bool.false_eq_true, if_false, if_neg h2]
        have hi := ih (j + 1) (acc ++ [u]) (by omega) (by omega) (by simp; omega)
        rw [qAnsR_step i j 1 acc u] at hi
        rw [hu, qt_plain u _ h1 h2 h3]; exact hi
    by_cases h7 : (u.toNat : Int) < 32
    · simp only [if_pos h7]
      rw [hp, decide_eq_false (by omega)] at j1; exact j1
    · simp only [if_neg h7]
      have : decide ((u.toNat : Int) > 126) = !(isPrintable (u.toNat : Int)) := by
        rw [hp, Bool.eq_iff_iff]; simp; omega
      rw [this]; exact j1
end Go.Proofs.Ytlcjajcjoflpkaa.Sp

/- What the two word functions and the two Cuts compute: the words of a line. -/
namespace Go.Proofs.Ytlcjajcjoflpkaa.Sp
open Go.RowKit Go.Proofs.Ytlcjajcjoflpkaa.P Go.Proofs.YtlcjajcjoflpkaaW.PrintWords Go.Proofs.YtlcjajcjoflpkaaW.PrintLast
set_option linter.unusedSimpArgs false
set_option linter.unusedVariables false

structure Wd where
  kind : Nat
  text : List UInt8
  n : Nat
  off : Nat
  err : Nat
/-- The word at the begin. -/
def wordL : List UInt8 → Wd
  | [] => ⟨0, [], 0, 0, 5⟩
  | u :: r =>
    if u = 34 then (if (qt r).2.2 = 0 then (if (qt r).1.length ≤ 60 then ⟨3, (qt r).1, (qt r).2.1 + 1, 0, 0⟩ else ⟨3, [], 0, 0, 9⟩) else if (qt r).2.2 = 6 then ⟨3, [], 0, 0, 6⟩ else ⟨3, [], 0, (qt r).2.1 + 1, 5⟩)
    else if lt u then (if lenName (u :: r) ≤ 12 then ⟨1, (u :: r).take (lenName (u :: r)), lenName (u :: r), 0, 0⟩ else ⟨1, [], 0, 0, 9⟩)
    else if dg u || (u == 45 && headDig r) then (if numTail r + 1 ≤ 60 then ⟨2, (u :: r).take (numTail r + 1), numTail r + 1, 0, 0⟩ else ⟨2, [], 0, 0, 9⟩)
    else if signLen (u :: r) = 0 then ⟨4, [], 0, 0, 5⟩ else ⟨4, (u :: r).take (signLen (u :: r)), signLen (u :: r), 0, 0⟩
theorem signLen_le (l : List UInt8) : signLen l ≤ 2 ∧ signLen l ≤ l.length := by
  unfold signLen
  split
  · rename_i h
    match l, h with
    | u :: v :: r, _ => simp
    | [], h => simp [sign2] at h
    | [u], h => simp [sign2] at h
  · split
    · rename_i h
      match l, h with
      | u :: r, _ => simp
      | [], h => simp [sign1] at h
    · omega
theorem wordL_n (l : List UInt8) (h : (wordL l).err = 0) : 1 ≤ (wordL l).n ∧ (wordL l).n ≤ l.length := by
  cases l with
  | nil => simp [wordL] at h
  | cons u r =>
    unfold wordL at h ⊢
    by_cases h1 : u = 34
    · simp only [if_pos h1] at h ⊢
      by_cases h2 : (qt r).2.2 = 0
      · simp only [if_pos h2] at h ⊢
        have := qt_le r.length r (Nat.le_refl _)
        split <;> simp_all
      · simp only [if_neg h2] at h
        split at h <;> simp at h
    · simp only [if_neg h1] at h ⊢
      by_cases h2 : lt u = true
      · simp only [if_pos h2] at h ⊢
        have hl := lenName_le (u :: r)
        have h1 : 1 ≤ lenName (u :: r) := by
          have : cb u = true := by have : lt u = true := h2; simp [cb, lt] at this ⊢; simp [this]
          simp [lenName, this]
        split <;> simp_all
      · simp only [if_neg h2] at h ⊢
        have hn := numTail_le r
        by_cases h3 : (dg u || (u == 45 && headDig r)) = true
        · simp only [if_pos h3] at h ⊢
          split <;> simp_all
        · simp only [if_neg h3] at h ⊢
          have := signLen_le (u :: r)
          by_cases h4 : signLen (u :: r) = 0
          · simp only [if_pos h4] at h; simp at h
          · simp only [if_neg h4]; omega
theorem ev_told {α : Type} {g : Nat → Option α} {P : α → Prop} {R : α} (h : Ev g R) (hp : P R) : ∃ R, Ev g R ∧ P R := ⟨R, h, hp⟩
/-- The answer R at i is the one that W tells. -/
def Told (i : Nat) (W : Wd) (R : Int × ByteArray × Int × Int × Int × Int) : Prop :=
  R.2.2.2.2.2 = (W.err : Int) ∧ (W.err = 0 → R.1 = (W.kind : Int) ∧ R.2.1 = ⟨W.text.toArray⟩ ∧ R.2.2.1 = (i : Int) ∧ R.2.2.2.1 = ((i + W.n : Nat) : Int)) ∧ (W.err ≠ 0 → R.2.2.2.2.1 = ((i + W.off : Nat) : Int))
theorem extract_eq (s : ByteArray) (i n : Nat) : s.extract ((i : Int)).toNat (((i + n : Nat) : Int)).toNat = ⟨((D s i).take n).toArray⟩ := by
  rw [Int.toNat_natCast, Int.toNat_natCast]
  apply ByteArray.ext
  apply Array.ext'
  rw [extract_D]

theorem fin_ev (s : ByteArray) (i n kind most : Nat) (h : i + n ≤ s.size) : words_word.fin s (i : Int) (kind : Int) ((i + n : Nat) : Int) (most : Int) = if n ≤ most then some ((kind : Int), ⟨((D s i).take n).toArray⟩, (i : Int), ((i + n : Nat) : Int), 0, 0) else some ((kind : Int), ⟨((D s i).take n).toArray⟩, (i : Int), ((i + n : Nat) : Int), (i : Int), 9) := by
  unfold words_word.fin
  rw [if_pos (by omega), if_pos (by omega), extract_eq, Int.toNat_natCast, Int.toNat_natCast]
  by_cases hm : n ≤ most
  · rw [if_pos hm, if_pos (by omega)]
  · rw [if_neg hm, if_neg (by omega)]

theorem number_word (s : ByteArray) (hs : s.size ≤ 100000) (i : Nat) (h : i < s.size) (u : UInt8) (hu : D s i = u :: D s (i + 1)) :
    Ev (fun k => words_word.number k s (i : Int)) (if numTail (D s (i + 1)) + 1 ≤ 60 then (2, ⟨((D s i).take (numTail (D s (i + 1)) + 1)).toArray⟩, (i : Int), ((i + (numTail (D s (i + 1)) + 1) : Nat) : Int), 0, 0) else (2, ⟨((D s i).take (numTail (D s (i + 1)) + 1)).toArray⟩, (i : Int), ((i + (numTail (D s (i + 1)) + 1) : Nat) : Int), (i : Int), 9)) := by
  unfold words_word.number words_numberEnd.f
  have hw : wrap64 ((i : Int) + 1) = ((i + 1 : Nat) : Int) := by rw [w64 (by omega) (by omega)]; omega
  simp only [hw]
  refine Ev.bind (numberEnd_ev s hs _ (i + 1) rfl (by omega)) ?_
  have hn := numTail_le (D s (i + 1))
  rw [D_len] at hn
  have hf := fin_ev s i (numTail (D s (i + 1)) + 1) 2 60 (by omega)
  rw [show i + 1 + numTail (D s (i + 1)) = i + (numTail (D s (i + 1)) + 1) by omega]
  simp only [show ((2 : Int)) = ((2 : Nat) : Int) from rfl, show ((60 : Int)) = ((60 : Nat) : Int) from rfl, hf]
  split <;> exact Ev.now _
theorem sign_word (s : ByteArray) (hs : s.size ≤ 100000) (i : Nat) (h : i < s.size) :
    Ev (fun k => words_word.sign k s (i : Int)) (if signLen (D s i) = 0 then (4, ⟨#[]⟩, (i : Int), (i : Int), (i : Int), 5) else (4, ⟨((D s i).take (signLen (D s i))).toArray⟩, (i : Int), ((i + signLen (D s i) : Nat) : Int), 0, 0)) := by
  unfold words_word.sign
  refine Ev.bind (signEnd_ev s hs i h) ?_
  have hl := signLen_le (D s i)
  rw [D_len] at hl
  have hf := fin_ev s i (signLen (D s i)) 4 60 (by omega)
  rw [if_pos (by omega)] at hf
  by_cases h0 : signLen (D s i) = 0
  · simp only [h0, Nat.add_zero, if_true]; exact Ev.now _
  · simp only [if_neg h0, if_neg (show ¬ (((i + signLen (D s i) : Nat) : Int) = (i : Int)) by omega)]
    simp only [show ((4 : Int)) = ((4 : Nat) : Int) from rfl, show ((60 : Int)) = ((60 : Nat) : Int) from rfl, hf]
    exact Ev.now _
theorem word_ev (s : ByteArray) (hs : s.size ≤ 100000) (i : Nat) (h : i < s.size) : ∃ R, Ev (fun k => words_word.f k s (i : Int)) R ∧ Told i (wordL (D s i)) R := by
  obtain ⟨u, hu, hb⟩ := D_cons h
  have hw : wrap64 ((i : Int) + 1) = ((i + 1 : Nat) : Int) := by rw [w64 (by omega) (by omega)]; omega
  have hnum := number_word s hs i h u hu
  have hsign := sign_word s hs i h
  unfold words_word.f
  simp only [if_pos (show ((i : Int) < (s.size : Int)) by omega), if_pos (show (0 : Int) ≤ (i : Int) by omega), hb, words_letter_f, words_digit_f, Option.bind_some, hw, words_digitAt_f, c34]
  have c45 : (((u.toNat : Nat) : Int) = 45) = (u = 45) := u_eq u 45 (by omega)
  simp only [c45]
  have hlt : isLetter (u.toNat : Int) = lt u := rfl
  have hdg : isDigit (u.toNat : Int) = dg u := rfl
  rw [hlt, hdg]
  by_cases h34 : u = 34
  · subst h34
    have e1 : lt 34 = false := by decide
    have e2 : dg 34 = false := by decide
    simp only [e1, e2, Bool.false_eq_true, if_false, show ¬ (34 : UInt8) = 45 by decide, if_true]
    have hq := quoted_ev s hs i _ (i + 1) [] (Nat.le_refl _) (by omega) (by simp)
    have hq' : Ev (fun k => words_quoted.f k s (i : Int)) (qAns i (i + 1) [] (qt (D s (i + 1)))) := by
      unfold words_quoted.f
      simp only [hw]
      exact hq
    rw [hu]
    unfold words_word.quote
    generalize hQ : qt (D s (i + 1)) = q at hq' ⊢
    have hW : wordL (34 :: D s (i + 1)) = if q.2.2 = 0 then (if q.1.length ≤ 60 then ⟨3, q.1, q.2.1 + 1, 0, 0⟩ else ⟨3, [], 0, 0, 9⟩) else if q.2.2 = 6 then ⟨3, [], 0, 0, 6⟩ else ⟨3, [], 0, q.2.1 + 1, 5⟩ := by simp only [wordL, if_true, hQ]
    rw [hW]
    by_cases g0 : q.2.2 = 0
    · have ha : qAns i (i + 1) [] q = (⟨q.1.toArray⟩, ((i + 1 + q.2.1 : Nat) : Int), 0, 0) := by simp [qAns, g0]
      rw [ha] at hq'
      simp only [if_pos g0]
      have hsz : (((⟨q.1.toArray⟩ : ByteArray).size : Nat) : Int) = (q.1.length : Int) := by simp [ByteArray.size]
      by_cases g1 : q.1.length ≤ 60
      · simp only [if_pos g1]
        apply ev_told
        · apply Ev.bind hq'
          simp only [if_true, hsz, if_pos (show (q.1.length : Int) ≤ 60 by omega)]; exact Ev.now _
        · refine ⟨rfl, fun _ => ⟨rfl, rfl, rfl, ?_⟩, fun h => absurd rfl h⟩
          show ((i + 1 + q.2.1 : Nat) : Int) = _
          simp only; omega
      · simp only [if_neg g1]
        apply ev_told
        · apply Ev.bind hq'
          simp only [if_true, hsz, if_neg (show ¬ (q.1.length : Int) ≤ 60 by omega)]; exact Ev.now _
        · exact ⟨rfl, fun h => by simp at h, fun _ => by simp⟩
    · simp only [if_neg g0]
      by_cases g6 : q.2.2 = 6
      · have ha : qAns i (i + 1) [] q = (⟨#[]⟩, 0, (i : Int), 6) := by simp [qAns, g6]
        rw [ha] at hq'
        simp only [if_pos g6]
        apply ev_told
        · apply Ev.bind hq'
          simp only [show ¬ ((6 : Int) = 0) by decide, if_false]; exact Ev.now _
        · exact ⟨rfl, fun h => by simp at h, fun _ => by simp⟩
      · have ha : qAns i (i + 1) [] q = (⟨#[]⟩, 0, ((i + 1 + q.2.1 : Nat) : Int), 5) := by simp [qAns, g0, g6]
        rw [ha] at hq'
        simp only [if_neg g6]
        apply ev_told
        · apply Ev.bind hq'
          simp only [show ¬ ((5 : Int) = 0) by decide, if_false]; exact Ev.now _
        · exact ⟨rfl, fun h => by simp at h, fun _ => by simp only; omega⟩
  have hW : wordL (D s i) = if lt u then (if lenName (D s i) ≤ 12 then ⟨1, (D s i).take (lenName (D s i)), lenName (D s i), 0, 0⟩ else ⟨1, [], 0, 0, 9⟩)
    else if dg u || (u == 45 && headDig (D s (i + 1))) then (if numTail (D s (i + 1)) + 1 ≤ 60 then ⟨2, (D s i).take (numTail (D s (i + 1)) + 1), numTail (D s (i + 1)) + 1, 0, 0⟩ else ⟨2, [], 0, 0, 9⟩)
    else if signLen (D s i) = 0 then ⟨4, [], 0, 0, 5⟩ else ⟨4, (D s i).take (signLen (D s i)), signLen (D s i), 0, 0⟩ := by rw [hu]; simp only [wordL, if_neg h34]
  rw [hW]
  cases h1 : lt u
  case true =>
    simp only [if_true]
    have hn := lenName_le (D s i)
    rw [D_len] at hn
    have hf := fin_ev s i (lenName (D s i)) 1 12 (by omega)
    have he := nameEnd_ev s hs _ i rfl (by omega)
    by_cases g : lenName (D s i) ≤ 12
    · rw [if_pos g] at hf
      simp only [if_pos g]
      apply ev_told
      · apply Ev.bind (g := fun k => words_nameEnd.f k s (i : Int)) he
        simp only [show ((1 : Int)) = ((1 : Nat) : Int) from rfl, show ((12 : Int)) = ((12 : Nat) : Int) from rfl, hf]; exact Ev.now _
      · exact ⟨rfl, fun _ => ⟨rfl, rfl, rfl, rfl⟩, fun h => absurd rfl h⟩
    · rw [if_neg g] at hf
      simp only [if_neg g]
      apply ev_told
      · apply Ev.bind (g := fun k => words_nameEnd.f k s (i : Int)) he
        simp only [show ((1 : Int)) = ((1 : Nat) : Int) from rfl, show ((12 : Int)) = ((12 : Nat) : Int) from rfl, hf]; exact Ev.now _
      · exact ⟨rfl, fun h => by simp at h, fun _ => by simp⟩
  simp only [Bool.false_eq_true, if_false]
  have num : ∃ R, Ev (fun k => words_word.number k s (i : Int)) R ∧ Told i (if numTail (D s (i + 1)) + 1 ≤ 60 then ⟨2, (D s i).take (numTail (D s (i + 1)) + 1), numTail (D s (i + 1)) + 1, 0, 0⟩ else ⟨2, [], 0, 0, 9⟩) R := by
    refine ⟨_, hnum, ?_⟩
    split
    · exact ⟨rfl, fun _ => ⟨rfl, rfl, rfl, rfl⟩, fun h => absurd rfl h⟩
    · exact ⟨rfl, fun h => by simp at h, fun _ => by simp⟩
  have sgn : ∃ R, Ev (fun k => words_word.sign k s (i : Int)) R ∧ Told i (if signLen (D s i) = 0 then ⟨4, [], 0, 0, 5⟩ else ⟨4, (D s i).take (signLen (D s i)), signLen (D s i), 0, 0⟩) R := by
    refine ⟨_, hsign, ?_⟩
    split
    · exact ⟨rfl, fun h => by simp at h, fun _ => by simp⟩
    · exact ⟨rfl, fun _ => ⟨rfl, rfl, rfl, rfl⟩, fun h => absurd rfl h⟩
  cases h2 : dg u
  case true => simpa using num
  by_cases h45 : u = 45
  · subst h45
    cases h3 : headDig (D s (i + 1))
    · simpa [h3] using sgn
    · simpa [h3] using num
  · simpa [h45, h34] using sgn

theorem ref_word_ev (s : ByteArray) (hs : s.size ≤ 100000) (i : Nat) (h : i < s.size) : ∃ R, Ev (fun k => accountingref06_word.f k s (i : Int)) R ∧ Told i (wordL (D s i)) R := by
  obtain ⟨u, hu, hb⟩ := D_cons h
  have hw : wrap64 ((i : Int) + 1) = ((i + 1 : Nat) : Int) := by rw [w64 (by omega) (by omega)]; omega
  unfold accountingref06_word.f
  simp only [if_pos (show ((i : Int) < (s.size : Int)) by omega), if_pos (show (0 : Int) ≤ (i : Int) by omega), hb, ref_letter_f, ref_digit_f, Option.bind_some, hw, ref_follows_f, c34]
  have c45 : (((u.toNat : Nat) : Int) = 45) = (u = 45) := u_eq u 45 (by omega)
  simp only [c45]
  have hlt : isLetter (u.toNat : Int) = lt u := rfl
  have hdg : isDigit (u.toNat : Int) = dg u := rfl
  rw [hlt, hdg]
  by_cases h34 : u = 34
  · subst h34
    simp only [if_true]
    have hq := refText_ev s hs i _ (i + 1) [] (Nat.le_refl _) (by omega) (by simp)
    have hq' : Ev (fun k => accountingref06_text.f k s (i : Int)) (qAnsR i (i + 1) [] (qt (D s (i + 1)))) := by
      unfold accountingref06_text.f
      simp only [hw]
      exact hq
    refine ⟨_, Ev.bind hq' (Ev.now _), ?_⟩
    rw [hu]
    generalize hQ : qt (D s (i + 1)) = q
    have hW : wordL (34 :: D s (i + 1)) = if q.2.2 = 0 then (if q.1.length ≤ 60 then ⟨3, q.1, q.2.1 + 1, 0, 0⟩ else ⟨3, [], 0, 0, 9⟩) else if q.2.2 = 6 then ⟨3, [], 0, 0, 6⟩ else ⟨3, [], 0, q.2.1 + 1, 5⟩ := by simp only [wordL, if_true, hQ]
    rw [hW]
    unfold qAnsR
    by_cases g0 : q.2.2 = 0
    · simp only [if_pos g0, List.nil_append]
      by_cases g1 : q.1.length ≤ 60
      · simp only [if_pos g1, if_neg (show ¬ (q.1.length > 60) by omega)]
        exact ⟨rfl, fun _ => ⟨rfl, rfl, rfl, by simp only; omega⟩, fun h => absurd rfl h⟩
      · simp only [if_neg g1, if_pos (show (q.1.length > 60) by omega)]
        exact ⟨rfl, fun h => by simp at h, fun _ => by simp⟩
    · simp only [if_neg g0]
      by_cases g6 : q.2.2 = 6
      · simp only [if_pos g6]
        exact ⟨rfl, fun h => by simp at h, fun _ => by simp⟩
      · simp only [if_neg g6]
        exact ⟨rfl, fun h => by simp at h, fun _ => by simp only; omega⟩
  have hW : wordL (D s i) = if lt u then (if lenName (D s i) ≤ 12 then ⟨1, (D s i).take (lenName (D s i)), lenName (D s i), 0, 0⟩ else ⟨1, [], 0, 0, 9⟩)
    else if dg u || (u == 45 && headDig (D s (i + 1))) then (if numTail (D s (i + 1)) + 1 ≤ 60 then ⟨2, (D s i).take (numTail (D s (i + 1)) + 1), numTail (D s (i + 1)) + 1, 0, 0⟩ else ⟨2, [], 0, 0, 9⟩)
    else if signLen (D s i) = 0 then ⟨4, [], 0, 0, 5⟩ else ⟨4, (D s i).take (signLen (D s i)), signLen (D s i), 0, 0⟩ := by rw [hu]; simp only [wordL, if_neg h34]
  rw [hW]
  simp only [if_neg h34]
  have sub : ∀ n : Nat, n ≤ 100000 → wrap64 (((i + n : Nat) : Int) - (i : Int)) = (n : Int) := fun n hn => by rw [w64 (by omega) (by omega)]; omega
  cases h1 : lt u
  case true =>
    simp only [if_true]
    have hn := lenName_le (D s i)
    rw [D_len] at hn
    have he := refName_ev s hs i (by omega)
    by_cases g : lenName (D s i) ≤ 12
    · simp only [if_pos g]
      apply ev_told
      · apply Ev.bind (g := fun k => accountingref06_name.f k s (i : Int)) he
        simp only [sub _ (show lenName (D s i) ≤ 100000 by omega), if_neg (show ¬ ((lenName (D s i) : Int) > 12) by omega), if_pos (show (i : Int) ≤ ((i + lenName (D s i) : Nat) : Int) by omega), if_pos (show ((i + lenName (D s i) : Nat) : Int) ≤ (s.size : Int) by omega), extract_eq]; exact Ev.now _
      · exact ⟨rfl, fun _ => ⟨rfl, rfl, rfl, rfl⟩, fun h => absurd rfl h⟩
    · simp only [if_neg g]
      apply ev_told
      · apply Ev.bind (g := fun k => accountingref06_name.f k s (i : Int)) he
        simp only [sub _ (show lenName (D s i) ≤ 100000 by omega), if_pos (show ((lenName (D s i) : Int) > 12) by omega)]; exact Ev.now _
      · exact ⟨rfl, fun h => by simp at h, fun _ => by simp⟩
  simp only [Bool.false_eq_true, if_false]
  have num : ∃ R, Ev (fun k => accountingref06_word.j0 k s (i : Int) 12 true 1 (⟨#[]⟩ : ByteArray) (i : Int)) R ∧ Told i (if numTail (D s (i + 1)) + 1 ≤ 60 then ⟨2, (D s i).take (numTail (D s (i + 1)) + 1), numTail (D s (i + 1)) + 1, 0, 0⟩ else ⟨2, [], 0, 0, 9⟩) R := by
    have hn := numTail_le (D s (i + 1))
    rw [D_len] at hn
    have he : Ev (fun k => accountingref06_number.f k s (i : Int)) ((i + (numTail (D s (i + 1)) + 1) : Nat) : Int) := by
      unfold accountingref06_number.f
      simp only [hw]
      rw [show i + (numTail (D s (i + 1)) + 1) = i + 1 + numTail (D s (i + 1)) by omega]
      exact refNumber_ev s hs _ (i + 1) rfl (by omega)
    generalize hm : numTail (D s (i + 1)) + 1 = m at he hn ⊢
    by_cases g : m ≤ 60
    · simp only [if_pos g]
      apply ev_told
      · apply Ev.step (fun k => accountingref06_word.j0.eq_2 _ _ _ _ _ _ _ k)
        simp only [if_true]
        apply Ev.bind he
        simp only [sub m (by omega), if_neg (show ¬ ((m : Int) > 60) by omega), if_pos (show (0 : Int) ≤ (i : Int) by omega), if_pos (show (i : Int) ≤ ((i + m : Nat) : Int) by omega), if_pos (show ((i + m : Nat) : Int) ≤ (s.size : Int) by omega), extract_eq]; exact Ev.now _
      · exact ⟨rfl, fun _ => ⟨rfl, rfl, rfl, rfl⟩, fun h => absurd rfl h⟩
    · simp only [if_neg g]
      apply ev_told
      · apply Ev.step (fun k => accountingref06_word.j0.eq_2 _ _ _ _ _ _ _ k)
        simp only [if_true]
        apply Ev.bind he
        simp only [sub m (by omega), if_pos (show ((m : Int) > 60) by omega)]; exact Ev.now _
      · exact ⟨rfl, fun h => by simp at h, fun _ => by simp⟩
  have sgn : ∃ R, Ev (fun k => accountingref06_word.j0 k s (i : Int) 12 false 1 (⟨#[]⟩ : ByteArray) (i : Int)) R ∧ Told i (if signLen (D s i) = 0 then ⟨4, [], 0, 0, 5⟩ else ⟨4, (D s i).take (signLen (D s i)), signLen (D s i), 0, 0⟩) R := by
    have hl := signLen_le (D s i)
    rw [D_len] at hl
    have he := refSign_ev s hs i h
    have hwm : wrap64 ((i : Int) + ((signLen (D s i) : Nat) : Int)) = ((i + signLen (D s i) : Nat) : Int) := by rw [w64 (by omega) (by omega)]; omega
    by_cases g : signLen (D s i) = 0
    · simp only [if_pos g]
      apply ev_told
      · apply Ev.step (fun k => accountingref06_word.j0.eq_2 _ _ _ _ _ _ _ k)
        simp only [Bool.false_eq_true, if_false]
        apply Ev.bind he
        simp only [g, Int.natCast_zero, if_true]; exact Ev.now _
      · exact ⟨rfl, fun h => by simp at h, fun _ => by simp⟩
    · simp only [if_neg g]
      apply ev_told
      · apply Ev.step (fun k => accountingref06_word.j0.eq_2 _ _ _ _ _ _ _ k)
        simp only [Bool.false_eq_true, if_false]
        apply Ev.bind he
        simp only [if_neg (show ¬ ((signLen (D s i) : Int) = 0) by omega), hwm, sub _ (show signLen (D s i) ≤ 100000 by omega), if_neg (show ¬ ((signLen (D s i) : Int) > 12) by omega), if_pos (show (0 : Int) ≤ (i : Int) by omega), if_pos (show (i : Int) ≤ ((i + signLen (D s i) : Nat) : Int) by omega), if_pos (show ((i + signLen (D s i) : Nat) : Int) ≤ (s.size : Int) by omega), extract_eq]; exact Ev.now _
      · exact ⟨rfl, fun _ => ⟨rfl, rfl, rfl, rfl⟩, fun h => absurd rfl h⟩
  cases h2 : dg u
  case true => simpa using num
  by_cases h45 : u = 45
  · subst h45
    cases h3 : headDig (D s (i + 1))
    · simpa [h3] using sgn
    · simpa [h3] using num
  · simpa [h45, h34] using sgn

/-- The words of what is left, by the offset at which it begins: the words, the offset of the problem, the error. -/
def cutL : Nat → List UInt8 → Nat → List S39 × Nat × Nat
  | 0, _, _ => ([], 0, 0)
  | _ + 1, [], _ => ([], 0, 0)
  | f + 1, u :: r, i =>
    if u = 35 then ([], 0, 0) else if u = 32 then cutL f r (i + 1)
    else if (wordL (u :: r)).err = 0 then
      (if (cutL f ((u :: r).drop (wordL (u :: r)).n) (i + (wordL (u :: r)).n)).2.2 = 0 then ((⟨((wordL (u :: r)).kind : Int), ⟨(wordL (u :: r)).text.toArray⟩, (i : Int)⟩ : S39) :: (cutL f ((u :: r).drop (wordL (u :: r)).n) (i + (wordL (u :: r)).n)).1, 0, 0)
       else ([], (cutL f ((u :: r).drop (wordL (u :: r)).n) (i + (wordL (u :: r)).n)).2))
    else ([], i + (wordL (u :: r)).off, (wordL (u :: r)).err)
def cutAns (size : Nat) (acc : List S39) (c : List S39 × Nat × Nat) : List S39 × Int × Int := if c.2.2 = 0 then (acc ++ c.1, (size : Int), 0) else ([], (c.2.1 : Int), (c.2.2 : Int))
def cutS (s : ByteArray) : List S39 × Int × Int := if s.size > 400 then ([], 0, 9) else cutAns s.size [] (cutL (s.size + 1) (D s 0) 0)

theorem words_cut_ev (s : ByteArray) (hs : s.size ≤ 100000) : ∀ (f i : Nat) (acc : List S39), s.size - i < f → i ≤ s.size → acc.length ≤ i → Ev (fun k => words_Cut.l0 k s acc (i : Int)) (cutAns s.size acc (cutL f (D s i) i)) := by
  intro f
  induction f with
  | zero => intro i acc h; omega
  | succ f ih =>
    intro i acc hf hi ha
    refine Ev.step (fun k => words_Cut.l0.eq_2 _ _ _ k) ?_
    by_cases h : i < s.size
    case neg =>
      simp only [if_neg (show ¬ ((i : Int) < (s.size : Int)) by omega)]
      refine Ev.step (fun k => words_Cut.j1.eq_2 _ _ _ _ k) ?_
      rw [D_end (by omega)]
      have : cutAns s.size acc (cutL (f + 1) [] i) = (acc, (s.size : Int), 0) := by simp [cutAns, cutL]
      rw [this]
      simp only [Bool.false_eq_true, if_false]
      exact Ev.now _
    obtain ⟨u, hu, hb⟩ := D_cons h
    simp only [if_pos (show ((i : Int) < (s.size : Int)) by omega), if_pos (show (0 : Int) ≤ (i : Int) by omega), hb]
    have hw : wrap64 ((i : Int) + 1) = ((i + 1 : Nat) : Int) := by rw [w64 (by omega) (by omega)]; omega
    have c35 : (((u.toNat : Nat) : Int) != 35) = !decide (u = 35) := by
      rw [Bool.eq_iff_iff]; simp only [bne_iff_ne, ne_eq, u_eq u 35 (by omega), Bool.not_eq_true', decide_eq_false_iff_not]
      have := u_eq u 35 (by omega)
      rw [show (((35 : Nat) : Int)) = 35 from rfl] at this
      rw [this]; rfl
    have c32 : (((u.toNat : Nat) : Int) = 32) = (u = 32) := u_eq u 32 (by omega)
    rw [c35]
    refine Ev.step (fun k => words_Cut.j1.eq_2 _ _ _ _ k) ?_
    by_cases h35 : u = 35
    · have : cutAns s.size acc (cutL (f + 1) (D s i) i) = (acc, (s.size : Int), 0) := by rw [hu]; simp [cutAns, cutL, h35]
      rw [this]
      simp only [h35, decide_true, Bool.not_true, Bool.false_eq_true, if_false]
      exact Ev.now _
    simp only [h35, decide_false, Bool.not_false, if_true, if_pos (show ((i : Int) < (s.size : Int)) by omega), if_pos (show (0 : Int) ≤ (i : Int) by omega), hb, c32, hw]
    by_cases h32 : u = 32
    · simp only [if_pos h32]
      have hi' := ih (i + 1) acc (by omega) (by omega) (by omega)
      have : cutL (f + 1) (D s i) i = cutL f (D s (i + 1)) (i + 1) := by rw [hu]; simp only [cutL, if_neg h35, if_pos h32]
      rw [this]; exact hi'
    simp only [if_neg h32]
    obtain ⟨R, hR, ht1, ht2, ht3⟩ := word_ev s hs i h
    refine Ev.bind hR ?_
    have hc : cutL (f + 1) (D s i) i = if (wordL (D s i)).err = 0 then
      (if (cutL f ((D s i).drop (wordL (D s i)).n) (i + (wordL (D s i)).n)).2.2 = 0 then ((⟨((wordL (D s i)).kind : Int), ⟨(wordL (D s i)).text.toArray⟩, (i : Int)⟩ : S39) :: (cutL f ((D s i).drop (wordL (D s i)).n) (i + (wordL (D s i)).n)).1, 0, 0)
       else ([], (cutL f ((D s i).drop (wordL (D s i)).n) (i + (wordL (D s i)).n)).2))
      else ([], i + (wordL (D s i)).off, (wordL (D s i)).err) := by rw [hu]; simp only [cutL, if_neg h35, if_neg h32]
    rw [hc]
    by_cases he : (wordL (D s i)).err = 0
    · have hn := wordL_n (D s i) he
      rw [D_len] at hn
      obtain ⟨r1, r2, r3, r4⟩ := ht2 he
      have hi' := ih (i + (wordL (D s i)).n) (acc ++ [⟨((wordL (D s i)).kind : Int), ⟨(wordL (D s i)).text.toArray⟩, (i : Int)⟩]) (by omega) (by omega) (by simp; omega)
      simp only [ht1, he, Int.natCast_zero, if_true, r1, r2, r3, r4, if_pos (show acc.length < 4398046511104 by omega), D_drop]
      have : cutAns s.size (acc ++ [⟨((wordL (D s i)).kind : Int), ⟨(wordL (D s i)).text.toArray⟩, (i : Int)⟩]) (cutL f (D s (i + (wordL (D s i)).n)) (i + (wordL (D s i)).n)) = cutAns s.size acc (if (cutL f (D s (i + (wordL (D s i)).n)) (i + (wordL (D s i)).n)).2.2 = 0 then ((⟨((wordL (D s i)).kind : Int), ⟨(wordL (D s i)).text.toArray⟩, (i : Int)⟩ : S39) :: (cutL f (D s (i + (wordL (D s i)).n)) (i + (wordL (D s i)).n)).1, 0, 0)
       else ([], (cutL f (D s (i + (wordL (D s i)).n)) (i + (wordL (D s i)).n)).2)) := by
        unfold cutAns
        split
        · simp
        · rename_i hne; simp [hne]
      rw [this] at hi'
      exact hi'
    · simp only [ht1, if_neg he, if_neg (show ¬ (((wordL (D s i)).err : Int) = 0) by omega), ht3 he]
      have : cutAns s.size acc ([], i + (wordL (D s i)).off, (wordL (D s i)).err) = ([], ((i + (wordL (D s i)).off : Nat) : Int), ((wordL (D s i)).err : Int)) := by simp [cutAns, he]
      rw [this]
      exact Ev.now _
theorem words_Cut_ev (s : ByteArray) : Ev (fun k => words_Cut.f k s) (cutS s) := by
  unfold words_Cut.f cutS
  by_cases h : s.size > 400
  · simp only [if_pos h, if_pos (show (s.size : Int) > 400 by omega)]; exact Ev.now _
  · simp only [if_neg h, if_neg (show ¬ ((s.size : Int) > 400) by omega)]
    exact words_cut_ev s (by omega) (s.size + 1) 0 [] (by omega) (by omega) (by simp)

theorem accountingref06_cut_ev (s : ByteArray) (hs : s.size ≤ 100000) : ∀ (f i : Nat) (acc : List S39), s.size - i < f → i ≤ s.size → acc.length ≤ i → Ev (fun k => accountingref06_Cut.l0 k s acc (i : Int)) (cutAns s.size acc (cutL f (D s i) i)) := by
  intro f
  induction f with
  | zero => intro i acc h; omega
  | succ f ih =>
    intro i acc hf hi ha
    refine Ev.step (fun k => accountingref06_Cut.l0.eq_2 _ _ _ k) ?_
    by_cases h : i < s.size
    case neg =>
      simp only [if_neg (show ¬ ((i : Int) < (s.size : Int)) by omega)]
      refine Ev.step (fun k => accountingref06_Cut.j1.eq_2 _ _ _ _ k) ?_
      rw [D_end (by omega)]
      have : cutAns s.size acc (cutL (f + 1) [] i) = (acc, (s.size : Int), 0) := by simp [cutAns, cutL]
      rw [this]
      simp only [Bool.false_eq_true, if_false]
      exact Ev.now _
    obtain ⟨u, hu, hb⟩ := D_cons h
    simp only [if_pos (show ((i : Int) < (s.size : Int)) by omega), if_pos (show (0 : Int) ≤ (i : Int) by omega), hb]
    have hw : wrap64 ((i : Int) + 1) = ((i + 1 : Nat) : Int) := by rw [w64 (by omega) (by omega)]; omega
    have c35 : (((u.toNat : Nat) : Int) != 35) = !decide (u = 35) := by
      rw [Bool.eq_iff_iff]; simp only [bne_iff_ne, ne_eq, u_eq u 35 (by omega), Bool.not_eq_true', decide_eq_false_iff_not]
      have := u_eq u 35 (by omega)
      rw [show (((35 : Nat) : Int)) = 35 from rfl] at this
      rw [this]; rfl
    have c32 : (((u.toNat : Nat) : Int) = 32) = (u = 32) := u_eq u 32 (by omega)
    rw [c35]
    refine Ev.step (fun k => accountingref06_Cut.j1.eq_2 _ _ _ _ k) ?_
    by_cases h35 : u = 35
    · have : cutAns s.size acc (cutL (f + 1) (D s i) i) = (acc, (s.size : Int), 0) := by rw [hu]; simp [cutAns, cutL, h35]
      rw [this]
      simp only [h35, decide_true, Bool.not_true, Bool.false_eq_true, if_false]
      exact Ev.now _
    simp only [h35, decide_false, Bool.not_false, if_true, if_pos (show ((i : Int) < (s.size : Int)) by omega), if_pos (show (0 : Int) ≤ (i : Int) by omega), hb, c32, hw]
    by_cases h32 : u = 32
    · simp only [if_pos h32]
      have hi' := ih (i + 1) acc (by omega) (by omega) (by omega)
      have : cutL (f + 1) (D s i) i = cutL f (D s (i + 1)) (i + 1) := by rw [hu]; simp only [cutL, if_neg h35, if_pos h32]
      rw [this]; exact hi'
    simp only [if_neg h32]
    obtain ⟨R, hR, ht1, ht2, ht3⟩ := ref_word_ev s hs i h
    refine Ev.bind hR ?_
    have hc : cutL (f + 1) (D s i) i = if (wordL (D s i)).err = 0 then
      (if (cutL f ((D s i).drop (wordL (D s i)).n) (i + (wordL (D s i)).n)).2.2 = 0 then ((⟨((wordL (D s i)).kind : Int), ⟨(wordL (D s i)).text.toArray⟩, (i : Int)⟩ : S39) :: (cutL f ((D s i).drop (wordL (D s i)).n) (i + (wordL (D s i)).n)).1, 0, 0)
       else ([], (cutL f ((D s i).drop (wordL (D s i)).n) (i + (wordL (D s i)).n)).2))
      else ([], i + (wordL (D s i)).off, (wordL (D s i)).err) := by rw [hu]; simp only [cutL, if_neg h35, if_neg h32]
    rw [hc]
    by_cases he : (wordL (D s i)).err = 0
    · have hn := wordL_n (D s i) he
      rw [D_len] at hn
      obtain ⟨r1, r2, r3, r4⟩ := ht2 he
      have hi' := ih (i + (wordL (D s i)).n) (acc ++ [⟨((wordL (D s i)).kind : Int), ⟨(wordL (D s i)).text.toArray⟩, (i : Int)⟩]) (by omega) (by omega) (by simp; omega)
      simp only [ht1, he, Int.natCast_zero, if_true, r1, r2, r3, r4, if_pos (show acc.length < 4398046511104 by omega), D_drop]
      have : cutAns s.size (acc ++ [⟨((wordL (D s i)).kind : Int), ⟨(wordL (D s i)).text.toArray⟩, (i : Int)⟩]) (cutL f (D s (i + (wordL (D s i)).n)) (i + (wordL (D s i)).n)) = cutAns s.size acc (if (cutL f (D s (i + (wordL (D s i)).n)) (i + (wordL (D s i)).n)).2.2 = 0 then ((⟨((wordL (D s i)).kind : Int), ⟨(wordL (D s i)).text.toArray⟩, (i : Int)⟩ : S39) :: (cutL f (D s (i + (wordL (D s i)).n)) (i + (wordL (D s i)).n)).1, 0, 0)
       else ([], (cutL f (D s (i + (wordL (D s i)).n)) (i + (wordL (D s i)).n)).2)) := by
        unfold cutAns
        split
        · simp
        · rename_i hne; simp [hne]
      rw [this] at hi'
      exact hi'
    · simp only [ht1, if_neg he, if_neg (show ¬ (((wordL (D s i)).err : Int) = 0) by omega), ht3 he]
      have : cutAns s.size acc ([], i + (wordL (D s i)).off, (wordL (D s i)).err) = ([], ((i + (wordL (D s i)).off : Nat) : Int), ((wordL (D s i)).err : Int)) := by simp [cutAns, he]
      rw [this]
      exact Ev.now _
theorem accountingref06_Cut_ev (s : ByteArray) : Ev (fun k => accountingref06_Cut.f k s) (cutS s) := by
  unfold accountingref06_Cut.f cutS
  by_cases h : s.size > 400
  · simp only [if_pos h, if_pos (show (s.size : Int) > 400 by omega)]; exact Ev.now _
  · simp only [if_neg h, if_neg (show ¬ ((s.size : Int) > 400) by omega)]
    exact accountingref06_cut_ev s (by omega) (s.size + 1) 0 [] (by omega) (by omega) (by simp)
end Go.Proofs.Ytlcjajcjoflpkaa.Sp

/- The examples of the chapter; equal lists of words; codes and plain texts. -/
namespace Go.Proofs.Ytlcjajcjoflpkaa.Sp
open Go.RowKit Go.Proofs.Ytlcjajcjoflpkaa.P Go.Proofs.YtlcjajcjoflpkaaW.PrintWords Go.Proofs.YtlcjajcjoflpkaaW.PrintLast
set_option linter.unusedSimpArgs false
set_option linter.unusedVariables false

theorem lives_ev : Ev (fun k => accountinglaw06_lives.f k) true := Ev.of accountinglaw06_lives.mono accountinglaw06_lives.true_at
theorem lives_tail : Ev (fun k => (accountinglaw06_lives.f k).bind fun t => some t) true := Ev.bind lives_ev (Ev.now _)

theorem same_l0 (l : List S39) (hl : l.length ≤ 1000000) : ∀ (n i : Nat), l.length - i = n → i ≤ l.length → Ev (fun k => accountingref06_Same.l0 k l l (i : Int)) true := by
  intro n
  induction n with
  | zero =>
    intro i hn hi
    refine Ev.step (fun k => accountingref06_Same.l0.eq_2 _ _ _ k) ?_
    simp only [if_neg (show ¬ ((i : Int) < (l.length : Int)) by omega)]
    exact Ev.now _
  | succ n ih =>
    intro i hn hi
    refine Ev.step (fun k => accountingref06_Same.l0.eq_2 _ _ _ k) ?_
    have hw : wrap64 ((i : Int) + 1) = ((i + 1 : Nat) : Int) := by rw [w64 (by omega) (by omega)]; omega
    simp only [if_pos (show ((i : Int) < (l.length : Int)) by omega), if_pos (show (0 : Int) ≤ (i : Int) by omega), hw, beq_self_eq_true, Bool.not_true, Bool.or_false, Bool.false_eq_true, if_false]
    exact ih (i + 1) (by omega) (by omega)
theorem same_ev (l : List S39) (hl : l.length ≤ 1000000) : Ev (fun k => accountingref06_Same.f k l l) true := by
  unfold accountingref06_Same.f
  simp only [if_true]
  exact same_l0 l hl _ 0 rfl (by omega)

theorem refCode_l0 (s : ByteArray) (hs : s.size ≤ 100000) : ∀ (n i : Nat), s.size - i = n → i ≤ s.size → Ev (fun k => accountingref06_Code.l0 k s (i : Int)) (allFrom isCodeByte s i && (decide (0 < s.size) && decide (s.size ≤ 12))) := by
  intro n
  induction n with
  | zero =>
    intro i hn hi
    refine Ev.step (fun k => accountingref06_Code.l0.eq_2 _ _ k) ?_
    obtain rfl : i = s.size := by omega
    simp only [if_neg (show ¬ ((s.size : Int) < (s.size : Int)) by omega), allFrom_end, Bool.true_and]
    by_cases h : 0 < s.size
    · simp only [if_pos (show (s.size : Int) ≥ 1 by omega), h, decide_true, Bool.true_and]
      have : decide ((s.size : Int) ≤ 12) = decide (s.size ≤ 12) := by rw [Bool.eq_iff_iff]; simp; omega
      rw [this]; exact Ev.now _
    · simp only [if_neg (show ¬ (s.size : Int) ≥ 1 by omega), h, decide_false, Bool.false_and]; exact Ev.now _
  | succ n ih =>
    intro i hn hi
    refine Ev.step (fun k => accountingref06_Code.l0.eq_2 _ _ k) ?_
    have hw : wrap64 ((i : Int) + 1) = ((i + 1 : Nat) : Int) := by rw [w64 (by omega) (by omega)]; omega
    have hst := allFrom_step isCodeByte s i (by omega)
    have hor := isCodeByte_or (bt s (i : Int))
    simp only [if_pos (show ((i : Int) < (s.size : Int)) by omega), if_pos (show (0 : Int) ≤ (i : Int) by omega), hw, ref_letter_f, ref_digit_f, Option.bind_some]
    rw [hst, hor]
    have hi' := ih (i + 1) (by omega) (by omega)
    cases h1 : isLetter (bt s (i : Int)) <;> cases h2 : isDigit (bt s (i : Int)) <;> simp <;> first | exact Ev.now _ | simpa using hi'
theorem refPlain_l0 (s : ByteArray) (hs : s.size ≤ 100000) : ∀ (n i : Nat), s.size - i = n → i ≤ s.size → Ev (fun k => accountingref06_Plain.l0 k s (i : Int)) (allFrom isPrintable s i && decide (s.size ≤ 60)) := by
  intro n
  induction n with
  | zero =>
    intro i hn hi
    refine Ev.step (fun k => accountingref06_Plain.l0.eq_2 _ _ k) ?_
    obtain rfl : i = s.size := by omega
    simp only [if_neg (show ¬ ((s.size : Int) < (s.size : Int)) by omega), allFrom_end, Bool.true_and]
    have : decide ((s.size : Int) ≤ 60) = decide (s.size ≤ 60) := by rw [Bool.eq_iff_iff]; simp; omega
    rw [this]; exact Ev.now _
  | succ n ih =>
    intro i hn hi
    refine Ev.step (fun k => accountingref06_Plain.l0.eq_2 _ _ k) ?_
    have hw : wrap64 ((i : Int) + 1) = ((i + 1 : Nat) : Int) := by rw [w64 (by omega) (by omega)]; omega
    have hst := allFrom_step isPrintable s i (by omega)
    simp only [if_pos (show ((i : Int) < (s.size : Int)) by omega), if_pos (show (0 : Int) ≤ (i : Int) by omega), hw]
    rw [hst]
    have hi' := ih (i + 1) (by omega) (by omega)
    by_cases h1 : bt s (i : Int) < 32
    · simp only [if_pos h1]
      have : isPrintable (bt s (i : Int)) = false := decide_eq_false (by omega)
      rw [this]; exact Ev.now _
    simp only [if_neg h1]
    by_cases h2 : bt s (i : Int) > 126
    · simp only [if_pos h2]
      have : isPrintable (bt s (i : Int)) = false := decide_eq_false (by omega)
      rw [this]; exact Ev.now _
    simp only [if_neg h2]
    have : isPrintable (bt s (i : Int)) = true := decide_eq_true (by omega)
    rw [this]; simpa using hi'
def plainB (s : ByteArray) : Bool := decide (s.size ≤ 60) && allFrom isPrintable s 0
theorem refPlain_ev (s : ByteArray) (hs : s.size ≤ 100000) : Ev (fun k => accountingref06_Plain.f k s) (plainB s) := by
  have := refPlain_l0 s hs _ 0 rfl (by omega)
  rw [Bool.and_comm] at this
  exact this
theorem words_Plain_f (s : ByteArray) : words_Plain.f s = some (plainB s) := rfl
def codeB (s : ByteArray) : Bool := decide (0 < s.size) && (decide (s.size ≤ 12) && allFrom isCodeByte s 0)
theorem words_Code_f (s : ByteArray) : words_Code.f s = some (codeB s) := rfl
theorem refCode_ev (s : ByteArray) (hs : s.size ≤ 100000) : Ev (fun k => accountingref06_Code.f k s) (codeB s) := by
  have := refCode_l0 s hs _ 0 rfl (by omega)
  have e : (allFrom isCodeByte s 0 && (decide (0 < s.size) && decide (s.size ≤ 12))) = codeB s := by
    unfold codeB; rw [Bool.and_comm, Bool.and_assoc]
  rw [e] at this
  exact this

end Go.Proofs.Ytlcjajcjoflpkaa.Sp

/- How many words a line has. -/
namespace Go.Proofs.Ytlcjajcjoflpkaa.Sp
open Go.RowKit Go.Proofs.Ytlcjajcjoflpkaa.P Go.Proofs.YtlcjajcjoflpkaaW.PrintWords Go.Proofs.YtlcjajcjoflpkaaW.PrintLast
set_option linter.unusedSimpArgs false
set_option linter.unusedVariables false

theorem cutL_len (f : Nat) : ∀ (l : List UInt8) (i : Nat), (cutL f l i).1.length ≤ f := by
  induction f with
  | zero => intro l i; simp [cutL]
  | succ f ih =>
    intro l i
    cases l with
    | nil => simp [cutL]
    | cons u r =>
      unfold cutL
      split
      · simp
      · split
        · have := ih r (i + 1); omega
        · split
          · split
            · simp; exact ih _ _
            · simp
          · simp
theorem cutS_len (s : ByteArray) : (cutS s).1.length ≤ 1000 := by
  unfold cutS
  split
  · simp
  · unfold cutAns
    have := cutL_len (s.size + 1) (D s 0) 0
    split <;> simp <;> omega

end Go.Proofs.Ytlcjajcjoflpkaa.Sp

/- The quoted text of a plain text, as the program writes it. -/
namespace Go.Proofs.Ytlcjajcjoflpkaa.Sp
open Go.RowKit Go.Proofs.Ytlcjajcjoflpkaa.P Go.Proofs.YtlcjajcjoflpkaaW.PrintWords Go.Proofs.YtlcjajcjoflpkaaW.PrintLast
set_option linter.unusedSimpArgs false
set_option linter.unusedVariables false

/-! quotation -/
def esc : List UInt8 → List UInt8
  | [] => [34]
  | u :: r => if u = 34 ∨ u = 92 then 92 :: u :: esc r else u :: esc r
theorem esc_len (l : List UInt8) : (esc l).length ≤ 2 * l.length + 1 := by
  induction l with
  | nil => simp [esc]
  | cons u r ih => unfold esc; split <;> simp <;> omega
def quoteS (s : ByteArray) : ByteArray × Int := if plainB s then (⟨(34 :: esc (D s 0)).toArray⟩, 0) else (⟨#[]⟩, 5)
theorem toI_34 (acc : List UInt8) : toI acc ++ [34] = toI (acc ++ [34]) := by simp [toI]
theorem toI_92 (acc : List UInt8) : toI acc ++ [92] = toI (acc ++ [92]) := by simp [toI]

theorem words_quote_l0 (s : ByteArray) (hs : s.size ≤ 100000) : ∀ (n i : Nat) (acc : List UInt8), s.size - i = n → i ≤ s.size → acc.length ≤ 2 * i + 1 → Ev (fun k => words_Quote.l0 k s (toI acc) (s.size : Int) (i : Int)) (⟨(acc ++ esc (D s i)).toArray⟩, 0) := by
  intro n
  induction n with
  | zero =>
    intro i acc hn hi ha
    refine Ev.step (fun k => words_Quote.l0.eq_2 _ _ _ _ k) ?_
    have hl : (toI acc).length < 140737488355328 := by simp [toI]; omega
    simp only [if_neg (show ¬ ((i : Int) < (s.size : Int)) by omega), if_pos hl, toI_34, strOf_toI]
    rw [D_end (by omega)]
    exact Ev.now _
  | succ n ih =>
    intro i acc hn hi ha
    obtain ⟨u, hu, hb⟩ := D_cons (show i < s.size by omega)
    refine Ev.step (fun k => words_Quote.l0.eq_2 _ _ _ _ k) ?_
    have hw : wrap64 ((i : Int) + 1) = ((i + 1 : Nat) : Int) := by rw [w64 (by omega) (by omega)]; omega
    have hl : (toI acc).length < 140737488355328 := by simp [toI]; omega
    have hl2 : (toI (acc ++ [92])).length < 140737488355328 := by simp [toI]; omega
    simp only [if_pos (show ((i : Int) < (s.size : Int)) by omega), if_pos (show (0 : Int) ≤ (i : Int) by omega), hw, hb, c34, c92, if_pos hl, toI_92, Option.bind_some, if_pos hl2, toI_snoc]
    have h1 := ih (i + 1) (acc ++ [92] ++ [u]) (by omega) (by omega) (by simp; omega)
    have h2 := ih (i + 1) (acc ++ [u]) (by omega) (by omega) (by simp; omega)
    rw [hu]
    by_cases h34 : u = 34
    · simp only [if_pos h34]
      have : acc ++ esc (u :: D s (i + 1)) = acc ++ [92] ++ [u] ++ esc (D s (i + 1)) := by simp [esc, h34]
      rw [this]; exact h1
    simp only [if_neg h34]
    by_cases h92 : u = 92
    · simp only [if_pos h92]
      have : acc ++ esc (u :: D s (i + 1)) = acc ++ [92] ++ [u] ++ esc (D s (i + 1)) := by simp [esc, h92]
      rw [this]; exact h1
    simp only [if_neg h92]
    have : acc ++ esc (u :: D s (i + 1)) = acc ++ [u] ++ esc (D s (i + 1)) := by simp [esc, h34, h92]
    rw [this]; exact h2
theorem words_Quote_ev (s : ByteArray) (hs : s.size ≤ 100000) : Ev (fun k => words_Quote.f k s) (quoteS s) := by
  unfold words_Quote.f quoteS
  simp only [words_Plain_f, Option.bind_some]
  have h34 : ([34] : List Int) = toI [34] := rfl
  cases hp : plainB s
  · simp only [Bool.false_eq_true, if_false]; exact Ev.now _
  · simp only [if_true, h34]
    exact words_quote_l0 s hs _ 0 [34] rfl (by omega) (by simp)

end Go.Proofs.Ytlcjajcjoflpkaa.Sp

/- The notation of a word, and the program's line of some words. -/
namespace Go.Proofs.Ytlcjajcjoflpkaa.Sp
open Go.RowKit Go.Proofs.Ytlcjajcjoflpkaa.P Go.Proofs.YtlcjajcjoflpkaaW.PrintWords Go.Proofs.YtlcjajcjoflpkaaW.PrintLast
set_option linter.unusedSimpArgs false
set_option linter.unusedVariables false

/-- The notation of a word, and whether it is read as this word. -/
def notS (kind : Int) (s : ByteArray) : ByteArray × Bool :=
  if kind = 3 then (if plainB s then ((quoteS s).1, decide ((cutS (quoteS s).1).2.2 = 0 ∧ (cutS (quoteS s).1).1.length = 1 ∧ (rd_T39 (cutS (quoteS s).1).1 0).f0 = kind) && ((rd_T39 (cutS (quoteS s).1).1 0).f1).toList == s.toList) else (⟨#[]⟩, false))
  else (s, decide ((cutS s).2.2 = 0 ∧ (cutS s).1.length = 1 ∧ (rd_T39 (cutS s).1 0).f0 = kind) && ((rd_T39 (cutS s).1 0).f1).toList == s.toList)
theorem not_body (q s : ByteArray) (kind : Int) (c : List S39 × Int × Int) : (if c.2.2 = 0 then (if (c.1.length : Int) = 1 then (if 0 < (c.1.length : Int) then (if ((rd_T39 c.1 0).f0) = kind then (some (q, (((rd_T39 c.1 0).f1).toList == s.toList))) else (some (q, false))) else (none)) else (some (q, false))) else (some (q, false))) = some (q, decide (c.2.2 = 0 ∧ c.1.length = 1 ∧ (rd_T39 c.1 0).f0 = kind) && ((rd_T39 c.1 0).f1).toList == s.toList) := by
  by_cases h1 : c.2.2 = 0
  · by_cases h2 : c.1.length = 1
    · by_cases h3 : (rd_T39 c.1 0).f0 = kind
      · simp [h1, h2, h3]
      · simp [h1, h2, h3]
    · rw [if_pos h1, if_neg (show ¬ ((c.1.length : Int) = 1) by omega)]; simp [h2]
  · simp [h1]

theorem words_notation_ev (kind : Int) (s : ByteArray) (at_ : Int) (hs : s.size ≤ 100000) : Ev (fun k => words_notation.f k kind s at_) (notS kind s) := by
  unfold words_notation.f notS
  by_cases h3 : kind = 3
  · simp only [if_pos h3]
    refine Ev.bind (words_Quote_ev s hs) ?_
    cases hp : plainB s
    · have : quoteS s = (⟨#[]⟩, 5) := by unfold quoteS; rw [hp]; rfl
      simp only [this, show ¬ ((5 : Int) = 0) by decide, if_false, Bool.false_eq_true]; exact Ev.now _
    · have : (quoteS s).2 = 0 := by unfold quoteS; rw [hp]; rfl
      simp only [this, if_true]
      refine Ev.step (fun k => words_notation.j0.eq_2 _ _ _ _ k) ?_
      refine Ev.bind (words_Cut_ev _) ?_
      simp only [not_body]
      exact Ev.now _
  · simp only [if_neg h3]
    refine Ev.step (fun k => words_notation.j0.eq_2 _ _ _ _ k) ?_
    refine Ev.bind (words_Cut_ev _) ?_
    simp only [not_body]
    exact Ev.now _

theorem notS_size (kind : Int) (s : ByteArray) (hs : s.size ≤ 500) : (notS kind s).1.size ≤ 500 := by
  unfold notS
  split
  · split
    · rename_i h
      have h60 : s.size ≤ 60 := by unfold plainB at h; simp at h; exact h.1
      unfold quoteS
      rw [if_pos h]
      have := esc_len (D s 0)
      rw [D_len] at this
      simp [ByteArray.size]; omega
    · exact Nat.zero_le _
  · exact hs
def joinS : List S39 → Bool → ByteArray → ByteArray × Int
  | [], _, acc => if acc.size > 400 then (⟨#[]⟩, 9) else (acc, 0)
  | x :: xs, first, acc => if (notS x.f0 x.f1).2 then joinS xs false (if first then acc ++ (notS x.f0 x.f1).1 else (acc ++ (⟨#[32]⟩ : ByteArray)) ++ (notS x.f0 x.f1).1) else (⟨#[]⟩, 5)
theorem rd_at (xs ys : List S39) (y : S39) : rd_T39 (xs ++ y :: ys) (xs.length : Int) = y := by simp [rd_T39]

theorem words_join_l0 : ∀ (ys xs : List S39) (acc : ByteArray), (∀ y ∈ ys, y.f1.size ≤ 500) → xs.length + ys.length ≤ 1000 → acc.size ≤ 600 * xs.length → Ev (fun k => words_Join.l0 k acc (xs ++ ys) ((xs ++ ys).length : Int) (xs.length : Int)) (joinS ys (decide (xs.length = 0)) acc) := by
  intro ys
  induction ys with
  | nil =>
    intro xs acc hf hl ha
    refine Ev.step (fun k => words_Join.l0.eq_2 _ _ _ _ k) ?_
    simp only [if_neg (show ¬ ((xs.length : Int) < ((xs ++ []).length : Int)) by simp), joinS]
    by_cases h : acc.size > 400
    · simp only [if_pos h, if_pos (show (acc.size : Int) > 400 by omega)]; exact Ev.now _
    · simp only [if_neg h, if_neg (show ¬ (acc.size : Int) > 400 by omega)]; exact Ev.now _
  | cons y ys ih =>
    intro xs acc hf hl ha
    refine Ev.step (fun k => words_Join.l0.eq_2 _ _ _ _ k) ?_
    have h1 : (xs.length : Int) < ((xs ++ y :: ys).length : Int) := by simp; omega
    have hw : wrap64 ((xs.length : Int) + 1) = (((xs ++ [y]).length : Nat) : Int) := by simp at hl ⊢; rw [w64 (by omega) (by omega)]
    have hy := hf y (by simp)
    have hsz := notS_size y.f0 y.f1 hy
    simp only [if_pos h1, if_pos (show (0 : Int) ≤ (xs.length : Int) by omega), rd_at, hw]
    refine Ev.bind (words_notation_ev y.f0 y.f1 y.f2 (by omega)) ?_
    simp only [joinS]
    cases hn : (notS y.f0 y.f1).2
    · simp only [Bool.false_eq_true, if_false]; exact Ev.now _
    · simp only [if_true]
      have hl' : xs.length + (ys.length + 1) ≤ 1000 := hl
      by_cases h0 : xs.length = 0
      · have hsz2 : (acc ++ (notS y.f0 y.f1).1).size ≤ 600 * (xs ++ [y]).length := by simp; omega
        simp only [if_neg (show ¬ ((xs.length : Int) > 0) by omega), h0, decide_true, if_true, if_pos (show acc.size + (notS y.f0 y.f1).1.size ≤ 9223372036854775807 by omega)]
        have := ih (xs ++ [y]) (acc ++ (notS y.f0 y.f1).1) (fun z hz => hf z (by simp [hz])) (by simp; omega) hsz2
        simpa using this
      · have hsz2 : ((acc ++ (⟨#[32]⟩ : ByteArray)) ++ (notS y.f0 y.f1).1).size ≤ 600 * (xs ++ [y]).length := by
          have : (⟨#[32]⟩ : ByteArray).size = 1 := rfl
          simp [this]; omega
        have h32 : (acc ++ (⟨#[32]⟩ : ByteArray)).size = acc.size + 1 := by simp; rfl
        simp only [if_pos (show ((xs.length : Int) > 0) by omega), h0, decide_false, Bool.false_eq_true, if_false, h32, if_pos (show acc.size + 1 ≤ 9223372036854775807 by omega), if_pos (show acc.size + 1 + (notS y.f0 y.f1).1.size ≤ 9223372036854775807 by omega)]
        have := ih (xs ++ [y]) ((acc ++ (⟨#[32]⟩ : ByteArray)) ++ (notS y.f0 y.f1).1) (fun z hz => hf z (by simp [hz])) (by simp; omega) hsz2
        simpa using this
theorem words_Join_ev (l : List S39) (hf : ∀ y ∈ l, y.f1.size ≤ 500) (hl : l.length ≤ 1000) : Ev (fun k => words_Join.f k l) (joinS l true ⟨#[]⟩) := by
  have := words_join_l0 l [] ⟨#[]⟩ hf (by simpa using hl) (Nat.zero_le _)
  unfold words_Join.f
  simpa using this

end Go.Proofs.Ytlcjajcjoflpkaa.Sp

/- Which lists of words are light. -/
namespace Go.Proofs.Ytlcjajcjoflpkaa.Sp
open Go.RowKit Go.Proofs.Ytlcjajcjoflpkaa.P Go.Proofs.YtlcjajcjoflpkaaW.PrintWords Go.Proofs.YtlcjajcjoflpkaaW.PrintLast
set_option linter.unusedSimpArgs false
set_option linter.unusedVariables false

theorem light_l0 : ∀ (ys xs : List S39), xs.length + ys.length ≤ 100 → Ev (fun k => accountinglaw06_light.l0 k (xs ++ ys) (xs.length : Int)) (ys.all fun y => decide (y.f1.size ≤ 500)) := by
  intro ys
  induction ys with
  | nil =>
    intro xs hl
    refine Ev.step (fun k => accountinglaw06_light.l0.eq_2 _ _ k) ?_
    simp only [if_neg (show ¬ ((xs.length : Int) < ((xs ++ []).length : Int)) by simp)]
    exact Ev.now _
  | cons y ys ih =>
    intro xs hl
    refine Ev.step (fun k => accountinglaw06_light.l0.eq_2 _ _ k) ?_
    have h1 : (xs.length : Int) < ((xs ++ y :: ys).length : Int) := by simp; omega
    have hw : wrap64 ((xs.length : Int) + 1) = (((xs ++ [y]).length : Nat) : Int) := by simp at hl ⊢; rw [w64 (by omega) (by omega)]
    simp only [if_pos h1, if_pos (show (0 : Int) ≤ (xs.length : Int) by omega), rd_at, hw, List.all_cons]
    by_cases h : y.f1.size ≤ 500
    · simp only [if_neg (show ¬ ((y.f1.size : Int) > 500) by omega), h, decide_true, Bool.true_and]
      have := ih (xs ++ [y]) (by simp at hl ⊢; omega)
      simpa using this
    · simp only [if_pos (show ((y.f1.size : Int) > 500) by omega), h, decide_false, Bool.false_and]
      exact Ev.now _
def lightB (l : List S39) : Bool := decide (l.length ≤ 60) && l.all fun y => decide (y.f1.size ≤ 500)
theorem light_ev (l : List S39) : Ev (fun k => accountinglaw06_light.f k l) (lightB l) := by
  unfold accountinglaw06_light.f lightB
  by_cases h : l.length ≤ 60
  · simp only [if_neg (show ¬ ((l.length : Int) > 60) by omega), h, decide_true, Bool.true_and]
    exact light_l0 l [] (by simp; omega)
  · simp only [if_pos (show ((l.length : Int) > 60) by omega), h, decide_false, Bool.false_and]
    exact Ev.now _
end Go.Proofs.Ytlcjajcjoflpkaa.Sp

/- Words and what follows them: a word is read alike whatever follows a space, and a word by itself is read as it was in its line. -/
namespace Go.Proofs.Ytlcjajcjoflpkaa.Sp
open Go.RowKit Go.Proofs.Ytlcjajcjoflpkaa.P Go.Proofs.YtlcjajcjoflpkaaW.PrintWords Go.Proofs.YtlcjajcjoflpkaaW.PrintLast
set_option linter.unusedSimpArgs false
set_option linter.unusedVariables false

theorem cutL_cons (f : Nat) (u : UInt8) (r : List UInt8) (i : Nat) : cutL (f + 1) (u :: r) i = if u = 35 then ([], 0, 0) else if u = 32 then cutL f r (i + 1)
    else if (wordL (u :: r)).err = 0 then
      (if (cutL f ((u :: r).drop (wordL (u :: r)).n) (i + (wordL (u :: r)).n)).2.2 = 0 then ((⟨((wordL (u :: r)).kind : Int), ⟨(wordL (u :: r)).text.toArray⟩, (i : Int)⟩ : S39) :: (cutL f ((u :: r).drop (wordL (u :: r)).n) (i + (wordL (u :: r)).n)).1, 0, 0)
       else ([], (cutL f ((u :: r).drop (wordL (u :: r)).n) (i + (wordL (u :: r)).n)).2))
    else ([], i + (wordL (u :: r)).off, (wordL (u :: r)).err) := rfl
theorem headDig_app (l x : List UInt8) : headDig (l ++ 32 :: x) = headDig l := by
  cases l with
  | nil => simp only [List.nil_append, headDig]; decide
  | cons u r => rfl
theorem lenName_app (l x : List UInt8) : lenName (l ++ 32 :: x) = lenName l := by
  induction l with
  | nil => simp only [List.nil_append, lenName]; rw [if_neg (by decide)]
  | cons u r ih => simp only [List.cons_append, lenName, ih]
theorem numTail_app (l x : List UInt8) : numTail (l ++ 32 :: x) = numTail l := by
  induction l with
  | nil =>
    simp only [List.nil_append, numTail]
    have h1 : cb 32 = false := by decide
    have h2 : isSep 32 = false := by decide
    simp [h1, h2]
  | cons u r ih => simp only [List.cons_append, numTail, ih, headDig_app]
theorem sign2_app (l x : List UInt8) : sign2 (l ++ 32 :: x) = sign2 l := by
  match l with
  | [] => cases x <;> simp [sign2]
  | [u] => simp [sign2]
  | u :: v :: r => simp [sign2]
theorem sign1_app (u : UInt8) (l x : List UInt8) : sign1 (u :: l ++ x) = sign1 (u :: l) := rfl
theorem signLen_app (u : UInt8) (l x : List UInt8) : signLen (u :: l ++ 32 :: x) = signLen (u :: l) := by
  unfold signLen
  rw [sign2_app (u :: l) x, sign1_app]
theorem qt_app : ∀ (n : Nat) (l x : List UInt8), l.length ≤ n → (qt l).2.2 = 0 → qt (l ++ x) = qt l := by
  intro n
  induction n with
  | zero => intro l x hl h; obtain rfl : l = [] := List.length_eq_zero_iff.mp (by omega); simp [qt] at h
  | succ n ih =>
    intro l x hl h
    cases l with
    | nil => simp [qt] at h
    | cons u r =>
      by_cases h1 : u = 34
      · subst h1; rw [List.cons_append, qt_end, qt_end]
      by_cases h2 : u = 92
      · subst h2
        by_cases hv : ∃ v r', r = v :: r' ∧ (v = 34 ∨ v = 92)
        · obtain ⟨v, r', rfl, hv⟩ := hv
          rw [qt_esc v r' hv] at h ⊢
          simp only [List.cons_append]
          rw [qt_esc v _ hv, ih r' x (by simp at hl; omega) h]
        · rw [qt_esc_no r (fun v r' e hv' => hv ⟨v, r', e, hv'⟩)] at h; simp at h
      cases h3 : isPrintable (u.toNat : Int)
      · rw [qt_bad u r h1 h2 h3] at h; simp at h
      · rw [qt_plain u r h1 h2 h3] at h ⊢
        rw [List.cons_append, qt_plain u _ h1 h2 h3, ih r x (by simp at hl; omega) h]
theorem take_app {α : Type} (l x : List α) (n : Nat) (h : n ≤ l.length) : (l ++ x).take n = l.take n := List.take_append_of_le_length h
/-- A word that is read is read alike if a space follows the line. -/
theorem wordL_app (l x : List UInt8) (h : (wordL l).err = 0) : wordL (l ++ 32 :: x) = wordL l := by
  cases l with
  | nil => simp [wordL] at h
  | cons u r =>
    have hL := lenName_app (u :: r) x
    have hN := numTail_app r x
    have hH := headDig_app r x
    have hS := signLen_app u r x
    have hq := qt_app r.length r (32 :: x) (Nat.le_refl _)
    have hn := wordL_n (u :: r) h
    have tk : ∀ n, n ≤ (u :: r).length → (u :: (r ++ 32 :: x)).take n = (u :: r).take n := fun n hn => take_app (u :: r) (32 :: x) n hn
    simp only [List.cons_append] at hL hS ⊢
    unfold wordL at h hn ⊢
    by_cases h1 : u = 34
    · simp only [if_pos h1] at h hn ⊢
      have h2 : (qt r).2.2 = 0 := by
        by_cases h2 : (qt r).2.2 = 0
        · exact h2
        · simp only [if_neg h2] at h; split at h <;> simp at h
      rw [hq h2]
    · simp only [if_neg h1, hL, hN, hH, hS] at h hn ⊢
      have l1 := lenName_le (u :: r)
      have l2 := numTail_le r
      have l3 := (signLen_le (u :: r)).2
      rw [tk _ l1, tk _ (by simp; omega), tk _ l3]

/-- A word by itself. -/
theorem take_cons {α : Type} (u : α) (r : List α) (n : Nat) : (u :: r).take (n + 1) = u :: r.take n := rfl
theorem headDig_take (r : List UInt8) (n : Nat) (h : 1 ≤ n) : headDig (r.take n) = headDig r := by
  obtain ⟨m, rfl⟩ : ∃ m, n = m + 1 := ⟨n - 1, by omega⟩
  cases r <;> rfl
theorem lenName_take (l : List UInt8) : lenName (l.take (lenName l)) = lenName l := by
  induction l with
  | nil => rfl
  | cons u r ih =>
    by_cases h : cb u = true
    · simp only [lenName, if_pos h, take_cons, ih]
    · simp only [lenName, if_neg h, List.take_zero]
theorem numTail_pos (r : List UInt8) (h : headDig r = true) : 1 ≤ numTail r := by
  cases r with
  | nil => simp [headDig] at h
  | cons u r =>
    have : cb u = true := by simp [headDig, dg] at h; simp [cb, h]
    simp [numTail, this]
theorem numTail_take (l : List UInt8) : numTail (l.take (numTail l)) = numTail l := by
  induction l with
  | nil => rfl
  | cons u r ih =>
    by_cases h : (cb u || (isSep u && headDig r)) = true
    · simp only [numTail, if_pos h, take_cons, ih]
      have : (cb u || (isSep u && headDig (r.take (numTail r)))) = true := by
        cases hc : cb u
        · rw [hc] at h
          simp at h
          rw [headDig_take r _ (numTail_pos r h.2)]
          simp [h]
        · simp
      rw [if_pos this]
    · simp only [numTail, if_neg h, List.take_zero]
theorem signLen_take (u : UInt8) (r : List UInt8) : signLen ((u :: r).take (signLen (u :: r))) = signLen (u :: r) ∨ signLen (u :: r) = 0 := by
  by_cases h : sign2 (u :: r) = true
  · left
    have e : signLen (u :: r) = 2 := by simp [signLen, h]
    rw [e]
    match r, h with
    | v :: r', h =>
      have h' : sign2 [u, v] = true := by simpa [sign2] using h
      show signLen [u, v] = 2
      simp [signLen, h']
    | [], h => simp [sign2] at h
  · by_cases h1 : sign1 (u :: r) = true
    · left
      have e : signLen (u :: r) = 1 := by simp [signLen, h, h1]
      rw [e]
      show signLen [u] = 1
      have h2 : sign2 [u] = false := rfl
      have h3 : sign1 [u] = true := h1
      simp [signLen, h2, h3]
    · right; simp [signLen, h, h1]

/-- The notation n is that of the one word of kind k and text x. -/
def Lone (n : List UInt8) (k : Nat) (x : List UInt8) : Prop := wordL n = ⟨k, x, n.length, 0, 0⟩ ∧ ∀ u r, n = u :: r → u ≠ 32 ∧ u ≠ 35
theorem Lone.ne {n : List UInt8} {k : Nat} {x : List UInt8} (h : Lone n k x) : n ≠ [] := by
  rintro rfl
  have := h.1
  simp [wordL] at this
theorem kinds (l : List UInt8) (h : (wordL l).err = 0) : (wordL l).kind = 3 ∨ ((wordL l).kind ≠ 3 ∧ (wordL l).text = l.take (wordL l).n) := by
  cases l with
  | nil => simp [wordL] at h
  | cons u r =>
    unfold wordL at h ⊢
    by_cases h1 : u = 34
    · simp only [if_pos h1] at h ⊢
      left
      split <;> split <;> rfl
    · simp only [if_neg h1] at h ⊢
      right
      by_cases h2 : lt u = true
      · simp only [if_pos h2] at h ⊢
        split <;> simp_all
      · simp only [if_neg h2] at h ⊢
        by_cases h3 : (dg u || (u == 45 && headDig r)) = true
        · simp only [if_pos h3] at h ⊢
          split <;> simp_all
        · simp only [if_neg h3] at h ⊢
          by_cases h4 : signLen (u :: r) = 0
          · simp only [if_pos h4] at h; simp at h
          · simp only [if_neg h4]; simp
theorem sign_not (u : UInt8) (r : List UInt8) (h : signLen (u :: r) ≠ 0) : u ≠ 32 ∧ u ≠ 35 := by
  constructor
  · rintro rfl
    have h1 : sign1 (32 :: r) = false := by show ones.contains 32 = false; decide
    have h2 : sign2 (32 :: r) = false := by cases r <;> simp [sign2]
    simp [signLen, h1, h2] at h
  · rintro rfl
    have h1 : sign1 (35 :: r) = false := by show ones.contains 35 = false; decide
    have h2 : sign2 (35 :: r) = false := by cases r <;> simp [sign2]
    simp [signLen, h1, h2] at h
/-- A name, a number or a sign is its own notation. -/
theorem lone_take (l : List UInt8) (h : (wordL l).err = 0) (hk : (wordL l).kind ≠ 3) : Lone (wordL l).text (wordL l).kind (wordL l).text := by
  have hn := wordL_n l h
  cases l with
  | nil => simp [wordL] at h
  | cons u r =>
    by_cases h1 : u = 34
    · exfalso; apply hk
      unfold wordL; simp only [if_pos h1]; split <;> split <;> rfl
    by_cases h2 : lt u = true
    · have hW : wordL (u :: r) = ⟨1, (u :: r).take (lenName (u :: r)), lenName (u :: r), 0, 0⟩ := by
        unfold wordL at h ⊢; simp only [if_neg h1, if_pos h2] at h ⊢; split <;> simp_all
      have hc : cb u = true := by have : lt u = true := h2; simp [cb, lt] at this ⊢; simp [this]
      have h12 : lenName (u :: r) ≤ 12 := by
        unfold wordL at h; simp only [if_neg h1, if_pos h2] at h
        by_cases g : lenName (u :: r) ≤ 12
        · exact g
        · simp only [if_neg g] at h; simp at h
      rw [hW]
      obtain ⟨m, hm⟩ : ∃ m, lenName (u :: r) = m + 1 := ⟨lenName (u :: r) - 1, by simp [lenName, hc]⟩
      have ht := lenName_take (u :: r)
      have hl := lenName_le (u :: r)
      have hln : ((u :: r).take (lenName (u :: r))).length = lenName (u :: r) := by rw [List.length_take]; omega
      rw [hm, take_cons] at ht hln ⊢
      refine ⟨?_, fun v r' e => ?_⟩
      · unfold wordL
        simp only [if_neg h1, if_pos h2, ht, if_pos (show m + 1 ≤ 12 by omega)]
        rw [hln, List.take_of_length_le (by omega)]
      · obtain ⟨rfl, _⟩ := List.cons.inj e
        constructor <;> (rintro rfl; revert h2; decide)
    by_cases h3 : (dg u || (u == 45 && headDig r)) = true
    · have hW : wordL (u :: r) = ⟨2, (u :: r).take (numTail r + 1), numTail r + 1, 0, 0⟩ := by
        unfold wordL at h ⊢; simp only [if_neg h1, if_neg h2, if_pos h3] at h ⊢; split <;> simp_all
      have h60 : numTail r + 1 ≤ 60 := by
        unfold wordL at h; simp only [if_neg h1, if_neg h2, if_pos h3] at h
        by_cases g : numTail r + 1 ≤ 60
        · exact g
        · simp only [if_neg g] at h; simp at h
      rw [hW]
      have ht := numTail_take r
      have hl := numTail_le r
      simp only [take_cons]
      have h3' : (dg u || (u == 45 && headDig (r.take (numTail r)))) = true := by
        cases hd : dg u
        · rw [hd] at h3
          simp at h3
          rw [headDig_take r _ (numTail_pos r h3.2)]
          simp [h3]
        · simp
      refine ⟨?_, fun v r' e => ?_⟩
      · have hln : (u :: r.take (numTail r)).length = numTail r + 1 := by rw [List.length_cons, List.length_take]; omega
        have e : (u :: r.take (numTail r)).take (numTail r + 1) = u :: r.take (numTail r) := List.take_of_length_le (by omega)
        unfold wordL
        simp only [if_neg h1, if_neg h2, if_pos h3', ht, if_pos h60, e, hln]
      · obtain ⟨rfl, _⟩ := List.cons.inj e
        constructor <;> (rintro rfl; revert h3; simp only [show dg 32 = false by decide, show dg 35 = false by decide, show ((32 : UInt8) == 45) = false by decide, show ((35 : UInt8) == 45) = false by decide, Bool.false_and, Bool.or_false]; decide)
    · have h4 : signLen (u :: r) ≠ 0 := by
        intro g
        unfold wordL at h; simp only [if_neg h1, if_neg h2, if_neg h3, if_pos g] at h; simp at h
      have hW : wordL (u :: r) = ⟨4, (u :: r).take (signLen (u :: r)), signLen (u :: r), 0, 0⟩ := by
        unfold wordL; simp only [if_neg h1, if_neg h2, if_neg h3, if_neg h4]
      rw [hW]
      have ht := (signLen_take u r).resolve_right h4
      have hl := (signLen_le (u :: r)).2
      have hln : ((u :: r).take (signLen (u :: r))).length = signLen (u :: r) := by rw [List.length_take]; omega
      obtain ⟨m, hm⟩ : ∃ m, signLen (u :: r) = m + 1 := ⟨signLen (u :: r) - 1, by omega⟩
      have h3' : ¬ (dg u || (u == 45 && headDig (r.take m))) = true := by
        intro g; apply h3
        cases hd : dg u
        · rw [hd] at g
          simp at g
          cases m with
          | zero => simp [headDig] at g
          | succ m => rw [headDig_take r _ (by omega)] at g; simp [g]
        · simp
      rw [hm, take_cons] at ht hln ⊢
      refine ⟨?_, fun v r' e => ?_⟩
      · unfold wordL
        simp only [if_neg h1, if_neg h2, if_neg h3', ht, if_neg (show ¬ (m + 1 = 0) by omega)]
        rw [hln, List.take_of_length_le (by omega)]
      · obtain ⟨rfl, _⟩ := List.cons.inj e
        exact sign_not u r h4

/-- How a line that begins with a word's notation is cut. -/
theorem cutL_word (f : Nat) (n x : List UInt8) (k : Nat) (c : List UInt8) (i : Nat) (h : Lone n k c) : cutL (f + 1) (n ++ 32 :: x) i = (if (cutL f (32 :: x) (i + n.length)).2.2 = 0 then ((⟨(k : Int), ⟨c.toArray⟩, (i : Int)⟩ : S39) :: (cutL f (32 :: x) (i + n.length)).1, 0, 0) else ([], (cutL f (32 :: x) (i + n.length)).2)) := by
  have hw := wordL_app n x (by rw [h.1])
  rw [h.1] at hw
  cases n with
  | nil => exact absurd rfl h.ne
  | cons u r =>
    obtain ⟨h32, h35⟩ := h.2 u r rfl
    rw [List.cons_append] at hw ⊢
    rw [cutL_cons, if_neg h35, if_neg h32, hw]
    have hd : (u :: (r ++ 32 :: x)).drop (u :: r).length = 32 :: x := by
      rw [← List.cons_append, List.drop_left]
    simp only [if_true, hd]
theorem cutL_last (f : Nat) (n : List UInt8) (k : Nat) (c : List UInt8) (i : Nat) (h : Lone n k c) : cutL (f + 1) n i = ([(⟨(k : Int), ⟨c.toArray⟩, (i : Int)⟩ : S39)], 0, 0) := by
  have hw := h.1
  cases n with
  | nil => exact absurd rfl h.ne
  | cons u r =>
    obtain ⟨h32, h35⟩ := h.2 u r rfl
    rw [cutL_cons, if_neg h35, if_neg h32, hw]
    simp only [if_true, List.drop_length]
    cases f <;> simp [cutL]
theorem cutL_space (f : Nat) (x : List UInt8) (i : Nat) : cutL (f + 1) (32 :: x) i = cutL f x (i + 1) := by
  rw [cutL_cons, if_neg (by decide), if_pos rfl]

/-- A comment behind a line. -/
theorem cutL_comment (x : List UInt8) : ∀ (f : Nat) (l : List UInt8) (i : Nat), l.length < f → (cutL f l i).2.2 = 0 → cutL (f + 2) (l ++ 32 :: 35 :: x) i = cutL f l i := by
  intro f
  induction f with
  | zero => intro l i h; omega
  | succ f ih =>
    intro l i hl h
    cases l with
    | nil =>
      rw [List.nil_append, cutL_space]
      simp [cutL]
    | cons u r =>
      rw [List.cons_append]
      by_cases h35 : u = 35
      · simp [cutL, h35]
      by_cases h32 : u = 32
      · subst h32
        have e : cutL (f + 1) (32 :: r) i = cutL f r (i + 1) := cutL_space f r i
        rw [e] at h ⊢
        rw [cutL_space]
        exact ih r (i + 1) (by simp at hl; omega) h
      have he : (wordL (u :: r)).err = 0 := by
        by_cases he : (wordL (u :: r)).err = 0
        · exact he
        · rw [cutL_cons, if_neg h35, if_neg h32, if_neg he] at h; exact absurd h he
      have hn := wordL_n (u :: r) he
      have hw := wordL_app (u :: r) (35 :: x) he
      rw [List.cons_append] at hw
      have hd : (u :: (r ++ 32 :: 35 :: x)).drop (wordL (u :: r)).n = (u :: r).drop (wordL (u :: r)).n ++ 32 :: 35 :: x := by
        rw [← List.cons_append, List.drop_append_of_le_length hn.2]
      have hc : (cutL f ((u :: r).drop (wordL (u :: r)).n) (i + (wordL (u :: r)).n)).2.2 = 0 := by
        rw [cutL_cons, if_neg h35, if_neg h32, if_pos he] at h
        by_cases hc : (cutL f ((u :: r).drop (wordL (u :: r)).n) (i + (wordL (u :: r)).n)).2.2 = 0
        · exact hc
        · rw [if_neg hc] at h; exact absurd h hc
      have := ih _ (i + (wordL (u :: r)).n) (by simp at hl ⊢; omega) hc
      rw [show f + 1 + 2 = (f + 2) + 1 by omega]
      rw [cutL_cons, cutL_cons, if_neg h35, if_neg h32, if_neg h35, if_neg h32, hw, if_pos he, hd, this, if_pos he]
end Go.Proofs.Ytlcjajcjoflpkaa.Sp

/- Joined words are cut into the same words; a word of a line is its own notation's word; offsets grow. -/
namespace Go.Proofs.Ytlcjajcjoflpkaa.Sp
open Go.RowKit Go.Proofs.Ytlcjajcjoflpkaa.P Go.Proofs.YtlcjajcjoflpkaaW.PrintWords Go.Proofs.YtlcjajcjoflpkaaW.PrintLast
set_option linter.unusedSimpArgs false
set_option linter.unusedVariables false

theorem cutL_fuel : ∀ (f : Nat) (l : List UInt8) (i : Nat), l.length < f → cutL (f + 1) l i = cutL f l i := by
  intro f
  induction f with
  | zero => intro l i h; omega
  | succ f ih =>
    intro l i h
    cases l with
    | nil => rfl
    | cons u r =>
      rw [cutL_cons (f + 1), cutL_cons f]
      by_cases h35 : u = 35
      · rw [if_pos h35, if_pos h35]
      rw [if_neg h35, if_neg h35]
      by_cases h32 : u = 32
      · rw [if_pos h32, if_pos h32]
        exact ih r (i + 1) (by simp at h; omega)
      rw [if_neg h32, if_neg h32]
      by_cases he : (wordL (u :: r)).err = 0
      · have hn := wordL_n (u :: r) he
        rw [ih _ _ (by simp at h ⊢; omega)]
      · rw [if_neg he, if_neg he]
theorem cutL_more (l : List UInt8) (i f : Nat) (h : l.length < f) : ∀ m, cutL (f + m) l i = cutL f l i := by
  intro m
  induction m with
  | zero => rfl
  | succ m ih => rw [← Nat.add_assoc, cutL_fuel _ _ _ (by omega), ih]

theorem wordL_text_len (l : List UInt8) (h : (wordL l).err = 0) : (wordL l).text.length ≤ l.length := by
  cases l with
  | nil => simp [wordL] at h
  | cons u r =>
    have hq := (qt_le r.length r (Nat.le_refl _)).1
    unfold wordL at h ⊢
    by_cases h1 : u = 34
    · simp only [if_pos h1] at h ⊢
      split <;> split <;> simp_all <;> omega
    · simp only [if_neg h1] at h ⊢
      split
      · split <;> simp <;> omega
      · split
        · split <;> simp <;> omega
        · split <;> simp <;> omega

theorem qt_print : ∀ (n : Nat) (l : List UInt8), l.length ≤ n → ∀ u ∈ (qt l).1, isPrintable (u.toNat : Int) = true := by
  intro n
  induction n with
  | zero => intro l hl; obtain rfl : l = [] := List.length_eq_zero_iff.mp (by omega); simp [qt]
  | succ n ih =>
    intro l hl
    cases l with
    | nil => simp [qt]
    | cons u r =>
      by_cases h1 : u = 34
      · subst h1; rw [qt_end]; simp
      by_cases h2 : u = 92
      · subst h2
        by_cases hv : ∃ v r', r = v :: r' ∧ (v = 34 ∨ v = 92)
        · obtain ⟨v, r', rfl, hv⟩ := hv
          rw [qt_esc v r' hv]
          intro w hw
          rcases List.mem_cons.mp hw with rfl | hw
          · rcases hv with rfl | rfl <;> decide
          · exact ih r' (by simp at hl; omega) w hw
        · rw [qt_esc_no r (fun v r' e hv' => hv ⟨v, r', e, hv'⟩)]; simp
      cases h3 : isPrintable (u.toNat : Int)
      · rw [qt_bad u r h1 h2 h3]; simp
      · rw [qt_plain u r h1 h2 h3]
        intro w hw
        rcases List.mem_cons.mp hw with rfl | hw
        · exact h3
        · exact ih r (by simp at hl; omega) w hw
theorem qt_esc_all (l : List UInt8) (h : ∀ u ∈ l, isPrintable (u.toNat : Int) = true) : qt (esc l) = (l, (esc l).length, 0) := by
  induction l with
  | nil => rfl
  | cons u r ih =>
    have hr := ih (fun w hw => h w (List.mem_cons_of_mem _ hw))
    by_cases hq : u = 34 ∨ u = 92
    · simp only [esc, if_pos hq]
      rw [qt_esc u _ hq, hr]; rfl
    · simp only [esc, if_neg hq]
      rw [qt_plain u _ (fun e => hq (.inl e)) (fun e => hq (.inr e)) (h u List.mem_cons_self), hr]; rfl
/-- The quoted text of a plain text is read as this text. -/
theorem lone_quote (x : List UInt8) (h : ∀ u ∈ x, isPrintable (u.toNat : Int) = true) (hl : x.length ≤ 60) : Lone (34 :: esc x) 3 x := by
  refine ⟨?_, fun u r e => ?_⟩
  · unfold wordL
    simp only [if_true, qt_esc_all x h, if_pos hl, List.length_cons]
  · obtain ⟨rfl, _⟩ := List.cons.inj e
    exact ⟨by decide, by decide⟩
theorem plain_all (s : ByteArray) (h : plainB s = true) : s.size ≤ 60 ∧ ∀ u ∈ D s 0, isPrintable (u.toNat : Int) = true := by
  unfold plainB allFrom at h
  simp only [Bool.and_eq_true, decide_eq_true_eq, List.all_eq_true] at h
  exact h
theorem plain_of (x : List UInt8) (h : ∀ u ∈ x, isPrintable (u.toNat : Int) = true) (hl : x.length ≤ 60) : plainB ⟨x.toArray⟩ = true := by
  unfold plainB allFrom
  simp only [Bool.and_eq_true, decide_eq_true_eq, List.all_eq_true]
  exact ⟨by simpa [ByteArray.size] using hl, by simpa using h⟩
theorem D0 (s : ByteArray) : D s 0 = s.data.toList := rfl
theorem D_mk (x : List UInt8) : D ⟨x.toArray⟩ 0 = x := by simp [D]
theorem size_mk (x : List UInt8) : (⟨x.toArray⟩ : ByteArray).size = x.length := by simp [ByteArray.size]
theorem mk_data (s : ByteArray) : (⟨s.data.toList.toArray⟩ : ByteArray) = s := by cases s; simp
theorem D_size (s : ByteArray) : (D s 0).length = s.size := by rw [D_len]; omega

theorem cutS_lone (n : ByteArray) (k : Nat) (x : List UInt8) (hn : n.size ≤ 400) (h : Lone (D n 0) k x) : cutS n = ([(⟨(k : Int), ⟨x.toArray⟩, 0⟩ : S39)], (n.size : Int), 0) := by
  unfold cutS
  rw [if_neg (by omega), cutL_last _ _ _ _ _ h]
  simp [cutAns]

/-- All texts of a cut are no longer than the line. -/
theorem cutL_texts : ∀ (f : Nat) (l : List UInt8) (i : Nat), ∀ t ∈ (cutL f l i).1, t.f1.size ≤ l.length := by
  intro f
  induction f with
  | zero => intro l i t ht; simp [cutL] at ht
  | succ f ih =>
    intro l i t ht
    cases l with
    | nil => simp [cutL] at ht
    | cons u r =>
      rw [cutL_cons] at ht
      by_cases h35 : u = 35
      · rw [if_pos h35] at ht; simp at ht
      rw [if_neg h35] at ht
      by_cases h32 : u = 32
      · rw [if_pos h32] at ht
        have := ih r (i + 1) t ht
        simp; omega
      rw [if_neg h32] at ht
      by_cases he : (wordL (u :: r)).err = 0
      · rw [if_pos he] at ht
        split at ht
        · rcases List.mem_cons.mp ht with rfl | ht
          · have := wordL_text_len (u :: r) he
            rw [size_mk]; exact this
          · have := ih _ _ t ht
            simp at this ⊢; omega
        · simp at ht
      · rw [if_neg he] at ht; simp at ht

/-- What a cut's word is. -/
def TokOK (t : S39) : Prop := ∃ (k : Nat) (x : List UInt8), t.f0 = (k : Int) ∧ t.f1 = ⟨x.toArray⟩ ∧ ((k ≠ 3 ∧ Lone x k x) ∨ (k = 3 ∧ (∀ u ∈ x, isPrintable (u.toNat : Int) = true) ∧ x.length ≤ 60))
theorem kind3 (l : List UInt8) (h : (wordL l).err = 0) (hk : (wordL l).kind = 3) : (∀ u ∈ (wordL l).text, isPrintable (u.toNat : Int) = true) ∧ (wordL l).text.length ≤ 60 := by
  cases l with
  | nil => simp [wordL] at h
  | cons u r =>
    have hp := qt_print r.length r (Nat.le_refl _)
    unfold wordL at h hk ⊢
    by_cases h1 : u = 34
    · simp only [if_pos h1] at h hk ⊢
      by_cases h2 : (qt r).2.2 = 0
      · simp only [if_pos h2] at h ⊢
        by_cases h3 : (qt r).1.length ≤ 60
        · simp only [if_pos h3]; exact ⟨hp, h3⟩
        · simp only [if_neg h3] at h; simp at h
      · simp only [if_neg h2] at h
        split at h <;> simp at h
    · simp only [if_neg h1] at hk
      split at hk
      · split at hk <;> simp at hk
      · split at hk
        · split at hk <;> simp at hk
        · split at hk <;> simp at hk
theorem cutL_toks : ∀ (f : Nat) (l : List UInt8) (i : Nat), ∀ t ∈ (cutL f l i).1, TokOK t := by
  intro f
  induction f with
  | zero => intro l i t ht; simp [cutL] at ht
  | succ f ih =>
    intro l i t ht
    cases l with
    | nil => simp [cutL] at ht
    | cons u r =>
      rw [cutL_cons] at ht
      by_cases h35 : u = 35
      · rw [if_pos h35] at ht; simp at ht
      rw [if_neg h35] at ht
      by_cases h32 : u = 32
      · rw [if_pos h32] at ht
        exact ih r (i + 1) t ht
      rw [if_neg h32] at ht
      by_cases he : (wordL (u :: r)).err = 0
      · rw [if_pos he] at ht
        split at ht
        · rcases List.mem_cons.mp ht with rfl | ht
          · refine ⟨(wordL (u :: r)).kind, (wordL (u :: r)).text, rfl, rfl, ?_⟩
            by_cases hk : (wordL (u :: r)).kind = 3
            · exact .inr ⟨hk, kind3 _ he hk⟩
            · exact .inl ⟨hk, lone_take _ he hk⟩
          · exact ih _ _ t ht
        · simp at ht
      · rw [if_neg he] at ht; simp at ht
/-- Offsets: none before i, and each greater than the one before. -/
theorem cutL_ats : ∀ (f : Nat) (l : List UInt8) (i : Nat), (∀ t ∈ (cutL f l i).1, (i : Int) ≤ t.f2) ∧ (cutL f l i).1.Pairwise fun a b => a.f2 < b.f2 := by
  intro f
  induction f with
  | zero => intro l i; simp [cutL]
  | succ f ih =>
    intro l i
    cases l with
    | nil => simp [cutL]
    | cons u r =>
      rw [cutL_cons]
      by_cases h35 : u = 35
      · rw [if_pos h35]; simp
      rw [if_neg h35]
      by_cases h32 : u = 32
      · rw [if_pos h32]
        have := ih r (i + 1)
        exact ⟨fun t ht => by have := this.1 t ht; omega, this.2⟩
      rw [if_neg h32]
      by_cases he : (wordL (u :: r)).err = 0
      · rw [if_pos he]
        have hn := wordL_n (u :: r) he
        have := ih ((u :: r).drop (wordL (u :: r)).n) (i + (wordL (u :: r)).n)
        split
        · refine ⟨fun t ht => ?_, List.pairwise_cons.mpr ⟨fun t ht => ?_, this.2⟩⟩
          · rcases List.mem_cons.mp ht with rfl | ht
            · exact Int.le_refl _
            · have := this.1 t ht; omega
          · have := this.1 t ht
            show (i : Int) < t.f2
            omega
        · simp
      · rw [if_neg he]; simp

/-- A word whose notation is read as this word: the notation stands alone. -/
theorem notS_lone (kind : Int) (s : ByteArray) (h : (notS kind s).2 = true) : ∃ k : Nat, kind = (k : Int) ∧ Lone (D (notS kind s).1 0) k (D s 0) := by
  unfold notS at h ⊢
  by_cases h3 : kind = 3
  · rw [if_pos h3] at h ⊢
    cases hp : plainB s
    · rw [hp] at h; simp at h
    · have hpl := plain_all s hp
      refine ⟨3, h3, ?_⟩
      simp only [if_true]
      have : (quoteS s).1 = ⟨(34 :: esc (D s 0)).toArray⟩ := by unfold quoteS; rw [hp]; rfl
      rw [this, D_mk]
      exact lone_quote _ hpl.2 (by rw [D_size]; exact hpl.1)
  · rw [if_neg h3] at h ⊢
    simp only [Bool.and_eq_true, decide_eq_true_eq, beq_iff_eq] at h
    obtain ⟨⟨h1, h2, hk⟩, ht⟩ := h
    simp only
    unfold cutS at h1 h2 hk ht
    by_cases h4 : s.size > 400
    · rw [if_pos h4] at h1; simp at h1
    rw [if_neg h4] at h1 h2 hk ht
    generalize hc : cutL (s.size + 1) (D s 0) 0 = c at h1 h2 hk ht
    have hc0 : c.2.2 = 0 := by
      unfold cutAns at h1
      by_cases e : c.2.2 = 0
      · exact e
      · rw [if_neg e] at h1; simp only at h1; omega
    have hA : cutAns s.size [] c = (c.1, (s.size : Int), 0) := by simp [cutAns, hc0]
    rw [hA] at h2 hk ht
    simp only at h2 hk ht
    obtain ⟨t, ht1⟩ : ∃ t, c.1 = [t] := List.length_eq_one_iff.mp h2
    rw [ht1] at hk ht
    have e0 : rd_T39 [t] 0 = t := rfl
    rw [e0] at hk ht
    have htx : t.f1.data.toList = D s 0 := by rw [toL, toL] at ht; exact ht
    have htl := cutL_texts (s.size + 1) (D s 0) 0 t (by rw [hc, ht1]; simp)
    cases hl : D s 0 with
    | nil => rw [hl] at hc; rw [← hc] at ht1; simp [cutL] at ht1
    | cons u r =>
      rw [hl] at hc htx htl
      rw [cutL_cons] at hc
      by_cases h35 : u = 35
      · rw [if_pos h35] at hc; rw [← hc] at ht1; simp at ht1
      rw [if_neg h35] at hc
      by_cases h32 : u = 32
      · rw [if_pos h32] at hc
        exfalso
        have := cutL_texts s.size r 1 t (by rw [hc, ht1]; simp)
        have e : t.f1.size = (u :: r).length := by rw [← htx]; simp
        simp at e; omega
      rw [if_neg h32] at hc
      by_cases he : (wordL (u :: r)).err = 0
      · rw [if_pos he] at hc
        split at hc
        · rw [← hc] at ht1
          simp only [List.cons.injEq] at ht1
          obtain ⟨rfl, _⟩ := ht1
          refine ⟨(wordL (u :: r)).kind, hk.symm, ?_⟩
          have hk3 : (wordL (u :: r)).kind ≠ 3 := by
            intro e; apply h3; rw [← hk]; show (((wordL (u :: r)).kind : Nat) : Int) = 3; omega
          have hx : (wordL (u :: r)).text = u :: r := by simpa using htx
          have hL := lone_take _ he hk3
          rw [hx] at hL
          exact hL
        · rw [← hc] at ht1; simp at ht1
      · rw [if_neg he] at hc; rw [← hc] at ht1; simp at ht1
/-- A word of a cut is read from its notation. -/
theorem tok_notS (t : S39) (h : TokOK t) (hs : t.f1.size ≤ 400) : (notS t.f0 t.f1).2 = true := by
  obtain ⟨k, x, h0, h1, hx⟩ := h
  rw [h0, h1]
  rw [h1, size_mk] at hs
  unfold notS
  rcases hx with ⟨hk, hL⟩ | ⟨rfl, hp, hl⟩
  · rw [if_neg (show ¬ ((k : Int) = 3) by omega)]
    have hc := cutS_lone ⟨x.toArray⟩ k x (by rw [size_mk]; exact hs) (by rw [D_mk]; exact hL)
    rw [hc]
    simp [rd_T39]
  · rw [if_pos (show (((3 : Nat) : Int)) = 3 from rfl), plain_of x hp hl]
    simp only [if_true]
    have hq : quoteS ⟨x.toArray⟩ = (⟨(34 :: esc x).toArray⟩, 0) := by unfold quoteS; rw [plain_of x hp hl, D_mk]; rfl
    rw [hq]
    have he := esc_len x
    have hc := cutS_lone ⟨(34 :: esc x).toArray⟩ 3 x (by rw [size_mk, List.length_cons]; omega) (by rw [D_mk]; exact lone_quote x hp hl)
    simp only [hc]
    simp [rd_T39]

/-- The bytes of joined words. -/
def joinB : List S39 → List UInt8
  | [] => []
  | x :: xs => 32 :: (D (notS x.f0 x.f1).1 0 ++ joinB xs)
def okAll (l : List S39) : Bool := l.all fun x => (notS x.f0 x.f1).2
theorem app_data (a b : ByteArray) : (a ++ b).data.toList = a.data.toList ++ b.data.toList := by simp
theorem joinS_rest : ∀ (l : List S39) (acc : ByteArray), joinS l false acc = if okAll l then (if (acc.data.toList ++ joinB l).length > 400 then (⟨#[]⟩, 9) else (⟨(acc.data.toList ++ joinB l).toArray⟩, 0)) else (⟨#[]⟩, 5) := by
  intro l
  induction l with
  | nil =>
    intro acc
    simp [joinS, okAll, joinB]
  | cons x xs ih =>
    intro acc
    have hk : okAll (x :: xs) = ((notS x.f0 x.f1).2 && okAll xs) := rfl
    simp only [joinS]
    by_cases hx : (notS x.f0 x.f1).2 = true
    case neg => rw [if_neg hx, if_neg (by rw [hk]; simp [hx])]
    · rw [if_pos hx, hk, hx, Bool.true_and]
      simp only [Bool.false_eq_true, if_false]
      rw [ih]
      have e : ((acc ++ (⟨#[32]⟩ : ByteArray)) ++ (notS x.f0 x.f1).1).data.toList ++ joinB xs = acc.data.toList ++ joinB (x :: xs) := by
        rw [app_data, app_data]; simp [joinB, D0]
      rw [e]
theorem joinS_all (l : List S39) : joinS l true ⟨#[]⟩ = if okAll l then (if (joinB l).tail.length > 400 then (⟨#[]⟩, 9) else (⟨(joinB l).tail.toArray⟩, 0)) else (⟨#[]⟩, 5) := by
  cases l with
  | nil => rfl
  | cons x xs =>
    have hk : okAll (x :: xs) = ((notS x.f0 x.f1).2 && okAll xs) := rfl
    simp only [joinS]
    by_cases hx : (notS x.f0 x.f1).2 = true
    case neg => rw [if_neg hx, if_neg (by rw [hk]; simp [hx])]
    · rw [if_pos hx, hk, hx, Bool.true_and]
      simp only [if_true]
      rw [joinS_rest]
      have e : ((⟨#[]⟩ : ByteArray) ++ (notS x.f0 x.f1).1).data.toList ++ joinB xs = (joinB (x :: xs)).tail := by
        rw [app_data]; simp [joinB, D0]
      rw [e]
def key (t : S39) : Int × ByteArray := (t.f0, t.f1)
theorem cut_joinB : ∀ (l : List S39), okAll l = true → ∀ (f i : Nat), (joinB l).length < f → ∃ ts, cutL f (joinB l) i = (ts, 0, 0) ∧ ts.map key = l.map key := by
  intro l
  induction l with
  | nil =>
    intro _ f i hf
    obtain ⟨f, rfl⟩ : ∃ m, f = m + 1 := ⟨f - 1, by omega⟩
    exact ⟨[], rfl, rfl⟩
  | cons x xs ih =>
    intro hok f i hf
    simp only [okAll, List.all_cons, Bool.and_eq_true] at hok
    obtain ⟨k, hk, hL⟩ := notS_lone _ _ hok.1
    obtain ⟨f, rfl⟩ : ∃ m, f = m + 1 := ⟨f - 1, by omega⟩
    simp only [joinB, List.length_cons, List.length_append] at hf
    have hpos : 0 < (D (notS x.f0 x.f1).1 0).length := by
      rcases Nat.eq_zero_or_pos (D (notS x.f0 x.f1).1 0).length with e | e
      · exact absurd (List.length_eq_zero_iff.mp e) hL.ne
      · exact e
    obtain ⟨f, rfl⟩ : ∃ m, f = m + 1 := ⟨f - 1, by omega⟩
    show ∃ ts, cutL (f + 1 + 1) (32 :: (D (notS x.f0 x.f1).1 0 ++ joinB xs)) i = (ts, 0, 0) ∧ _
    rw [cutL_space]
    have hkey : key (⟨(k : Int), ⟨(D x.f1 0).toArray⟩, ((i + 1 : Nat) : Int)⟩ : S39) = key x := by
      unfold key; rw [D0, mk_data, ← hk]
    cases xs with
    | nil =>
      simp only [joinB, List.append_nil]
      rw [cutL_last _ _ _ _ _ hL]
      exact ⟨_, rfl, by show [key _] = [key x]; rw [hkey]⟩
    | cons y ys =>
      obtain ⟨ts, h1, h2⟩ := ih hok.2 f (i + 1 + (D (notS x.f0 x.f1).1 0).length) (by omega)
      have e : joinB (y :: ys) = 32 :: (D (notS y.f0 y.f1).1 0 ++ joinB ys) := rfl
      rw [e] at h1 ⊢
      rw [cutL_word _ _ _ _ _ _ hL, h1]
      exact ⟨_, rfl, by simp only [List.map_cons, h2, hkey]⟩
theorem cut_join (l : List S39) (hok : okAll l = true) (f i : Nat) (hf : (joinB l).tail.length < f) : ∃ ts, cutL f (joinB l).tail i = (ts, 0, 0) ∧ ts.map key = l.map key := by
  cases l with
  | nil =>
    obtain ⟨f, rfl⟩ : ∃ m, f = m + 1 := ⟨f - 1, by omega⟩
    exact ⟨[], rfl, rfl⟩
  | cons x xs =>
    simp only [okAll, List.all_cons, Bool.and_eq_true] at hok
    obtain ⟨k, hk, hL⟩ := notS_lone _ _ hok.1
    obtain ⟨f, rfl⟩ : ∃ m, f = m + 1 := ⟨f - 1, by omega⟩
    simp only [joinB, List.tail_cons, List.length_append] at hf ⊢
    have hpos : 0 < (D (notS x.f0 x.f1).1 0).length := by
      rcases Nat.eq_zero_or_pos (D (notS x.f0 x.f1).1 0).length with e | e
      · exact absurd (List.length_eq_zero_iff.mp e) hL.ne
      · exact e
    have hkey : key (⟨(k : Int), ⟨(D x.f1 0).toArray⟩, (i : Int)⟩ : S39) = key x := by
      unfold key; rw [D0, mk_data, ← hk]
    cases xs with
    | nil =>
      simp only [joinB, List.append_nil]
      rw [cutL_last _ _ _ _ _ hL]
      exact ⟨_, rfl, by show [key _] = [key x]; rw [hkey]⟩
    | cons y ys =>
      obtain ⟨ts, h1, h2⟩ := cut_joinB (y :: ys) hok.2 f (i + (D (notS x.f0 x.f1).1 0).length) (by omega)
      have e : joinB (y :: ys) = 32 :: (D (notS y.f0 y.f1).1 0 ++ joinB ys) := rfl
      rw [e] at h1 ⊢
      rw [cutL_word _ _ _ _ _ _ hL, h1]
      exact ⟨_, rfl, by simp only [List.map_cons, h2, hkey]⟩
/-- The words of a joined line. -/
theorem cutS_join (l : List S39) (hok : okAll l = true) (hl : ¬ (joinB l).tail.length > 400) : ∃ ts, cutS ⟨(joinB l).tail.toArray⟩ = (ts, (((joinB l).tail.length : Nat) : Int), 0) ∧ ts.map key = l.map key := by
  obtain ⟨ts, h1, h2⟩ := cut_join l hok ((joinB l).tail.length + 1) 0 (by omega)
  refine ⟨ts, ?_, h2⟩
  unfold cutS
  rw [size_mk, if_neg hl, D_mk, h1]
  simp [cutAns]
theorem key_at (a b : List S39) (h : a.map key = b.map key) (i : Nat) (hi : i < b.length) : (rd_T39 a (i : Int)).f0 = (rd_T39 b (i : Int)).f0 ∧ (rd_T39 a (i : Int)).f1 = (rd_T39 b (i : Int)).f1 := by
  have hl : a.length = b.length := by simpa using congrArg List.length h
  have h1 : (a.map key)[i]? = (b.map key)[i]? := by rw [h]
  rw [List.getElem?_map, List.getElem?_map, List.getElem?_eq_getElem (by omega), List.getElem?_eq_getElem hi] at h1
  simp only [Option.map_some, Option.some.injEq, key, Prod.mk.injEq] at h1
  have ea : rd_T39 a (i : Int) = a[i] := by simp [rd_T39, List.getD_eq_getElem?_getD, List.getElem?_eq_getElem (show i < a.length by omega)]
  have eb : rd_T39 b (i : Int) = b[i] := by simp [rd_T39, List.getD_eq_getElem?_getD, List.getElem?_eq_getElem hi]
  rw [ea, eb]; exact h1
end Go.Proofs.Ytlcjajcjoflpkaa.Sp
