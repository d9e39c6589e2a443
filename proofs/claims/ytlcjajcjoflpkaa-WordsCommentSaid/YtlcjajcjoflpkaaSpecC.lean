/- What the two word functions and the two Cuts compute: the words of a line. -/
import Derived.Test.YtlcjajcjoflpkaaSpecB
import Derived.Test.YtlcjajcjoflpkaaPx8
import Derived.Test.YtlcjajcjoflpkaaPx18
namespace Go.Proofs.Ytlcjajcjoflpkaa.Sp
open Go.RowKit Go.Proofs.Ytlcjajcjoflpkaa.P Go.Proofs.YtlcjajcjoflpkaaW.PrintWords Go.Proofs.YtlcjajcjoflpkaaW.PrintLast
set_option linter.unusedSimpArgs false
set_option linter.unusedVariables false

structure Wd where
  kind : Nat
  text : List UInt8
  n : Nat
  off : Nat
  err : Nat
/-- The word at the begin. -/
def wordL : List UInt8 → Wd
  | [] => ⟨0, [], 0, 0, 5⟩
  | u :: r =>
    if u = 34 then (if (qt r).2.2 = 0 then (if (qt r).1.length ≤ 60 then ⟨3, (qt r).1, (qt r).2.1 + 1, 0, 0⟩ else ⟨3, [], 0, 0, 9⟩) else if (qt r).2.2 = 6 then ⟨3, [], 0, 0, 6⟩ else ⟨3, [], 0, (qt r).2.1 + 1, 5⟩)
    else if lt u then (if lenName (u :: r) ≤ 12 then ⟨1, (u :: r).take (lenName (u :: r)), lenName (u :: r), 0, 0⟩ else ⟨1, [], 0, 0, 9⟩)
    else if dg u || (u == 45 && headDig r) then (if numTail r + 1 ≤ 60 then ⟨2, (u :: r).take (numTail r + 1), numTail r + 1, 0, 0⟩ else ⟨2, [], 0, 0, 9⟩)
    else if signLen (u :: r) = 0 then ⟨4, [], 0, 0, 5⟩ else ⟨4, (u :: r).take (signLen (u :: r)), signLen (u :: r), 0, 0⟩
theorem signLen_le (l : List UInt8) : signLen l ≤ 2 ∧ signLen l ≤ l.length := by
  unfold signLen
  split
  · rename_i h
    match l, h with
    | u :: v :: r, _ => simp
    | [], h => simp [sign2] at h
    | [u], h => simp [sign2] at h
  · split
    · rename_i h
      match l, h with
      | u :: r, _ => simp
      | [], h => simp [sign1] at h
    · omega
theorem wordL_n (l : List UInt8) (h : (wordL l).err = 0) : 1 ≤ (wordL l).n ∧ (wordL l).n ≤ l.length := by
  cases l with
  | nil => simp [wordL] at h
  | cons u r =>
    unfold wordL at h ⊢
    by_cases h1 : u = 34
    · simp only [if_pos h1] at h ⊢
      by_cases h2 : (qt r).2.2 = 0
      · simp only [if_pos h2] at h ⊢
        have := qt_le r.length r (Nat.le_refl _)
        split <;> simp_all
      · simp only [if_neg h2] at h
        split at h <;> simp at h
    · simp only [if_neg h1] at h ⊢
      by_cases h2 : lt u = true
      · simp only [if_pos h2] at h ⊢
        have hl := lenName_le (u :: r)
        have h1 : 1 ≤ lenName (u :: r) := by
          have : cb u = true := by have : lt u = true := h2; simp [cb, lt] at this ⊢; simp [this]
          simp [lenName, this]
        split <;> simp_all
      · simp only [if_neg h2] at h ⊢
        have hn := numTail_le r
        by_cases h3 : (dg u || (u == 45 && headDig r)) = true
        · simp only [if_pos h3] at h ⊢
          split <;> simp_all
        · simp only [if_neg h3] at h ⊢
          have := signLen_le (u :: r)
          by_cases h4 : signLen (u :: r) = 0
          · simp only [if_pos h4] at h; simp at h
          · simp only [if_neg h4]; omega
theorem ev_told {α : Type} {g : Nat → Option α} {P : α → Prop} {R : α} (h : Ev g R) (hp : P R) : ∃ R, Ev g R ∧ P R := ⟨R, h, hp⟩
/-- The answer R at i is the one that W tells. -/
def Told (i : Nat) (W : Wd) (R : Int × ByteArray × Int × Int × Int × Int) : Prop :=
  R.2.2.2.2.2 = (W.err : Int) ∧ (W.err = 0 → R.1 = (W.kind : Int) ∧ R.2.1 = ⟨W.text.toArray⟩ ∧ R.2.2.1 = (i : Int) ∧ R.2.2.2.1 = ((i + W.n : Nat) : Int)) ∧ (W.err ≠ 0 → R.2.2.2.2.1 = ((i + W.off : Nat) : Int))
theorem extract_eq (s : ByteArray) (i n : Nat) : s.extract ((i : Int)).toNat (((i + n : Nat) : Int)).toNat = ⟨((D s i).take n).toArray⟩ := by
  rw [Int.toNat_natCast, Int.toNat_natCast]
  apply ByteArray.ext
  apply Array.ext'
  rw [extract_D]

theorem fin_ev (s : ByteArray) (i n kind most : Nat) (h : i + n ≤ s.size) : words_word.fin s (i : Int) (kind : Int) ((i + n : Nat) : Int) (most : Int) = if n ≤ most then some ((kind : Int), ⟨((D s i).take n).toArray⟩, (i : Int), ((i + n : Nat) : Int), 0, 0) else some ((kind : Int), ⟨((D s i).take n).toArray⟩, (i : Int), ((i + n : Nat) : Int), (i : Int), 9) := by
  unfold words_word.fin
  rw [if_pos (by omega), if_pos (by omega), extract_eq, Int.toNat_natCast, Int.toNat_natCast]
  by_cases hm : n ≤ most
  · rw [if_pos hm, if_pos (by omega)]
  · rw [if_neg hm, if_neg (by omega)]

theorem number_word (s : ByteArray) (hs : s.size ≤ 100000) (i : Nat) (h : i < s.size) (u : UInt8) (hu : D s i = u :: D s (i + 1)) :
    Ev (fun k => words_word.number k s (i : Int)) (if numTail (D s (i + 1)) + 1 ≤ 60 then (2, ⟨((D s i).take (numTail (D s (i + 1)) + 1)).toArray⟩, (i : Int), ((i + (numTail (D s (i + 1)) + 1) : Nat) : Int), 0, 0) else (2, ⟨((D s i).take (numTail (D s (i + 1)) + 1)).toArray⟩, (i : Int), ((i + (numTail (D s (i + 1)) + 1) : Nat) : Int), (i : Int), 9)) := by
  unfold words_word.number words_numberEnd.f
  have hw : wrap64 ((i : Int) + 1) = ((i + 1 : Nat) : Int) := by rw [w64 (by omega) (by omega)]; omega
  simp only [hw]
  refine Ev.bind (numberEnd_ev s hs _ (i + 1) rfl (by omega)) ?_
  have hn := numTail_le (D s (i + 1))
  rw [D_len] at hn
  have hf := fin_ev s i (numTail (D s (i + 1)) + 1) 2 60 (by omega)
  rw [show i + 1 + numTail (D s (i + 1)) = i + (numTail (D s (i + 1)) + 1) by omega]
  simp only [show ((2 : Int)) = ((2 : Nat) : Int) from rfl, show ((60 : Int)) = ((60 : Nat) : Int) from rfl, hf]
  split <;> exact Ev.now _
theorem sign_word (s : ByteArray) (hs : s.size ≤ 100000) (i : Nat) (h : i < s.size) :
    Ev (fun k => words_word.sign k s (i : Int)) (if signLen (D s i) = 0 then (4, ⟨#[]⟩, (i : Int), (i : Int), (i : Int), 5) else (4, ⟨((D s i).take (signLen (D s i))).toArray⟩, (i : Int), ((i + signLen (D s i) : Nat) : Int), 0, 0)) := by
  unfold words_word.sign
  refine Ev.bind (signEnd_ev s hs i h) ?_
  have hl := signLen_le (D s i)
  rw [D_len] at hl
  have hf := fin_ev s i (signLen (D s i)) 4 60 (by omega)
  rw [if_pos (by omega)] at hf
  by_cases h0 : signLen (D s i) = 0
  · simp only [h0, Nat.add_zero, if_true]; exact Ev.now _
  · simp only [if_neg h0, if_neg (show ¬ (((i + signLen (D s i) : Nat) : Int) = (i : Int)) by omega)]
    simp only [show ((4 : Int)) = ((4 : Nat) : Int) from rfl, show ((60 : Int)) = ((60 : Nat) : Int) from rfl, hf]
    exact Ev.now _
theorem word_ev (s : ByteArray) (hs : s.size ≤ 100000) (i : Nat) (h : i < s.size) : ∃ R, Ev (fun k => words_word.f k s (i : Int)) R ∧ Told i (wordL (D s i)) R := by
  obtain ⟨u, hu, hb⟩ := D_cons h
  have hw : wrap64 ((i : Int) + 1) = ((i + 1 : Nat) : Int) := by rw [w64 (by omega) (by omega)]; omega
  have hnum := number_word s hs i h u hu
  have hsign := sign_word s hs i h
  unfold words_word.f
  simp only [if_pos (show ((i : Int) < (s.size : Int)) by omega), if_pos (show (0 : Int) ≤ (i : Int) by omega), hb, words_letter_f, words_digit_f, Option.bind_some, hw, words_digitAt_f, c34]
  have c45 : (((u.toNat : Nat) : Int) = 45) = (u = 45) := u_eq u 45 (by omega)
  simp only [c45]
  have hlt : isLetter (u.toNat : Int) = lt u := rfl
  have hdg : isDigit (u.toNat : Int) = dg u := rfl
  rw [hlt, hdg]
  by_cases h34 : u = 34
  · subst h34
    have e1 : lt 34 = false := by decide
    have e2 : dg 34 = false := by decide
    simp only [e1, e2, Bool.false_eq_true, if_false, show ¬ (34 : UInt8) = 45 by decide, if_true]
    have hq := quoted_ev s hs i _ (i + 1) [] (Nat.le_refl _) (by omega) (by simp)
    have hq' : Ev (fun k => words_quoted.f k s (i : Int)) (qAns i (i + 1) [] (qt (D s (i + 1)))) := by
      unfold words_quoted.f
      simp only [hw]
      exact hq
    rw [hu]
    unfold words_word.quote
    generalize hQ : qt (D s (i + 1)) = q at hq' ⊢
    have hW : wordL (34 :: D s (i + 1)) = if q.2.2 = 0 then (if q.1.length ≤ 60 then ⟨3, q.1, q.2.1 + 1, 0, 0⟩ else ⟨3, [], 0, 0, 9⟩) else if q.2.2 = 6 then ⟨3, [], 0, 0, 6⟩ else ⟨3, [], 0, q.2.1 + 1, 5⟩ := by simp only [wordL, if_true, hQ]
    rw [hW]
    by_cases g0 : q.2.2 = 0
    · have ha : qAns i (i + 1) [] q = (⟨q.1.toArray⟩, ((i + 1 + q.2.1 : Nat) : Int), 0, 0) := by simp [qAns, g0]
      rw [ha] at hq'
      simp only [if_pos g0]
      have hsz : (((⟨q.1.toArray⟩ : ByteArray).size : Nat) : Int) = (q.1.length : Int) := by simp [ByteArray.size]
      by_cases g1 : q.1.length ≤ 60
      · simp only [if_pos g1]
        apply ev_told
        · apply Ev.bind hq'
          simp only [if_true, hsz, if_pos (show (q.1.length : Int) ≤ 60 by omega)]; exact Ev.now _
        · refine ⟨rfl, fun _ => ⟨rfl, rfl, rfl, ?_⟩, fun h => absurd rfl h⟩
          show ((i + 1 + q.2.1 : Nat) : Int) = _
          simp only; omega
      · simp only [if_neg g1]
        apply ev_told
        · apply Ev.bind hq'
          simp only [if_true, hsz, if_neg (show ¬ (q.1.length : Int) ≤ 60 by omega)]; exact Ev.now _
        · exact ⟨rfl, fun h => by simp at h, fun _ => by simp⟩
    · simp only [if_neg g0]
      by_cases g6 : q.2.2 = 6
      · have ha : qAns i (i + 1) [] q = (⟨#[]⟩, 0, (i : Int), 6) := by simp [qAns, g6]
        rw [ha] at hq'
        simp only [if_pos g6]
        apply ev_told
        · apply Ev.bind hq'
          simp only [show ¬ ((6 : Int) = 0) by decide, if_false]; exact Ev.now _
        · exact ⟨rfl, fun h => by simp at h, fun _ => by simp⟩
      · have ha : qAns i (i + 1) [] q = (⟨#[]⟩, 0, ((i + 1 + q.2.1 : Nat) : Int), 5) := by simp [qAns, g0, g6]
        rw [ha] at hq'
        simp only [if_neg g6]
        apply ev_told
        · apply Ev.bind hq'
          simp only [show ¬ ((5 : Int) = 0) by decide, if_false]; exact Ev.now _
        · exact ⟨rfl, fun h => by simp at h, fun _ => by simp only; omega⟩
  have hW : wordL (D s i) = if lt u then (if lenName (D s i) ≤ 12 then ⟨1, (D s i).take (lenName (D s i)), lenName (D s i), 0, 0⟩ else ⟨1, [], 0, 0, 9⟩)
    else if dg u || (u == 45 && headDig (D s (i + 1))) then (if numTail (D s (i + 1)) + 1 ≤ 60 then ⟨2, (D s i).take (numTail (D s (i + 1)) + 1), numTail (D s (i + 1)) + 1, 0, 0⟩ else ⟨2, [], 0, 0, 9⟩)
    else if signLen (D s i) = 0 then ⟨4, [], 0, 0, 5⟩ else ⟨4, (D s i).take (signLen (D s i)), signLen (D s i), 0, 0⟩ := by rw [hu]; simp only [wordL, if_neg h34]
  rw [hW]
  cases h1 : lt u
  case true =>
    simp only [if_true]
    have hn := lenName_le (D s i)
    rw [D_len] at hn
    have hf := fin_ev s i (lenName (D s i)) 1 12 (by omega)
    have he := nameEnd_ev s hs _ i rfl (by omega)
    by_cases g : lenName (D s i) ≤ 12
    · rw [if_pos g] at hf
      simp only [if_pos g]
      apply ev_told
      · apply Ev.bind (g := fun k => words_nameEnd.f k s (i : Int)) he
        simp only [show ((1 : Int)) = ((1 : Nat) : Int) from rfl, show ((12 : Int)) = ((12 : Nat) : Int) from rfl, hf]; exact Ev.now _
      · exact ⟨rfl, fun _ => ⟨rfl, rfl, rfl, rfl⟩, fun h => absurd rfl h⟩
    · rw [if_neg g] at hf
      simp only [if_neg g]
      apply ev_told
      · apply Ev.bind (g := fun k => words_nameEnd.f k s (i : Int)) he
        simp only [show ((1 : Int)) = ((1 : Nat) : Int) from rfl, show ((12 : Int)) = ((12 : Nat) : Int) from rfl, hf]; exact Ev.now _
      · exact ⟨rfl, fun h => by simp at h, fun _ => by simp⟩
  simp only [Bool.false_eq_true, if_false]
  have num : ∃ R, Ev (fun k => words_word.number k s (i : Int)) R ∧ Told i (if numTail (D s (i + 1)) + 1 ≤ 60 then ⟨2, (D s i).take (numTail (D s (i + 1)) + 1), numTail (D s (i + 1)) + 1, 0, 0⟩ else ⟨2, [], 0, 0, 9⟩) R := by
    refine ⟨_, hnum, ?_⟩
    split
    · exact ⟨rfl, fun _ => ⟨rfl, rfl, rfl, rfl⟩, fun h => absurd rfl h⟩
    · exact ⟨rfl, fun h => by simp at h, fun _ => by simp⟩
  have sgn : ∃ R, Ev (fun k => words_word.sign k s (i : Int)) R ∧ Told i (if signLen (D s i) = 0 then ⟨4, [], 0, 0, 5⟩ else ⟨4, (D s i).take (signLen (D s i)), signLen (D s i), 0, 0⟩) R := by
    refine ⟨_, hsign, ?_⟩
    split
    · exact ⟨rfl, fun h => by simp at h, fun _ => by simp⟩
    · exact ⟨rfl, fun _ => ⟨rfl, rfl, rfl, rfl⟩, fun h => absurd rfl h⟩
  cases h2 : dg u
  case true => simpa using num
  by_cases h45 : u = 45
  · subst h45
    cases h3 : headDig (D s (i + 1))
    · simpa [h3] using sgn
    · simpa [h3] using num
  · simpa [h45, h34] using sgn

theorem ref_word_ev (s : ByteArray) (hs : s.size ≤ 100000) (i : Nat) (h : i < s.size) : ∃ R, Ev (fun k => accountingref06_word.f k s (i : Int)) R ∧ Told i (wordL (D s i)) R := by
  obtain ⟨u, hu, hb⟩ := D_cons h
  have hw : wrap64 ((i : Int) + 1) = ((i + 1 : Nat) : Int) := by rw [w64 (by omega) (by omega)]; omega
  unfold accountingref06_word.f
  simp only [if_pos (show ((i : Int) < (s.size : Int)) by omega), if_pos (show (0 : Int) ≤ (i : Int) by omega), hb, ref_letter_f, ref_digit_f, Option.bind_some, hw, ref_follows_f, c34]
  have c45 : (((u.toNat : Nat) : Int) = 45) = (u = 45) := u_eq u 45 (by omega)
  simp only [c45]
  have hlt : isLetter (u.toNat : Int) = lt u := rfl
  have hdg : isDigit (u.toNat : Int) = dg u := rfl
  rw [hlt, hdg]
  by_cases h34 : u = 34
  · subst h34
    simp only [if_true]
    have hq := refText_ev s hs i _ (i + 1) [] (Nat.le_refl _) (by omega) (by simp)
    have hq' : Ev (fun k => accountingref06_text.f k s (i : Int)) (qAnsR i (i + 1) [] (qt (D s (i + 1)))) := by
      unfold accountingref06_text.f
      simp only [hw]
      exact hq
    refine ⟨_, Ev.bind hq' (Ev.now _), ?_⟩
    rw [hu]
    generalize hQ : qt (D s (i + 1)) = q
    have hW : wordL (34 :: D s (i + 1)) = if q.2.2 = 0 then (if q.1.length ≤ 60 then ⟨3, q.1, q.2.1 + 1, 0, 0⟩ else ⟨3, [], 0, 0, 9⟩) else if q.2.2 = 6 then ⟨3, [], 0, 0, 6⟩ else ⟨3, [], 0, q.2.1 + 1, 5⟩ := by simp only [wordL, if_true, hQ]
    rw [hW]
    unfold qAnsR
    by_cases g0 : q.2.2 = 0
    · simp only [if_pos g0, List.nil_append]
      by_cases g1 : q.1.length ≤ 60
      · simp only [if_pos g1, if_neg (show ¬ (q.1.length > 60) by omega)]
        exact ⟨rfl, fun _ => ⟨rfl, rfl, rfl, by simp only; omega⟩, fun h => absurd rfl h⟩
      · simp only [if_neg g1, if_pos (show (q.1.length > 60) by omega)]
        exact ⟨rfl, fun h => by simp at h, fun _ => by simp⟩
    · simp only [if_neg g0]
      by_cases g6 : q.2.2 = 6
      · simp only [if_pos g6]
        exact ⟨rfl, fun h => by simp at h, fun _ => by simp⟩
      · simp only [if_neg g6]
        exact ⟨rfl, fun h => by simp at h, fun _ => by simp only; omega⟩
  have hW : wordL (D s i) = if lt u then (if lenName (D s i) ≤ 12 then ⟨1, (D s i).take (lenName (D s i)), lenName (D s i), 0, 0⟩ else ⟨1, [], 0, 0, 9⟩)
    else if dg u || (u == 45 && headDig (D s (i + 1))) then (if numTail (D s (i + 1)) + 1 ≤ 60 then ⟨2, (D s i).take (numTail (D s (i + 1)) + 1), numTail (D s (i + 1)) + 1, 0, 0⟩ else ⟨2, [], 0, 0, 9⟩)
    else if signLen (D s i) = 0 then ⟨4, [], 0, 0, 5⟩ else ⟨4, (D s i).take (signLen (D s i)), signLen (D s i), 0, 0⟩ := by rw [hu]; simp only [wordL, if_neg h34]
  rw [hW]
  simp only [if_neg h34]
  have sub : ∀ n : Nat, n ≤ 100000 → wrap64 (((i + n : Nat) : Int) - (i : Int)) = (n : Int) := fun n hn => by rw [w64 (by omega) (by omega)]; omega
  cases h1 : lt u
  case true =>
    simp only [if_true]
    have hn := lenName_le (D s i)
    rw [D_len] at hn
    have he := refName_ev s hs i (by omega)
    by_cases g : lenName (D s i) ≤ 12
    · simp only [if_pos g]
      apply ev_told
      · apply Ev.bind (g := fun k => accountingref06_name.f k s (i : Int)) he
        simp only [sub _ (show lenName (D s i) ≤ 100000 by omega), if_neg (show ¬ ((lenName (D s i) : Int) > 12) by omega), if_pos (show (i : Int) ≤ ((i + lenName (D s i) : Nat) : Int) by omega), if_pos (show ((i + lenName (D s i) : Nat) : Int) ≤ (s.size : Int) by omega), extract_eq]; exact Ev.now _
      · exact ⟨rfl, fun _ => ⟨rfl, rfl, rfl, rfl⟩, fun h => absurd rfl h⟩
    · simp only [if_neg g]
      apply ev_told
      · apply Ev.bind (g := fun k => accountingref06_name.f k s (i : Int)) he
        simp only [sub _ (show lenName (D s i) ≤ 100000 by omega), if_pos (show ((lenName (D s i) : Int) > 12) by omega)]; exact Ev.now _
      · exact ⟨rfl, fun h => by simp at h, fun _ => by simp⟩
  simp only [Bool.false_eq_true, if_false]
  have num : ∃ R, Ev (fun k => accountingref06_word.j0 k s (i : Int) 12 true 1 (⟨#[]⟩ : ByteArray) (i : Int)) R ∧ Told i (if numTail (D s (i + 1)) + 1 ≤ 60 then ⟨2, (D s i).take (numTail (D s (i + 1)) + 1), numTail (D s (i + 1)) + 1, 0, 0⟩ else ⟨2, [], 0, 0, 9⟩) R := by
    have hn := numTail_le (D s (i + 1))
    rw [D_len] at hn
    have he : Ev (fun k => accountingref06_number.f k s (i : Int)) ((i + (numTail (D s (i + 1)) + 1) : Nat) : Int) := by
      unfold accountingref06_number.f
      simp only [hw]
      rw [show i + (numTail (D s (i + 1)) + 1) = i + 1 + numTail (D s (i + 1)) by omega]
      exact refNumber_ev s hs _ (i + 1) rfl (by omega)
    generalize hm : numTail (D s (i + 1)) + 1 = m at he hn ⊢
    by_cases g : m ≤ 60
    · simp only [if_pos g]
      apply ev_told
      · apply Ev.step (fun k => accountingref06_word.j0.eq_2 _ _ _ _ _ _ _ k)
        simp only [if_true]
        apply Ev.bind he
        simp only [sub m (by omega), if_neg (show ¬ ((m : Int) > 60) by omega), if_pos (show (0 : Int) ≤ (i : Int) by omega), if_pos (show (i : Int) ≤ ((i + m : Nat) : Int) by omega), if_pos (show ((i + m : Nat) : Int) ≤ (s.size : Int) by omega), extract_eq]; exact Ev.now _
      · exact ⟨rfl, fun _ => ⟨rfl, rfl, rfl, rfl⟩, fun h => absurd rfl h⟩
    · simp only [if_neg g]
      apply ev_told
      · apply Ev.step (fun k => accountingref06_word.j0.eq_2 _ _ _ _ _ _ _ k)
        simp only [if_true]
        apply Ev.bind he
        simp only [sub m (by omega), if_pos (show ((m : Int) > 60) by omega)]; exact Ev.now _
      · exact ⟨rfl, fun h => by simp at h, fun _ => by simp⟩
  have sgn : ∃ R, Ev (fun k => accountingref06_word.j0 k s (i : Int) 12 false 1 (⟨#[]⟩ : ByteArray) (i : Int)) R ∧ Told i (if signLen (D s i) = 0 then ⟨4, [], 0, 0, 5⟩ else ⟨4, (D s i).take (signLen (D s i)), signLen (D s i), 0, 0⟩) R := by
    have hl := signLen_le (D s i)
    rw [D_len] at hl
    have he := refSign_ev s hs i h
    have hwm : wrap64 ((i : Int) + ((signLen (D s i) : Nat) : Int)) = ((i + signLen (D s i) : Nat) : Int) := by rw [w64 (by omega) (by omega)]; omega
    by_cases g : signLen (D s i) = 0
    · simp only [if_pos g]
      apply ev_told
      · apply Ev.step (fun k => accountingref06_word.j0.eq_2 _ _ _ _ _ _ _ k)
        simp only [Bool.false_eq_true, if_false]
        apply Ev.bind he
        simp only [g, Int.natCast_zero, if_true]; exact Ev.now _
      · exact ⟨rfl, fun h => by simp at h, fun _ => by simp⟩
    · simp only [if_neg g]
      apply ev_told
      · apply Ev.step (fun k => accountingref06_word.j0.eq_2 _ _ _ _ _ _ _ k)
        simp only [Bool.false_eq_true, if_false]
        apply Ev.bind he
        simp only [if_neg (show ¬ ((signLen (D s i) : Int) = 0) by omega), hwm, sub _ (show signLen (D s i) ≤ 100000 by omega), if_neg (show ¬ ((signLen (D s i) : Int) > 12) by omega), if_pos (show (0 : Int) ≤ (i : Int) by omega), if_pos (show (i : Int) ≤ ((i + signLen (D s i) : Nat) : Int) by omega), if_pos (show ((i + signLen (D s i) : Nat) : Int) ≤ (s.size : Int) by omega), extract_eq]; exact Ev.now _
      · exact ⟨rfl, fun _ => ⟨rfl, rfl, rfl, rfl⟩, fun h => absurd rfl h⟩
  cases h2 : dg u
  case true => simpa using num
  by_cases h45 : u = 45
  · subst h45
    cases h3 : headDig (D s (i + 1))
    · simpa [h3] using sgn
    · simpa [h3] using num
  · simpa [h45, h34] using sgn

/-- The words of what is left, by the offset at which it begins: the words, the offset of the problem, the error. -/
def cutL : Nat → List UInt8 → Nat → List S39 × Nat × Nat
  | 0, _, _ => ([], 0, 0)
  | _ + 1, [], _ => ([], 0, 0)
  | f + 1, u :: r, i =>
    if u = 35 then ([], 0, 0) else if u = 32 then cutL f r (i + 1)
    else if (wordL (u :: r)).err = 0 then
      (if (cutL f ((u :: r).drop (wordL (u :: r)).n) (i + (wordL (u :: r)).n)).2.2 = 0 then ((⟨((wordL (u :: r)).kind : Int), ⟨(wordL (u :: r)).text.toArray⟩, (i : Int)⟩ : S39) :: (cutL f ((u :: r).drop (wordL (u :: r)).n) (i + (wordL (u :: r)).n)).1, 0, 0)
       else ([], (cutL f ((u :: r).drop (wordL (u :: r)).n) (i + (wordL (u :: r)).n)).2))
    else ([], i + (wordL (u :: r)).off, (wordL (u :: r)).err)
def cutAns (size : Nat) (acc : List S39) (c : List S39 × Nat × Nat) : List S39 × Int × Int := if c.2.2 = 0 then (acc ++ c.1, (size : Int), 0) else ([], (c.2.1 : Int), (c.2.2 : Int))
def cutS (s : ByteArray) : List S39 × Int × Int := if s.size > 400 then ([], 0, 9) else cutAns s.size [] (cutL (s.size + 1) (D s 0) 0)

theorem words_cut_ev (s : ByteArray) (hs : s.size ≤ 100000) : ∀ (f i : Nat) (acc : List S39), s.size - i < f → i ≤ s.size → acc.length ≤ i → Ev (fun k => words_Cut.l0 k s acc (i : Int)) (cutAns s.size acc (cutL f (D s i) i)) := by
  intro f
  induction f with
  | zero => intro i acc h; omega
  | succ f ih =>
    intro i acc hf hi ha
    refine Ev.step (fun k => words_Cut.l0.eq_2 _ _ _ k) ?_
    by_cases h : i < s.size
    case neg =>
      simp only [if_neg (show ¬ ((i : Int) < (s.size : Int)) by omega)]
      refine Ev.step (fun k => words_Cut.j1.eq_2 _ _ _ _ k) ?_
      rw [D_end (by omega)]
      have : cutAns s.size acc (cutL (f + 1) [] i) = (acc, (s.size : Int), 0) := by simp [cutAns, cutL]
      rw [this]
      simp only [Bool.false_eq_true, if_false]
      exact Ev.now _
    obtain ⟨u, hu, hb⟩ := D_cons h
    simp only [if_pos (show ((i : Int) < (s.size : Int)) by omega), if_pos (show (0 : Int) ≤ (i : Int) by omega), hb]
    have hw : wrap64 ((i : Int) + 1) = ((i + 1 : Nat) : Int) := by rw [w64 (by omega) (by omega)]; omega
    have c35 : (((u.toNat : Nat) : Int) != 35) = !decide (u = 35) := by
      rw [Bool.eq_iff_iff]; simp only [bne_iff_ne, ne_eq, u_eq u 35 (by omega), Bool.not_eq_true', decide_eq_false_iff_not]
      have := u_eq u 35 (by omega)
      rw [show (((35 : Nat) : Int)) = 35 from rfl] at this
      rw [this]; rfl
    have c32 : (((u.toNat : Nat) : Int) = 32) = (u = 32) := u_eq u 32 (by omega)
    rw [c35]
    refine Ev.step (fun k => words_Cut.j1.eq_2 _ _ _ _ k) ?_
    by_cases h35 : u = 35
    · have : cutAns s.size acc (cutL (f + 1) (D s i) i) = (acc, (s.size : Int), 0) := by rw [hu]; simp [cutAns, cutL, h35]
      rw [this]
      simp only [h35, decide_true, Bool.not_true, Bool.false_eq_true, if_false]
      exact Ev.now _
    simp only [h35, decide_false, Bool.not_false, if_true, if_pos (show ((i : Int) < (s.size : Int)) by omega), if_pos (show (0 : Int) ≤ (i : Int) by omega), hb, c32, hw]
    by_cases h32 : u = 32
    · simp only [if_pos h32]
      have hi' := ih (i + 1) acc (by omega) (by omega) (by omega)
      have : cutL (f + 1) (D s i) i = cutL f (D s (i + 1)) (i + 1) := by rw [hu]; simp only [cutL, if_neg h35, if_pos h32]
      rw [this]; exact hi'
    simp only [if_neg h32]
    obtain ⟨R, hR, ht1, ht2, ht3⟩ := word_ev s hs i h
    refine Ev.bind hR ?_
    have hc : cutL (f + 1) (D s i) i = if (wordL (D s i)).err = 0 then
      (if (cutL f ((D s i).drop (wordL (D s i)).n) (i + (wordL (D s i)).n)).2.2 = 0 then ((⟨((wordL (D s i)).kind : Int), ⟨(wordL (D s i)).text.toArray⟩, (i : Int)⟩ : S39) :: (cutL f ((D s i).drop (wordL (D s i)).n) (i + (wordL (D s i)).n)).1, 0, 0)
       else ([], (cutL f ((D s i).drop (wordL (D s i)).n) (i + (wordL (D s i)).n)).2))
      else ([], i + (wordL (D s i)).off, (wordL (D s i)).err) := by rw [hu]; simp only [cutL, if_neg h35, if_neg h32]
    rw [hc]
    by_cases he : (wordL (D s i)).err = 0
    · have hn := wordL_n (D s i) he
      rw [D_len] at hn
      obtain ⟨r1, r2, r3, r4⟩ := ht2 he
      have hi' := ih (i + (wordL (D s i)).n) (acc ++ [⟨((wordL (D s i)).kind : Int), ⟨(wordL (D s i)).text.toArray⟩, (i : Int)⟩]) (by omega) (by omega) (by simp; omega)
      simp only [ht1, he, Int.natCast_zero, if_true, r1, r2, r3, r4, if_pos (show acc.length < 4398046511104 by omega), D_drop]
      have : cutAns s.size (acc ++ [⟨((wordL (D s i)).kind : Int), ⟨(wordL (D s i)).text.toArray⟩, (i : Int)⟩]) (cutL f (D s (i + (wordL (D s i)).n)) (i + (wordL (D s i)).n)) = cutAns s.size acc (if (cutL f (D s (i + (wordL (D s i)).n)) (i + (wordL (D s i)).n)).2.2 = 0 then ((⟨((wordL (D s i)).kind : Int), ⟨(wordL (D s i)).text.toArray⟩, (i : Int)⟩ : S39) :: (cutL f (D s (i + (wordL (D s i)).n)) (i + (wordL (D s i)).n)).1, 0, 0)
       else ([], (cutL f (D s (i + (wordL (D s i)).n)) (i + (wordL (D s i)).n)).2)) := by
        unfold cutAns
        split
        · simp
        · rename_i hne; simp [hne]
      rw [this] at hi'
      exact hi'
    · simp only [ht1, if_neg he, if_neg (show ¬ (((wordL (D s i)).err : Int) = 0) by omega), ht3 he]
      have : cutAns s.size acc ([], i + (wordL (D s i)).off, (wordL (D s i)).err) = ([], ((i + (wordL (D s i)).off : Nat) : Int), ((wordL (D s i)).err : Int)) := by simp [cutAns, he]
      rw [this]
      exact Ev.now _
theorem words_Cut_ev (s : ByteArray) : Ev (fun k => words_Cut.f k s) (cutS s) := by
  unfold words_Cut.f cutS
  by_cases h : s.size > 400
  · simp only [if_pos h, if_pos (show (s.size : Int) > 400 by omega)]; exact Ev.now _
  · simp only [if_neg h, if_neg (show ¬ ((s.size : Int) > 400) by omega)]
    exact words_cut_ev s (by omega) (s.size + 1) 0 [] (by omega) (by omega) (by simp)

theorem accountingref06_cut_ev (s : ByteArray) (hs : s.size ≤ 100000) : ∀ (f i : Nat) (acc : List S39), s.size - i < f → i ≤ s.size → acc.length ≤ i → Ev (fun k => accountingref06_Cut.l0 k s acc (i : Int)) (cutAns s.size acc (cutL f (D s i) i)) := by
  intro f
  induction f with
  | zero => intro i acc h; omega
  | succ f ih =>
    intro i acc hf hi ha
    refine Ev.step (fun k => accountingref06_Cut.l0.eq_2 _ _ _ k) ?_
    by_cases h : i < s.size
    case neg =>
      simp only [if_neg (show ¬ ((i : Int) < (s.size : Int)) by omega)]
      refine Ev.step (fun k => accountingref06_Cut.j1.eq_2 _ _ _ _ k) ?_
      rw [D_end (by omega)]
      have : cutAns s.size acc (cutL (f + 1) [] i) = (acc, (s.size : Int), 0) := by simp [cutAns, cutL]
      rw [this]
      simp only [Bool.false_eq_true, if_false]
      exact Ev.now _
    obtain ⟨u, hu, hb⟩ := D_cons h
    simp only [if_pos (show ((i : Int) < (s.size : Int)) by omega), if_pos (show (0 : Int) ≤ (i : Int) by omega), hb]
    have hw : wrap64 ((i : Int) + 1) = ((i + 1 : Nat) : Int) := by rw [w64 (by omega) (by omega)]; omega
    have c35 : (((u.toNat : Nat) : Int) != 35) = !decide (u = 35) := by
      rw [Bool.eq_iff_iff]; simp only [bne_iff_ne, ne_eq, u_eq u 35 (by omega), Bool.not_eq_true', decide_eq_false_iff_not]
      have := u_eq u 35 (by omega)
      rw [show (((35 : Nat) : Int)) = 35 from rfl] at this
      rw [this]; rfl
    have c32 : (((u.toNat : Nat) : Int) = 32) = (u = 32) := u_eq u 32 (by omega)
    rw [c35]
    refine Ev.step (fun k => accountingref06_Cut.j1.eq_2 _ _ _ _ k) ?_
    by_cases h35 : u = 35
    · have : cutAns s.size acc (cutL (f + 1) (D s i) i) = (acc, (s.size : Int), 0) := by rw [hu]; simp [cutAns, cutL, h35]
      rw [this]
      simp only [h35, decide_true, Bool.not_true, Bool.false_eq_true, if_false]
      exact Ev.now _
    simp only [h35, decide_false, Bool.not_false, if_true, if_pos (show ((i : Int) < (s.size : Int)) by omega), if_pos (show (0 : Int) ≤ (i : Int) by omega), hb, c32, hw]
    by_cases h32 : u = 32
    · simp only [if_pos h32]
      have hi' := ih (i + 1) acc (by omega) (by omega) (by omega)
      have : cutL (f + 1) (D s i) i = cutL f (D s (i + 1)) (i + 1) := by rw [hu]; simp only [cutL, if_neg h35, if_pos h32]
      rw [this]; exact hi'
    simp only [if_neg h32]
    obtain ⟨R, hR, ht1, ht2, ht3⟩ := ref_word_ev s hs i h
    refine Ev.bind hR ?_
    have hc : cutL (f + 1) (D s i) i = if (wordL (D s i)).err = 0 then
      (if (cutL f ((D s i).drop (wordL (D s i)).n) (i + (wordL (D s i)).n)).2.2 = 0 then ((⟨((wordL (D s i)).kind : Int), ⟨(wordL (D s i)).text.toArray⟩, (i : Int)⟩ : S39) :: (cutL f ((D s i).drop (wordL (D s i)).n) (i + (wordL (D s i)).n)).1, 0, 0)
       else ([], (cutL f ((D s i).drop (wordL (D s i)).n) (i + (wordL (D s i)).n)).2))
      else ([], i + (wordL (D s i)).off, (wordL (D s i)).err) := by rw [hu]; simp only [cutL, if_neg h35, if_neg h32]
    rw [hc]
    by_cases he : (wordL (D s i)).err = 0
    · have hn := wordL_n (D s i) he
      rw [D_len] at hn
      obtain ⟨r1, r2, r3, r4⟩ := ht2 he
      have hi' := ih (i + (wordL (D s i)).n) (acc ++ [⟨((wordL (D s i)).kind : Int), ⟨(wordL (D s i)).text.toArray⟩, (i : Int)⟩]) (by omega) (by omega) (by simp; omega)
      simp only [ht1, he, Int.natCast_zero, if_true, r1, r2, r3, r4, if_pos (show acc.length < 4398046511104 by omega), D_drop]
      have : cutAns s.size (acc ++ [⟨((wordL (D s i)).kind : Int), ⟨(wordL (D s i)).text.toArray⟩, (i : Int)⟩]) (cutL f (D s (i + (wordL (D s i)).n)) (i + (wordL (D s i)).n)) = cutAns s.size acc (if (cutL f (D s (i + (wordL (D s i)).n)) (i + (wordL (D s i)).n)).2.2 = 0 then ((⟨((wordL (D s i)).kind : Int), ⟨(wordL (D s i)).text.toArray⟩, (i : Int)⟩ : S39) :: (cutL f (D s (i + (wordL (D s i)).n)) (i + (wordL (D s i)).n)).1, 0, 0)
       else ([], (cutL f (D s (i + (wordL (D s i)).n)) (i + (wordL (D s i)).n)).2)) := by
        unfold cutAns
        split
        · simp
        · rename_i hne; simp [hne]
      rw [this] at hi'
      exact hi'
    · simp only [ht1, if_neg he, if_neg (show ¬ (((wordL (D s i)).err : Int) = 0) by omega), ht3 he]
      have : cutAns s.size acc ([], i + (wordL (D s i)).off, (wordL (D s i)).err) = ([], ((i + (wordL (D s i)).off : Nat) : Int), ((wordL (D s i)).err : Int)) := by simp [cutAns, he]
      rw [this]
      exact Ev.now _
theorem accountingref06_Cut_ev (s : ByteArray) : Ev (fun k => accountingref06_Cut.f k s) (cutS s) := by
  unfold accountingref06_Cut.f cutS
  by_cases h : s.size > 400
  · simp only [if_pos h, if_pos (show (s.size : Int) > 400 by omega)]; exact Ev.now _
  · simp only [if_neg h, if_neg (show ¬ ((s.size : Int) > 400) by omega)]
    exact accountingref06_cut_ev s (by omega) (s.size + 1) 0 [] (by omega) (by omega) (by simp)
end Go.Proofs.Ytlcjajcjoflpkaa.Sp
