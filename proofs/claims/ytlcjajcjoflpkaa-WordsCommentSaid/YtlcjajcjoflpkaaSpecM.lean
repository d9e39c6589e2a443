/- The notation of a word, and the program's line of some words. -/
import Derived.Test.YtlcjajcjoflpkaaSpecC
import Derived.Test.YtlcjajcjoflpkaaSpecD
import Derived.Test.YtlcjajcjoflpkaaSpecQP
import Derived.Test.YtlcjajcjoflpkaaPx10
namespace Go.Proofs.Ytlcjajcjoflpkaa.Sp
open Go.RowKit Go.Proofs.Ytlcjajcjoflpkaa.P Go.Proofs.YtlcjajcjoflpkaaW.PrintWords Go.Proofs.YtlcjajcjoflpkaaW.PrintLast
set_option linter.unusedSimpArgs false
set_option linter.unusedVariables false

/-- The notation of a word, and whether it is read as this word. -/
def notS (kind : Int) (s : ByteArray) : ByteArray × Bool :=
  if kind = 3 then (if plainB s then ((quoteS s).1, decide ((cutS (quoteS s).1).2.2 = 0 ∧ (cutS (quoteS s).1).1.length = 1 ∧ (rd_T39 (cutS (quoteS s).1).1 0).f0 = kind) && ((rd_T39 (cutS (quoteS s).1).1 0).f1).toList == s.toList) else (⟨#[]⟩, false))
  else (s, decide ((cutS s).2.2 = 0 ∧ (cutS s).1.length = 1 ∧ (rd_T39 (cutS s).1 0).f0 = kind) && ((rd_T39 (cutS s).1 0).f1).toList == s.toList)
theorem not_body (q s : ByteArray) (kind : Int) (c : List S39 × Int × Int) : (if c.2.2 = 0 then (if (c.1.length : Int) = 1 then (if 0 < (c.1.length : Int) then (if ((rd_T39 c.1 0).f0) = kind then (some (q, (((rd_T39 c.1 0).f1).toList == s.toList))) else (some (q, false))) else (none)) else (some (q, false))) else (some (q, false))) = some (q, decide (c.2.2 = 0 ∧ c.1.length = 1 ∧ (rd_T39 c.1 0).f0 = kind) && ((rd_T39 c.1 0).f1).toList == s.toList) := by
  by_cases h1 : c.2.2 = 0
  · by_cases h2 : c.1.length = 1
    · by_cases h3 : (rd_T39 c.1 0).f0 = kind
      · simp [h1, h2, h3]
      · simp [h1, h2, h3]
    · rw [if_pos h1, if_neg (show ¬ ((c.1.length : Int) = 1) by omega)]; simp [h2]
  · simp [h1]

theorem words_notation_ev (kind : Int) (s : ByteArray) (at_ : Int) (hs : s.size ≤ 100000) : Ev (fun k => words_notation.f k kind s at_) (notS kind s) := by
  unfold words_notation.f notS
  by_cases h3 : kind = 3
  · simp only [if_pos h3]
    refine Ev.bind (words_Quote_ev s hs) ?_
    cases hp : plainB s
    · have : quoteS s = (⟨#[]⟩, 5) := by unfold quoteS; rw [hp]; rfl
      simp only [this, show ¬ ((5 : Int) = 0) by decide, if_false, Bool.false_eq_true]; exact Ev.now _
    · have : (quoteS s).2 = 0 := by unfold quoteS; rw [hp]; rfl
      simp only [this, if_true]
      refine Ev.step (fun k => words_notation.j0.eq_2 _ _ _ _ k) ?_
      refine Ev.bind (words_Cut_ev _) ?_
      simp only [not_body]
      exact Ev.now _
  · simp only [if_neg h3]
    refine Ev.step (fun k => words_notation.j0.eq_2 _ _ _ _ k) ?_
    refine Ev.bind (words_Cut_ev _) ?_
    simp only [not_body]
    exact Ev.now _

theorem notS_size (kind : Int) (s : ByteArray) (hs : s.size ≤ 500) : (notS kind s).1.size ≤ 500 := by
  unfold notS
  split
  · split
    · rename_i h
      have h60 : s.size ≤ 60 := by unfold plainB at h; simp at h; exact h.1
      unfold quoteS
      rw [if_pos h]
      have := esc_len (D s 0)
      rw [D_len] at this
      simp [ByteArray.size]; omega
    · exact Nat.zero_le _
  · exact hs
def joinS : List S39 → Bool → ByteArray → ByteArray × Int
  | [], _, acc => if acc.size > 400 then (⟨#[]⟩, 9) else (acc, 0)
  | x :: xs, first, acc => if (notS x.f0 x.f1).2 then joinS xs false (if first then acc ++ (notS x.f0 x.f1).1 else (acc ++ (⟨#[32]⟩ : ByteArray)) ++ (notS x.f0 x.f1).1) else (⟨#[]⟩, 5)
theorem rd_at (xs ys : List S39) (y : S39) : rd_T39 (xs ++ y :: ys) (xs.length : Int) = y := by simp [rd_T39]

theorem words_join_l0 : ∀ (ys xs : List S39) (acc : ByteArray), (∀ y ∈ ys, y.f1.size ≤ 500) → xs.length + ys.length ≤ 1000 → acc.size ≤ 600 * xs.length → Ev (fun k => words_Join.l0 k acc (xs ++ ys) ((xs ++ ys).length : Int) (xs.length : Int)) (joinS ys (decide (xs.length = 0)) acc) := by
  intro ys
  induction ys with
  | nil =>
    intro xs acc hf hl ha
    refine Ev.step (fun k => words_Join.l0.eq_2 _ _ _ _ k) ?_
    simp only [if_neg (show ¬ ((xs.length : Int) < ((xs ++ []).length : Int)) by simp), joinS]
    by_cases h : acc.size > 400
    · simp only [if_pos h, if_pos (show (acc.size : Int) > 400 by omega)]; exact Ev.now _
    · simp only [if_neg h, if_neg (show ¬ (acc.size : Int) > 400 by omega)]; exact Ev.now _
  | cons y ys ih =>
    intro xs acc hf hl ha
    refine Ev.step (fun k => words_Join.l0.eq_2 _ _ _ _ k) ?_
    have h1 : (xs.length : Int) < ((xs ++ y :: ys).length : Int) := by simp; omega
    have hw : wrap64 ((xs.length : Int) + 1) = (((xs ++ [y]).length : Nat) : Int) := by simp at hl ⊢; rw [w64 (by omega) (by omega)]
    have hy := hf y (by simp)
    have hsz := notS_size y.f0 y.f1 hy
    simp only [if_pos h1, if_pos (show (0 : Int) ≤ (xs.length : Int) by omega), rd_at, hw]
    refine Ev.bind (words_notation_ev y.f0 y.f1 y.f2 (by omega)) ?_
    simp only [joinS]
    cases hn : (notS y.f0 y.f1).2
    · simp only [Bool.false_eq_true, if_false]; exact Ev.now _
    · simp only [if_true]
      have hl' : xs.length + (ys.length + 1) ≤ 1000 := hl
      by_cases h0 : xs.length = 0
      · have hsz2 : (acc ++ (notS y.f0 y.f1).1).size ≤ 600 * (xs ++ [y]).length := by simp; omega
        simp only [if_neg (show ¬ ((xs.length : Int) > 0) by omega), h0, decide_true, if_true, if_pos (show acc.size + (notS y.f0 y.f1).1.size ≤ 9223372036854775807 by omega)]
        have := ih (xs ++ [y]) (acc ++ (notS y.f0 y.f1).1) (fun z hz => hf z (by simp [hz])) (by simp; omega) hsz2
        simpa using this
      · have hsz2 : ((acc ++ (⟨#[32]⟩ : ByteArray)) ++ (notS y.f0 y.f1).1).size ≤ 600 * (xs ++ [y]).length := by
          have : (⟨#[32]⟩ : ByteArray).size = 1 := rfl
          simp [this]; omega
        have h32 : (acc ++ (⟨#[32]⟩ : ByteArray)).size = acc.size + 1 := by simp; rfl
        simp only [if_pos (show ((xs.length : Int) > 0) by omega), h0, decide_false, Bool.false_eq_true, if_false, h32, if_pos (show acc.size + 1 ≤ 9223372036854775807 by omega), if_pos (show acc.size + 1 + (notS y.f0 y.f1).1.size ≤ 9223372036854775807 by omega)]
        have := ih (xs ++ [y]) ((acc ++ (⟨#[32]⟩ : ByteArray)) ++ (notS y.f0 y.f1).1) (fun z hz => hf z (by simp [hz])) (by simp; omega) hsz2
        simpa using this
theorem words_Join_ev (l : List S39) (hf : ∀ y ∈ l, y.f1.size ≤ 500) (hl : l.length ≤ 1000) : Ev (fun k => words_Join.f k l) (joinS l true ⟨#[]⟩) := by
  have := words_join_l0 l [] ⟨#[]⟩ hf (by simpa using hl) (Nat.zero_le _)
  unfold words_Join.f
  simpa using this

end Go.Proofs.Ytlcjajcjoflpkaa.Sp
