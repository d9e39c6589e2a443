/- The quoted text of a plain text, as the program writes it. -/
import Derived.Test.YtlcjajcjoflpkaaSpecB
import Derived.Test.YtlcjajcjoflpkaaSpecE
import Derived.Test.YtlcjajcjoflpkaaPx9
namespace Go.Proofs.Ytlcjajcjoflpkaa.Sp
open Go.RowKit Go.Proofs.Ytlcjajcjoflpkaa.P Go.Proofs.YtlcjajcjoflpkaaW.PrintWords Go.Proofs.YtlcjajcjoflpkaaW.PrintLast
set_option linter.unusedSimpArgs false
set_option linter.unusedVariables false

/-! quotation -/
def esc : List UInt8 → List UInt8
  | [] => [34]
  | u :: r => if u = 34 ∨ u = 92 then 92 :: u :: esc r else u :: esc r
theorem esc_len (l : List UInt8) : (esc l).length ≤ 2 * l.length + 1 := by
  induction l with
  | nil => simp [esc]
  | cons u r ih => unfold esc; split <;> simp <;> omega
def quoteS (s : ByteArray) : ByteArray × Int := if plainB s then (⟨(34 :: esc (D s 0)).toArray⟩, 0) else (⟨#[]⟩, 5)
theorem toI_34 (acc : List UInt8) : toI acc ++ [34] = toI (acc ++ [34]) := by simp [toI]
theorem toI_92 (acc : List UInt8) : toI acc ++ [92] = toI (acc ++ [92]) := by simp [toI]

theorem words_quote_l0 (s : ByteArray) (hs : s.size ≤ 100000) : ∀ (n i : Nat) (acc : List UInt8), s.size - i = n → i ≤ s.size → acc.length ≤ 2 * i + 1 → Ev (fun k => words_Quote.l0 k s (toI acc) (s.size : Int) (i : Int)) (⟨(acc ++ esc (D s i)).toArray⟩, 0) := by
  intro n
  induction n with
  | zero =>
    intro i acc hn hi ha
    refine Ev.step (fun k => words_Quote.l0.eq_2 _ _ _ _ k) ?_
    have hl : (toI acc).length < 140737488355328 := by simp [toI]; omega
    simp only [if_neg (show ¬ ((i : Int) < (s.size : Int)) by omega), if_pos hl, toI_34, strOf_toI]
    rw [D_end (by omega)]
    exact Ev.now _
  | succ n ih =>
    intro i acc hn hi ha
    obtain ⟨u, hu, hb⟩ := D_cons (show i < s.size by omega)
    refine Ev.step (fun k => words_Quote.l0.eq_2 _ _ _ _ k) ?_
    have hw : wrap64 ((i : Int) + 1) = ((i + 1 : Nat) : Int) := by rw [w64 (by omega) (by omega)]; omega
    have hl : (toI acc).length < 140737488355328 := by simp [toI]; omega
    have hl2 : (toI (acc ++ [92])).length < 140737488355328 := by simp [toI]; omega
    simp only [if_pos (show ((i : Int) < (s.size : Int)) by omega), if_pos (show (0 : Int) ≤ (i : Int) by omega), hw, hb, c34, c92, if_pos hl, toI_92, Option.bind_some, if_pos hl2, toI_snoc]
    have h1 := ih (i + 1) (acc ++ [92] ++ [u]) (by omega) (by omega) (by simp; omega)
    have h2 := ih (i + 1) (acc ++ [u]) (by omega) (by omega) (by simp; omega)
    rw [hu]
    by_cases h34 : u = 34
    · simp only [if_pos h34]
      have : acc ++ esc (u :: D s (i + 1)) = acc ++ [92] ++ [u] ++ esc (D s (i + 1)) := by simp [esc, h34]
      rw [this]; exact h1
    simp only [if_neg h34]
    by_cases h92 : u = 92
    · simp only [if_pos h92]
      have : acc ++ esc (u :: D s (i + 1)) = acc ++ [92] ++ [u] ++ esc (D s (i + 1)) := by simp [esc, h92]
      rw [this]; exact h1
    simp only [if_neg h92]
    have : acc ++ esc (u :: D s (i + 1)) = acc ++ [u] ++ esc (D s (i + 1)) := by simp [esc, h34, h92]
    rw [this]; exact h2
theorem words_Quote_ev (s : ByteArray) (hs : s.size ≤ 100000) : Ev (fun k => words_Quote.f k s) (quoteS s) := by
  unfold words_Quote.f quoteS
  simp only [words_Plain_f, Option.bind_some]
  have h34 : ([34] : List Int) = toI [34] := rfl
  cases hp : plainB s
  · simp only [Bool.false_eq_true, if_false]; exact Ev.now _
  · simp only [if_true, h34]
    exact words_quote_l0 s hs _ 0 [34] rfl (by omega) (by simp)

end Go.Proofs.Ytlcjajcjoflpkaa.Sp
