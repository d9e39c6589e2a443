/- The reference's sum. -/
import Derived.Test.YtmflggbpiadkjaaPx9
import Derived.Test.YtmflggbpiadkjaaSpecU
namespace Go.Proofs.Ytmflggbpiadkjaa.P
open Go.RowKit Go.Sort Go.Proofs.YtmflggbpiadkjaaW.PrintWords Go.Proofs.YtmflggbpiadkjaaW.PrintLast Go.Proofs.Ytmflggbpiadkjaa.Op
set_option linter.unusedVariables false
set_option linter.unusedSimpArgs false
theorem i64_low32 (n : Int) : bits .and .i64 n 4294967295 = n % 4294967296 := by
  have h : (BitVec.ofInt 64 4294967295).toNat = 2 ^ 32 - 1 := by decide
  have key : (BitVec.ofInt 64 n &&& BitVec.ofInt 64 4294967295).toNat = (n % ((2 ^ 64 : Nat) : Int)).toNat % 2 ^ 32 := by
    rw [BitVec.toNat_and, BitVec.toNat_ofInt, h, Nat.and_two_pow_sub_one_eq_mod]
  show IntKind.i64.wrap ((BitVec.ofInt 64 n &&& BitVec.ofInt 64 4294967295).toNat : Nat) = n % 4294967296
  rw [key, IntKind.wrap_i64]
  omega
theorem rsum_l0 (l : List Int) (hl : l.length ≤ 1000000) (hok : ∀ x ∈ l, i64ok x) : ∀ (n i : Nat) (a b : Int), l.length - i = n → i ≤ l.length → a * 4294967296 + b = (l.take i).sum → -(2147483648 * (i : Int)) ≤ a → a ≤ 2147483648 * (i : Int) → 0 ≤ b → b ≤ 4294967296 * (i : Int) → Ev (fun k => accountingref01_Sum.l0 k l a b (i : Int)) (if i64ok l.sum then (l.sum, true) else (0, false)) := by
  intro n
  induction n with
  | zero =>
    intro i a b hn hi he h1 h2 h3 h4
    rw [List.take_of_length_le (by omega)] at he
    have w1 : wrap64 (a + b / 4294967296) = a + b / 4294967296 := w64 (by omega) (by omega)
    refine Ev.step (fun k => accountingref01_Sum.l0.eq_2 _ _ _ _ k) ?_
    simp only [if_neg (show ¬ ((i : Int) < (l.length : Int)) by omega), w1, i64_low32]
    by_cases c1 : a + b / 4294967296 < -2147483648
    · simp only [if_pos c1, if_neg (show ¬ i64ok l.sum by unfold i64ok; omega)]
      exact Ev.now _
    · simp only [if_neg c1]
      by_cases c2 : a + b / 4294967296 > 2147483647
      · simp only [if_pos c2, if_neg (show ¬ i64ok l.sum by unfold i64ok; omega)]
        exact Ev.now _
      · simp only [if_neg c2, if_pos (show i64ok l.sum by unfold i64ok; omega)]
        have w2 : wrap64 (wrap64 ((a + b / 4294967296) * 4294967296) + b % 4294967296) = l.sum := by
          unfold wrap64
          omega
        rw [w2]
        exact Ev.now _
  | succ n ih =>
    intro i a b hn hi he h1 h2 h3 h4
    have hil : i < l.length := by omega
    have hv := hok _ (List.getElem_mem hil)
    unfold i64ok at hv
    have hw : wrap64 ((i : Int) + 1) = ((i + 1 : Nat) : Int) := by rw [w64 (by omega) (by omega)]; omega
    have w1 : wrap64 (a + l[i] / 4294967296) = a + l[i] / 4294967296 := w64 (by omega) (by omega)
    have w2 : wrap64 (b + l[i] % 4294967296) = b + l[i] % 4294967296 := w64 (by omega) (by omega)
    refine Ev.step (fun k => accountingref01_Sum.l0.eq_2 _ _ _ _ k) ?_
    simp only [if_pos (show ((i : Int) < (l.length : Int)) by omega), if_pos (show (0 : Int) ≤ (i : Int) by omega), hw, rd_at hil, i64_low32, w1, w2]
    refine ih (i + 1) _ _ (by omega) (by omega) ?_ (by push_cast; omega) (by push_cast; omega) (by omega) (by push_cast; omega)
    have ht : l.take (i + 1) = l.take i ++ [l[i]] := by rw [List.take_add_one, List.getElem?_eq_getElem hil]; rfl
    have e : (l.take (i + 1)).sum = (l.take i).sum + l[i] := by rw [ht, List.sum_append, List.sum_cons, List.sum_nil, Int.add_zero]
    rw [e]
    omega
theorem rsum_ev (l : List Int) (hl : l.length ≤ 1000000) (hok : ∀ x ∈ l, i64ok x) : Ev (fun k => accountingref01_Sum.f k l) (if i64ok l.sum then (l.sum, true) else (0, false)) :=
  rsum_l0 l hl hok _ 0 0 0 rfl (Nat.zero_le _) (by simp) (by simp) (by simp) (by simp) (by simp)
theorem fits_pure (n : Int) : accountingref19_fits.f n = some (fitB n) := by
  unfold accountingref19_fits.f fitB
  by_cases h : n ≥ -1000000000000000
  · rw [if_pos h, decide_eq_true (show -1000000000000000 ≤ n from h)]; rfl
  · rw [if_neg h, decide_eq_false (show ¬ -1000000000000000 ≤ n from h)]; rfl
end Go.Proofs.Ytmflggbpiadkjaa.P
