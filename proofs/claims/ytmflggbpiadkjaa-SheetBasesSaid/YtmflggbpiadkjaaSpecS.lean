/- The reference's sum, and the bases' sums of both sides. -/
import Derived.Test.YtmflggbpiadkjaaPx9
import Derived.Test.YtmflggbpiadkjaaPx16
import Derived.Test.YtmflggbpiadkjaaPx25
import Derived.Test.YtmflggbpiadkjaaOpnJ
import Derived.Test.YtmflggbpiadkjaaHandJ
namespace Go.Proofs.Ytmflggbpiadkjaa.P
open Go.RowKit Go.Sort Go.Proofs.YtmflggbpiadkjaaW.PrintWords Go.Proofs.YtmflggbpiadkjaaW.PrintLast Go.Proofs.Ytmflggbpiadkjaa.Op
set_option linter.unusedVariables false
set_option linter.unusedSimpArgs false
theorem w64 {n : Int} (h1 : -9223372036854775808 ≤ n) (h2 : n ≤ 9223372036854775807) : wrap64 n = n := by unfold wrap64; omega
theorem i64_low32 (n : Int) : bits .and .i64 n 4294967295 = n % 4294967296 := by
  have h : (BitVec.ofInt 64 4294967295).toNat = 2 ^ 32 - 1 := by decide
  have key : (BitVec.ofInt 64 n &&& BitVec.ofInt 64 4294967295).toNat = (n % ((2 ^ 64 : Nat) : Int)).toNat % 2 ^ 32 := by
    rw [BitVec.toNat_and, BitVec.toNat_ofInt, h, Nat.and_two_pow_sub_one_eq_mod]
  show IntKind.i64.wrap ((BitVec.ofInt 64 n &&& BitVec.ofInt 64 4294967295).toNat : Nat) = n % 4294967296
  rw [key, IntKind.wrap_i64]
  omega
theorem rd_at {l : List Int} {i : Nat} (h : i < l.length) : rd l (i : Int) = l[i] := by simp [rd, h]
theorem rd34_at {l : List S34} {i : Nat} (h : i < l.length) : rd_T34 l (i : Int) = l[i] := by simp [rd_T34, h]
theorem rd32_at {l : List S32} {i : Nat} (h : i < l.length) : rd_T32 l (i : Int) = l[i] := by simp [rd_T32, h]
theorem rsum_l0 (l : List Int) (hl : l.length ≤ 1000000) (hok : ∀ x ∈ l, i64ok x) : ∀ (n i : Nat) (a b : Int), l.length - i = n → i ≤ l.length → a * 4294967296 + b = (l.take i).sum → -(2147483648 * (i : Int)) ≤ a → a ≤ 2147483648 * (i : Int) → 0 ≤ b → b ≤ 4294967296 * (i : Int) → Ev (fun k => accountingref01_Sum.l0 k l a b (i : Int)) (if i64ok l.sum then (l.sum, true) else (0, false)) := by
  intro n
  induction n with
  | zero =>
    intro i a b hn hi he h1 h2 h3 h4
    rw [List.take_of_length_le (by omega)] at he
    have w1 : wrap64 (a + b / 4294967296) = a + b / 4294967296 := w64 (by omega) (by omega)
    refine Ev.step (fun k => accountingref01_Sum.l0.eq_2 _ _ _ _ k) ?_
    simp only [if_neg (show ¬ ((i : Int) < (l.length : Int)) by omega), w1, i64_low32]
    by_cases c1 : a + b / 4294967296 < -2147483648
    · simp only [if_pos c1, if_neg (show ¬ i64ok l.sum by unfold i64ok; omega)]
      exact Ev.now _
    · simp only [if_neg c1]
      by_cases c2 : a + b / 4294967296 > 2147483647
      · simp only [if_pos c2, if_neg (show ¬ i64ok l.sum by unfold i64ok; omega)]
        exact Ev.now _
      · simp only [if_neg c2, if_pos (show i64ok l.sum by unfold i64ok; omega)]
        have w2 : wrap64 (wrap64 ((a + b / 4294967296) * 4294967296) + b % 4294967296) = l.sum := by
          unfold wrap64
          omega
        rw [w2]
        exact Ev.now _
  | succ n ih =>
    intro i a b hn hi he h1 h2 h3 h4
    have hil : i < l.length := by omega
    have hv := hok _ (List.getElem_mem hil)
    unfold i64ok at hv
    have hw : wrap64 ((i : Int) + 1) = ((i + 1 : Nat) : Int) := by rw [w64 (by omega) (by omega)]; omega
    have w1 : wrap64 (a + l[i] / 4294967296) = a + l[i] / 4294967296 := w64 (by omega) (by omega)
    have w2 : wrap64 (b + l[i] % 4294967296) = b + l[i] % 4294967296 := w64 (by omega) (by omega)
    refine Ev.step (fun k => accountingref01_Sum.l0.eq_2 _ _ _ _ k) ?_
    simp only [if_pos (show ((i : Int) < (l.length : Int)) by omega), if_pos (show (0 : Int) ≤ (i : Int) by omega), hw, rd_at hil, i64_low32, w1, w2]
    refine ih (i + 1) _ _ (by omega) (by omega) ?_ (by push_cast; omega) (by push_cast; omega) (by omega) (by push_cast; omega)
    have ht : l.take (i + 1) = l.take i ++ [l[i]] := by rw [List.take_add_one, List.getElem?_eq_getElem hil]; rfl
    have e : (l.take (i + 1)).sum = (l.take i).sum + l[i] := by rw [ht, List.sum_append, List.sum_cons, List.sum_nil, Int.add_zero]
    rw [e]
    omega
theorem rsum_ev (l : List Int) (hl : l.length ≤ 1000000) (hok : ∀ x ∈ l, i64ok x) : Ev (fun k => accountingref01_Sum.f k l) (if i64ok l.sum then (l.sum, true) else (0, false)) :=
  rsum_l0 l hl hok _ 0 0 0 rfl (Nat.zero_le _) (by simp) (by simp) (by simp) (by simp) (by simp)
theorem fits_pure (n : Int) : accountingref19_fits.f n = some (fitB n) := by
  unfold accountingref19_fits.f fitB
  by_cases h : n ≥ -1000000000000000
  · rw [if_pos h, decide_eq_true (show -1000000000000000 ≤ n from h)]; rfl
  · rw [if_neg h, decide_eq_false (show ¬ -1000000000000000 ≤ n from h)]; rfl
theorem far_pure (n : Int) : sheet_far.f n = some (!fitB n) := by
  unfold sheet_far.f fitB
  by_cases h : n > 1000000000000000
  · rw [if_pos h, decide_eq_false (show ¬ n ≤ 1000000000000000 by omega), Bool.and_false]; rfl
  · rw [if_neg h, decide_eq_true (show n ≤ 1000000000000000 by omega), Bool.and_true]
    congr 1
    rw [← decide_not]
    exact decide_eq_decide.2 (by omega)
theorem wf_range {n : Int} (h : (Lit.int .i64 n).wf = true) : i64ok n := by
  have h : (decide (IntKind.i64.min ≤ n) && decide (n ≤ IntKind.i64.max)) = true := h
  rw [Bool.and_eq_true, decide_eq_true_iff, decide_eq_true_iff] at h
  exact ⟨h.1, h.2⟩
theorem okS_fit {l : List S34} (h : (FitL fit34) l) (hl : l.length ≤ 1000000) : OkS l :=
  ⟨hl, fun x hx => ⟨wf_range (h.2 x hx).2.1, wf_range (h.2 x hx).2.2⟩⟩
/-- What Base answers. -/
def baseK (l : List S34) : Int × Int := if fitB (bass l).sum = true then ((bass l).sum, 0) else (0, 4)
theorem total_pure (l : List Int) (hl : l.length ≤ 1000000) (hok : ∀ x ∈ l, i64ok x) : sheet_total.f l = some (totF l) := by
  unfold sheet_total.f num_Sum.f totF
  rw [if_pos hl, if_pos hok]
  by_cases h : i64ok l.sum
  · simp only [if_pos h, Option.bind_some, if_true, far_pure, Bool.not_not]
  · simp only [if_neg h, Option.bind_some, if_false, Bool.false_eq_true]
theorem base_l0 (l : List S34) (hl : l.length ≤ 1000000) (hok : ∀ x ∈ l, i64ok x.f1 ∧ i64ok x.f2) : ∀ (n i : Nat), l.length - i = n → i ≤ l.length → Ev (fun k => sheet_Base.l0 k (zsI (bass l) i) l (l.length : Int) (i : Int)) (baseK l) := by
  have hb : (bass l).length = l.length := List.length_map _
  intro n
  induction n with
  | zero =>
    intro i hn hi
    refine Ev.step (fun k => sheet_Base.l0.eq_2 _ _ _ _ k) ?_
    have hi2 : i = (bass l).length := by omega
    have hz := zsI_all (bass l)
    rw [← hi2] at hz
    simp only [if_neg (show ¬ ((i : Int) < (l.length : Int)) by omega), hz]
    simp only [total_pure (bass l) (by omega) (fun x hx => by
      obtain ⟨c, hc, rfl⟩ := List.mem_map.1 hx
      exact (hok c hc).2), Option.bind_some, tot_2]
    unfold baseK
    by_cases h : fitB (bass l).sum = true
    · simp only [if_pos h, tot_1 h]; exact Ev.now _
    · simp only [if_neg h]; exact Ev.now _
  | succ n ih =>
    intro i hn hi
    have hil : i < l.length := by omega
    have hw : wrap64 ((i : Int) + 1) = ((i + 1 : Nat) : Int) := by rw [w64 (by omega) (by omega)]; omega
    have hs := zsI_set (bass l) (i := i) (by omega)
    have hg : (bass l)[i]'(by omega) = (l[i]).f2 := by unfold bass; rw [List.getElem_map]
    rw [hg] at hs
    refine Ev.step (fun k => sheet_Base.l0.eq_2 _ _ _ _ k) ?_
    simp only [if_pos (show ((i : Int) < (l.length : Int)) by omega), if_pos (show (0 : Int) ≤ (i : Int) by omega), hw, rd34_at hil, zsI_len (bass l) (show i ≤ (bass l).length by omega), hb, Int.toNat_natCast, hs]
    exact ih (i + 1) (by omega) (by omega)
theorem base_ev (l : List S34) (h : OkS l) : Ev (fun k => sheet_Base.f k l) (baseK l) := by
  unfold sheet_Base.f
  have hl := h.1
  simp only [if_pos (show 0 ≤ (l.length : Int) by omega), Int.toNat_natCast, if_pos (show l.length ≤ 35184372088832 by omega)]
  have e : List.replicate l.length (0 : Int) = zsI (bass l) 0 := by unfold zsI bass; simp
  rw [e]
  exact base_l0 l hl h.2 _ 0 rfl (Nat.zero_le _)
theorem refbase_l0 (l : List S34) (hl : l.length ≤ 1000000) (hok : ∀ x ∈ l, i64ok x.f1 ∧ i64ok x.f2) : ∀ (n i : Nat), l.length - i = n → i ≤ l.length → Ev (fun k => accountingref19_Base.l0 k l ((bass l).take i) (i : Int)) (baseK l) := by
  have hb : (bass l).length = l.length := List.length_map _
  intro n
  induction n with
  | zero =>
    intro i hn hi
    refine Ev.step (fun k => accountingref19_Base.l0.eq_2 _ _ _ k) ?_
    rw [List.take_of_length_le (show (bass l).length ≤ i by omega)]
    simp only [if_neg (show ¬ ((i : Int) < (l.length : Int)) by omega)]
    refine Ev.bind (rsum_ev (bass l) (by omega) (fun x hx => by
      obtain ⟨c, hc, rfl⟩ := List.mem_map.1 hx
      exact (hok c hc).2)) ?_
    unfold baseK
    by_cases h : fitB (bass l).sum = true
    · simp only [if_pos h, if_pos (fit_i64 h), if_true, fits_pure, h, Option.bind_some]; exact Ev.now _
    · rw [Bool.not_eq_true] at h
      by_cases h2 : i64ok (bass l).sum
      · simp only [if_pos h2, if_true, fits_pure, h, Option.bind_some, Bool.false_eq_true, if_false]; exact Ev.now _
      · simp only [if_neg h2, h, Bool.false_eq_true, if_false]; exact Ev.now _
  | succ n ih =>
    intro i hn hi
    have hil : i < l.length := by omega
    have hw : wrap64 ((i : Int) + 1) = ((i + 1 : Nat) : Int) := by rw [w64 (by omega) (by omega)]; omega
    have ht : (bass l).take i ++ [l[i].f2] = (bass l).take (i + 1) := by
      rw [List.take_add_one, List.getElem?_eq_getElem (by omega)]
      unfold bass
      rw [List.getElem_map]
      rfl
    refine Ev.step (fun k => accountingref19_Base.l0.eq_2 _ _ _ k) ?_
    simp only [if_pos (show ((i : Int) < (l.length : Int)) by omega), if_pos (show (0 : Int) ≤ (i : Int) by omega), if_pos (show ((bass l).take i).length < 17592186044416 by rw [List.length_take]; omega), hw, rd34_at hil, ht]
    exact ih (i + 1) (by omega) (by omega)
theorem refbase_ev (l : List S34) (h : OkS l) : Ev (fun k => accountingref19_Base.f k l) (baseK l) :=
  refbase_l0 l h.1 h.2 _ 0 rfl (Nat.zero_le _)
end Go.Proofs.Ytmflggbpiadkjaa.P
