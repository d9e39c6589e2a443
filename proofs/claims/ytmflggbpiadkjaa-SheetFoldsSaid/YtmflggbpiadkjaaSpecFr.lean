/- Fold of the reference. -/
import Derived.Test.YtmflggbpiadkjaaPx21
import Derived.Test.YtmflggbpiadkjaaPx22
import Derived.Test.YtmflggbpiadkjaaSpecFd
import Derived.Test.YtmflggbpiadkjaaSpecK
namespace Go.Proofs.Ytmflggbpiadkjaa.P
open Go.RowKit Go.Sort Go.Proofs.YtmflggbpiadkjaaW.PrintWords Go.Proofs.YtmflggbpiadkjaaW.PrintLast Go.Proofs.Ytmflggbpiadkjaa.Op
set_option linter.unusedVariables false
set_option linter.unusedSimpArgs false
/-! ### The reference -/
theorem masked_ev (x : S32) (mask : Int) (h0 : 0 ≤ mask) (h1 : mask ≤ 31) : Ev (fun k => accountingref19_masked.f k x.f0 x.f1 x.f2 x.f3 x.f4 mask) ((keyM mask x).f0, (keyM mask x).f1, (keyM mask x).f2, (keyM mask x).f3, (keyM mask x).f4) := by
  have t0 : Int.tmod mask 2 = mask % 2 := Int.tmod_eq_emod_of_nonneg h0
  have d : ∀ n : Int, 0 < n → wrap64 (Int.tdiv mask n) = mask / n := fun n hn => by
    rw [Int.tdiv_eq_ediv_of_nonneg h0]
    have := Int.ediv_nonneg h0 (Int.le_of_lt hn)
    have := Int.ediv_le_self n h0
    exact w64 (by omega) (by omega)
  have m : ∀ n : Int, 0 < n → Int.tmod (mask / n) 2 = mask / n % 2 := fun n hn => Int.tmod_eq_emod_of_nonneg (Int.ediv_nonneg h0 (Int.le_of_lt hn))
  have hf : ∀ (v : Int), v % 2 = 0 ∨ v % 2 = 1 := fun v => by omega
  unfold accountingref19_masked.f
  have e : ((keyM mask x).f0, (keyM mask x).f1, (keyM mask x).f2, (keyM mask x).f3, (keyM mask x).f4) = ((if mask % 2 = 0 then (⟨#[]⟩ : ByteArray) else x.f0), (if mask / 2 % 2 = 0 then (⟨#[]⟩ : ByteArray) else x.f1), (if mask / 4 % 2 = 0 then (⟨#[]⟩ : ByteArray) else x.f2), (if mask / 8 % 2 = 0 then (⟨#[]⟩ : ByteArray) else x.f3), (if mask / 16 % 2 = 0 then (⟨#[]⟩ : ByteArray) else x.f4)) := by
    unfold keyM keptK fldF bitF kfld
    simp
  rw [e]
  rcases hf mask with a | a <;> rcases hf (mask / 2) with b | b <;> rcases hf (mask / 4) with c | c <;> rcases hf (mask / 8) with d8 | d8 <;> rcases hf (mask / 16) with d16 | d16 <;>
  · simp only [t0, a, b, c, d8, d16, if_true, Int.reduceEq, if_false]
    refine Ev.step (fun k => accountingref19_masked.j0.eq_2 _ _ _ _ _ _ _ _ _ _ _ k) ?_
    simp only [d 2 (by omega), m 2 (by omega), b, if_true, Int.reduceEq, if_false]
    refine Ev.step (fun k => accountingref19_masked.j1.eq_2 _ _ _ _ _ _ _ _ _ _ _ k) ?_
    simp only [d 4 (by omega), m 4 (by omega), c, if_true, Int.reduceEq, if_false]
    refine Ev.step (fun k => accountingref19_masked.j2.eq_2 _ _ _ _ _ _ _ _ _ _ _ k) ?_
    simp only [d 8 (by omega), m 8 (by omega), d8, d 16 (by omega), m 16 (by omega), d16, if_true, Int.reduceEq, if_false]
    exact Ev.now _
theorem reffold_l0 (l : List S34) (mask : Int) (h0 : 0 ≤ mask) (h1 : mask ≤ 31) (hok : OkS l) : ∀ (n i : Nat), l.length - i = n → i ≤ l.length → Ev (fun k => accountingref19_Fold.l0 k l mask ((l.take i).map (rkM mask)) (i : Int)) (ofK (l.map (rkM mask))) := by
  have hl := hok.1
  intro n
  induction n with
  | zero =>
    intro i hn hi
    refine Ev.step (fun k => accountingref19_Fold.l0.eq_2 _ _ _ _ k) ?_
    rw [List.take_of_length_le (by omega)]
    simp only [if_neg (show ¬ ((i : Int) < (l.length : Int)) by omega)]
    exact Ev.bind (refof_ev _ (okS_rk hok mask)) (Ev.now _)
  | succ n ih =>
    intro i hn hi
    have hil : i < l.length := by omega
    have hw : wrap64 ((i : Int) + 1) = ((i + 1 : Nat) : Int) := by rw [w64 (by omega) (by omega)]; omega
    have e : (⟨⟨(keyM mask l[i].f0).f0, (keyM mask l[i].f0).f1, (keyM mask l[i].f0).f2, (keyM mask l[i].f0).f3, (keyM mask l[i].f0).f4⟩, l[i].f1, l[i].f2⟩ : S34) = rkM mask l[i] := rfl
    have ht : (l.take i).map (rkM mask) ++ [rkM mask l[i]] = (l.take (i + 1)).map (rkM mask) := by
      rw [List.take_add_one, List.getElem?_eq_getElem hil, List.map_append]; rfl
    have hlen : ((l.take i).map (rkM mask)).length < 1466015503701 := by rw [List.length_map, List.length_take]; omega
    refine Ev.step (fun k => accountingref19_Fold.l0.eq_2 _ _ _ _ k) ?_
    simp only [if_pos (show ((i : Int) < (l.length : Int)) by omega), if_pos (show (0 : Int) ≤ (i : Int) by omega), hw, rd34_at hil]
    refine Ev.bind (masked_ev l[i].f0 mask h0 h1) ?_
    simp only [if_pos hlen, e, ht]
    exact ih (i + 1) (by omega) (by omega)
theorem reffold_ev (l : List S34) (mask : Int) (hok : OkS l) : Ev (fun k => accountingref19_Fold.f k l mask) (foldK l mask) := by
  have hl := hok.1
  unfold accountingref19_Fold.f accountingref19_Right.f foldK
  simp only [Option.bind_some]
  have bad : Ev (fun k => accountingref19_Fold.j0 k l mask true) (([] : List S34), (2 : Int)) := by
    refine Ev.step (fun k => accountingref19_Fold.j0.eq_2 _ _ _ k) ?_
    simp only [if_true]
    exact Ev.now _
  by_cases hr : rightB l = true
  · simp only [if_pos hr]
    by_cases c0 : mask < 0
    · simp only [if_pos c0, if_neg (show ¬ (rightB l = true ∧ 0 ≤ mask ∧ mask ≤ 31) from fun h => by omega)]
      exact bad
    · simp only [if_neg c0]
      by_cases c1 : mask > 31
      · simp only [decide_eq_true c1, if_neg (show ¬ (rightB l = true ∧ 0 ≤ mask ∧ mask ≤ 31) from fun h => by omega)]
        exact bad
      · simp only [decide_eq_false c1, if_pos (show rightB l = true ∧ 0 ≤ mask ∧ mask ≤ 31 from ⟨hr, by omega, by omega⟩)]
        refine Ev.step (fun k => accountingref19_Fold.j0.eq_2 _ _ _ k) ?_
        simp only [Bool.false_eq_true, if_false]
        exact reffold_l0 l mask (by omega) (by omega) hok _ 0 rfl (Nat.zero_le _)
  · simp only [if_neg hr, if_neg (show ¬ (rightB l = true ∧ 0 ≤ mask ∧ mask ≤ 31) from fun h => hr h.1)]
    exact bad
end Go.Proofs.Ytmflggbpiadkjaa.P
