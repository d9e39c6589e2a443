/- IntercoOrder: the order and the repetition of the members do not matter. -/
import Derived.Test.YtmflggbpiadkjaaSayIntercoOrder
import Derived.Test.YtmflggbpiadkjaaSpecEl
import Derived.Test.YtmflggbpiadkjaaSpecSm
import Derived.Test.YtmflggbpiadkjaaSpecLi
namespace Go.Proofs.Ytmflggbpiadkjaa.Pure
set_option linter.unusedVariables false
set_option linter.unusedSimpArgs false
open Go.RowKit Go.Proofs.Ytmflggbpiadkjaa.P Go.Proofs.Ytmflggbpiadkjaa.Op Go.Proofs.YtmflggbpiadkjaaW.PrintWords Go.Proofs.YtmflggbpiadkjaaW.PrintLast
theorem ins_same {m m2 : List ByteArray} (h : ∀ s, hasB m2 s = hasB m s) (x : S32) : insB m2 x = insB m x := by unfold insB; rw [h, h]
theorem in_same {m m2 : List ByteArray} (h : ∀ s, hasB m2 s = hasB m s) (l : List S34) : inK m2 l = inK m l := by
  unfold inK
  exact List.filter_congr (fun c _ => ins_same h c.f0)
theorem pairs_same {m m2 : List ByteArray} (h : ∀ s, hasB m2 s = hasB m s) (l : List S34) : pairsK m2 l = pairsK m l := by unfold pairsK; rw [in_same h]
theorem elim_same {m m2 : List ByteArray} (h : ∀ s, hasB m2 s = hasB m s) (cur diff : ByteArray) (l : List S34) : elimK cur diff m2 l = elimK cur diff m l := by unfold elimK; rw [in_same h]
def dbl (m : List ByteArray) (i : Nat) : List ByteArray := (m.drop i).reverse.flatMap (fun s => [s, s])
theorem dbl_len (m : List ByteArray) (i : Nat) : (dbl m i).length = 2 * (m.length - i) := by
  have gen : ∀ l : List ByteArray, (l.flatMap (fun s => [s, s])).length = 2 * l.length := by
    intro l
    induction l with
    | nil => rfl
    | cons a r ih => rw [List.flatMap_cons, List.length_append, ih]; simp; omega
  unfold dbl
  rw [gen, List.length_reverse, List.length_drop]
theorem dbl_step (m : List ByteArray) {i : Nat} (h : i < m.length) : dbl m i = dbl m (i + 1) ++ [m[i], m[i]] := by
  unfold dbl
  rw [List.drop_eq_getElem_cons h, List.reverse_cons, List.flatMap_append]
  rfl
theorem dbl_mem (m : List ByteArray) (s : ByteArray) : s ∈ dbl m 0 ↔ s ∈ m := by
  unfold dbl
  rw [List.drop_zero, List.mem_flatMap]
  constructor
  · rintro ⟨a, ha, hs⟩
    simp only [List.mem_cons, List.not_mem_nil, or_false, or_self] at hs
    subst hs
    exact List.mem_reverse.1 ha
  · intro h
    exact ⟨s, List.mem_reverse.2 h, by simp⟩
theorem dbl_has (m : List ByteArray) (s : ByteArray) : hasB (dbl m 0) s = hasB m s := by
  unfold hasB
  rw [Bool.eq_iff_iff, List.any_eq_true, List.any_eq_true]
  constructor
  · rintro ⟨a, ha, e⟩; exact ⟨a, (dbl_mem m a).1 ha, e⟩
  · rintro ⟨a, ha, e⟩; exact ⟨a, (dbl_mem m a).2 ha, e⟩
theorem order_l0 (l : List S34) (cur diff : ByteArray) (m : List ByteArray) (h : (FitL fit34) l) (hc : cur.size ≤ maxLen) (hm : (FitL (fun s : ByteArray => s.size ≤ maxLen)) m) (hl : l.length ≤ 200) (hml : m.length ≤ 100) : ∀ (i : Nat), i ≤ m.length → Ev (fun k => accountinglaw44_IntercoOrder.l0 k l cur diff m (dbl m i) ((i : Int) - 1)) true := by
  intro i
  induction i with
  | zero =>
    intro hi
    refine Ev.step (fun k => accountinglaw44_IntercoOrder.l0.eq_2 _ _ _ _ _ _ k) ?_
    simp only [if_neg (show ¬ ((((0 : Nat) : Int) - 1) ≥ 0) by omega)]
    have hfm := fitM_of h hm (by omega)
    have hfm2 : FitM l (dbl m 0) := ⟨by rw [dbl_len]; omega, fun s hs => hm.2 s ((dbl_mem m s).1 hs), hfm.2.2⟩
    have h1 := pairsK_len m l
    have h2 := elimK_len cur diff m l (by omega)
    have hp := pairs_ev (dbl m 0) l (by omega) hfm2
    rw [pairs_same (dbl_has m)] at hp
    have he := elim_ev cur diff (dbl m 0) l (by omega) hfm2 hc
    rw [elim_same (dbl_has m)] at he
    refine Ev.bind (pairs_ev m l (by omega) hfm) ?_
    refine Ev.bind hp ?_
    refine Ev.bind (elim_ev cur diff m l (by omega) hfm hc) ?_
    refine Ev.bind he ?_
    refine Ev.bind (same89_ev _ (by omega)) ?_
    simp only [if_true]
    refine Ev.bind (same_ev _ (by omega)) ?_
    simp only [if_true]
    exact Ev.bind livesi_ev (Ev.now _)
  | succ i ih =>
    intro hi
    have hil : i < m.length := by omega
    have e0 : (((i + 1 : Nat) : Int) - 1) = (i : Int) := by omega
    have hw : wrap64 ((i : Int) - 1) = (i : Int) - 1 := w64 (by omega) (by omega)
    have hd := dbl_len m (i + 1)
    refine Ev.step (fun k => accountinglaw44_IntercoOrder.l0.eq_2 _ _ _ _ _ _ k) ?_
    simp only [e0, if_pos (show ((i : Int) ≥ 0) by omega), if_pos (show (0 : Int) ≤ (i : Int) by omega), if_pos (show (i : Int) < (m.length : Int) by omega), Option.bind_some, rdB_at hil, List.length_cons, List.length_nil, if_pos (show (dbl m (i + 1)).length + (0 + 1 + 1) < 8796093022208 by omega), hw, ← dbl_step m hil]
    exact ih (by omega)
theorem IntercoOrder : accountinglaw44_IntercoOrder.Pure := by
  intro l cur diff m h hc hd hm
  refine Ev.rounds ?_
  unfold accountinglaw44_IntercoOrder.f accountinglaw44_large.f
  by_cases hl : (l.length : Int) > 200
  · simp only [if_pos hl, Option.bind_some, if_true]; exact Ev.now _
  simp only [if_neg hl, Option.bind_some, decide_eq_true_eq]
  by_cases hl2 : (m.length : Int) > 100
  · simp only [if_pos hl2]; exact Ev.now _
  simp only [if_neg hl2]
  have hw : wrap64 ((m.length : Int) - 1) = (m.length : Int) - 1 := w64 (by omega) (by omega)
  have h0 := order_l0 l cur diff m h hc hm (by omega) (by omega) m.length (Nat.le_refl _)
  have e : dbl m m.length = [] := by unfold dbl; rw [List.drop_length]; rfl
  rw [e] at h0
  rw [hw]
  exact h0
end Go.Proofs.Ytmflggbpiadkjaa.Pure
