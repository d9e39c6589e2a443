/- SheetGroup: Sub undoes Add, Add is commutative, and a sheet minus itself is empty. -/
import Derived.Test.YtmflggbpiadkjaaSaySheetGroup
import Derived.Test.YtmflggbpiadkjaaSpecN
import Derived.Test.YtmflggbpiadkjaaSpecSm
import Derived.Test.YtmflggbpiadkjaaSpecLv
namespace Go.Proofs.Ytmflggbpiadkjaa.Pure
set_option linter.unusedVariables false
set_option linter.unusedSimpArgs false
open Go.RowKit Go.Proofs.Ytmflggbpiadkjaa.P Go.Proofs.Ytmflggbpiadkjaa.Op Go.Proofs.YtmflggbpiadkjaaW.PrintWords Go.Proofs.YtmflggbpiadkjaaW.PrintLast
theorem add_right {x y : List S34} (hx : RightL x) (hy : RightL y) : addK x y = ofK (x ++ y) := by
  unfold addK
  rw [if_pos ⟨(right_iff x).2 hx, (right_iff y).2 hy⟩]
theorem sub_right {x y : List S34} (hx : RightL x) (hy : RightL y) : subK x y = ofK (x ++ y.map negC) := by
  unfold subK
  rw [if_pos ⟨(right_iff x).2 hx, (right_iff y).2 hy⟩]
theorem sub_self (x : List S34) (hx : RightL x) : subK x x = ([], 0) := by
  rw [sub_right hx hx]
  have e : ofK (x ++ x.map negC) = ofK [] := ofK_congr (fun k => by
    have h := ps_neg (isK k) x
    rw [sumA_ps, sumB_ps, psA_append, psB_append, h.1, h.2]
    exact ⟨Int.add_right_neg _, Int.add_right_neg _⟩)
  rw [e]
  rfl
theorem add_comm_ (x y : List S34) (hx : RightL x) (hy : RightL y) : addK x y = addK y x := by
  rw [add_right hx hy, add_right hy hx]
  exact ofK_congr (fun k => by
    rw [sumA_ps, sumB_ps, sumA_ps, sumB_ps, psA_append, psB_append, psA_append, psB_append]
    exact ⟨Int.add_comm _ _, Int.add_comm _ _⟩)
theorem sub_add (x y : List S34) (hx : RightL x) (hy : RightL y) (h : (addK x y).2 = 0) : subK (addK x y).1 y = (x, 0) := by
  rw [add_right hx hy] at h ⊢
  rw [sub_right (right_ofK _) hy, ← ofK_right hx]
  refine ofK_congr (fun k => ?_)
  have h1 := ps_ofK h (isK k)
  have h2 := ps_neg (isK k) y
  rw [sumA_ps, sumB_ps, sumA_ps, sumB_ps, psA_append, psB_append, h1.1, h1.2, h2.1, h2.2, psA_append, psB_append]
  constructor <;> omega
theorem SheetGroup : accountinglaw19_SheetGroup.Pure := by
  intro a b ha hb
  refine Ev.rounds ?_
  unfold accountinglaw19_SheetGroup.f accountinglaw19_large.f
  simp only [Option.bind_some, decide_eq_true_eq]
  have out : Ev (fun k => accountinglaw19_SheetGroup.j0 k a b true) true := by
    refine Ev.step (fun k => accountinglaw19_SheetGroup.j0.eq_2 _ _ _ k) ?_
    simp only [if_true]
    exact Ev.now _
  have hlv : Ev (fun k => (accountinglaw19_lives.f k).bind fun t => some t) true := Ev.bind lives_ev (Ev.now _)
  by_cases hl : (a.length : Int) > 300
  · simp only [if_pos hl]; exact out
  simp only [if_neg hl]
  by_cases hl2 : (b.length : Int) > 300
  · simp only [decide_eq_true hl2]; exact out
  simp only [decide_eq_false hl2]
  have oka := okS_fit ha (by omega)
  have okb := okS_fit hb (by omega)
  refine Ev.step (fun k => accountinglaw19_SheetGroup.j0.eq_2 _ _ _ k) ?_
  unfold sheet_Of.f
  simp only [Bool.false_eq_true, if_false, if_pos oka, if_pos okb, Option.bind_some]
  have lx := ofK_le a
  have ly := ofK_le b
  have stop : Ev (fun k => accountinglaw19_SheetGroup.j1 k (ofK a).1 (ofK b).1 true) true := by
    refine Ev.step (fun k => accountinglaw19_SheetGroup.j1.eq_2 _ _ _ k) ?_
    simp only [if_true]
    exact hlv
  by_cases h0 : (ofK a).2 = 0
  · simp only [if_pos h0]
    by_cases h1 : (ofK b).2 = 0
    · have hx := right_ofK a
      have hy := right_ofK b
      simp only [h1, bne_self_eq_false]
      generalize (ofK a).1 = x at hx lx ⊢
      generalize (ofK b).1 = y at hy ly ⊢
      refine Ev.step (fun k => accountinglaw19_SheetGroup.j1.eq_2 _ _ _ k) ?_
      simp only [Bool.false_eq_true, if_false]
      refine Ev.bind (sub_ev x x (by omega)) ?_
      rw [sub_self x hx]
      simp only [List.length_nil, Int.natCast_zero, if_true, bne_self_eq_false]
      refine Ev.step (fun k => accountinglaw19_SheetGroup.j2.eq_2 _ _ _ k) ?_
      simp only [Bool.false_eq_true, if_false]
      refine Ev.bind (add_ev x y (by omega)) ?_
      refine Ev.bind (add_ev y x (by omega)) ?_
      rw [add_comm_ y x hy hx]
      simp only [if_true]
      refine Ev.bind (same_ev _ (addK_len x y (by omega))) ?_
      simp only [Bool.not_true]
      refine Ev.step (fun k => accountinglaw19_SheetGroup.j3.eq_2 _ _ _ _ _ k) ?_
      simp only [Bool.false_eq_true, if_false]
      by_cases h2 : (addK x y).2 = 0
      · simp only [if_pos h2]
        have hal : (addK x y).1.length ≤ x.length + y.length := by
          rw [add_right hx hy]
          have := ofK_le (x ++ y)
          rw [List.length_append] at this
          exact this
        refine Ev.bind (sub_ev (addK x y).1 y (by omega)) ?_
        rw [sub_add x y hx hy h2]
        refine Ev.bind (same_ev x (by omega)) ?_
        simp only [if_true]
        exact hlv
      · simp only [if_neg h2]; exact hlv
    · simp only [bne_iff_ne.2 h1]
      exact stop
  · simp only [if_neg h0]
    exact stop
end Go.Proofs.Ytmflggbpiadkjaa.Pure
