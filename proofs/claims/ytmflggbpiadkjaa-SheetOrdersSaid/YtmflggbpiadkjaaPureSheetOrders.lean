/- SheetOrders: Cmp and Match answer as the reference, and Cmp orders the keys. -/
import Derived.Test.YtmflggbpiadkjaaSaySheetOrders
import Derived.Test.YtmflggbpiadkjaaSpecP
import Derived.Test.YtmflggbpiadkjaaSpecO
import Derived.Test.YtmflggbpiadkjaaSpecC
import Derived.Test.YtmflggbpiadkjaaSpecLv
namespace Go.Proofs.Ytmflggbpiadkjaa.Pure
set_option linter.unusedVariables false
set_option linter.unusedSimpArgs false
open Go.RowKit Go.Proofs.Ytmflggbpiadkjaa.P Go.Proofs.Ytmflggbpiadkjaa.Op Go.Proofs.YtmflggbpiadkjaaW.PrintWords Go.Proofs.YtmflggbpiadkjaaW.PrintLast
theorem cmp_pure (x y : S32) : sheet_Cmp.f x.f0 x.f1 x.f2 x.f3 x.f4 y.f0 y.f1 y.f2 y.f3 y.f4 = some (cmpK x y) := rfl
theorem SheetOrders : accountinglaw19_SheetOrders.Pure := by
  intro a b c ha hb hc
  refine Ev.rounds ?_
  unfold accountinglaw19_SheetOrders.f
  have hcmp : Ev (fun k => accountingref19_Cmp.f k a.f0 a.f1 a.f2 a.f3 a.f4 b.f0 b.f1 b.f2 b.f3 b.f4) (cmpK a b) :=
    ⟨6, fun k hk => by obtain ⟨m, rfl⟩ : ∃ m, k = m + 6 := ⟨k - 6, by omega⟩; exact refCmp_pure _ _ m⟩
  have bnd : ∀ x y, -1 ≤ cmpK x y ∧ cmpK x y ≤ 1 := cmpK_bnd
  have hw : wrap64 (-cmpK a b) = - cmpK a b := w64 (by have := bnd a b; omega) (by have := bnd a b; omega)
  simp only [cmp_pure, Option.bind_some]
  refine Ev.bind hcmp ?_
  simp only [if_true, sheetMatch_pure, refMatch_pure, Option.bind_some, bne_self_eq_false, Bool.false_eq_true, if_false]
  refine Ev.bind lives_ev ?_
  simp only [Bool.not_true]
  refine Ev.step (fun k => accountinglaw19_SheetOrders.j0.eq_2 _ _ _ _ _ _ _ _ _ _ _ _ _ _ _ _ k) ?_
  simp only [Bool.false_eq_true, if_false, cmp_pure, Option.bind_some, hw, cmp3_K.sw a b, if_true]
  by_cases h1 : cmpK a b > 0
  · simp only [if_pos h1]; exact Ev.now _
  · simp only [if_neg h1]
    by_cases h2 : cmpK b c > 0
    · simp only [if_pos h2]; exact Ev.now _
    · simp only [if_neg h2, decide_eq_true (cmp3_K.tr a b c (by omega) (by omega))]
      exact Ev.now _
end Go.Proofs.Ytmflggbpiadkjaa.Pure
