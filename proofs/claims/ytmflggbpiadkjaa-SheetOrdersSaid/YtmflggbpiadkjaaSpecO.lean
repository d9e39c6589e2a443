/- The reference's Cmp, in plain words. -/
import Derived.Test.YtmflggbpiadkjaaPx7
import Derived.Test.YtmflggbpiadkjaaPx6
import Derived.Test.YtmflggbpiadkjaaRgtJ
namespace Go.Proofs.Ytmflggbpiadkjaa.P
open Go.RowKit Go.Proofs.YtmflggbpiadkjaaW.PrintWords Go.Proofs.YtmflggbpiadkjaaW.PrintLast
theorem refc (a b : ByteArray) : accountingref19_compare.f a b = some (cmpB a b) := by
  unfold accountingref19_compare.f
  rw [cmpB_less]
  by_cases h1 : Op.bytesLess a.toList b.toList = true
  · rw [if_pos h1, if_pos h1]
  · rw [if_neg h1, if_neg h1]
    by_cases h2 : Op.bytesLess b.toList a.toList = true
    · rw [if_pos h2, if_pos h2]
    · rw [if_neg h2, if_neg h2]
theorem refCmp_pure (x y : S32) (k : Nat) : accountingref19_Cmp.f (k + 6) x.f0 x.f1 x.f2 x.f3 x.f4 y.f0 y.f1 y.f2 y.f3 y.f4 = some (cmpK x y) := by
  rw [cmpK_eq]
  unfold accountingref19_Cmp.f
  simp only [accountingref19_Cmp.l0, refc, Option.bind_some, rdOf, List.length_cons, List.length_nil]
  have w : ∀ i : Int, 0 ≤ i → i ≤ 5 → wrap64 (i + 1) = i + 1 := fun i h1 h2 => by unfold wrap64; omega
  by_cases h0 : cmpB x.f0 y.f0 = 0 <;> by_cases h1 : cmpB x.f1 y.f1 = 0 <;> by_cases h2 : cmpB x.f2 y.f2 = 0 <;> by_cases h3 : cmpB x.f3 y.f3 = 0 <;> by_cases h4 : cmpB x.f4 y.f4 = 0 <;> simp [h0, h1, h2, h3, h4, wrap64]
end Go.Proofs.Ytmflggbpiadkjaa.P
