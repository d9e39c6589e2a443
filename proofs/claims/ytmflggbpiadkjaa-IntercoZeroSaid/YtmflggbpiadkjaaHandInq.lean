/- interco.pairs and money.Code, as the print asks for them. -/
import Derived.Test.YtmflggbpiadkjaaHandPrs
import Derived.Test.YtmflggbpiadkjaaHandU
namespace Go.Proofs.Ytmflggbpiadkjaa.P
open Go.RowKit Go.Sort Go.Proofs.YtmflggbpiadkjaaW.PrintWords Go.Proofs.YtmflggbpiadkjaaW.PrintLast Go.Proofs.YtmflggbpiadkjaaW.PrintMore
set_option linter.unusedVariables false
def FitP (l : List S34) : Prop := l.length ≤ 1000000 ∧ (∀ x ∈ l, i64ok x.f2) ∧ ∀ x ∈ l, x.f0.f0.size ≤ maxLen ∧ x.f0.f3.size ≤ maxLen
instance (l : List S34) : Decidable (FitP l) := by unfold FitP; exact inferInstance
def interco_pairs.f (l0 : List S34) : Option (List S89 × Int) := if FitP l0 then some (prK l0) else none
theorem interco_pairs.calls (A0 : Option Addr) (c0 : Nat) (l0 : List (S34)) (r1 : List (S89)) (r2 : Int) (w : World) (hr0 : Kd.C k34 w A0 l0.length l0) (hc0 : l0.length ≤ c0) (h : interco_pairs.f l0 = some (r1, r2)) :
    Calls Try.prog 75 #[.slice A0 l0.length c0] w fun e w' => ∃ v0_ : Value, e = .returned (.tuple #[v0_, .int .i64 r2]) ∧ Kd.R k89 89 w' w.heap.size (fun _ => True) v0_ r1 ∧ Below w.heap.size w w' := by
  unfold interco_pairs.f at h
  by_cases hm : FitP l0
  · rw [if_pos hm] at h
    have h2 : prK l0 = (r1, r2) := Option.some.inj h
    have h1 := pairs_calls A0 c0 l0 w hr0 hc0 hm.1 hm.2.1 hm.2.2
    rw [h2] at h1
    exact h1
  · rw [if_neg hm] at h
    cases h
def money_Code.f (a0 : ByteArray) : Option Bool := if a0.size ≤ maxLen then some (monB a0) else none
theorem money_Code.calls (a0 : ByteArray) (r : Bool) (w : World) (h : money_Code.f a0 = some r) :
    Calls Try.prog 77 #[.string a0] w fun e w' => e = .returned (.bool r) ∧ Below w.heap.size w w' := by
  unfold money_Code.f at h
  by_cases hm : a0.size ≤ maxLen
  · rw [if_pos hm] at h
    cases h
    exact money_calls a0 w hm
  · rw [if_neg hm] at h
    cases h
end Go.Proofs.Ytmflggbpiadkjaa.P
