/- Words for the sheet laws. -/
import Derived.Test.YtmflggbpiadkjaaOpnJ
import Derived.Test.YtmflggbpiadkjaaHandJ
namespace Go.Proofs.Ytmflggbpiadkjaa.P
open Go.RowKit Go.Sort Go.Proofs.YtmflggbpiadkjaaW.PrintWords Go.Proofs.YtmflggbpiadkjaaW.PrintLast Go.Proofs.Ytmflggbpiadkjaa.Op
set_option linter.unusedVariables false
set_option linter.unusedSimpArgs false
theorem w64 {n : Int} (h1 : -9223372036854775808 ≤ n) (h2 : n ≤ 9223372036854775807) : wrap64 n = n := by unfold wrap64; omega
theorem rd_at {l : List Int} {i : Nat} (h : i < l.length) : rd l (i : Int) = l[i] := by simp [rd, h]
theorem rd34_at {l : List S34} {i : Nat} (h : i < l.length) : rd_T34 l (i : Int) = l[i] := by simp [rd_T34, h]
theorem rd32_at {l : List S32} {i : Nat} (h : i < l.length) : rd_T32 l (i : Int) = l[i] := by simp [rd_T32, h]
theorem wf_range {n : Int} (h : (Lit.int .i64 n).wf = true) : i64ok n := by
  have h : (decide (IntKind.i64.min ≤ n) && decide (n ≤ IntKind.i64.max)) = true := h
  rw [Bool.and_eq_true, decide_eq_true_iff, decide_eq_true_iff] at h
  exact ⟨h.1, h.2⟩
theorem okS_fit {l : List S34} (h : (FitL fit34) l) (hl : l.length ≤ 1000000) : OkS l :=
  ⟨hl, fun x hx => ⟨wf_range (h.2 x hx).2.1, wf_range (h.2 x hx).2.2⟩⟩
theorem ba_beq (a b : ByteArray) : (a.toList == b.toList) = true ↔ a = b := by
  rw [beq_iff_eq]
  exact ⟨fun h => ByteArray.ext (Array.ext' (by rw [← ByteArray.toList_eq a, ← ByteArray.toList_eq b]; exact h)), fun h => by rw [h]⟩
/-- How the print holds two keys against each other. -/
theorem key_beq (x y : S32) : (x.f0.toList == y.f0.toList && (x.f1.toList == y.f1.toList && (x.f2.toList == y.f2.toList && (x.f3.toList == y.f3.toList && (x.f4.toList == y.f4.toList))))) = decide (cmpK x y = 0) := by
  rw [Bool.eq_iff_iff, decide_eq_true_iff]
  simp only [Bool.and_eq_true, ba_beq]
  constructor
  · rintro ⟨h0, h1, h2, h3, h4⟩
    have e : x = y := by
      obtain ⟨a, b, c, d, e⟩ := x
      obtain ⟨a', b', c', d', e'⟩ := y
      rw [S32.mk.injEq]
      exact ⟨h0, h1, h2, h3, h4⟩
    rw [e]; exact cmpK_self y
  · intro h
    have e := cmpK_zero h
    subst e
    exact ⟨rfl, rfl, rfl, rfl, rfl⟩
end Go.Proofs.Ytmflggbpiadkjaa.P
