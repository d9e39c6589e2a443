/- The table of the months' lengths, as the program's text lays it; the contract of days.Length. -/
import Derived.Test.YtinfcbfdeacllaaDoorPx0
import Derived.Test.YtinfcbfdeacllaaDoorPx2
namespace Go.Proofs.YtinfcbfdeacllaaDoor.P
open Go.RowKit Go.Proofs.YtinfcbfdeacllaaDoorW.PrintWords Go.Proofs.YtinfcbfdeacllaaDoorW.PrintLast Go.Proofs.YtinfcbfdeacllaaDoorW.PrintMore
set_option linter.unusedVariables false
set_option linter.unusedSimpArgs false
def lens : List Int := [31, 28, 31, 30, 31, 30, 31, 31, 30, 31, 30, 31]
/-- The variable days.lengths holds the table. -/
def Tab (w : World) : Prop := ∀ i : Nat, i < 12 → w.cell? ⟨0, i, none⟩ = some (.int .i64 (lens.getD i 0))
theorem Tab.lt {w : World} (h : Tab w) : 0 < w.heap.size := World.block_lt_of_cell? w _ (h 0 (by decide))
theorem Tab.below {w w1 : World} (h : Tab w) (hb : Below w.heap.size w w1) : Tab w1 := fun i hi => (hb.cell (p := ⟨0, i, none⟩) h.lt).trans (h i hi)
theorem Tab.alloc {w : World} (h : Tab w) (o : Obj) : Tab (w.alloc o) := h.below ((Below.refl _ w).alloc (Nat.le_refl _) o)
theorem Tab.drewN {w : World} (h : Tab w) (n : Nat) : Tab (w.drewN n) := h.below (pw_below_drewN (Below.refl _ w) n)
theorem Tab.drew {w : World} (h : Tab w) : Tab w.drew := h
def days_Length.f (y m : Int) : Option Int := if 1 ≤ m then (if m ≤ 12 then (if m = 2 then (days_Leap.f y).bind (fun t => if t = true then some 29 else some 28) else some (lens.getD (m - 1).toNat 0)) else some 0) else some 0
set_option maxHeartbeats 8000000 in
set_option maxRecDepth 100000 in
theorem days_Length.calls (y m : Int) (r : Int) (w : World) (h : days_Length.f y m = some r) (hT : Tab w) :
    Calls Tryd.prog 54 #[.int .i64 y, .int .i64 m] w fun e w' => e = .returned (.int .i64 r) ∧ Drawn0 w w' := by
  unfold days_Length.f at h
  by_cases c1 : 1 ≤ m
  case neg =>
    rw [if_neg c1] at h
    obtain rfl := Option.some.inj h
    have d1 : decide (m < 1) = true := decide_eq_true (by omega)
    go_enter Tryd.func54, Tryd.ntmps54
    go_wp2
    go_ret
    exact ⟨rfl, by repeat (first | exact Drawn0.refl _ | apply Drawn0.step)⟩
  rw [if_pos c1] at h
  have d1 : decide (m < 1) = false := decide_eq_false (by omega)
  by_cases c2 : m ≤ 12
  case neg =>
    rw [if_neg c2] at h
    obtain rfl := Option.some.inj h
    have d2 : decide (12 < m) = true := decide_eq_true (by omega)
    go_enter Tryd.func54, Tryd.ntmps54
    go_wp2
    go_ret
    exact ⟨rfl, by repeat (first | exact Drawn0.refl _ | apply Drawn0.step)⟩
  rw [if_pos c2] at h
  have d2 : decide (12 < m) = false := decide_eq_false (by omega)
  by_cases c3 : m = 2
  · rw [if_pos c3] at h
    have d3 : (m == 2) = true := beq_iff_eq.mpr c3
    cases hl : days_Leap.f y with
    | none => rw [hl] at h; simp at h
    | some t =>
      rw [hl] at h
      cases t
      · obtain rfl := Option.some.inj (show some (28 : Int) = some r by simpa using h)
        subst c3
        have hc := hT 1 (by decide)
        go_enter Tryd.func54, Tryd.ntmps54
        go_wp2_with (go_at_call 55; refine (days_Leap.calls _ _ _ hl).mono ?_; rintro e w' ⟨rfl, ⟨n, rfl⟩⟩)
        go_ret
        exact ⟨rfl, by repeat (first | exact Drawn0.refl _ | apply Drawn0.step)⟩
      · obtain rfl := Option.some.inj (show some (29 : Int) = some r by simpa using h)
        go_enter Tryd.func54, Tryd.ntmps54
        go_wp2_with (go_at_call 55; refine (days_Leap.calls _ _ _ hl).mono ?_; rintro e w' ⟨rfl, ⟨n, rfl⟩⟩)
        go_ret
        exact ⟨rfl, by repeat (first | exact Drawn0.refl _ | apply Drawn0.step)⟩
  · rw [if_neg c3] at h
    obtain rfl := Option.some.inj h
    have d3 : (m == 2) = false := beq_eq_false_iff_ne.mpr c3
    have wr : wrap64 (m - 1) = m - 1 := by unfold wrap64; omega
    have hc : w.cell? ⟨0, m.toNat - 1, none⟩ = some (.int .i64 (lens.getD (m.toNat - 1) 0)) := hT (m.toNat - 1) (by omega)
    have e1 : (0 : Int) ≤ m - 1 := by omega
    have e2 : m - 1 < 12 := by omega
    go_enter Tryd.func54, Tryd.ntmps54
    go_wp2
    go_ret
    exact ⟨rfl, by repeat (first | exact Drawn0.refl _ | apply Drawn0.step)⟩
end Go.Proofs.YtinfcbfdeacllaaDoor.P
