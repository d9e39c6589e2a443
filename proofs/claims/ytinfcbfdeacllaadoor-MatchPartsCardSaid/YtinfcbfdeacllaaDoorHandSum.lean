/- The contract of num.Sum: the exact sum of numbers, if it fits. -/
import Derived.Test.YtinfcbfdeacllaaDoorPx0
import Derived.Laws.Externs
namespace Go.Proofs.YtinfcbfdeacllaaDoor.P
open Go.RowKit Go.Proofs.YtinfcbfdeacllaaDoorW.PrintWords Go.Proofs.YtinfcbfdeacllaaDoorW.PrintLast Go.Proofs.YtinfcbfdeacllaaDoorW.PrintMore
set_option linter.unusedVariables false
set_option linter.unusedSimpArgs false
def i64ok (x : Int) : Prop := -9223372036854775808 ≤ x ∧ x ≤ 9223372036854775807
instance (x : Int) : Decidable (i64ok x) := by unfold i64ok; exact inferInstance
def num_Sum.f (l : List Int) : Option (Int × Bool) := if l.length ≤ 1000000 then (if (∀ x ∈ l, i64ok x) then (if i64ok l.sum then some (l.sum, true) else some (0, false)) else none) else none
theorem add64 (x y c : Int) (hx : 0 ≤ x ∧ x < 18446744073709551616) (hy : 0 ≤ y ∧ y < 18446744073709551616) (hc : 0 ≤ c ∧ c ≤ 1) (w : World) :
    (callFunc 47 #[.int .u64 x, .int .u64 y, .int .u64 c]).run Tryd.prog w =
      .ok (.value (.tuple #[.int .u64 ((x + y + c) % 18446744073709551616), .int .u64 ((x + y + c) / 18446744073709551616)])) w := by
  obtain ⟨x, rfl⟩ := Int.eq_ofNat_of_zero_le hx.1
  obtain ⟨y, rfl⟩ := Int.eq_ofNat_of_zero_le hy.1
  obtain ⟨c, rfl⟩ := Int.eq_ofNat_of_zero_le hc.1
  rw [run_callFunc_extern Tryd.func47 (by kernel_rfl) (by kernel_rfl) (by kernel_rfl) (e := add64Entry) (by kernel_rfl), run_add64 x y c (by omega) (by omega) (by omega) (by omega)]
  simp only [Result.andThen]
def SumAt (S hi lo : Int) : Prop := 0 ≤ hi ∧ hi < 18446744073709551616 ∧ 0 ≤ lo ∧ lo < 18446744073709551616 ∧ (S - (hi * 18446744073709551616 + lo)) % 340282366920938463463374607431768211456 = 0
theorem wrap_u64 (x : Int) : 0 ≤ IntKind.u64.wrap x ∧ IntKind.u64.wrap x < 18446744073709551616 := by
  have : IntKind.u64.wrap x = x % 18446744073709551616 := rfl
  omega
theorem sumAt_step {S hi lo x : Int} (hx : i64ok x) (h : SumAt S hi lo) : SumAt (S + [x].sum) ((hi + IntKind.u64.wrap (x / 9223372036854775808) + (lo + IntKind.u64.wrap x) / 18446744073709551616) % 18446744073709551616) ((lo + IntKind.u64.wrap x) % 18446744073709551616) := by
  obtain ⟨h1, h2, h3, h4, h5⟩ := h
  obtain ⟨x1, x2⟩ := hx
  have e1 : IntKind.u64.wrap x = x % 18446744073709551616 := rfl
  have e2 : IntKind.u64.wrap (x / 9223372036854775808) = (x / 9223372036854775808) % 18446744073709551616 := rfl
  rw [e1, e2, show [x].sum = x by simp]
  unfold SumAt
  rcases Int.lt_or_le x 0 with hn | hp
  · have : x / 9223372036854775808 = -1 := by omega
    rw [this]
    refine ⟨by omega, by omega, by omega, by omega, by omega⟩
  · have : x / 9223372036854775808 = 0 := by omega
    rw [this]
    refine ⟨by omega, by omega, by omega, by omega, by omega⟩
theorem sum_bound : ∀ (l : List Int), (∀ x ∈ l, i64ok x) → -9223372036854775808 * (l.length : Int) ≤ l.sum ∧ l.sum ≤ 9223372036854775808 * (l.length : Int)
  | [], _ => by simp
  | x :: r, h => by
    have h1 := sum_bound r (fun y hy => h y (by simp [hy]))
    have h2 := h x (by simp)
    unfold i64ok at h2
    simp only [List.sum_cons, List.length_cons]
    omega
theorem sumAt_end {S hi lo : Int} (h : SumAt S hi lo) (b1 : -170141183460469231731687303715884105728 ≤ S) (b2 : S < 170141183460469231731687303715884105728) :
    (i64ok S → wrap64 lo = S) ∧ (i64ok S → (IntKind.u64.wrap (wrap64 lo / 9223372036854775808) != hi) = false) ∧ (¬ i64ok S → (IntKind.u64.wrap (wrap64 lo / 9223372036854775808) != hi) = true) := by
  obtain ⟨h1, h2, h3, h4, h5⟩ := h
  have e1 : IntKind.u64.wrap (wrap64 lo / 9223372036854775808) = (wrap64 lo / 9223372036854775808) % 18446744073709551616 := rfl
  have w1 : wrap64 lo = (if lo < 9223372036854775808 then lo else lo - 18446744073709551616) := by
    unfold wrap64; split <;> omega
  have w2 : (wrap64 lo / 9223372036854775808) % 18446744073709551616 = (if lo < 9223372036854775808 then 0 else 18446744073709551615) := by
    rw [w1]; split <;> omega
  rw [e1, w2, w1]
  unfold i64ok
  refine ⟨fun hS => ?_, fun hS => ?_, fun hS => ?_⟩
  · split <;> omega
  · rw [bne_eq_false_iff_eq]; split <;> omega
  · rw [bne_iff_ne]; split <;> omega
set_option maxHeartbeats 8000000 in
set_option maxRecDepth 100000 in
theorem num_Sum.calls (A0 : Option Addr) (c0 : Nat) (l0 : List Int) (r1 : Int) (r2 : Bool) (w : World) (hr0 : Kd.C (Kd.int .i64) w A0 l0.length l0) (hc0 : l0.length ≤ c0) (h : num_Sum.f l0 = some (r1, r2)) :
    Calls Tryd.prog 39 #[.slice A0 l0.length c0] w fun e w' => e = .returned (.tuple #[.int .i64 r1, .bool r2]) ∧ Drawn0 w w' := by
  have HR0 := Aside0.mk hr0
  unfold num_Sum.f at h
  by_cases hl : l0.length ≤ 1000000
  case neg => rw [if_neg hl] at h; simp at h
  rw [if_pos hl] at h
  by_cases hw : ∀ x ∈ l0, i64ok x
  case neg => rw [if_neg hw] at h; simp at h
  rw [if_pos hw] at h
  have H := Aside0.mk h
  have HW := Aside0.mk hw
  clear h hr0 hw
  go_enter Tryd.func39, Tryd.ntmps39
  go_wp2
  go_loopw [4, 5, 7, 8, 11, 12, 13, 14, 15, 16, 17, 18, 19, 20, 21, 22, 23, 24, 25, 26, 27, 28, 29, 30, 31] (fun v4 v5 v7 v8 v11 _ _ _ _ _ _ _ _ _ _ _ _ _ _ _ _ _ _ _ _ w' => ∃ (k : Nat) (hi lo : Int), k ≤ l0.length ∧ v11 = .int .i64 k ∧ v4 = .int .u64 hi ∧ v5 = .int .u64 lo ∧ Aside0 (SumAt (l0.take k).sum hi lo) ∧ Drawn0 w w') (fun v4 v5 v7 v8 v11 _ _ _ _ _ _ _ _ _ _ _ _ _ _ _ _ _ _ _ _ _ => l0.length - (intOf v11).toNat)
  case atStart => exact ⟨0, 0, 0, Nat.zero_le _, rfl, rfl, rfl, ⟨by simp [SumAt]⟩, Drawn0.refl _⟩
  case round =>
    obtain ⟨k, hi, lo, hk, rfl, rfl, rfl, HS, ⟨n, rfl⟩⟩ := hrel
    by_cases hlt : k < l0.length
    · obtain ⟨ad, e, c1⟩ := Kd.at_int HR0.out (k : Int) (by omega) (by omega)
      rw [Int.toNat_natCast] at c1
      subst e
      have d1 : decide ((k : Int) < (l0.length : Int)) = true := decide_eq_true (by omega)
      have d2 : decide (k < l0.length) = true := decide_eq_true hlt
      obtain ⟨x, hx⟩ : ∃ x, rd l0 (k : Int) = x := ⟨_, rfl⟩
      rw [hx] at c1
      have p0 : (0 : Int) ≤ (k : Int) := by omega
      have p1 : (k : Int) < (l0.length : Int) := by omega
      obtain ⟨h1, h2, h3, h4, h5⟩ := HS.out
      have a1 := add64 lo (IntKind.u64.wrap x) 0 ⟨h3, h4⟩ (wrap_u64 x) ⟨by omega, by omega⟩ (w.drewN n)
      have u1 := wrap_u64 x
      have a2 := add64 hi (IntKind.u64.wrap (x / 9223372036854775808)) ((lo + IntKind.u64.wrap x) / 18446744073709551616) ⟨h1, h2⟩ (wrap_u64 _) ⟨by omega, by omega⟩ (w.drewN n)
      rw [Int.add_zero] at a1
      go_wp2
      refine ⟨⟨k + 1, _, _, by omega, by go_num, rfl, rfl, ⟨?_⟩, by repeat (first | exact Drawn0.refl _ | apply Drawn0.step)⟩, by simp [intOf]; omega⟩
      have hxk : l0[k]? = some x := by
        have := List.getElem?_eq_getElem hlt
        rw [this, ← hx]; simp [rd, hlt]
      have ex := HW.out x (List.mem_of_getElem? hxk)
      rw [List.take_add_one, hxk, List.sum_append]
      exact sumAt_step ex ⟨h1, h2, h3, h4, h5⟩
    · obtain rfl : k = l0.length := by omega
      have d1 : decide ((l0.length : Int) < (l0.length : Int)) = false := decide_eq_false (by omega)
      have hb := sum_bound l0 HW.out
      have HS' := HS.out
      rw [List.take_length] at HS'
      obtain ⟨e1, e2, e3⟩ := sumAt_end HS' (by omega) (by omega)
      have H := H.out
      by_cases hok : i64ok l0.sum
      · rw [if_pos hok] at H
        obtain ⟨rfl, rfl⟩ := Prod.mk.inj (Option.some.inj H)
        have f1 := e1 hok
        have f2 := e2 hok
        rw [f1] at f2
        clear e1 e2 e3
        go_wp2
        go_ret2
        exact ⟨rfl, by repeat (first | exact Drawn0.refl _ | apply Drawn0.step)⟩
      · rw [if_neg hok] at H
        obtain ⟨rfl, rfl⟩ := Prod.mk.inj (Option.some.inj H)
        have f2 := e3 hok
        clear e1 e2 e3
        go_wp2
        go_ret2
        exact ⟨rfl, by repeat (first | exact Drawn0.refl _ | apply Drawn0.step)⟩
end Go.Proofs.YtinfcbfdeacllaaDoor.P
