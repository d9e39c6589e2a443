/- Texts of mine and of the print, joined: SpecL, Px8, Px9, Px10, HandRf, HandRnew, SpecRn, HandRneed, HandApart, HandFlowNew, Opn0, Opn, SayFlowNew, PureFlowNew. -/
import Derived.Test.YtbbhichndfbooaaNc
import Derived.Test.YtbbhichndfbooaaNb
import Derived.Test.YtbbhichndfbooaaNa
import Derived.Deep.Slices
import Derived.ChangeArms
import Derived.ChangeSame
import Derived.WideShapes
namespace Go.Proofs.Ytbbhichndfbooaa.P
open Go.RowKit Go.Proofs.YtbbhichndfbooaaW.PrintWords Go.Proofs.YtbbhichndfbooaaW.PrintLast
set_option linter.unusedVariables false
set_option linter.unusedSimpArgs false
theorem w64r {x : Int} (h0 : 0 ≤ x) (h1 : x ≤ 9223372036854775807) : wrap64 x = x := by unfold wrap64; omega
theorem right_some (steps : List S60) (hl : steps.length ≤ 9223372036854775807) : ∃ b k, flow_right.f k steps = some b := by
  have key : ∀ (n i : Nat), steps.length - i = n → i ≤ steps.length → ∃ b, Ev (fun k => flow_right.l0 k steps steps (steps.length : Int) (i : Int)) b := by
    intro n
    induction n with
    | zero =>
      intro i hn hi
      refine ⟨true, Ev.step (fun k => flow_right.l0.eq_2 _ _ _ _ k) ?_⟩
      simp only [if_neg (show ¬ ((i : Int) < (steps.length : Int)) by omega)]
      exact Ev.now _
    | succ n ih =>
      intro i hn hi
      have hw : wrap64 ((i : Int) + 1) = ((i + 1 : Nat) : Int) := by rw [w64r (by omega) (by omega)]; omega
      have hw1 : 0 < i → wrap64 ((i : Int) - 1) = (i : Int) - 1 := fun _ => w64r (by omega) (by omega)
      obtain ⟨b, hb⟩ := ih (i + 1) (by omega) (by omega)
      have g1 : (i : Int) < (steps.length : Int) := by omega
      have g2 : (0 : Int) ≤ (i : Int) := by omega
      by_cases h1 : (rd_T60 steps (i : Int)).f0 < 0
      · refine ⟨false, Ev.step (fun k => flow_right.l0.eq_2 _ _ _ _ k) ?_⟩
        simp only [if_pos g1, if_pos g2, if_pos h1]
        exact Ev.now _
      by_cases h0 : i = 0
      · have g3 : ¬ (i : Int) > 0 := by omega
        by_cases h2 : (rd_T60 steps (i : Int)).f1 < 0
        · refine ⟨false, Ev.step (fun k => flow_right.l0.eq_2 _ _ _ _ k) ?_⟩
          simp only [if_pos g1, if_pos g2, if_neg h1, if_neg g3, if_pos h2]
          exact Ev.now _
        by_cases h3 : (rd_T60 steps (i : Int)).f1 > 5
        · refine ⟨false, Ev.step (fun k => flow_right.l0.eq_2 _ _ _ _ k) ?_⟩
          simp only [if_pos g1, if_pos g2, if_neg h1, if_neg g3, if_neg h2, if_pos h3]
          exact Ev.now _
        · refine ⟨b, Ev.step (fun k => flow_right.l0.eq_2 _ _ _ _ k) ?_⟩
          simp only [if_pos g1, if_pos g2, if_neg h1, if_neg g3, if_neg h2, if_neg h3, hw]
          exact hb
      · have g3 : (i : Int) > 0 := by omega
        have g4 : (0 : Int) ≤ (i : Int) - 1 := by omega
        have g5 : (i : Int) - 1 < (steps.length : Int) := by omega
        have e1 := hw1 (by omega)
        by_cases h4 : (rd_T60 steps ((i : Int) - 1)).f0 ≥ (rd_T60 steps (i : Int)).f0
        · refine ⟨false, Ev.step (fun k => flow_right.l0.eq_2 _ _ _ _ k) ?_⟩
          simp only [if_pos g1, if_pos g2, if_neg h1, if_pos g3, e1, if_pos g4, if_pos g5, if_pos h4]
          exact Ev.now _
        by_cases h2 : (rd_T60 steps (i : Int)).f1 < 0
        · refine ⟨false, Ev.step (fun k => flow_right.l0.eq_2 _ _ _ _ k) ?_⟩
          simp only [if_pos g1, if_pos g2, if_neg h1, if_pos g3, e1, if_pos g4, if_pos g5, if_neg h4, if_pos h2]
          exact Ev.now _
        by_cases h3 : (rd_T60 steps (i : Int)).f1 > 5
        · refine ⟨false, Ev.step (fun k => flow_right.l0.eq_2 _ _ _ _ k) ?_⟩
          simp only [if_pos g1, if_pos g2, if_neg h1, if_pos g3, e1, if_pos g4, if_pos g5, if_neg h4, if_neg h2, if_pos h3]
          exact Ev.now _
        · refine ⟨b, Ev.step (fun k => flow_right.l0.eq_2 _ _ _ _ k) ?_⟩
          simp only [if_pos g1, if_pos g2, if_neg h1, if_pos g3, e1, if_pos g4, if_pos g5, if_neg h4, if_neg h2, if_neg h3, hw]
          exact hb
  obtain ⟨b, hb⟩ := key _ 0 rfl (Nat.zero_le _)
  exact ⟨b, hb.rounds⟩
theorem light_some (steps : List S60) (apprs : List ByteArray) (ops : List S46) : ∃ b k, accountinglaw15_light.f k steps apprs ops = some b ∧ (b = true → steps.length ≤ 250 ∧ apprs.length ≤ 250 ∧ ops.length ≤ 40) := by
  have bad : Ev (fun k => accountinglaw15_light.j0 k ops true steps apprs) false := by
    refine Ev.step (fun k => accountinglaw15_light.j0.eq_2 _ _ _ _ k) ?_
    simp only [if_true]
    exact Ev.now _
  unfold accountinglaw15_light.f
  by_cases h1 : (steps.length : Int) > 250
  · obtain ⟨k, hk⟩ := bad.rounds
    exact ⟨false, k, by rw [if_pos h1]; exact hk, fun h => by cases h⟩
  by_cases h2 : (apprs.length : Int) > 250
  · obtain ⟨k, hk⟩ := bad.rounds
    exact ⟨false, k, by rw [if_neg h1, if_pos h2]; exact hk, fun h => by cases h⟩
  by_cases h3 : (ops.length : Int) > 40
  · obtain ⟨k, hk⟩ := bad.rounds
    exact ⟨false, k, by rw [if_neg h1, if_neg h2, decide_eq_true h3]; exact hk, fun h => by cases h⟩
  have key1 : ∀ (n i : Nat), ops.length - i = n → i ≤ ops.length → ∃ b, Ev (fun k => accountinglaw15_light.l1 k ops (i : Int)) b := by
    intro n
    induction n with
    | zero =>
      intro i hn hi
      refine ⟨true, Ev.step (fun k => accountinglaw15_light.l1.eq_2 _ _ k) ?_⟩
      simp only [if_neg (show ¬ ((i : Int) < (ops.length : Int)) by omega)]
      exact Ev.now _
    | succ n ih =>
      intro i hn hi
      have hw : wrap64 ((i : Int) + 1) = ((i + 1 : Nat) : Int) := by rw [w64r (by omega) (by omega)]; omega
      obtain ⟨b, hb⟩ := ih (i + 1) (by omega) (by omega)
      by_cases h : (((rd_T46 ops (i : Int)).f2).size : Int) > 100
      · refine ⟨false, Ev.step (fun k => accountinglaw15_light.l1.eq_2 _ _ k) ?_⟩
        simp only [if_pos (show ((i : Int) < (ops.length : Int)) by omega), if_pos (show (0 : Int) ≤ (i : Int) by omega), if_pos h]
        exact Ev.now _
      · refine ⟨b, Ev.step (fun k => accountinglaw15_light.l1.eq_2 _ _ k) ?_⟩
        simp only [if_pos (show ((i : Int) < (ops.length : Int)) by omega), if_pos (show (0 : Int) ≤ (i : Int) by omega), if_neg h, hw]
        exact hb
  obtain ⟨b1, hb1⟩ := key1 _ 0 rfl (Nat.zero_le _)
  have key0 : ∀ (n i : Nat), apprs.length - i = n → i ≤ apprs.length → ∃ b, Ev (fun k => accountinglaw15_light.l0 k ops (i : Int) steps apprs) b := by
    intro n
    induction n with
    | zero =>
      intro i hn hi
      refine ⟨b1, Ev.step (fun k => accountinglaw15_light.l0.eq_2 _ _ _ _ k) ?_⟩
      simp only [if_neg (show ¬ ((i : Int) < (apprs.length : Int)) by omega)]
      exact hb1
    | succ n ih =>
      intro i hn hi
      have hw : wrap64 ((i : Int) + 1) = ((i + 1 : Nat) : Int) := by rw [w64r (by omega) (by omega)]; omega
      obtain ⟨b, hb⟩ := ih (i + 1) (by omega) (by omega)
      by_cases h : ((rdOf ByteArray.empty apprs (i : Int)).size : Int) > 100
      · refine ⟨false, Ev.step (fun k => accountinglaw15_light.l0.eq_2 _ _ _ _ k) ?_⟩
        simp only [if_pos (show ((i : Int) < (apprs.length : Int)) by omega), if_pos (show (0 : Int) ≤ (i : Int) by omega), if_pos h]
        exact Ev.now _
      · refine ⟨b, Ev.step (fun k => accountinglaw15_light.l0.eq_2 _ _ _ _ k) ?_⟩
        simp only [if_pos (show ((i : Int) < (apprs.length : Int)) by omega), if_pos (show (0 : Int) ≤ (i : Int) by omega), if_neg h, hw]
        exact hb
  obtain ⟨b, hb⟩ := key0 _ 0 rfl (Nat.zero_le _)
  have hj : Ev (fun k => accountinglaw15_light.j0 k ops false steps apprs) b := by
    refine Ev.step (fun k => accountinglaw15_light.j0.eq_2 _ _ _ _ k) ?_
    simp only [Bool.false_eq_true, if_false]
    exact hb
  obtain ⟨k, hk⟩ := hj.rounds
  exact ⟨b, k, by rw [if_neg h1, if_neg h2, decide_eq_false h3]; exact hk, fun _ => by omega⟩
end Go.Proofs.Ytbbhichndfbooaa.P
namespace Go.Proofs.Ytbbhichndfbooaa.P
open Go.RowKit Go.Proofs.YtbbhichndfbooaaW.PrintWords Go.Proofs.YtbbhichndfbooaaW.PrintLast Go.Proofs.YtbbhichndfbooaaW.PrintMore
attribute [local go_sem] max2_int min2_int max_two min_two max_three min_three max_four min_four   -- for this text's walks alone
set_option linter.unusedVariables false
set_option linter.unusedSimpArgs false
/-! ### accountingref06_letter: function 55 -/
def accountingref06_letter.f (a0 : Int) : Option (Bool) := if a0 ≥ 97 then (if a0 ≤ 122 then (some true) else (if a0 ≥ 65 then (if a0 ≤ 90 then (some true) else (some (a0 == 95))) else (some (a0 == 95)))) else (if a0 ≥ 65 then (if a0 ≤ 90 then (some true) else (some (a0 == 95))) else (some (a0 == 95)))
set_option maxHeartbeats 8000000 in
set_option maxRecDepth 100000 in
theorem accountingref06_letter.calls (a0 : Int) (r : Bool) (w : World) (h : accountingref06_letter.f a0 = some r) :
    Calls Try.prog 55 #[.int .u8 a0] w fun e w' => e = .returned (.bool r) ∧ Drawn0 w w' := by
  have H : (if a0 ≥ 97 then (if a0 ≤ 122 then (some true) else (if a0 ≥ 65 then (if a0 ≤ 90 then (some true) else (some (a0 == 95))) else (some (a0 == 95)))) else (if a0 ≥ 65 then (if a0 ≤ 90 then (some true) else (some (a0 == 95))) else (some (a0 == 95)))) = some r := h
  clear h
  by_cases c2 : a0 ≥ 97
  · rw [if_pos c2] at H
    have c2b0 : decide (97 ≤ a0) = true := decide_eq_true c2
    clear c2
    by_cases c3 : a0 ≤ 122
    · rw [if_pos c3] at H
      have c3b0 : decide (a0 ≤ 122) = true := decide_eq_true c3
      clear c3
      obtain rfl := Option.some.inj H
      go_enter Try.func55, Try.ntmps55
      go_wp2
      go_ret
      exact ⟨by first | rfl | (simp; done) | (simp [*]; done), by repeat (first | exact Drawn0.refl _ | apply Drawn0.step)⟩
    · rw [if_neg c3] at H
      have c3b0 : decide (a0 ≤ 122) = false := decide_eq_false c3
      clear c3
      by_cases c4 : a0 ≥ 65
      · rw [if_pos c4] at H
        have c4b0 : decide (65 ≤ a0) = true := decide_eq_true c4
        clear c4
        by_cases c5 : a0 ≤ 90
        · rw [if_pos c5] at H
          have c5b0 : decide (a0 ≤ 90) = true := decide_eq_true c5
          clear c5
          obtain rfl := Option.some.inj H
          go_enter Try.func55, Try.ntmps55
          go_wp2
          go_ret
          exact ⟨by first | rfl | (simp; done) | (simp [*]; done), by repeat (first | exact Drawn0.refl _ | apply Drawn0.step)⟩
        · rw [if_neg c5] at H
          have c5b0 : decide (a0 ≤ 90) = false := decide_eq_false c5
          clear c5
          obtain rfl := Option.some.inj H
          go_enter Try.func55, Try.ntmps55
          go_wp2
          go_ret
          exact ⟨by first | rfl | (simp; done) | (simp [*]; done), by repeat (first | exact Drawn0.refl _ | apply Drawn0.step)⟩
      · rw [if_neg c4] at H
        have c4b0 : decide (65 ≤ a0) = false := decide_eq_false c4
        clear c4
        obtain rfl := Option.some.inj H
        go_enter Try.func55, Try.ntmps55
        go_wp2
        go_ret
        exact ⟨by first | rfl | (simp; done) | (simp [*]; done), by repeat (first | exact Drawn0.refl _ | apply Drawn0.step)⟩
  · rw [if_neg c2] at H
    have c2b0 : decide (97 ≤ a0) = false := decide_eq_false c2
    clear c2
    by_cases c6 : a0 ≥ 65
    · rw [if_pos c6] at H
      have c6b0 : decide (65 ≤ a0) = true := decide_eq_true c6
      clear c6
      by_cases c7 : a0 ≤ 90
      · rw [if_pos c7] at H
        have c7b0 : decide (a0 ≤ 90) = true := decide_eq_true c7
        clear c7
        obtain rfl := Option.some.inj H
        go_enter Try.func55, Try.ntmps55
        go_wp2
        go_ret
        exact ⟨by first | rfl | (simp; done) | (simp [*]; done), by repeat (first | exact Drawn0.refl _ | apply Drawn0.step)⟩
      · rw [if_neg c7] at H
        have c7b0 : decide (a0 ≤ 90) = false := decide_eq_false c7
        clear c7
        obtain rfl := Option.some.inj H
        go_enter Try.func55, Try.ntmps55
        go_wp2
        go_ret
        exact ⟨by first | rfl | (simp; done) | (simp [*]; done), by repeat (first | exact Drawn0.refl _ | apply Drawn0.step)⟩
    · rw [if_neg c6] at H
      have c6b0 : decide (65 ≤ a0) = false := decide_eq_false c6
      clear c6
      obtain rfl := Option.some.inj H
      go_enter Try.func55, Try.ntmps55
      go_wp2
      go_ret
      exact ⟨by first | rfl | (simp; done) | (simp [*]; done), by repeat (first | exact Drawn0.refl _ | apply Drawn0.step)⟩
/-! ### accountingref06_digit: function 56 -/
def accountingref06_digit.f (a0 : Int) : Option (Bool) := if a0 ≥ 48 then (some (decide (a0 ≤ 57))) else (some false)
set_option maxHeartbeats 8000000 in
set_option maxRecDepth 100000 in
theorem accountingref06_digit.calls (a0 : Int) (r : Bool) (w : World) (h : accountingref06_digit.f a0 = some r) :
    Calls Try.prog 56 #[.int .u8 a0] w fun e w' => e = .returned (.bool r) ∧ Drawn0 w w' := by
  have H : (if a0 ≥ 48 then (some (decide (a0 ≤ 57))) else (some false)) = some r := h
  clear h
  by_cases c2 : a0 ≥ 48
  · rw [if_pos c2] at H
    have c2b0 : decide (48 ≤ a0) = true := decide_eq_true c2
    clear c2
    obtain rfl := Option.some.inj H
    go_enter Try.func56, Try.ntmps56
    go_wp2
    go_ret
    exact ⟨by first | rfl | (simp; done) | (simp [*]; done), by repeat (first | exact Drawn0.refl _ | apply Drawn0.step)⟩
  · rw [if_neg c2] at H
    have c2b0 : decide (48 ≤ a0) = false := decide_eq_false c2
    clear c2
    obtain rfl := Option.some.inj H
    go_enter Try.func56, Try.ntmps56
    go_wp2
    go_ret
    exact ⟨by first | rfl | (simp; done) | (simp [*]; done), by repeat (first | exact Drawn0.refl _ | apply Drawn0.step)⟩
/-! ### accountingref06_Code: function 34 -/
def accountingref06_Code.l0 : Nat → ByteArray → Int → Option (Bool)
  | 0, _, _ => none
  | k + 1, x0, x3 => if x3 < (x0.size : Int) then (if 0 ≤ x3 then ((accountingref06_letter.f (bt x0 x3)).bind fun t115 => (if t115 = true then (accountingref06_Code.l0 k x0 (wrap64 (x3 + 1))) else ((accountingref06_digit.f (bt x0 x3)).bind fun t116 => (if t116 = true then (accountingref06_Code.l0 k x0 (wrap64 (x3 + 1))) else (some false))))) else (none)) else (if (x0.size : Int) ≥ 1 then (some (decide ((x0.size : Int) ≤ 12))) else (some false))
def accountingref06_Code.f (k : Nat) (a0 : ByteArray) : Option (Bool) := accountingref06_Code.l0 k a0 0
theorem accountingref06_Code.mono_l : ∀ k, (∀ y0 y1, LeO (accountingref06_Code.l0 k y0 y1) (accountingref06_Code.l0 (k + 1) y0 y1))
  | 0 => fun _ _ r h => by simp [accountingref06_Code.l0] at h
  | k + 1 => by
    have ih0 := accountingref06_Code.mono_l k
    · intro y0 y1
      unfold accountingref06_Code.l0
      repeat' first
      | (with_reducible exact ih0 _ _)
      | (with_reducible exact LeO.refl _)
      | (with_reducible exact LeO.none _)
      | (with_reducible refine LeO.ite ?_ ?_)
      | (with_reducible refine LeO.bind ?_ (fun _ => ?_))
      | exact ih0 _ _
      | exact LeO.none _
      | refine LeO.ite ?_ ?_
      | refine LeO.bind ?_ (fun _ => ?_)
theorem accountingref06_Code.mono : ∀ a0 k, LeO (accountingref06_Code.f k a0) (accountingref06_Code.f (k + 1) a0) := by
  intro a0 k
  have ih0 := accountingref06_Code.mono_l k
  unfold accountingref06_Code.f
  repeat' first
      | (with_reducible exact ih0 _ _)
      | (with_reducible exact LeO.refl _)
      | (with_reducible exact LeO.none _)
      | (with_reducible refine LeO.ite ?_ ?_)
      | (with_reducible refine LeO.bind ?_ (fun _ => ?_))
      | exact ih0 _ _
      | exact LeO.none _
      | refine LeO.ite ?_ ?_
      | refine LeO.bind ?_ (fun _ => ?_)
set_option maxHeartbeats 8000000 in
set_option maxRecDepth 100000 in
theorem accountingref06_Code.calls (k : Nat) (a0 : ByteArray) (r : Bool) (w : World) (h : accountingref06_Code.f k a0 = some r) :
    Calls Try.prog 34 #[.string a0] w fun e w' => e = .returned (.bool r) ∧ Drawn0 w w' := by
  have H : (accountingref06_Code.l0 k a0 0) = some r := h
  clear h
  have H' := Aside0.mk H
  clear H
  go_enter Try.func34, Try.ntmps34
  go_wp2
  go_loopg [3] k (fun kq v3 w' => ∃ (x3_1 : Int), v3 = .int .i64 x3_1 ∧ Aside0 (accountingref06_Code.l0 kq a0 x3_1 = some r) ∧ Aside0 (kq ≤ k) ∧ Drawn0 w w')
  case atStart => exact ⟨(0), (by first | rfl | (simp; done) | (simp [*]; done)), H', ⟨Nat.le_refl _⟩, by repeat (first | exact Drawn0.refl _ | apply Drawn0.step)⟩
  case round =>
    clear H'
    obtain ⟨x3_1, rfl, HA, HK1, ⟨m1, rfl⟩⟩ := hrel
    cases gk with
    | zero => exact absurd HA.out (by simp [accountingref06_Code.l0])
    | succ k1 =>
      have H := HA.out
      clear HA
      simp only [accountingref06_Code.l0] at H
      by_cases c2 : x3_1 < (a0.size : Int)
      · rw [if_pos c2] at H
        have c2b0 : decide (x3_1 < (a0.size : Int)) = true := decide_eq_true c2
        clear c2
        by_cases c3 : 0 ≤ x3_1
        · rw [if_pos c3] at H
          have c3b0 : decide (0 ≤ x3_1) = true := decide_eq_true c3
          clear c3
          replace H := Option.bind_eq_some_iff.mp H
          obtain ⟨t115, A50, H⟩ := H
          replace H : (if t115 = true then (accountingref06_Code.l0 k1 a0 (wrap64 (x3_1 + 1))) else ((accountingref06_digit.f (bt a0 x3_1)).bind fun t116 => (if t116 = true then (accountingref06_Code.l0 k1 a0 (wrap64 (x3_1 + 1))) else (some false)))) = some r := H
          have A5 := Aside0.mk A50
          clear A50
          by_cases c6 : t115 = true
          · subst c6
            have H1 : (accountingref06_Code.l0 k1 a0 (wrap64 (x3_1 + 1))) = some r := by rw [if_pos rfl] at H; exact H
            clear H
            have H := H1
            clear H1
            have H' := Aside0.mk H
            clear H
            have p4 : 0 ≤ (x3_1 : Int) := of_decide_eq_true (by first | (with_reducible assumption) | assumption)
            have q4 : x3_1 < (a0.size : Int) := of_decide_eq_true (by first | (with_reducible assumption) | assumption)
            have hx4 := bt_at a0 x3_1
            replace p4 := eq_true p4
            replace q4 := eq_true q4
            go_wp2_with (first | ((with_reducible refine gate_callee (f := 55) rfl ?_); refine goesL_ (some 13) rfl rfl Try.func55 (by kernel_rfl) rfl #[.int .u8 (bt a0 x3_1)] rfl (by (try simp only [List.map_toArray, List.map_cons, List.map_nil]); first | done | rfl | (simp only [List.length_drop, List.length_take]; rfl)) ?_; (with_reducible refine (accountingref06_letter.calls (bt a0 x3_1) true _ A5.out).mono ?_); rintro e w' ⟨rfl, ⟨nd, rfl⟩⟩; refine ⟨_, rfl, ?_⟩))
            go_roundg k1
            case measure => have := HK1.out; omega
            case rel => exact ⟨(wrap64 (x3_1 + 1)), (by first | rfl | (simp; done) | (simp [*]; done)), H', ⟨by have := HK1.out; omega⟩, by repeat (first | exact Drawn0.refl _ | apply Drawn0.step)⟩
          · replace c6 := Bool.eq_false_iff.mpr c6
            subst c6
            have H1 : ((accountingref06_digit.f (bt a0 x3_1)).bind fun t116 => (if t116 = true then (accountingref06_Code.l0 k1 a0 (wrap64 (x3_1 + 1))) else (some false))) = some r := by rw [if_neg (show ¬ (false = true) by decide)] at H; exact H
            clear H
            have H := H1
            clear H1
            replace H := Option.bind_eq_some_iff.mp H
            obtain ⟨t116, A80, H⟩ := H
            replace H : (if t116 = true then (accountingref06_Code.l0 k1 a0 (wrap64 (x3_1 + 1))) else (some false)) = some r := H
            have A8 := Aside0.mk A80
            clear A80
            by_cases c9 : t116 = true
            · subst c9
              have H1 : (accountingref06_Code.l0 k1 a0 (wrap64 (x3_1 + 1))) = some r := by rw [if_pos rfl] at H; exact H
              clear H
              have H := H1
              clear H1
              have H' := Aside0.mk H
              clear H
              have p4 : 0 ≤ (x3_1 : Int) := of_decide_eq_true (by first | (with_reducible assumption) | assumption)
              have q4 : x3_1 < (a0.size : Int) := of_decide_eq_true (by first | (with_reducible assumption) | assumption)
              have hx4 := bt_at a0 x3_1
              replace p4 := eq_true p4
              replace q4 := eq_true q4
              go_wp2_with (first | ((with_reducible refine gate_callee (f := 55) rfl ?_); refine goesL_ (some 13) rfl rfl Try.func55 (by kernel_rfl) rfl #[.int .u8 (bt a0 x3_1)] rfl (by (try simp only [List.map_toArray, List.map_cons, List.map_nil]); first | done | rfl | (simp only [List.length_drop, List.length_take]; rfl)) ?_; (with_reducible refine (accountingref06_letter.calls (bt a0 x3_1) false _ A5.out).mono ?_); rintro e w' ⟨rfl, ⟨nd, rfl⟩⟩; refine ⟨_, rfl, ?_⟩; have p7 : 0 ≤ (x3_1 : Int) := of_decide_eq_true (by first | (with_reducible assumption) | assumption); have q7 : x3_1 < (a0.size : Int) := of_decide_eq_true (by first | (with_reducible assumption) | assumption); have hx7 := bt_at a0 x3_1; replace p7 := eq_true p7; replace q7 := eq_true q7) | (go_at_call 56; (with_reducible refine (accountingref06_digit.calls (bt a0 x3_1) true _ A8.out).mono ?_); rintro e w' ⟨rfl, ⟨nd, rfl⟩⟩))
              go_roundg k1
              case measure => have := HK1.out; omega
              case rel => exact ⟨(wrap64 (x3_1 + 1)), (by first | rfl | (simp; done) | (simp [*]; done)), H', ⟨by have := HK1.out; omega⟩, by repeat (first | exact Drawn0.refl _ | apply Drawn0.step)⟩
            · replace c9 := Bool.eq_false_iff.mpr c9
              subst c9
              have H1 : (some false) = some r := by rw [if_neg (show ¬ (false = true) by decide)] at H; exact H
              clear H
              have H := H1
              clear H1
              obtain rfl := Option.some.inj H
              have p4 : 0 ≤ (x3_1 : Int) := of_decide_eq_true (by first | (with_reducible assumption) | assumption)
              have q4 : x3_1 < (a0.size : Int) := of_decide_eq_true (by first | (with_reducible assumption) | assumption)
              have hx4 := bt_at a0 x3_1
              replace p4 := eq_true p4
              replace q4 := eq_true q4
              go_wp2_with (first | ((with_reducible refine gate_callee (f := 55) rfl ?_); refine goesL_ (some 13) rfl rfl Try.func55 (by kernel_rfl) rfl #[.int .u8 (bt a0 x3_1)] rfl (by (try simp only [List.map_toArray, List.map_cons, List.map_nil]); first | done | rfl | (simp only [List.length_drop, List.length_take]; rfl)) ?_; (with_reducible refine (accountingref06_letter.calls (bt a0 x3_1) false _ A5.out).mono ?_); rintro e w' ⟨rfl, ⟨nd, rfl⟩⟩; refine ⟨_, rfl, ?_⟩; have p7 : 0 ≤ (x3_1 : Int) := of_decide_eq_true (by first | (with_reducible assumption) | assumption); have q7 : x3_1 < (a0.size : Int) := of_decide_eq_true (by first | (with_reducible assumption) | assumption); have hx7 := bt_at a0 x3_1; replace p7 := eq_true p7; replace q7 := eq_true q7) | (go_at_call 56; (with_reducible refine (accountingref06_digit.calls (bt a0 x3_1) false _ A8.out).mono ?_); rintro e w' ⟨rfl, ⟨nd, rfl⟩⟩))
              go_ret
              exact ⟨by first | rfl | (simp; done) | (simp [*]; done), by repeat (first | exact Drawn0.refl _ | apply Drawn0.step)⟩
        · rw [if_neg c3] at H
          exact absurd H (by simp)
      · rw [if_neg c2] at H
        have c2b0 : decide (x3_1 < (a0.size : Int)) = false := decide_eq_false c2
        clear c2
        by_cases c10 : (a0.size : Int) ≥ 1
        · rw [if_pos c10] at H
          have c10b0 : decide (1 ≤ (a0.size : Int)) = true := decide_eq_true c10
          have c10b1 : decide (1 ≤ a0.size) = true := decide_eq_true (by omega)
          clear c10
          obtain rfl := Option.some.inj H
          go_wp2
          go_ret
          exact ⟨by first | rfl | (simp; done) | (simp [*]; done), by repeat (first | exact Drawn0.refl _ | apply Drawn0.step)⟩
        · rw [if_neg c10] at H
          have c10b0 : decide (1 ≤ (a0.size : Int)) = false := decide_eq_false c10
          have c10b1 : decide (1 ≤ a0.size) = false := decide_eq_false (by omega)
          clear c10
          obtain rfl := Option.some.inj H
          go_wp2
          go_ret
          exact ⟨by first | rfl | (simp; done) | (simp [*]; done), by repeat (first | exact Drawn0.refl _ | apply Drawn0.step)⟩
/-! ### accountingref15_has: function 35 -/
def accountingref15_has.l0 : Nat → List ByteArray → ByteArray → Int → Option (Bool)
  | 0, _, _, _ => none
  | k + 1, x0, x1, x5 => if x5 < (x0.length : Int) then (if 0 ≤ x5 then (if (rdOf ByteArray.empty x0 x5).toList = x1.toList then (some true) else (accountingref15_has.l0 k x0 x1 (wrap64 (x5 + 1)))) else (none)) else (some false)
def accountingref15_has.f (k : Nat) (l0 : List ByteArray) (a1 : ByteArray) : Option (Bool) := accountingref15_has.l0 k l0 a1 0
theorem accountingref15_has.mono_l : ∀ k, (∀ y0 y1 y2, LeO (accountingref15_has.l0 k y0 y1 y2) (accountingref15_has.l0 (k + 1) y0 y1 y2))
  | 0 => fun _ _ _ r h => by simp [accountingref15_has.l0] at h
  | k + 1 => by
    have ih0 := accountingref15_has.mono_l k
    · intro y0 y1 y2
      unfold accountingref15_has.l0
      repeat' first
      | (with_reducible exact ih0 _ _ _)
      | (with_reducible exact LeO.refl _)
      | (with_reducible exact LeO.none _)
      | (with_reducible refine LeO.ite ?_ ?_)
      | (with_reducible refine LeO.bind ?_ (fun _ => ?_))
      | exact ih0 _ _ _
      | exact LeO.none _
      | refine LeO.ite ?_ ?_
      | refine LeO.bind ?_ (fun _ => ?_)
theorem accountingref15_has.mono : ∀ a0 a1 k, LeO (accountingref15_has.f k a0 a1) (accountingref15_has.f (k + 1) a0 a1) := by
  intro a0 a1 k
  have ih0 := accountingref15_has.mono_l k
  unfold accountingref15_has.f
  repeat' first
      | (with_reducible exact ih0 _ _ _)
      | (with_reducible exact LeO.refl _)
      | (with_reducible exact LeO.none _)
      | (with_reducible refine LeO.ite ?_ ?_)
      | (with_reducible refine LeO.bind ?_ (fun _ => ?_))
      | exact ih0 _ _ _
      | exact LeO.none _
      | refine LeO.ite ?_ ?_
      | refine LeO.bind ?_ (fun _ => ?_)
set_option maxHeartbeats 8000000 in
set_option maxRecDepth 100000 in
theorem accountingref15_has.calls (k : Nat) (A0 : Option Addr) (c0 : Nat) (l0 : List ByteArray) (a1 : ByteArray) (r : Bool) (w : World) (hr0 : Kd.C Kd.string w A0 l0.length l0) (hc0 : l0.length ≤ c0) (h : accountingref15_has.f k l0 a1 = some r) :
    Calls Try.prog 35 #[.slice A0 l0.length c0, .string a1] w fun e w' => e = .returned (.bool r) ∧ Drawn0 w w' := by
  have HR0 := Aside0.mk hr0
  have HC0 := Aside0.mk hc0
  clear hr0 hc0
  have H : (accountingref15_has.l0 k l0 a1 0) = some r := h
  clear h
  have H' := Aside0.mk H
  clear H
  go_enter Try.func35, Try.ntmps35
  go_wp2
  go_loopg [5] k (fun kq v5 w' => ∃ (x5_1 : Int), v5 = .int .i64 x5_1 ∧ Aside0 (accountingref15_has.l0 kq l0 a1 x5_1 = some r) ∧ Aside0 (kq ≤ k) ∧ Drawn0 w w')
  case atStart => exact ⟨(0), (by first | rfl | (simp; done) | (simp [*]; done)), H', ⟨Nat.le_refl _⟩, by repeat (first | exact Drawn0.refl _ | apply Drawn0.step)⟩
  case round =>
    clear H'
    try clear p2
    obtain ⟨x5_1, rfl, HA, HK1, ⟨m1, rfl⟩⟩ := hrel
    cases gk with
    | zero => exact absurd HA.out (by simp [accountingref15_has.l0])
    | succ k1 =>
      have H := HA.out
      clear HA
      simp only [accountingref15_has.l0] at H
      by_cases c3 : x5_1 < (l0.length : Int)
      · rw [if_pos c3] at H
        have c3b0 : decide (x5_1 < (l0.length : Int)) = true := decide_eq_true c3
        clear c3
        by_cases c4 : 0 ≤ x5_1
        · rw [if_pos c4] at H
          have c4b0 : decide (0 ≤ x5_1) = true := decide_eq_true c4
          clear c4
          by_cases c5 : (rdOf ByteArray.empty l0 x5_1).toList = a1.toList
          · rw [if_pos c5] at H
            have c5b0 : ((rdOf ByteArray.empty l0 x5_1).toList == a1.toList) = true := beq_iff_eq.mpr c5
            have c5b1 : ((rdOf ByteArray.empty l0 x5_1).toList != a1.toList) = false := bne_eq_false_iff_eq.mpr c5
            clear c5
            obtain rfl := Option.some.inj H
            have p117 : 0 ≤ (x5_1 : Int) := of_decide_eq_true (by first | (with_reducible assumption) | assumption)
            have q117 : x5_1 < (l0.length : Int) := of_decide_eq_true (by first | (with_reducible assumption) | assumption)
            obtain ⟨ad117, e117, hx117_0⟩ := Kd.at_string HR0.out x5_1 p117 q117
            cases e117
            replace p117 := eq_true p117
            replace q117 := eq_true q117
            go_wp2
            go_ret
            exact ⟨by first | rfl | (simp; done) | (simp [*]; done), by repeat (first | exact Drawn0.refl _ | apply Drawn0.step)⟩
          · rw [if_neg c5] at H
            have c5b0 : ((rdOf ByteArray.empty l0 x5_1).toList == a1.toList) = false := beq_eq_false_iff_ne.mpr c5
            have c5b1 : ((rdOf ByteArray.empty l0 x5_1).toList != a1.toList) = true := bne_iff_ne.mpr c5
            have H' := Aside0.mk H
            clear H
            have p117 : 0 ≤ (x5_1 : Int) := of_decide_eq_true (by first | (with_reducible assumption) | assumption)
            have q117 : x5_1 < (l0.length : Int) := of_decide_eq_true (by first | (with_reducible assumption) | assumption)
            obtain ⟨ad117, e117, hx117_0⟩ := Kd.at_string HR0.out x5_1 p117 q117
            cases e117
            replace p117 := eq_true p117
            replace q117 := eq_true q117
            go_wp2
            go_roundg k1
            case measure => have := HK1.out; omega
            case rel => exact ⟨(wrap64 (x5_1 + 1)), (by first | rfl | (simp; done) | (simp [*]; done)), H', ⟨by have := HK1.out; omega⟩, by repeat (first | exact Drawn0.refl _ | apply Drawn0.step)⟩
        · rw [if_neg c4] at H
          exact absurd H (by simp)
      · rw [if_neg c3] at H
        have c3b0 : decide (x5_1 < (l0.length : Int)) = false := decide_eq_false c3
        clear c3
        obtain rfl := Option.some.inj H
        go_wp2
        go_ret
        exact ⟨by first | rfl | (simp; done) | (simp [*]; done), by repeat (first | exact Drawn0.refl _ | apply Drawn0.step)⟩
-- NOT PRINTED: function 12 (accountingref15_New)
-- NOT PRINTED: function 14 (accountingref15_Flow_Need)
end Go.Proofs.Ytbbhichndfbooaa.P
namespace Go.Proofs.Ytbbhichndfbooaa.P
open Go.RowKit Go.Proofs.YtbbhichndfbooaaW.PrintWords Go.Proofs.YtbbhichndfbooaaW.PrintLast Go.Proofs.YtbbhichndfbooaaW.PrintMore Go.Maps Go.ChangeShapes Go.WideShapes Go.WideMaps
set_option linter.unusedVariables false
set_option linter.unusedSimpArgs false
/-- A document of the reference, as its four cells lie. -/
structure RawD where
  au : ByteArray
  vo : Int
  st : Int
  A : Option Addr
  n : Nat
  c : Nat
def kD : Kd RawD where
  sz := 4
  E := []
  K _ x cs := cs = [.string x.au, .int .i64 x.vo, .int .i64 x.st, .slice x.A x.n x.c]
  M _ _ _ x cs := cs = [.string x.au, .int .i64 x.vo, .int .i64 x.st, .slice x.A x.n x.c]
  K_len := by rintro _ _ _ rfl; rfl
  K_one := by rintro _ _ _ rfl u hu; simp only [List.mem_cons, List.mem_nil_iff, or_false] at hu; rcases hu with rfl | rfl | rfl | rfl <;> rfl
  K_below _ h := h
  K_of_M h := h
  M_mono _ h := h
  M_bound h := h
  M_move _ h := h
  M_lower _ h := h
/-- The four cells lie for the document D. -/
structure RawOk (w : World) (F : Nat → Prop) (x : RawD) (D : DocS) : Prop where
  au : x.au = D.au
  vo : x.vo = D.vo
  st : x.st = D.st
  row : Kd.string.R 9 w 0 F (.slice x.A x.n x.c) D.ap
theorem RawOk.move {w w' : World} {F G : Nat → Prop} {x : RawD} {D : DocS} (h : RawOk w F x D) (hFG : ∀ k, F k → G k) (hm : ∀ k, F k → Typed w k 9 → w'.heap[k]? = w.heap[k]?) : RawOk w' G x D :=
  ⟨h.au, h.vo, h.st, row_over rfl h.row hFG (fun k hk => hm k (h.row.1 k hk) (Kd.R_typed h.row k hk))⟩
structure RParts where
  vs : Value
  va : Value
  vd : Value
  vl : Value
  rs : List RawD
structure RflP (w : World) (F : Nat → Prop) (q : Nat) (S : FlowS) (L : RParts) : Prop where
  blk : w.heap[q]? = some (.cells #[L.vs, L.va, L.vd, L.vl] 71 (0, 0))
  own : F q
  steps : k60.R 60 w 0 F L.vs S.steps
  appr : Kd.string.R 9 w 0 F L.va S.appr
  rowd : kD.R 78 w 0 F L.vd L.rs
  acts : k55.R 55 w 0 F L.vl S.acts
  len : L.rs.length = S.docs.length
  docs : ∀ (j : Nat) (x : RawD) (D : DocS), L.rs[j]? = some x → S.docs[j]? = some D → RawOk w F x D
  lt : ∀ k, F k → k < w.heap.size
def Rfl (w : World) (F : Nat → Prop) (q : Nat) (S : FlowS) : Prop := ∃ L, RflP w F q S L
section
variable {w w' : World} {F G : Nat → Prop} {q : Nat} {S : FlowS} {L : RParts}
theorem RflP.keep (h : RflP w F q S L) (hb : ∀ k, F k → w'.heap[k]? = w.heap[k]?) : RflP w' F q S L := by
  refine ⟨(hb _ h.own).trans h.blk, h.own, Kd.R_step h.steps (fun k hk _ => hb k hk), Kd.R_step h.appr (fun k hk _ => hb k hk), Kd.R_step h.rowd (fun k hk _ => hb k hk), Kd.R_step h.acts (fun k hk _ => hb k hk), h.len, fun j x D h1 h2 => (h.docs j x D h1 h2).move (fun _ hk => hk) (fun k hk _ => hb k hk), fun k hk => ?_⟩
  have := h.lt k hk
  have h2 := hb k hk
  rw [Array.getElem?_eq_getElem this] at h2
  exact (Array.getElem?_eq_some_iff.1 h2).1
theorem Rfl.keep (h : Rfl w F q S) (hb : ∀ k, F k → w'.heap[k]? = w.heap[k]?) : Rfl w' F q S := by
  obtain ⟨L, h⟩ := h
  exact ⟨L, h.keep hb⟩
theorem Rfl.lt (h : Rfl w F q S) : ∀ k, F k → k < w.heap.size := by
  obtain ⟨L, h⟩ := h
  exact h.lt
theorem Rfl.below (h : Rfl w F q S) (hb : Below w.heap.size w w') : Rfl w' F q S := h.keep (fun k hk => hb.block k (h.lt k hk))
theorem RflP.below (h : RflP w F q S L) (hb : Below w.heap.size w w') : RflP w' F q S L := h.keep (fun k hk => hb.block k (h.lt k hk))
theorem RflP.drewN (h : RflP w F q S L) (n : Nat) : RflP (w.drewN n) F q S L := h.keep (fun _ _ => rfl)
end
theorem has_take (k : Nat) (A : Option Addr) (c : Nat) (l : List ByteArray) (n : Nat) (hn : n ≤ l.length) (a : ByteArray) (r : Bool) (w : World) (hr : Kd.C Kd.string w A (l.take n).length (l.take n)) (hc : (l.take n).length ≤ c) (h : accountingref15_has.f k (l.take n) a = some r) :
    Calls Try.prog 35 #[.slice A n c, .string a] w fun e w' => e = .returned (.bool r) ∧ Drawn0 w w' := by
  have := accountingref15_has.calls k A c (l.take n) a r w hr hc h
  rw [show (l.take n).length = n by rw [List.length_take]; omega] at this
  exact this
/-- What the reference's New returns. -/
def RPost (w w' : World) (x : Ending) (err : Int) (steps : List S60) (apprs : List ByteArray) : Prop :=
  Below w.heap.size w w' ∧ ((err ≠ 0 ∧ x = .returned (.tuple #[.pointer none, .int .i64 err])) ∨ (err = 0 ∧ ∃ q F, x = .returned (.tuple #[.pointer (some ⟨q, 0, none⟩), .int .i64 0]) ∧ Rfl w' F q ⟨steps, apprs, [], []⟩ ∧ ∀ k, F k → w.heap.size ≤ k))
theorem RPost.bad {w w' : World} {err : Int} {steps : List S60} {apprs : List ByteArray} (h : Drawn0 w w') (he : err ≠ 0) : RPost w w' (.returned (.tuple #[.pointer none, .int .i64 err])) err steps apprs := ⟨h.below, .inl ⟨he, rfl⟩⟩
theorem RPost.good {w w' : World} {steps : List S60} {apprs : List ByteArray} {q : Nat} {vs va : Value} (hb : Below w.heap.size w w') (hq : w'.heap[q]? = some (.cells #[vs, va, .slice none 0 0, .slice none 0 0] 71 (0, 0))) (hl : w.heap.size ≤ q)
    (hs : k60.R 60 w' w.heap.size (fun k => w.heap.size ≤ k) vs steps) (ha : Kd.string.R 9 w' w.heap.size (fun k => w.heap.size ≤ k) va apprs) : RPost w w' (.returned (.tuple #[.pointer (some ⟨q, 0, none⟩), .int .i64 0])) 0 steps apprs := by
  refine ⟨hb, .inr ⟨rfl, q, fun x => w.heap.size ≤ x ∧ x < w'.heap.size, rfl, ⟨⟨vs, va, .slice none 0 0, .slice none 0 0, []⟩, ?_⟩, fun x hx => hx.1⟩⟩
  refine ⟨hq, ⟨hl, blk_lt hq⟩, ?_, ?_, Kd.R_nil _ _ _ _ _, Kd.R_nil _ _ _ _ _, rfl, fun j x D h1 _ => by simp at h1, fun x hx => hx.2⟩
  · exact Kd.R_mono (Kd.R_bound (Kd.R_lower hs (Nat.zero_le _))) (fun x hx => ⟨hx.1, hx.2.2.1⟩)
  · exact Kd.R_mono (Kd.R_bound (Kd.R_lower ha (Nat.zero_le _))) (fun x hx => ⟨hx.1, hx.2.2.1⟩)
end Go.Proofs.Ytbbhichndfbooaa.P
namespace Go.Proofs.Ytbbhichndfbooaa.P
open Go.RowKit Go.Proofs.YtbbhichndfbooaaW.PrintWords Go.Proofs.YtbbhichndfbooaaW.PrintLast Go.Proofs.YtbbhichndfbooaaW.PrintMore
attribute [local go_sem] max2_int min2_int max_two min_two max_three min_three max_four min_four   -- for this text's walks alone
set_option linter.unusedVariables false
set_option linter.unusedSimpArgs false
/-! ### accountingref15_New: function 12 -/
mutual
def accountingref15_New.j0 : Nat → List (S60) → List ByteArray → Bool → Option (Int)
  | 0, _, _, _ => none
  | k + 1, x0, x1, x15 => if x15 = true then (some 9) else (accountingref15_New.l0 k x0 x1 0)
def accountingref15_New.l0 : Nat → List (S60) → List ByteArray → Int → Option (Int)
  | 0, _, _, _ => none
  | k + 1, x0, x1, x6 => if x6 < (x0.length : Int) then (if 0 ≤ x6 then (if ((rd_T60 x0 x6).f0) < 0 then (some 2) else (if x6 > 0 then (if 0 ≤ (wrap64 (x6 - 1)) then (if (wrap64 (x6 - 1)) < (x0.length : Int) then (if ((rd_T60 x0 x6).f0) ≤ ((rd_T60 x0 (wrap64 (x6 - 1))).f0) then (some 2) else (if ((rd_T60 x0 x6).f1) < 0 then (some 2) else (if ((rd_T60 x0 x6).f1) > 5 then (some 2) else (accountingref15_New.l0 k x0 x1 (wrap64 (x6 + 1)))))) else (none)) else (none)) else (if ((rd_T60 x0 x6).f1) < 0 then (some 2) else (if ((rd_T60 x0 x6).f1) > 5 then (some 2) else (accountingref15_New.l0 k x0 x1 (wrap64 (x6 + 1))))))) else (none)) else (accountingref15_New.l1 k x1 0)
def accountingref15_New.l1 : Nat → List ByteArray → Int → Option (Int)
  | 0, _, _ => none
  | k + 1, x1, x7 => if x7 < (x1.length : Int) then (if 0 ≤ x7 then ((accountingref06_Code.f k (rdOf ByteArray.empty x1 x7)).bind fun t126 => (if t126 = true then (if x7 ≤ (x1.length : Int) then ((accountingref15_has.f k (x1.take (x7 : Int).toNat) (rdOf ByteArray.empty x1 x7)).bind fun t129 => (if t129 = true then (some 8) else (accountingref15_New.l1 k x1 (wrap64 (x7 + 1))))) else (none)) else (some 7))) else (none)) else (some 0)
end
def accountingref15_New.f (k : Nat) (l0 : List (S60)) (l1 : List ByteArray) : Option (Int) := if (l0.length : Int) > 200 then (accountingref15_New.j0 k l0 l1 true) else (accountingref15_New.j0 k l0 l1 (decide ((l1.length : Int) > 200)))
theorem accountingref15_New.mono_l : ∀ k, (∀ y0 y1 y2, LeO (accountingref15_New.j0 k y0 y1 y2) (accountingref15_New.j0 (k + 1) y0 y1 y2)) ∧ (∀ y0 y1 y2, LeO (accountingref15_New.l0 k y0 y1 y2) (accountingref15_New.l0 (k + 1) y0 y1 y2)) ∧ (∀ y0 y1, LeO (accountingref15_New.l1 k y0 y1) (accountingref15_New.l1 (k + 1) y0 y1))
  | 0 => ⟨fun _ _ _ r h => by simp [accountingref15_New.j0] at h, fun _ _ _ r h => by simp [accountingref15_New.l0] at h, fun _ _ r h => by simp [accountingref15_New.l1] at h⟩
  | k + 1 => by
    obtain ⟨ih0, ih1, ih2⟩ := accountingref15_New.mono_l k
    refine ⟨?_, ?_, ?_⟩
    · intro y0 y1 y2
      unfold accountingref15_New.j0
      repeat' first
      | (with_reducible exact ih0 _ _ _)
      | (with_reducible exact ih1 _ _ _)
      | (with_reducible exact ih2 _ _)
      | (with_reducible exact accountingref06_Code.mono _ _)
      | (with_reducible exact accountingref15_has.mono _ _ _)
      | (with_reducible exact LeO.refl _)
      | (with_reducible exact LeO.none _)
      | (with_reducible refine LeO.ite ?_ ?_)
      | (with_reducible refine LeO.bind ?_ (fun _ => ?_))
      | exact ih0 _ _ _
      | exact ih1 _ _ _
      | exact ih2 _ _
      | exact accountingref06_Code.mono _ _
      | exact accountingref15_has.mono _ _ _
      | exact LeO.none _
      | refine LeO.ite ?_ ?_
      | refine LeO.bind ?_ (fun _ => ?_)
    · intro y0 y1 y2
      unfold accountingref15_New.l0
      repeat' first
      | (with_reducible exact ih0 _ _ _)
      | (with_reducible exact ih1 _ _ _)
      | (with_reducible exact ih2 _ _)
      | (with_reducible exact accountingref06_Code.mono _ _)
      | (with_reducible exact accountingref15_has.mono _ _ _)
      | (with_reducible exact LeO.refl _)
      | (with_reducible exact LeO.none _)
      | (with_reducible refine LeO.ite ?_ ?_)
      | (with_reducible refine LeO.bind ?_ (fun _ => ?_))
      | exact ih0 _ _ _
      | exact ih1 _ _ _
      | exact ih2 _ _
      | exact accountingref06_Code.mono _ _
      | exact accountingref15_has.mono _ _ _
      | exact LeO.none _
      | refine LeO.ite ?_ ?_
      | refine LeO.bind ?_ (fun _ => ?_)
    · intro y0 y1
      unfold accountingref15_New.l1
      repeat' first
      | (with_reducible exact ih0 _ _ _)
      | (with_reducible exact ih1 _ _ _)
      | (with_reducible exact ih2 _ _)
      | (with_reducible exact accountingref06_Code.mono _ _)
      | (with_reducible exact accountingref15_has.mono _ _ _)
      | (with_reducible exact LeO.refl _)
      | (with_reducible exact LeO.none _)
      | (with_reducible refine LeO.ite ?_ ?_)
      | (with_reducible refine LeO.bind ?_ (fun _ => ?_))
      | exact ih0 _ _ _
      | exact ih1 _ _ _
      | exact ih2 _ _
      | exact accountingref06_Code.mono _ _
      | exact accountingref15_has.mono _ _ _
      | exact LeO.none _
      | refine LeO.ite ?_ ?_
      | refine LeO.bind ?_ (fun _ => ?_)
theorem accountingref15_New.mono : ∀ a0 a1 k, LeO (accountingref15_New.f k a0 a1) (accountingref15_New.f (k + 1) a0 a1) := by
  intro a0 a1 k
  obtain ⟨ih0, ih1, ih2⟩ := accountingref15_New.mono_l k
  unfold accountingref15_New.f
  repeat' first
      | (with_reducible exact ih0 _ _ _)
      | (with_reducible exact ih1 _ _ _)
      | (with_reducible exact ih2 _ _)
      | (with_reducible exact accountingref06_Code.mono _ _)
      | (with_reducible exact accountingref15_has.mono _ _ _)
      | (with_reducible exact LeO.refl _)
      | (with_reducible exact LeO.none _)
      | (with_reducible refine LeO.ite ?_ ?_)
      | (with_reducible refine LeO.bind ?_ (fun _ => ?_))
      | exact ih0 _ _ _
      | exact ih1 _ _ _
      | exact ih2 _ _
      | exact accountingref06_Code.mono _ _
      | exact accountingref15_has.mono _ _ _
      | exact LeO.none _
      | refine LeO.ite ?_ ?_
      | refine LeO.bind ?_ (fun _ => ?_)
set_option maxHeartbeats 8000000 in
set_option maxRecDepth 100000 in
theorem rnew_calls (k : Nat) (A0 : Option Addr) (c0 : Nat) (l0 : List (S60)) (A1 : Option Addr) (c1 : Nat) (l1 : List ByteArray) (r : Int) (w : World) (hr0 : Kd.C k60 w A0 l0.length l0) (hc0 : l0.length ≤ c0) (hr1 : Kd.C Kd.string w A1 l1.length l1) (hc1 : l1.length ≤ c1) (hlen : r = 0 → l0.length ≤ 200 ∧ l1.length ≤ 200) (h : accountingref15_New.f k l0 l1 = some r) :
    Calls Try.prog 12 #[.slice A0 l0.length c0, .slice A1 l1.length c1] w fun e w' => RPost w w' e r l0 l1 := by
  have HLEN := Aside0.mk hlen
  clear hlen
  have HR0 := Aside0.mk hr0
  have HC0 := Aside0.mk hc0
  clear hr0 hc0
  have HR1 := Aside0.mk hr1
  have HC1 := Aside0.mk hc1
  clear hr1 hc1
  have H : (if (l0.length : Int) > 200 then (accountingref15_New.j0 k l0 l1 true) else (accountingref15_New.j0 k l0 l1 (decide ((l1.length : Int) > 200)))) = some r := h
  clear h
  have HC3 := Aside0.mk H
  clear H
  go_enter Try.func12, Try.ntmps12
  go_upto_region 1 with (fail)
  repeat (go_quiet (fail); go_upto_region 1 with (fail))
  go_cut [15] (fun v15 wc => ∃ (kq : Nat) (x15_2 : Bool), v15 = .bool x15_2 ∧ Aside0 (accountingref15_New.j0 kq l0 l1 x15_2 = some r) ∧ Aside0 (kq ≤ k) ∧ Drawn0 w wc)
  case first =>
    have H := HC3.out
    clear HC3
    by_cases c4 : (l0.length : Int) > 200
    · rw [if_pos c4] at H
      have c4b0 : decide (200 < (l0.length : Int)) = true := decide_eq_true c4
      have c4b1 : decide (200 < l0.length) = true := decide_eq_true (by omega)
      clear c4
      (first | rw [c4b0] | (simp only [i64_w, i32_w]; rw [c4b0]) | skip)
      have H' := Aside0.mk H
      clear H
      go_wp2
      repeat (go_quiet (fail); try go_wp2)
      go_meet
      case rel => exact ⟨_, (true), (by first | rfl | (simp; done) | (simp [*]; done)), H', ⟨by first | omega | exact Nat.le_refl _⟩, by repeat (first | exact Drawn0.refl _ | apply Drawn0.step)⟩
    · rw [if_neg c4] at H
      have c4b0 : decide (200 < (l0.length : Int)) = false := decide_eq_false c4
      have c4b1 : decide (200 < l0.length) = false := decide_eq_false (by omega)
      clear c4
      (first | rw [c4b0] | (simp only [i64_w, i32_w]; rw [c4b0]) | skip)
      have H' := Aside0.mk H
      clear H
      go_wp2
      repeat (go_quiet (fail); try go_wp2)
      go_meet
      case rel => exact ⟨_, (decide ((l1.length : Int) > 200)), (by first | rfl | (simp; done) | (simp [*]; done)), H', ⟨by first | omega | exact Nat.le_refl _⟩, by repeat (first | exact Drawn0.refl _ | apply Drawn0.step)⟩
  case rest =>
    clear HC3
    try clear c1
    try clear p2
    try clear c4
    try clear c4b0
    try clear c4b1
    obtain ⟨kq, x15_2, rfl, HA, HJ2, ⟨mc2, rfl⟩⟩ := hcut
    cases kq with
    | zero => exact absurd HA.out (by simp [accountingref15_New.j0])
    | succ kj2 =>
      have H := HA.out
      clear HA
      simp only [accountingref15_New.j0] at H
      by_cases c5 : x15_2 = true
      · subst c5
        have H1 : (some 9) = some r := by rw [if_pos rfl] at H; exact H
        clear H
        have H := H1
        clear H1
        obtain rfl := Option.some.inj H
        go_wp2
        repeat (go_quiet (fail); try go_wp2)
        go_ret2
        exact RPost.bad (by repeat (first | exact Drawn0.refl _ | apply Drawn0.step)) (by decide)
      · replace c5 := Bool.eq_false_iff.mpr c5
        subst c5
        have H1 : (accountingref15_New.l0 kj2 l0 l1 0) = some r := by rw [if_neg (show ¬ (false = true) by decide)] at H; exact H
        clear H
        have H := H1
        clear H1
        have H' := Aside0.mk H
        clear H
        go_wp2
        repeat (go_quiet (fail); try go_wp2)
        go_loopg [6] kj2 (fun kq v6 w' => ∃ (x6_2 : Int), v6 = .int .i64 x6_2 ∧ Aside0 (accountingref15_New.l0 kq l0 l1 x6_2 = some r) ∧ Aside0 (kq ≤ kj2) ∧ Drawn0 w w')
        case atStart => exact ⟨(0), (by first | rfl | (simp; done) | (simp [*]; done)), H', ⟨Nat.le_refl _⟩, by repeat (first | exact Drawn0.refl _ | apply Drawn0.step)⟩
        case round =>
          clear H'
          try clear c1
          try clear c2
          try clear p2
          try clear c4
          try clear c4b0
          try clear c4b1
          try clear c5
          try clear p2
          obtain ⟨x6_2, rfl, HA, HK2, ⟨m2, rfl⟩⟩ := hrel
          cases gk with
          | zero => exact absurd HA.out (by simp [accountingref15_New.l0])
          | succ k2 =>
            have H := HA.out
            clear HA
            simp only [accountingref15_New.l0] at H
            by_cases c6 : x6_2 < (l0.length : Int)
            · rw [if_pos c6] at H
              have c6b0 : decide (x6_2 < (l0.length : Int)) = true := decide_eq_true c6
              clear c6
              by_cases c7 : 0 ≤ x6_2
              · rw [if_pos c7] at H
                have c7b0 : decide (0 ≤ x6_2) = true := decide_eq_true c7
                clear c7
                by_cases c8 : ((rd_T60 l0 x6_2).f0) < 0
                · rw [if_pos c8] at H
                  have c8b0 : decide (((rd_T60 l0 x6_2).f0) < 0) = true := decide_eq_true c8
                  clear c8
                  obtain rfl := Option.some.inj H
                  have p118 : 0 ≤ (x6_2 : Int) := of_decide_eq_true (by first | (with_reducible assumption) | assumption)
                  have q118 : x6_2 < (l0.length : Int) := of_decide_eq_true (by first | (with_reducible assumption) | assumption)
                  obtain ⟨ad118, e118, hx118_0, hx118_1⟩ := at_T60 HR0.out x6_2 p118 q118
                  cases e118
                  replace p118 := eq_true p118
                  replace q118 := eq_true q118
                  go_wp2
                  repeat (go_quiet (fail); try go_wp2)
                  go_ret2
                  exact RPost.bad (by repeat (first | exact Drawn0.refl _ | apply Drawn0.step)) (by decide)
                · rw [if_neg c8] at H
                  have c8b0 : decide (((rd_T60 l0 x6_2).f0) < 0) = false := decide_eq_false c8
                  clear c8
                  by_cases c9 : x6_2 > 0
                  · rw [if_pos c9] at H
                    have c9b0 : decide (0 < x6_2) = true := decide_eq_true c9
                    clear c9
                    obtain ⟨ji10, hji10⟩ : ∃ j_ : Int, (wrap64 (x6_2 - 1)) = j_ := ⟨_, rfl⟩
                    replace H : (if 0 ≤ (ji10) then (if (ji10) < (l0.length : Int) then (if ((rd_T60 l0 x6_2).f0) ≤ ((rd_T60 l0 (ji10)).f0) then (some 2) else (if ((rd_T60 l0 x6_2).f1) < 0 then (some 2) else (if ((rd_T60 l0 x6_2).f1) > 5 then (some 2) else (accountingref15_New.l0 k2 l0 l1 (wrap64 (x6_2 + 1)))))) else (none)) else (none)) = some r := by first | (rw [hji10] at H; exact H) | (simp only [hji10] at H ⊢; exact H)
                    have hji10w : (IntKind.i64.wrap (x6_2 - 1)) = ji10 := (i64_w _).trans hji10
                    by_cases c11 : 0 ≤ (ji10)
                    · rw [if_pos c11] at H
                      have c11b0 : decide (0 ≤ (ji10)) = true := decide_eq_true c11
                      clear c11
                      by_cases c12 : (ji10) < (l0.length : Int)
                      · rw [if_pos c12] at H
                        have c12b0 : decide ((ji10) < (l0.length : Int)) = true := decide_eq_true c12
                        clear c12
                        by_cases c13 : ((rd_T60 l0 x6_2).f0) ≤ ((rd_T60 l0 (ji10)).f0)
                        · rw [if_pos c13] at H
                          have c13b0 : decide (((rd_T60 l0 x6_2).f0) ≤ ((rd_T60 l0 (ji10)).f0)) = true := decide_eq_true c13
                          clear c13
                          obtain rfl := Option.some.inj H
                          have p118 : 0 ≤ (x6_2 : Int) := of_decide_eq_true (by first | (with_reducible assumption) | assumption)
                          have q118 : x6_2 < (l0.length : Int) := of_decide_eq_true (by first | (with_reducible assumption) | assumption)
                          obtain ⟨ad118, e118, hx118_0, hx118_1⟩ := at_T60 HR0.out x6_2 p118 q118
                          cases e118
                          replace p118 := eq_true p118
                          replace q118 := eq_true q118
                          have p119 : 0 ≤ (x6_2 : Int) := of_decide_eq_true (by first | (with_reducible assumption) | assumption)
                          have q119 : x6_2 < (l0.length : Int) := of_decide_eq_true (by first | (with_reducible assumption) | assumption)
                          obtain ⟨ad119, e119, hx119_0, hx119_1⟩ := at_T60 HR0.out x6_2 p119 q119
                          obtain rfl : ad118 = ad119 := (by injection e119)
                          replace p119 := eq_true p119
                          replace q119 := eq_true q119
                          have p120 : 0 ≤ ((ji10) : Int) := of_decide_eq_true (by first | (with_reducible assumption) | assumption)
                          have q120 : (ji10) < (l0.length : Int) := of_decide_eq_true (by first | (with_reducible assumption) | assumption)
                          obtain ⟨ad120, e120, hx120_0, hx120_1⟩ := at_T60 HR0.out (ji10) p120 q120
                          obtain rfl : ad118 = ad120 := (by injection e120)
                          replace p120 := eq_true p120
                          replace q120 := eq_true q120
                          go_wp2
                          repeat (go_quiet (fail); try go_wp2)
                          go_ret2
                          exact RPost.bad (by repeat (first | exact Drawn0.refl _ | apply Drawn0.step)) (by decide)
                        · rw [if_neg c13] at H
                          have c13b0 : decide (((rd_T60 l0 x6_2).f0) ≤ ((rd_T60 l0 (ji10)).f0)) = false := decide_eq_false c13
                          clear c13
                          by_cases c14 : ((rd_T60 l0 x6_2).f1) < 0
                          · rw [if_pos c14] at H
                            have c14b0 : decide (((rd_T60 l0 x6_2).f1) < 0) = true := decide_eq_true c14
                            clear c14
                            obtain rfl := Option.some.inj H
                            have p118 : 0 ≤ (x6_2 : Int) := of_decide_eq_true (by first | (with_reducible assumption) | assumption)
                            have q118 : x6_2 < (l0.length : Int) := of_decide_eq_true (by first | (with_reducible assumption) | assumption)
                            obtain ⟨ad118, e118, hx118_0, hx118_1⟩ := at_T60 HR0.out x6_2 p118 q118
                            cases e118
                            replace p118 := eq_true p118
                            replace q118 := eq_true q118
                            have p119 : 0 ≤ (x6_2 : Int) := of_decide_eq_true (by first | (with_reducible assumption) | assumption)
                            have q119 : x6_2 < (l0.length : Int) := of_decide_eq_true (by first | (with_reducible assumption) | assumption)
                            obtain ⟨ad119, e119, hx119_0, hx119_1⟩ := at_T60 HR0.out x6_2 p119 q119
                            obtain rfl : ad118 = ad119 := (by injection e119)
                            replace p119 := eq_true p119
                            replace q119 := eq_true q119
                            have p120 : 0 ≤ ((ji10) : Int) := of_decide_eq_true (by first | (with_reducible assumption) | assumption)
                            have q120 : (ji10) < (l0.length : Int) := of_decide_eq_true (by first | (with_reducible assumption) | assumption)
                            obtain ⟨ad120, e120, hx120_0, hx120_1⟩ := at_T60 HR0.out (ji10) p120 q120
                            obtain rfl : ad118 = ad120 := (by injection e120)
                            replace p120 := eq_true p120
                            replace q120 := eq_true q120
                            have p121 : 0 ≤ (x6_2 : Int) := of_decide_eq_true (by first | (with_reducible assumption) | assumption)
                            have q121 : x6_2 < (l0.length : Int) := of_decide_eq_true (by first | (with_reducible assumption) | assumption)
                            obtain ⟨ad121, e121, hx121_0, hx121_1⟩ := at_T60 HR0.out x6_2 p121 q121
                            obtain rfl : ad118 = ad121 := (by injection e121)
                            replace p121 := eq_true p121
                            replace q121 := eq_true q121
                            go_wp2
                            repeat (go_quiet (fail); try go_wp2)
                            go_ret2
                            exact RPost.bad (by repeat (first | exact Drawn0.refl _ | apply Drawn0.step)) (by decide)
                          · rw [if_neg c14] at H
                            have c14b0 : decide (((rd_T60 l0 x6_2).f1) < 0) = false := decide_eq_false c14
                            clear c14
                            by_cases c15 : ((rd_T60 l0 x6_2).f1) > 5
                            · rw [if_pos c15] at H
                              have c15b0 : decide (5 < ((rd_T60 l0 x6_2).f1)) = true := decide_eq_true c15
                              clear c15
                              obtain rfl := Option.some.inj H
                              have p118 : 0 ≤ (x6_2 : Int) := of_decide_eq_true (by first | (with_reducible assumption) | assumption)
                              have q118 : x6_2 < (l0.length : Int) := of_decide_eq_true (by first | (with_reducible assumption) | assumption)
                              obtain ⟨ad118, e118, hx118_0, hx118_1⟩ := at_T60 HR0.out x6_2 p118 q118
                              cases e118
                              replace p118 := eq_true p118
                              replace q118 := eq_true q118
                              have p119 : 0 ≤ (x6_2 : Int) := of_decide_eq_true (by first | (with_reducible assumption) | assumption)
                              have q119 : x6_2 < (l0.length : Int) := of_decide_eq_true (by first | (with_reducible assumption) | assumption)
                              obtain ⟨ad119, e119, hx119_0, hx119_1⟩ := at_T60 HR0.out x6_2 p119 q119
                              obtain rfl : ad118 = ad119 := (by injection e119)
                              replace p119 := eq_true p119
                              replace q119 := eq_true q119
                              have p120 : 0 ≤ ((ji10) : Int) := of_decide_eq_true (by first | (with_reducible assumption) | assumption)
                              have q120 : (ji10) < (l0.length : Int) := of_decide_eq_true (by first | (with_reducible assumption) | assumption)
                              obtain ⟨ad120, e120, hx120_0, hx120_1⟩ := at_T60 HR0.out (ji10) p120 q120
                              obtain rfl : ad118 = ad120 := (by injection e120)
                              replace p120 := eq_true p120
                              replace q120 := eq_true q120
                              have p121 : 0 ≤ (x6_2 : Int) := of_decide_eq_true (by first | (with_reducible assumption) | assumption)
                              have q121 : x6_2 < (l0.length : Int) := of_decide_eq_true (by first | (with_reducible assumption) | assumption)
                              obtain ⟨ad121, e121, hx121_0, hx121_1⟩ := at_T60 HR0.out x6_2 p121 q121
                              obtain rfl : ad118 = ad121 := (by injection e121)
                              replace p121 := eq_true p121
                              replace q121 := eq_true q121
                              have p122 : 0 ≤ (x6_2 : Int) := of_decide_eq_true (by first | (with_reducible assumption) | assumption)
                              have q122 : x6_2 < (l0.length : Int) := of_decide_eq_true (by first | (with_reducible assumption) | assumption)
                              obtain ⟨ad122, e122, hx122_0, hx122_1⟩ := at_T60 HR0.out x6_2 p122 q122
                              obtain rfl : ad118 = ad122 := (by injection e122)
                              replace p122 := eq_true p122
                              replace q122 := eq_true q122
                              go_wp2
                              repeat (go_quiet (fail); try go_wp2)
                              go_ret2
                              exact RPost.bad (by repeat (first | exact Drawn0.refl _ | apply Drawn0.step)) (by decide)
                            · rw [if_neg c15] at H
                              have c15b0 : decide (5 < ((rd_T60 l0 x6_2).f1)) = false := decide_eq_false c15
                              clear c15
                              have H' := Aside0.mk H
                              clear H
                              have p118 : 0 ≤ (x6_2 : Int) := of_decide_eq_true (by first | (with_reducible assumption) | assumption)
                              have q118 : x6_2 < (l0.length : Int) := of_decide_eq_true (by first | (with_reducible assumption) | assumption)
                              obtain ⟨ad118, e118, hx118_0, hx118_1⟩ := at_T60 HR0.out x6_2 p118 q118
                              cases e118
                              replace p118 := eq_true p118
                              replace q118 := eq_true q118
                              have p119 : 0 ≤ (x6_2 : Int) := of_decide_eq_true (by first | (with_reducible assumption) | assumption)
                              have q119 : x6_2 < (l0.length : Int) := of_decide_eq_true (by first | (with_reducible assumption) | assumption)
                              obtain ⟨ad119, e119, hx119_0, hx119_1⟩ := at_T60 HR0.out x6_2 p119 q119
                              obtain rfl : ad118 = ad119 := (by injection e119)
                              replace p119 := eq_true p119
                              replace q119 := eq_true q119
                              have p120 : 0 ≤ ((ji10) : Int) := of_decide_eq_true (by first | (with_reducible assumption) | assumption)
                              have q120 : (ji10) < (l0.length : Int) := of_decide_eq_true (by first | (with_reducible assumption) | assumption)
                              obtain ⟨ad120, e120, hx120_0, hx120_1⟩ := at_T60 HR0.out (ji10) p120 q120
                              obtain rfl : ad118 = ad120 := (by injection e120)
                              replace p120 := eq_true p120
                              replace q120 := eq_true q120
                              have p121 : 0 ≤ (x6_2 : Int) := of_decide_eq_true (by first | (with_reducible assumption) | assumption)
                              have q121 : x6_2 < (l0.length : Int) := of_decide_eq_true (by first | (with_reducible assumption) | assumption)
                              obtain ⟨ad121, e121, hx121_0, hx121_1⟩ := at_T60 HR0.out x6_2 p121 q121
                              obtain rfl : ad118 = ad121 := (by injection e121)
                              replace p121 := eq_true p121
                              replace q121 := eq_true q121
                              have p122 : 0 ≤ (x6_2 : Int) := of_decide_eq_true (by first | (with_reducible assumption) | assumption)
                              have q122 : x6_2 < (l0.length : Int) := of_decide_eq_true (by first | (with_reducible assumption) | assumption)
                              obtain ⟨ad122, e122, hx122_0, hx122_1⟩ := at_T60 HR0.out x6_2 p122 q122
                              obtain rfl : ad118 = ad122 := (by injection e122)
                              replace p122 := eq_true p122
                              replace q122 := eq_true q122
                              go_wp2
                              repeat (go_quiet (fail); try go_wp2)
                              go_roundg k2
                              case measure => have := HJ2.out; have := HK2.out; omega
                              case rel => exact ⟨(wrap64 (x6_2 + 1)), (by first | rfl | (simp; done) | (simp [*]; done)), H', ⟨by have := HJ2.out; have := HK2.out; omega⟩, by repeat (first | exact Drawn0.refl _ | apply Drawn0.step)⟩
                      · rw [if_neg c12] at H
                        exact absurd H (by simp)
                    · rw [if_neg c11] at H
                      exact absurd H (by simp)
                  · rw [if_neg c9] at H
                    have c9b0 : decide (0 < x6_2) = false := decide_eq_false c9
                    clear c9
                    by_cases c16 : ((rd_T60 l0 x6_2).f1) < 0
                    · rw [if_pos c16] at H
                      have c16b0 : decide (((rd_T60 l0 x6_2).f1) < 0) = true := decide_eq_true c16
                      clear c16
                      obtain rfl := Option.some.inj H
                      have p118 : 0 ≤ (x6_2 : Int) := of_decide_eq_true (by first | (with_reducible assumption) | assumption)
                      have q118 : x6_2 < (l0.length : Int) := of_decide_eq_true (by first | (with_reducible assumption) | assumption)
                      obtain ⟨ad118, e118, hx118_0, hx118_1⟩ := at_T60 HR0.out x6_2 p118 q118
                      cases e118
                      replace p118 := eq_true p118
                      replace q118 := eq_true q118
                      have p123 : 0 ≤ (x6_2 : Int) := of_decide_eq_true (by first | (with_reducible assumption) | assumption)
                      have q123 : x6_2 < (l0.length : Int) := of_decide_eq_true (by first | (with_reducible assumption) | assumption)
                      obtain ⟨ad123, e123, hx123_0, hx123_1⟩ := at_T60 HR0.out x6_2 p123 q123
                      obtain rfl : ad118 = ad123 := (by injection e123)
                      replace p123 := eq_true p123
                      replace q123 := eq_true q123
                      go_wp2
                      repeat (go_quiet (fail); try go_wp2)
                      go_ret2
                      exact RPost.bad (by repeat (first | exact Drawn0.refl _ | apply Drawn0.step)) (by decide)
                    · rw [if_neg c16] at H
                      have c16b0 : decide (((rd_T60 l0 x6_2).f1) < 0) = false := decide_eq_false c16
                      clear c16
                      by_cases c17 : ((rd_T60 l0 x6_2).f1) > 5
                      · rw [if_pos c17] at H
                        have c17b0 : decide (5 < ((rd_T60 l0 x6_2).f1)) = true := decide_eq_true c17
                        clear c17
                        obtain rfl := Option.some.inj H
                        have p118 : 0 ≤ (x6_2 : Int) := of_decide_eq_true (by first | (with_reducible assumption) | assumption)
                        have q118 : x6_2 < (l0.length : Int) := of_decide_eq_true (by first | (with_reducible assumption) | assumption)
                        obtain ⟨ad118, e118, hx118_0, hx118_1⟩ := at_T60 HR0.out x6_2 p118 q118
                        cases e118
                        replace p118 := eq_true p118
                        replace q118 := eq_true q118
                        have p123 : 0 ≤ (x6_2 : Int) := of_decide_eq_true (by first | (with_reducible assumption) | assumption)
                        have q123 : x6_2 < (l0.length : Int) := of_decide_eq_true (by first | (with_reducible assumption) | assumption)
                        obtain ⟨ad123, e123, hx123_0, hx123_1⟩ := at_T60 HR0.out x6_2 p123 q123
                        obtain rfl : ad118 = ad123 := (by injection e123)
                        replace p123 := eq_true p123
                        replace q123 := eq_true q123
                        have p124 : 0 ≤ (x6_2 : Int) := of_decide_eq_true (by first | (with_reducible assumption) | assumption)
                        have q124 : x6_2 < (l0.length : Int) := of_decide_eq_true (by first | (with_reducible assumption) | assumption)
                        obtain ⟨ad124, e124, hx124_0, hx124_1⟩ := at_T60 HR0.out x6_2 p124 q124
                        obtain rfl : ad118 = ad124 := (by injection e124)
                        replace p124 := eq_true p124
                        replace q124 := eq_true q124
                        go_wp2
                        repeat (go_quiet (fail); try go_wp2)
                        go_ret2
                        exact RPost.bad (by repeat (first | exact Drawn0.refl _ | apply Drawn0.step)) (by decide)
                      · rw [if_neg c17] at H
                        have c17b0 : decide (5 < ((rd_T60 l0 x6_2).f1)) = false := decide_eq_false c17
                        clear c17
                        have H' := Aside0.mk H
                        clear H
                        have p118 : 0 ≤ (x6_2 : Int) := of_decide_eq_true (by first | (with_reducible assumption) | assumption)
                        have q118 : x6_2 < (l0.length : Int) := of_decide_eq_true (by first | (with_reducible assumption) | assumption)
                        obtain ⟨ad118, e118, hx118_0, hx118_1⟩ := at_T60 HR0.out x6_2 p118 q118
                        cases e118
                        replace p118 := eq_true p118
                        replace q118 := eq_true q118
                        have p123 : 0 ≤ (x6_2 : Int) := of_decide_eq_true (by first | (with_reducible assumption) | assumption)
                        have q123 : x6_2 < (l0.length : Int) := of_decide_eq_true (by first | (with_reducible assumption) | assumption)
                        obtain ⟨ad123, e123, hx123_0, hx123_1⟩ := at_T60 HR0.out x6_2 p123 q123
                        obtain rfl : ad118 = ad123 := (by injection e123)
                        replace p123 := eq_true p123
                        replace q123 := eq_true q123
                        have p124 : 0 ≤ (x6_2 : Int) := of_decide_eq_true (by first | (with_reducible assumption) | assumption)
                        have q124 : x6_2 < (l0.length : Int) := of_decide_eq_true (by first | (with_reducible assumption) | assumption)
                        obtain ⟨ad124, e124, hx124_0, hx124_1⟩ := at_T60 HR0.out x6_2 p124 q124
                        obtain rfl : ad118 = ad124 := (by injection e124)
                        replace p124 := eq_true p124
                        replace q124 := eq_true q124
                        go_wp2
                        repeat (go_quiet (fail); try go_wp2)
                        go_roundg k2
                        case measure => have := HJ2.out; have := HK2.out; omega
                        case rel => exact ⟨(wrap64 (x6_2 + 1)), (by first | rfl | (simp; done) | (simp [*]; done)), H', ⟨by have := HJ2.out; have := HK2.out; omega⟩, by repeat (first | exact Drawn0.refl _ | apply Drawn0.step)⟩
              · rw [if_neg c7] at H
                exact absurd H (by simp)
            · rw [if_neg c6] at H
              have c6b0 : decide (x6_2 < (l0.length : Int)) = false := decide_eq_false c6
              clear c6
              have H' := Aside0.mk H
              clear H
              go_wp2
              repeat (go_quiet (fail); try go_wp2)
              go_loopg [7] k2 (fun kq v7 w' => ∃ (x7_3 : Int), v7 = .int .i64 x7_3 ∧ Aside0 (accountingref15_New.l1 kq l1 x7_3 = some r) ∧ Aside0 (kq ≤ k2) ∧ Drawn0 w w')
              case atStart => exact ⟨(0), (by first | rfl | (simp; done) | (simp [*]; done)), H', ⟨Nat.le_refl _⟩, by repeat (first | exact Drawn0.refl _ | apply Drawn0.step)⟩
              case round =>
                clear H'
                try clear c1
                try clear p1
                try clear q1
                try clear hx1
                try clear c2
                try clear p2
                try clear c4
                try clear c4b0
                try clear c4b1
                try clear c5
                try clear c6
                try clear c6b0
                try clear p6
                try clear c7
                try clear c7b0
                try clear c8
                try clear c8b0
                try clear c9
                try clear c9b0
                try clear c11
                try clear c11b0
                try clear p11
                try clear q11
                try clear hx11
                try clear c12
                try clear c12b0
                try clear p12
                try clear q12
                try clear hx12
                try clear c13
                try clear c13b0
                try clear c14
                try clear c14b0
                try clear c15
                try clear c15b0
                try clear c16
                try clear c16b0
                try clear c17
                try clear c17b0
                try clear hx118_0
                try clear hx118_1
                try clear hx119_0
                try clear hx119_1
                try clear hx120_0
                try clear hx120_1
                try clear hx121_0
                try clear hx121_1
                try clear hx122_0
                try clear hx122_1
                try clear hx123_0
                try clear hx123_1
                try clear hx124_0
                try clear hx124_1
                try clear p118
                try clear p119
                try clear p120
                try clear p121
                try clear p122
                try clear p123
                try clear p124
                try clear p2
                try clear q118
                try clear q119
                try clear q120
                try clear q121
                try clear q122
                try clear q123
                try clear q124
                obtain ⟨x7_3, rfl, HA, HK3, ⟨m3, rfl⟩⟩ := hrel
                cases gk with
                | zero => exact absurd HA.out (by simp [accountingref15_New.l1])
                | succ k3 =>
                  have H := HA.out
                  clear HA
                  simp only [accountingref15_New.l1] at H
                  by_cases c18 : x7_3 < (l1.length : Int)
                  · rw [if_pos c18] at H
                    have c18b0 : decide (x7_3 < (l1.length : Int)) = true := decide_eq_true c18
                    clear c18
                    by_cases c19 : 0 ≤ x7_3
                    · rw [if_pos c19] at H
                      have c19b0 : decide (0 ≤ x7_3) = true := decide_eq_true c19
                      clear c19
                      replace H := Option.bind_eq_some_iff.mp H
                      obtain ⟨t126, A200, H⟩ := H
                      replace H : (if t126 = true then (if x7_3 ≤ (l1.length : Int) then ((accountingref15_has.f k3 (l1.take (x7_3 : Int).toNat) (rdOf ByteArray.empty l1 x7_3)).bind fun t129 => (if t129 = true then (some 8) else (accountingref15_New.l1 k3 l1 (wrap64 (x7_3 + 1))))) else (none)) else (some 7)) = some r := H
                      have A20 := Aside0.mk A200
                      clear A200
                      by_cases c21 : t126 = true
                      · subst c21
                        have H1 : (if x7_3 ≤ (l1.length : Int) then ((accountingref15_has.f k3 (l1.take (x7_3 : Int).toNat) (rdOf ByteArray.empty l1 x7_3)).bind fun t129 => (if t129 = true then (some 8) else (accountingref15_New.l1 k3 l1 (wrap64 (x7_3 + 1))))) else (none)) = some r := by rw [if_pos rfl] at H; exact H
                        clear H
                        have H := H1
                        clear H1
                        have c22b0 := eq_true (of_decide_eq_true (by first | (with_reducible assumption) | assumption) : 0 ≤ x7_3)
                        by_cases c23 : x7_3 ≤ (l1.length : Int)
                        · rw [if_pos c23] at H
                          have c23b0 := eq_true c23
                          have c23b1 : decide (x7_3 ≤ (l1.length : Int)) = true := decide_eq_true c23
                          clear c23
                          replace H := Option.bind_eq_some_iff.mp H
                          obtain ⟨t129, A240, H⟩ := H
                          replace H : (if t129 = true then (some 8) else (accountingref15_New.l1 k3 l1 (wrap64 (x7_3 + 1)))) = some r := H
                          have A24 := Aside0.mk A240
                          clear A240
                          by_cases c25 : t129 = true
                          · subst c25
                            have H1 : (some 8) = some r := by rw [if_pos rfl] at H; exact H
                            clear H
                            have H := H1
                            clear H1
                            obtain rfl := Option.some.inj H
                            have p125 : 0 ≤ (x7_3 : Int) := of_decide_eq_true (by first | (with_reducible assumption) | assumption)
                            have q125 : x7_3 < (l1.length : Int) := of_decide_eq_true (by first | (with_reducible assumption) | assumption)
                            obtain ⟨ad125, e125, hx125_0⟩ := Kd.at_string HR1.out x7_3 p125 q125
                            cases e125
                            replace p125 := eq_true p125
                            replace q125 := eq_true q125
                            go_wp2_with (first | (go_at_call 34; (with_reducible refine (accountingref06_Code.calls k3 (rdOf ByteArray.empty l1 x7_3) true _ A20.out).mono ?_); rintro e w' ⟨rfl, ⟨nd, rfl⟩⟩; (try first | exact ⟨rfl, _, World.drewN_drewN _ _ _⟩ | exact ⟨rfl, _, Eq.trans (World.drewN_drewN _ _ _) (congrArg (World.drewN _) (Nat.add_assoc _ _ _))⟩); obtain ⟨i026, hi026, _, hsz26, _⟩ := info_parts info9; obtain ⟨hcut26, hA26, hC26⟩ := print_take_of (P := Try.prog) Value.string (⟨#[]⟩ : ByteArray) 23 9 .i64 Try.underlying23 hi026 hsz26 (some ad125) c1 l1 x7_3 (of_decide_eq_true (by first | (with_reducible assumption) | assumption)) (of_decide_eq_true (by first | (with_reducible assumption) | assumption)) HC1.out; have HR127 := Aside0.mk (Kd.C_of_reads (h1 := fun _ => rfl) (hA26 _ (Kd.reads_of_C HR1.out))); have HC127 := Aside0.mk hC26; clear hA26 hC26 hi026 hsz26; have p128 : 0 ≤ (x7_3 : Int) := of_decide_eq_true (by first | (with_reducible assumption) | assumption); have q128 : x7_3 < (l1.length : Int) := of_decide_eq_true (by first | (with_reducible assumption) | assumption); obtain ⟨ad128, e128, hx128_0⟩ := Kd.at_string HR1.out x7_3 p128 q128; obtain rfl : ad125 = ad128 := (by injection e128); replace p128 := eq_true p128; replace q128 := eq_true q128) | (go_at_call 35; (with_reducible refine (has_take k3 _ _ l1 (x7_3 : Int).toNat (by have := of_eq_true q128; omega) (rdOf ByteArray.empty l1 x7_3) true _ ?side1 ?side2 A24.out).mono ?_); (case side1 => repeat (first | exact HR127.out | (with_reducible refine Kd.C_alloc ?_ _) | (with_reducible refine Kd.C_drewN ?_ _) | (with_reducible refine Kd.C_drew ?_))); (case side2 => exact HC127.out); rintro e w' ⟨rfl, ⟨nd, rfl⟩⟩; (try first | exact ⟨rfl, _, World.drewN_drewN _ _ _⟩ | exact ⟨rfl, _, Eq.trans (World.drewN_drewN _ _ _) (congrArg (World.drewN _) (Nat.add_assoc _ _ _))⟩)))
                            repeat (go_quiet (first | (go_at_call 34; (with_reducible refine (accountingref06_Code.calls k3 (rdOf ByteArray.empty l1 x7_3) true _ A20.out).mono ?_); rintro e w' ⟨rfl, ⟨nd, rfl⟩⟩; (try first | exact ⟨rfl, _, World.drewN_drewN _ _ _⟩ | exact ⟨rfl, _, Eq.trans (World.drewN_drewN _ _ _) (congrArg (World.drewN _) (Nat.add_assoc _ _ _))⟩); obtain ⟨i026, hi026, _, hsz26, _⟩ := info_parts info9; obtain ⟨hcut26, hA26, hC26⟩ := print_take_of (P := Try.prog) Value.string (⟨#[]⟩ : ByteArray) 23 9 .i64 Try.underlying23 hi026 hsz26 (some ad125) c1 l1 x7_3 (of_decide_eq_true (by first | (with_reducible assumption) | assumption)) (of_decide_eq_true (by first | (with_reducible assumption) | assumption)) HC1.out; have HR127 := Aside0.mk (Kd.C_of_reads (h1 := fun _ => rfl) (hA26 _ (Kd.reads_of_C HR1.out))); have HC127 := Aside0.mk hC26; clear hA26 hC26 hi026 hsz26; have p128 : 0 ≤ (x7_3 : Int) := of_decide_eq_true (by first | (with_reducible assumption) | assumption); have q128 : x7_3 < (l1.length : Int) := of_decide_eq_true (by first | (with_reducible assumption) | assumption); obtain ⟨ad128, e128, hx128_0⟩ := Kd.at_string HR1.out x7_3 p128 q128; obtain rfl : ad125 = ad128 := (by injection e128); replace p128 := eq_true p128; replace q128 := eq_true q128) | (go_at_call 35; (with_reducible refine (has_take k3 _ _ l1 (x7_3 : Int).toNat (by have := of_eq_true q128; omega) (rdOf ByteArray.empty l1 x7_3) true _ ?side1 ?side2 A24.out).mono ?_); (case side1 => repeat (first | exact HR127.out | (with_reducible refine Kd.C_alloc ?_ _) | (with_reducible refine Kd.C_drewN ?_ _) | (with_reducible refine Kd.C_drew ?_))); (case side2 => exact HC127.out); rintro e w' ⟨rfl, ⟨nd, rfl⟩⟩; (try first | exact ⟨rfl, _, World.drewN_drewN _ _ _⟩ | exact ⟨rfl, _, Eq.trans (World.drewN_drewN _ _ _) (congrArg (World.drewN _) (Nat.add_assoc _ _ _))⟩))); try go_wp2_with (first | (go_at_call 34; (with_reducible refine (accountingref06_Code.calls k3 (rdOf ByteArray.empty l1 x7_3) true _ A20.out).mono ?_); rintro e w' ⟨rfl, ⟨nd, rfl⟩⟩; (try first | exact ⟨rfl, _, World.drewN_drewN _ _ _⟩ | exact ⟨rfl, _, Eq.trans (World.drewN_drewN _ _ _) (congrArg (World.drewN _) (Nat.add_assoc _ _ _))⟩); obtain ⟨i026, hi026, _, hsz26, _⟩ := info_parts info9; obtain ⟨hcut26, hA26, hC26⟩ := print_take_of (P := Try.prog) Value.string (⟨#[]⟩ : ByteArray) 23 9 .i64 Try.underlying23 hi026 hsz26 (some ad125) c1 l1 x7_3 (of_decide_eq_true (by first | (with_reducible assumption) | assumption)) (of_decide_eq_true (by first | (with_reducible assumption) | assumption)) HC1.out; have HR127 := Aside0.mk (Kd.C_of_reads (h1 := fun _ => rfl) (hA26 _ (Kd.reads_of_C HR1.out))); have HC127 := Aside0.mk hC26; clear hA26 hC26 hi026 hsz26; have p128 : 0 ≤ (x7_3 : Int) := of_decide_eq_true (by first | (with_reducible assumption) | assumption); have q128 : x7_3 < (l1.length : Int) := of_decide_eq_true (by first | (with_reducible assumption) | assumption); obtain ⟨ad128, e128, hx128_0⟩ := Kd.at_string HR1.out x7_3 p128 q128; obtain rfl : ad125 = ad128 := (by injection e128); replace p128 := eq_true p128; replace q128 := eq_true q128) | (go_at_call 35; (with_reducible refine (has_take k3 _ _ l1 (x7_3 : Int).toNat (by have := of_eq_true q128; omega) (rdOf ByteArray.empty l1 x7_3) true _ ?side1 ?side2 A24.out).mono ?_); (case side1 => repeat (first | exact HR127.out | (with_reducible refine Kd.C_alloc ?_ _) | (with_reducible refine Kd.C_drewN ?_ _) | (with_reducible refine Kd.C_drew ?_))); (case side2 => exact HC127.out); rintro e w' ⟨rfl, ⟨nd, rfl⟩⟩; (try first | exact ⟨rfl, _, World.drewN_drewN _ _ _⟩ | exact ⟨rfl, _, Eq.trans (World.drewN_drewN _ _ _) (congrArg (World.drewN _) (Nat.add_assoc _ _ _))⟩))))
                            go_ret2
                            exact RPost.bad (by repeat (first | exact Drawn0.refl _ | apply Drawn0.step)) (by decide)
                          · replace c25 := Bool.eq_false_iff.mpr c25
                            subst c25
                            have H1 : (accountingref15_New.l1 k3 l1 (wrap64 (x7_3 + 1))) = some r := by rw [if_neg (show ¬ (false = true) by decide)] at H; exact H
                            clear H
                            have H := H1
                            clear H1
                            have H' := Aside0.mk H
                            clear H
                            have p125 : 0 ≤ (x7_3 : Int) := of_decide_eq_true (by first | (with_reducible assumption) | assumption)
                            have q125 : x7_3 < (l1.length : Int) := of_decide_eq_true (by first | (with_reducible assumption) | assumption)
                            obtain ⟨ad125, e125, hx125_0⟩ := Kd.at_string HR1.out x7_3 p125 q125
                            cases e125
                            replace p125 := eq_true p125
                            replace q125 := eq_true q125
                            go_wp2_with (first | (go_at_call 34; (with_reducible refine (accountingref06_Code.calls k3 (rdOf ByteArray.empty l1 x7_3) true _ A20.out).mono ?_); rintro e w' ⟨rfl, ⟨nd, rfl⟩⟩; (try first | exact ⟨rfl, _, World.drewN_drewN _ _ _⟩ | exact ⟨rfl, _, Eq.trans (World.drewN_drewN _ _ _) (congrArg (World.drewN _) (Nat.add_assoc _ _ _))⟩); obtain ⟨i027, hi027, _, hsz27, _⟩ := info_parts info9; obtain ⟨hcut27, hA27, hC27⟩ := print_take_of (P := Try.prog) Value.string (⟨#[]⟩ : ByteArray) 23 9 .i64 Try.underlying23 hi027 hsz27 (some ad125) c1 l1 x7_3 (of_decide_eq_true (by first | (with_reducible assumption) | assumption)) (of_decide_eq_true (by first | (with_reducible assumption) | assumption)) HC1.out; have HR127 := Aside0.mk (Kd.C_of_reads (h1 := fun _ => rfl) (hA27 _ (Kd.reads_of_C HR1.out))); have HC127 := Aside0.mk hC27; clear hA27 hC27 hi027 hsz27; have p128 : 0 ≤ (x7_3 : Int) := of_decide_eq_true (by first | (with_reducible assumption) | assumption); have q128 : x7_3 < (l1.length : Int) := of_decide_eq_true (by first | (with_reducible assumption) | assumption); obtain ⟨ad128, e128, hx128_0⟩ := Kd.at_string HR1.out x7_3 p128 q128; obtain rfl : ad125 = ad128 := (by injection e128); replace p128 := eq_true p128; replace q128 := eq_true q128) | (go_at_call 35; (with_reducible refine (has_take k3 _ _ l1 (x7_3 : Int).toNat (by have := of_eq_true q128; omega) (rdOf ByteArray.empty l1 x7_3) false _ ?side1 ?side2 A24.out).mono ?_); (case side1 => repeat (first | exact HR127.out | (with_reducible refine Kd.C_alloc ?_ _) | (with_reducible refine Kd.C_drewN ?_ _) | (with_reducible refine Kd.C_drew ?_))); (case side2 => exact HC127.out); rintro e w' ⟨rfl, ⟨nd, rfl⟩⟩; (try first | exact ⟨rfl, _, World.drewN_drewN _ _ _⟩ | exact ⟨rfl, _, Eq.trans (World.drewN_drewN _ _ _) (congrArg (World.drewN _) (Nat.add_assoc _ _ _))⟩)))
                            repeat (go_quiet (first | (go_at_call 34; (with_reducible refine (accountingref06_Code.calls k3 (rdOf ByteArray.empty l1 x7_3) true _ A20.out).mono ?_); rintro e w' ⟨rfl, ⟨nd, rfl⟩⟩; (try first | exact ⟨rfl, _, World.drewN_drewN _ _ _⟩ | exact ⟨rfl, _, Eq.trans (World.drewN_drewN _ _ _) (congrArg (World.drewN _) (Nat.add_assoc _ _ _))⟩); obtain ⟨i027, hi027, _, hsz27, _⟩ := info_parts info9; obtain ⟨hcut27, hA27, hC27⟩ := print_take_of (P := Try.prog) Value.string (⟨#[]⟩ : ByteArray) 23 9 .i64 Try.underlying23 hi027 hsz27 (some ad125) c1 l1 x7_3 (of_decide_eq_true (by first | (with_reducible assumption) | assumption)) (of_decide_eq_true (by first | (with_reducible assumption) | assumption)) HC1.out; have HR127 := Aside0.mk (Kd.C_of_reads (h1 := fun _ => rfl) (hA27 _ (Kd.reads_of_C HR1.out))); have HC127 := Aside0.mk hC27; clear hA27 hC27 hi027 hsz27; have p128 : 0 ≤ (x7_3 : Int) := of_decide_eq_true (by first | (with_reducible assumption) | assumption); have q128 : x7_3 < (l1.length : Int) := of_decide_eq_true (by first | (with_reducible assumption) | assumption); obtain ⟨ad128, e128, hx128_0⟩ := Kd.at_string HR1.out x7_3 p128 q128; obtain rfl : ad125 = ad128 := (by injection e128); replace p128 := eq_true p128; replace q128 := eq_true q128) | (go_at_call 35; (with_reducible refine (has_take k3 _ _ l1 (x7_3 : Int).toNat (by have := of_eq_true q128; omega) (rdOf ByteArray.empty l1 x7_3) false _ ?side1 ?side2 A24.out).mono ?_); (case side1 => repeat (first | exact HR127.out | (with_reducible refine Kd.C_alloc ?_ _) | (with_reducible refine Kd.C_drewN ?_ _) | (with_reducible refine Kd.C_drew ?_))); (case side2 => exact HC127.out); rintro e w' ⟨rfl, ⟨nd, rfl⟩⟩; (try first | exact ⟨rfl, _, World.drewN_drewN _ _ _⟩ | exact ⟨rfl, _, Eq.trans (World.drewN_drewN _ _ _) (congrArg (World.drewN _) (Nat.add_assoc _ _ _))⟩))); try go_wp2_with (first | (go_at_call 34; (with_reducible refine (accountingref06_Code.calls k3 (rdOf ByteArray.empty l1 x7_3) true _ A20.out).mono ?_); rintro e w' ⟨rfl, ⟨nd, rfl⟩⟩; (try first | exact ⟨rfl, _, World.drewN_drewN _ _ _⟩ | exact ⟨rfl, _, Eq.trans (World.drewN_drewN _ _ _) (congrArg (World.drewN _) (Nat.add_assoc _ _ _))⟩); obtain ⟨i027, hi027, _, hsz27, _⟩ := info_parts info9; obtain ⟨hcut27, hA27, hC27⟩ := print_take_of (P := Try.prog) Value.string (⟨#[]⟩ : ByteArray) 23 9 .i64 Try.underlying23 hi027 hsz27 (some ad125) c1 l1 x7_3 (of_decide_eq_true (by first | (with_reducible assumption) | assumption)) (of_decide_eq_true (by first | (with_reducible assumption) | assumption)) HC1.out; have HR127 := Aside0.mk (Kd.C_of_reads (h1 := fun _ => rfl) (hA27 _ (Kd.reads_of_C HR1.out))); have HC127 := Aside0.mk hC27; clear hA27 hC27 hi027 hsz27; have p128 : 0 ≤ (x7_3 : Int) := of_decide_eq_true (by first | (with_reducible assumption) | assumption); have q128 : x7_3 < (l1.length : Int) := of_decide_eq_true (by first | (with_reducible assumption) | assumption); obtain ⟨ad128, e128, hx128_0⟩ := Kd.at_string HR1.out x7_3 p128 q128; obtain rfl : ad125 = ad128 := (by injection e128); replace p128 := eq_true p128; replace q128 := eq_true q128) | (go_at_call 35; (with_reducible refine (has_take k3 _ _ l1 (x7_3 : Int).toNat (by have := of_eq_true q128; omega) (rdOf ByteArray.empty l1 x7_3) false _ ?side1 ?side2 A24.out).mono ?_); (case side1 => repeat (first | exact HR127.out | (with_reducible refine Kd.C_alloc ?_ _) | (with_reducible refine Kd.C_drewN ?_ _) | (with_reducible refine Kd.C_drew ?_))); (case side2 => exact HC127.out); rintro e w' ⟨rfl, ⟨nd, rfl⟩⟩; (try first | exact ⟨rfl, _, World.drewN_drewN _ _ _⟩ | exact ⟨rfl, _, Eq.trans (World.drewN_drewN _ _ _) (congrArg (World.drewN _) (Nat.add_assoc _ _ _))⟩))))
                            go_roundg k3
                            case measure => have := HJ2.out; have := HK2.out; have := HK3.out; omega
                            case rel => exact ⟨(wrap64 (x7_3 + 1)), (by first | rfl | (simp; done) | (simp [*]; done)), H', ⟨by have := HJ2.out; have := HK2.out; have := HK3.out; omega⟩, by repeat (first | exact Drawn0.refl _ | apply Drawn0.step)⟩
                        · rw [if_neg c23] at H
                          exact absurd H (by simp)
                      · replace c21 := Bool.eq_false_iff.mpr c21
                        subst c21
                        have H1 : (some 7) = some r := by rw [if_neg (show ¬ (false = true) by decide)] at H; exact H
                        clear H
                        have H := H1
                        clear H1
                        obtain rfl := Option.some.inj H
                        have p125 : 0 ≤ (x7_3 : Int) := of_decide_eq_true (by first | (with_reducible assumption) | assumption)
                        have q125 : x7_3 < (l1.length : Int) := of_decide_eq_true (by first | (with_reducible assumption) | assumption)
                        obtain ⟨ad125, e125, hx125_0⟩ := Kd.at_string HR1.out x7_3 p125 q125
                        cases e125
                        replace p125 := eq_true p125
                        replace q125 := eq_true q125
                        go_wp2_with (first | (go_at_call 34; (with_reducible refine (accountingref06_Code.calls k3 (rdOf ByteArray.empty l1 x7_3) false _ A20.out).mono ?_); rintro e w' ⟨rfl, ⟨nd, rfl⟩⟩; (try first | exact ⟨rfl, _, World.drewN_drewN _ _ _⟩ | exact ⟨rfl, _, Eq.trans (World.drewN_drewN _ _ _) (congrArg (World.drewN _) (Nat.add_assoc _ _ _))⟩)))
                        repeat (go_quiet (first | (go_at_call 34; (with_reducible refine (accountingref06_Code.calls k3 (rdOf ByteArray.empty l1 x7_3) false _ A20.out).mono ?_); rintro e w' ⟨rfl, ⟨nd, rfl⟩⟩; (try first | exact ⟨rfl, _, World.drewN_drewN _ _ _⟩ | exact ⟨rfl, _, Eq.trans (World.drewN_drewN _ _ _) (congrArg (World.drewN _) (Nat.add_assoc _ _ _))⟩))); try go_wp2_with (first | (go_at_call 34; (with_reducible refine (accountingref06_Code.calls k3 (rdOf ByteArray.empty l1 x7_3) false _ A20.out).mono ?_); rintro e w' ⟨rfl, ⟨nd, rfl⟩⟩; (try first | exact ⟨rfl, _, World.drewN_drewN _ _ _⟩ | exact ⟨rfl, _, Eq.trans (World.drewN_drewN _ _ _) (congrArg (World.drewN _) (Nat.add_assoc _ _ _))⟩))))
                        go_ret2
                        exact RPost.bad (by repeat (first | exact Drawn0.refl _ | apply Drawn0.step)) (by decide)
                    · rw [if_neg c19] at H
                      exact absurd H (by simp)
                  · rw [if_neg c18] at H
                    have c18b0 : decide (x7_3 < (l1.length : Int)) = false := decide_eq_false c18
                    clear c18
                    obtain rfl := Option.some.inj H
                    refine with_world (P := fun x => Code.wp _ _ _ _ x) _ ?_
                    intro w1 hw1
                    have HB1 := Aside0.mk (show Below w.heap.size w w1 from by rw [hw1]; exact Drawn0.below (by repeat (first | exact Drawn0.refl _ | apply Drawn0.step)))
                    clear hw1
                    obtain ⟨hn0, hn1⟩ := HLEN.out rfl
                    go_wp2_with (first | ((with_reducible refine gate_dst (N := 82) rfl ?_); refine Kd.R_lit k60 (w0 := w) w.heap.size 60 ?hg (N := 82) ?hd (xs := ([] : List S60)) (inner := []) (ok := fun k => w.heap.size ≤ k) (okp := fun _ => False) ?hr (Reps.none _ _) (fun _ hk => hk.elim) HB1.out.size HB1.out HB1.out.size (by simp) ?_; (case hd => rfl); (case hg => rfl); (case hr => first | (go_simp; done) | (go_simp; rfl)); intro v82 wA ho hb hg_ hnew_; obtain ⟨A82, c82, rfl⟩ := Kd.R_slice ho; have HOA := Aside0.mk ho; have HBA := Aside0.mk hb; clear ho hb hg_ hnew_) | ((with_reducible refine gate_builtin (b := .append) (xs := #[.tmp 82, .tmp 83]) rfl ?_); at_builtin; refine Kd.R_append_rows k60 (w0 := w) (Rr := k60.K wA) w.heap.size rfl (.tmp 82) (.tmp 83) 22 60 (.agg #[.int .i64 0, .int .i64 0]) 16 rfl Try.underlying22 info60 rfl (by decide) (by omega) (.slice A82 0 c82) [] l0 A0 l0.length c0 (fun k => w.heap.size ≤ k) (fun _ => False) rfl rfl ?aO ?aR ?aK (fun _ hk => hk.elim) ?aF ?aB ?aS ?aL ?_; (case aO => exact HOA.out); (case aR => exact Kd.C_below HR0.out HBA.out); (case aK => exact fun x cs hx => by obtain rfl := k60_open hx; exact k60_mkM _ _ _ _); (case aF => exact fun k hk => Nat.le_trans HBA.out.size hk); (case aB => exact HBA.out); (case aS => exact HBA.out.size); (case aL => simp; omega); intro v84 wB ho hb hg_ hat; obtain ⟨A84, c84, rfl⟩ := Kd.R_slice ho; have HOB := Aside0.mk ho; have HBB := Aside0.mk hb; clear ho hb hg_ hat) | ((with_reducible refine gate_dst (N := 85) rfl ?_); refine Kd.R_lit Kd.string (w0 := w) w.heap.size 9 ?hg (N := 85) ?hd (xs := ([] : List ByteArray)) (inner := []) (ok := fun k => w.heap.size ≤ k) (okp := fun _ => False) ?hr (Reps.none _ _) (fun _ hk => hk.elim) HBB.out.size HBB.out HBB.out.size (by simp) ?_; (case hd => rfl); (case hg => rfl); (case hr => first | (go_simp; done) | (go_simp; rfl)); intro v85 wC ho hb hg_ hnew_; have HOC1 := Aside0.mk (Kd.R_grown HOB.out hg_ (fun _ _ => by simp)); obtain ⟨A85, c85, rfl⟩ := Kd.R_slice ho; have HOC := Aside0.mk ho; have HBC := Aside0.mk hb; clear ho hb hg_ hnew_) | ((with_reducible refine gate_builtin (b := .append) (xs := #[.tmp 85, .tmp 86]) rfl ?_); at_builtin; refine Kd.R_append_rows Kd.string (w0 := w) (Rr := Kd.string.K wC) w.heap.size rfl (.tmp 85) (.tmp 86) 23 9 (.string ⟨#[]⟩) 16 rfl Try.underlying23 info9 rfl (by decide) (by omega) (.slice A85 0 c85) [] l1 A1 l1.length c1 (fun k => w.heap.size ≤ k) (fun _ => False) rfl rfl ?aO ?aR ?aK (fun _ hk => hk.elim) ?aF ?aB ?aS ?aL ?_; (case aO => exact HOC.out); (case aR => exact Kd.C_below HR1.out HBC.out); (case aK => exact fun x cs hx => hx); (case aF => exact fun k hk => Nat.le_trans HBC.out.size hk); (case aB => exact HBC.out); (case aS => exact HBC.out.size); (case aL => simp; omega); intro v87 wD ho hb hg_ hat; have HOD1 := Aside0.mk (Kd.R_grown2 HOC1.out rfl hg_ (fun k hk he => typed_ne (Kd.R_typed HOC.out k hk) (Kd.R_typed HOC1.out k he.symm) (by decide) rfl)); obtain ⟨A87, c87, rfl⟩ := Kd.R_slice ho; have HOD := Aside0.mk ho; have HBD := Aside0.mk hb; clear ho hb hg_ hat) | ((with_reducible refine gate_dst (N := 89) rfl ?_); refine box_event ?hg (N := 89) ?hd (cs := #[.slice A84 l0.length c84, .slice A87 l1.length c87, .slice none 0 0, .slice none 0 0]) (t := 71) ?hr ?_; (case hd => rfl); (case hg => rfl); (case hr => first | (go_simp; done) | (go_simp; rfl)); intro q hq wE hbox hbb; have HBX := Aside0.mk hbox; have HBE := Aside0.mk (below_then HBD.out HBD.out.size hbb); have HOE1 := Aside0.mk (Kd.R_below HOD1.out hbb); have HOE := Aside0.mk (Kd.R_below HOD.out hbb); have HQ := Aside0.mk (show w.heap.size ≤ q from hq ▸ HBD.out.size); clear hbox hbb hq))
                    go_ret2
                    exact RPost.good HBE.out HBX.out HQ.out HOE1.out HOE.out
end Go.Proofs.Ytbbhichndfbooaa.P
namespace Go.Proofs.Ytbbhichndfbooaa.P
open Go.RowKit Go.Proofs.YtbbhichndfbooaaW.PrintWords Go.Proofs.YtbbhichndfbooaaW.PrintLast
set_option linter.unusedVariables false
set_option linter.unusedSimpArgs false
theorem ref_letter_f (c : Int) : accountingref06_letter.f c = some (isLetter c) := by
  unfold accountingref06_letter.f isLetter
  repeat' split
  all_goals (congr 1; rw [Bool.eq_iff_iff]; simp; omega)
theorem ref_digit_f (c : Int) : accountingref06_digit.f c = some (isDigit c) := by
  unfold accountingref06_digit.f isDigit
  repeat' split
  all_goals (congr 1; rw [Bool.eq_iff_iff]; simp; omega)
theorem refCode_l0 (s : ByteArray) (hs : s.size ≤ 100000) : ∀ (n i : Nat), s.size - i = n → i ≤ s.size → Ev (fun k => accountingref06_Code.l0 k s (i : Int)) (allFrom isCodeByte s i && (decide (0 < s.size) && decide (s.size ≤ 12))) := by
  intro n
  induction n with
  | zero =>
    intro i hn hi
    refine Ev.step (fun k => accountingref06_Code.l0.eq_2 _ _ k) ?_
    obtain rfl : i = s.size := by omega
    simp only [if_neg (show ¬ ((s.size : Int) < (s.size : Int)) by omega), allFrom_end, Bool.true_and]
    by_cases h : 0 < s.size
    · simp only [if_pos (show (s.size : Int) ≥ 1 by omega), h, decide_true, Bool.true_and]
      have : decide ((s.size : Int) ≤ 12) = decide (s.size ≤ 12) := by rw [Bool.eq_iff_iff]; simp; omega
      rw [this]; exact Ev.now _
    · simp only [if_neg (show ¬ (s.size : Int) ≥ 1 by omega), h, decide_false, Bool.false_and]; exact Ev.now _
  | succ n ih =>
    intro i hn hi
    refine Ev.step (fun k => accountingref06_Code.l0.eq_2 _ _ k) ?_
    have hw : wrap64 ((i : Int) + 1) = ((i + 1 : Nat) : Int) := by rw [w64r (by omega) (by omega)]; omega
    have hst := allFrom_step isCodeByte s i (by omega)
    have hor := isCodeByte_or (bt s (i : Int))
    simp only [if_pos (show ((i : Int) < (s.size : Int)) by omega), if_pos (show (0 : Int) ≤ (i : Int) by omega), hw, ref_letter_f, ref_digit_f, Option.bind_some]
    rw [hst, hor]
    have hi' := ih (i + 1) (by omega) (by omega)
    cases h1 : isLetter (bt s (i : Int)) <;> cases h2 : isDigit (bt s (i : Int)) <;> simp <;> first | exact Ev.now _ | simpa using hi'
theorem refCode_ev (s : ByteArray) (hs : s.size ≤ 100000) : Ev (fun k => accountingref06_Code.f k s) (codeB s) := by
  have := refCode_l0 s hs _ 0 rfl (by omega)
  have e : (allFrom isCodeByte s 0 && (decide (0 < s.size) && decide (s.size ≤ 12))) = codeB s := by
    unfold codeB; rw [Bool.and_comm, Bool.and_assoc]
  rw [e] at this
  exact this
theorem hasB_cons (a : ByteArray) (l : List ByteArray) (s : ByteArray) : hasB (a :: l) s = ((a.toList == s.toList) || hasB l s) := rfl
theorem has_ev (l : List ByteArray) (s : ByteArray) (hl : l.length ≤ 1000000) : Ev (fun k => accountingref15_has.f k l s) (hasB l s) := by
  have key : ∀ (n i : Nat), l.length - i = n → i ≤ l.length → Ev (fun k => accountingref15_has.l0 k l s (i : Int)) (hasB (l.drop i) s) := by
    intro n
    induction n with
    | zero =>
      intro i hn hi
      refine Ev.step (fun k => accountingref15_has.l0.eq_2 _ _ _ k) ?_
      obtain rfl : i = l.length := by omega
      simp only [if_neg (show ¬ ((l.length : Int) < (l.length : Int)) by omega), List.drop_length]
      exact Ev.now _
    | succ n ih =>
      intro i hn hi
      have hlt : i < l.length := by omega
      have hw : wrap64 ((i : Int) + 1) = ((i + 1 : Nat) : Int) := by rw [w64r (by omega) (by omega)]; omega
      have hr : rdOf ByteArray.empty l (i : Int) = l[i] := by simp [rdOf, hlt]
      refine Ev.step (fun k => accountingref15_has.l0.eq_2 _ _ _ k) ?_
      simp only [if_pos (show ((i : Int) < (l.length : Int)) by omega), if_pos (show (0 : Int) ≤ (i : Int) by omega), hw, hr]
      rw [List.drop_eq_getElem_cons hlt]
      by_cases e : (l[i]).toList = s.toList
      · rw [hasB_cons, beq_iff_eq.mpr e, Bool.true_or]
        simp only [if_pos e]
        exact Ev.now _
      · rw [hasB_cons, beq_eq_false_iff_ne.mpr e, Bool.false_or]
        simp only [if_neg e]
        exact ih (i + 1) (by omega) (by omega)
  have := key _ 0 rfl (Nat.zero_le _)
  rw [List.drop_zero] at this
  exact this
theorem l1_ev (l : List ByteArray) (hl : l.length ≤ 1000000) (hs : ∀ a ∈ l, a.size ≤ 100000) : Ev (fun k => accountingref15_New.l1 k l 0) (apErr [] l) := by
  have key : ∀ (n i : Nat), l.length - i = n → i ≤ l.length → Ev (fun k => accountingref15_New.l1 k l (i : Int)) (apErr (l.take i) (l.drop i)) := by
    intro n
    induction n with
    | zero =>
      intro i hn hi
      refine Ev.step (fun k => accountingref15_New.l1.eq_2 _ _ k) ?_
      obtain rfl : i = l.length := by omega
      simp only [if_neg (show ¬ ((l.length : Int) < (l.length : Int)) by omega), List.drop_length]
      exact Ev.now _
    | succ n ih =>
      intro i hn hi
      have hlt : i < l.length := by omega
      have hw : wrap64 ((i : Int) + 1) = ((i + 1 : Nat) : Int) := by rw [w64r (by omega) (by omega)]; omega
      have hr : rdOf ByteArray.empty l (i : Int) = l[i] := by simp [rdOf, hlt]
      refine Ev.step (fun k => accountingref15_New.l1.eq_2 _ _ k) ?_
      simp only [if_pos (show ((i : Int) < (l.length : Int)) by omega), if_pos (show (0 : Int) ≤ (i : Int) by omega), if_pos (show ((i : Int) ≤ (l.length : Int)) by omega), hw, hr, Int.toNat_natCast]
      rw [List.drop_eq_getElem_cons hlt]
      unfold apErr
      refine Ev.bind (refCode_ev _ (hs _ (List.getElem_mem hlt))) ?_
      cases hc : codeB l[i]
      · simp only [Bool.false_eq_true, if_false, if_true]
        exact Ev.now _
      · simp only [if_true, Bool.true_eq_false, if_false]
        refine Ev.bind (has_ev _ _ (by rw [List.length_take]; omega)) ?_
        cases hh : hasB (l.take i) l[i]
        · simp only [Bool.false_eq_true, if_false]
          have e : l.take i ++ [l[i]] = l.take (i + 1) := (List.take_succ_eq_append_getElem hlt).symm
          rw [e]
          exact ih (i + 1) (by omega) (by omega)
        · simp only [if_true]
          exact Ev.now _
  have := key _ 0 rfl (Nat.zero_le _)
  rw [List.drop_zero, List.take_zero] at this
  exact this
theorem right_both (steps : List S60) (apprs : List ByteArray) (hl : steps.length ≤ 9223372036854775807) {e : Int} (he : Ev (fun k => accountingref15_New.l1 k apprs 0) e) : ∃ b, (∃ k, flow_right.f k steps = some b) ∧ Ev (fun k => accountingref15_New.l0 k steps apprs 0) (if b = true then e else 2) := by
  have key : ∀ (n i : Nat), steps.length - i = n → i ≤ steps.length → ∃ b, Ev (fun k => flow_right.l0 k steps steps (steps.length : Int) (i : Int)) b ∧ Ev (fun k => accountingref15_New.l0 k steps apprs (i : Int)) (if b = true then e else 2) := by
    intro n
    induction n with
    | zero =>
      intro i hn hi
      refine ⟨true, Ev.step (fun k => flow_right.l0.eq_2 _ _ _ _ k) ?_, Ev.step (fun k => accountingref15_New.l0.eq_2 _ _ _ k) ?_⟩
      · simp only [if_neg (show ¬ ((i : Int) < (steps.length : Int)) by omega)]
        exact Ev.now _
      · simp only [if_neg (show ¬ ((i : Int) < (steps.length : Int)) by omega)]
        exact he
    | succ n ih =>
      intro i hn hi
      have hw : wrap64 ((i : Int) + 1) = ((i + 1 : Nat) : Int) := by rw [w64r (by omega) (by omega)]; omega
      have hw1 : 0 < i → wrap64 ((i : Int) - 1) = (i : Int) - 1 := fun _ => w64r (by omega) (by omega)
      obtain ⟨b, hb, hc⟩ := ih (i + 1) (by omega) (by omega)
      have g1 : (i : Int) < (steps.length : Int) := by omega
      have g2 : (0 : Int) ≤ (i : Int) := by omega
      by_cases h1 : (rd_T60 steps (i : Int)).f0 < 0
      · refine ⟨false, Ev.step (fun k => flow_right.l0.eq_2 _ _ _ _ k) ?_, Ev.step (fun k => accountingref15_New.l0.eq_2 _ _ _ k) ?_⟩
        · simp only [if_pos g1, if_pos g2, if_pos h1]
          exact Ev.now _
        · simp only [if_pos g1, if_pos g2, if_pos h1]
          exact Ev.now _
      by_cases h0 : i = 0
      · have g3 : ¬ (i : Int) > 0 := by omega
        by_cases h2 : (rd_T60 steps (i : Int)).f1 < 0
        · refine ⟨false, Ev.step (fun k => flow_right.l0.eq_2 _ _ _ _ k) ?_, Ev.step (fun k => accountingref15_New.l0.eq_2 _ _ _ k) ?_⟩
          · simp only [if_pos g1, if_pos g2, if_neg h1, if_neg g3, if_pos h2]
            exact Ev.now _
          · simp only [if_pos g1, if_pos g2, if_neg h1, if_neg g3, if_pos h2]
            exact Ev.now _
        by_cases h3 : (rd_T60 steps (i : Int)).f1 > 5
        · refine ⟨false, Ev.step (fun k => flow_right.l0.eq_2 _ _ _ _ k) ?_, Ev.step (fun k => accountingref15_New.l0.eq_2 _ _ _ k) ?_⟩
          · simp only [if_pos g1, if_pos g2, if_neg h1, if_neg g3, if_neg h2, if_pos h3]
            exact Ev.now _
          · simp only [if_pos g1, if_pos g2, if_neg h1, if_neg g3, if_neg h2, if_pos h3]
            exact Ev.now _
        · refine ⟨b, Ev.step (fun k => flow_right.l0.eq_2 _ _ _ _ k) ?_, Ev.step (fun k => accountingref15_New.l0.eq_2 _ _ _ k) ?_⟩
          · simp only [if_pos g1, if_pos g2, if_neg h1, if_neg g3, if_neg h2, if_neg h3, hw]
            exact hb
          · simp only [if_pos g1, if_pos g2, if_neg h1, if_neg g3, if_neg h2, if_neg h3, hw]
            exact hc
      · have g3 : (i : Int) > 0 := by omega
        have g4 : (0 : Int) ≤ (i : Int) - 1 := by omega
        have g5 : (i : Int) - 1 < (steps.length : Int) := by omega
        have e1 := hw1 (by omega)
        by_cases h4 : (rd_T60 steps ((i : Int) - 1)).f0 ≥ (rd_T60 steps (i : Int)).f0
        · refine ⟨false, Ev.step (fun k => flow_right.l0.eq_2 _ _ _ _ k) ?_, Ev.step (fun k => accountingref15_New.l0.eq_2 _ _ _ k) ?_⟩
          · simp only [if_pos g1, if_pos g2, if_neg h1, if_pos g3, e1, if_pos g4, if_pos g5, if_pos h4]
            exact Ev.now _
          · simp only [if_pos g1, if_pos g2, if_neg h1, if_pos g3, e1, if_pos g4, if_pos g5, if_pos h4]
            exact Ev.now _
        by_cases h2 : (rd_T60 steps (i : Int)).f1 < 0
        · refine ⟨false, Ev.step (fun k => flow_right.l0.eq_2 _ _ _ _ k) ?_, Ev.step (fun k => accountingref15_New.l0.eq_2 _ _ _ k) ?_⟩
          · simp only [if_pos g1, if_pos g2, if_neg h1, if_pos g3, e1, if_pos g4, if_pos g5, if_neg h4, if_pos h2]
            exact Ev.now _
          · simp only [if_pos g1, if_pos g2, if_neg h1, if_pos g3, e1, if_pos g4, if_pos g5, if_neg h4, if_pos h2]
            exact Ev.now _
        by_cases h3 : (rd_T60 steps (i : Int)).f1 > 5
        · refine ⟨false, Ev.step (fun k => flow_right.l0.eq_2 _ _ _ _ k) ?_, Ev.step (fun k => accountingref15_New.l0.eq_2 _ _ _ k) ?_⟩
          · simp only [if_pos g1, if_pos g2, if_neg h1, if_pos g3, e1, if_pos g4, if_pos g5, if_neg h4, if_neg h2, if_pos h3]
            exact Ev.now _
          · simp only [if_pos g1, if_pos g2, if_neg h1, if_pos g3, e1, if_pos g4, if_pos g5, if_neg h4, if_neg h2, if_pos h3]
            exact Ev.now _
        · refine ⟨b, Ev.step (fun k => flow_right.l0.eq_2 _ _ _ _ k) ?_, Ev.step (fun k => accountingref15_New.l0.eq_2 _ _ _ k) ?_⟩
          · simp only [if_pos g1, if_pos g2, if_neg h1, if_pos g3, e1, if_pos g4, if_pos g5, if_neg h4, if_neg h2, if_neg h3, hw]
            exact hb
          · simp only [if_pos g1, if_pos g2, if_neg h1, if_pos g3, e1, if_pos g4, if_pos g5, if_neg h4, if_neg h2, if_neg h3, hw]
            exact hc
  obtain ⟨b, hb, hc⟩ := key _ 0 rfl (Nat.zero_le _)
  exact ⟨b, hb.rounds, hc⟩
theorem rnew_both (steps : List S60) (apprs : List ByteArray) (hl : steps.length ≤ 1000000) (hla : apprs.length ≤ 1000000) (hs : ∀ a ∈ apprs, a.size ≤ 100000) :
    ∃ rt kr kn, flow_right.f kr steps = some rt ∧ accountingref15_New.f kn steps apprs = some (newErr rt steps apprs) := by
  obtain ⟨rt, ⟨kr, hr⟩, hn⟩ := right_both steps apprs (by omega) (l1_ev apprs hla hs)
  have bad : Ev (fun k => accountingref15_New.j0 k steps apprs true) 9 := by
    refine Ev.step (fun k => accountingref15_New.j0.eq_2 _ _ _ k) ?_
    simp only [if_true]
    exact Ev.now _
  have hj : Ev (fun k => accountingref15_New.j0 k steps apprs false) (if rt = true then apErr [] apprs else 2) := by
    refine Ev.step (fun k => accountingref15_New.j0.eq_2 _ _ _ k) ?_
    simp only [Bool.false_eq_true, if_false]
    exact hn
  unfold accountingref15_New.f newErr
  by_cases h1 : steps.length > 200
  · obtain ⟨kn, hk⟩ := bad.rounds
    exact ⟨rt, kr, kn, hr, by rw [if_pos (show (steps.length : Int) > 200 by omega), if_pos (.inl h1)]; exact hk⟩
  by_cases h2 : apprs.length > 200
  · obtain ⟨kn, hk⟩ := bad.rounds
    exact ⟨rt, kr, kn, hr, by rw [if_neg (show ¬ (steps.length : Int) > 200 by omega), decide_eq_true (show (apprs.length : Int) > 200 by omega), if_pos (.inr h2)]; exact hk⟩
  obtain ⟨kn, hk⟩ := hj.rounds
  refine ⟨rt, kr, kn, hr, ?_⟩
  rw [if_neg (show ¬ (steps.length : Int) > 200 by omega), decide_eq_false (show ¬ (apprs.length : Int) > 200 by omega), if_neg (by omega), hk]
  cases rt <;> rfl
theorem newErr_len {rt : Bool} {steps : List S60} {apprs : List ByteArray} (h : newErr rt steps apprs = 0) : steps.length ≤ 200 ∧ apprs.length ≤ 200 := by
  unfold newErr at h
  by_cases h1 : steps.length > 200 ∨ apprs.length > 200
  · rw [if_pos h1] at h; cases h
  · omega
theorem light_sizes {steps : List S60} {apprs : List ByteArray} {ops : List S46} (hla : apprs.length ≤ 1000000) : ∀ (k i : Nat), accountinglaw15_light.l0 k ops (i : Int) steps apprs = some true → ∀ j, i ≤ j → (hj : j < apprs.length) → (apprs[j]).size ≤ 100
  | 0, _, h, _, _, _ => by simp [accountinglaw15_light.l0] at h
  | k + 1, i, h, j, hij, hj => by
    have hlt : i < apprs.length := by omega
    have hw : wrap64 ((i : Int) + 1) = ((i + 1 : Nat) : Int) := by rw [w64r (by omega) (by omega)]; omega
    have hr : rdOf ByteArray.empty apprs (i : Int) = apprs[i] := by simp [rdOf, hlt]
    rw [accountinglaw15_light.l0.eq_2] at h
    simp only [if_pos (show ((i : Int) < (apprs.length : Int)) by omega), if_pos (show (0 : Int) ≤ (i : Int) by omega), hw, hr] at h
    by_cases hc : ((apprs[i]).size : Int) > 100
    · rw [if_pos hc] at h; cases h
    rw [if_neg hc] at h
    by_cases e : i = j
    · subst e; omega
    · exact light_sizes hla k (i + 1) h j (by omega) hj
theorem light_all {k : Nat} {steps : List S60} {apprs : List ByteArray} {ops : List S46} (h : accountinglaw15_light.f k steps apprs ops = some true) : steps.length ≤ 250 ∧ apprs.length ≤ 250 ∧ ops.length ≤ 40 ∧ ∀ a ∈ apprs, a.size ≤ 100 := by
  unfold accountinglaw15_light.f at h
  cases k with
  | zero => split at h <;> (try split at h) <;> simp [accountinglaw15_light.j0] at h
  | succ k =>
    by_cases h1 : (steps.length : Int) > 250
    · rw [if_pos h1, accountinglaw15_light.j0.eq_2, if_pos rfl] at h; cases h
    by_cases h2 : (apprs.length : Int) > 250
    · rw [if_neg h1, if_pos h2, accountinglaw15_light.j0.eq_2, if_pos rfl] at h; cases h
    by_cases h3 : (ops.length : Int) > 40
    · rw [if_neg h1, if_neg h2, decide_eq_true h3, accountinglaw15_light.j0.eq_2, if_pos rfl] at h; cases h
    rw [if_neg h1, if_neg h2, decide_eq_false h3, accountinglaw15_light.j0.eq_2, if_neg (by decide)] at h
    refine ⟨by omega, by omega, by omega, fun a ha => ?_⟩
    obtain ⟨j, hj, rfl⟩ := List.mem_iff_getElem.1 ha
    exact light_sizes (by omega) k 0 h j (Nat.zero_le _) hj
end Go.Proofs.Ytbbhichndfbooaa.P
namespace Go.Proofs.Ytbbhichndfbooaa.P
open Go.RowKit Go.Proofs.YtbbhichndfbooaaW.PrintWords Go.Proofs.YtbbhichndfbooaaW.PrintLast Go.Proofs.YtbbhichndfbooaaW.PrintMore Go.Maps Go.ChangeShapes Go.WideShapes Go.WideMaps
set_option linter.unusedVariables false
set_option linter.unusedSimpArgs false
set_option maxHeartbeats 4000000 in
set_option maxRecDepth 100000 in
theorem rneed_calls (q : Nat) (S : FlowS) (F : Nat → Prop) (v : Int) (w : World) (h : Rfl w F q S) :
    Calls Try.prog 14 #[.pointer (some ⟨q, 0, none⟩), .int .i64 v] w fun e w' => e = .returned (.tuple #[.int .i64 (needOf S.steps v).1, .bool (needOf S.steps v).2]) ∧ w' = w := by
  obtain ⟨L, h⟩ := h
  obtain ⟨A, c, hv⟩ := Kd.R_slice h.steps
  have hlen := stepsLen h.steps
  unfold maxLen at hlen
  have BK := h.blk
  have hR := h.steps
  rw [hv] at BK hR
  have c0 := (blk_cell BK 0).trans rfl
  have hC := (Kd.R_reads' hR).2.2
  have HR := Aside0.mk hC
  clear hC hR h BK
  go_enter Try.func14, Try.ntmps14
  go_wp2
  go_loopw [6, 9, 10, 11, 12, 13, 14, 15, 16, 17, 18, 19, 20, 21, 22, 23, 24, 25, 26, 27] (fun v6 _ _ _ _ _ _ _ _ _ _ _ _ _ _ _ _ _ _ _ wr => ∃ k : Nat, k ≤ S.steps.length ∧ v6 = .int .i64 k ∧ wr = w ∧ Aside0 (needOf S.steps v = needAt S.steps v k)) (fun v6 _ _ _ _ _ _ _ _ _ _ _ _ _ _ _ _ _ _ _ _ => S.steps.length - (intOf v6).toNat)
  case atStart => exact ⟨0, Nat.zero_le _, rfl, rfl, ⟨rfl⟩⟩
  case round =>
    obtain ⟨k, hk, rfl, rfl, HN⟩ := hrel
    by_cases hlt : k < S.steps.length
    · obtain ⟨ad, e, q0, q1⟩ := at_T60 HR.out (k : Int) (by omega) (by omega)
      subst e
      rw [Int.toNat_natCast] at q0 q1
      have d1 : decide ((k : Int) < (S.steps.length : Int)) = true := decide_eq_true (by omega)
      have d2 : decide (k < S.steps.length) = true := decide_eq_true hlt
      have p0 : (0 : Int) ≤ (k : Int) := by omega
      have p1 : (k : Int) < (S.steps.length : Int) := by omega
      have HS := Aside0.mk (needAt_succ S.steps v hlt)
      obtain ⟨st, hst⟩ : ∃ st, rd_T60 S.steps (k : Int) = st := ⟨_, rfl⟩
      rw [hst] at q0 q1 HS
      clear hst
      by_cases hc : st.f0 ≥ v
      · have hd : decide (v ≤ st.f0) = true := decide_eq_true hc
        go_wp2
        go_ret2
        rw [HN.out, HS.out, if_pos hc]
        exact ⟨rfl, rfl⟩
      · have hd : decide (v ≤ st.f0) = false := decide_eq_false hc
        go_wp2
        go_roundw
        case rel => exact ⟨k + 1, by omega, by go_num, by trivial, ⟨by rw [HN.out, HS.out, if_neg hc]⟩⟩
        case measure => simp [intOf]; omega
    · obtain rfl : k = S.steps.length := by omega
      have d1 : decide ((S.steps.length : Int) < (S.steps.length : Int)) = false := decide_eq_false (by omega)
      go_wp2
      go_ret2
      rw [HN.out, needAt_end]
      exact ⟨rfl, rfl⟩
theorem rneed_is {q : Nat} {S : FlowS} {F : Nat → Prop} {v nn : Int} {ok : Bool} (hn : needOf S.steps v = (nn, ok)) {w : World} (h : Rfl w F q S) :
    Calls Try.prog 14 #[.pointer (some ⟨q, 0, none⟩), .int .i64 v] w fun e w' => e = .returned (.tuple #[.int .i64 nn, .bool ok]) ∧ w' = w := by
  have := rneed_calls q S F v w h
  rw [hn] at this
  exact this
theorem rneed_nil (v : Int) (w : World) : Calls Try.prog 14 #[.pointer none, .int .i64 v] w fun e w' => e = .returned (.tuple #[.int .i64 0, .bool false]) ∧ w' = w := by
  go_enter Try.func14, Try.ntmps14
  go_wp2
  go_ret2
  exact ⟨rfl, rfl⟩
section
variable {A0 A1 : Option Addr} {c0 c1 : Nat} {steps : List S60} {apprs : List ByteArray} {w : World}
theorem new_bad (h0 : Kd.C k60 w A0 steps.length steps) (hc0 : steps.length ≤ c0) (h1 : Kd.string.C w A1 apprs.length apprs) {kr : Nat} {rt : Bool} (hr : flow_right.f kr steps = some rt) {err : Int} (he : newErr rt steps apprs = err) (hne : err ≠ 0) :
    Calls Try.prog 11 #[.slice A0 steps.length c0, .slice A1 apprs.length c1] w fun e w' => e = .returned (.tuple #[.pointer none, .int .i64 err]) ∧ Below w.heap.size w w' := by
  refine (new_calls A0 c0 steps A1 c1 apprs w h0 hc0 h1 kr rt hr).mono ?_
  rw [he]
  rintro e w' ⟨hb, ⟨_, rfl⟩ | ⟨h, _⟩⟩
  · exact ⟨rfl, hb⟩
  · exact absurd h hne
theorem new_good (h0 : Kd.C k60 w A0 steps.length steps) (hc0 : steps.length ≤ c0) (h1 : Kd.string.C w A1 apprs.length apprs) {kr : Nat} {rt : Bool} (hr : flow_right.f kr steps = some rt) (he : newErr rt steps apprs = 0) :
    Calls Try.prog 11 #[.slice A0 steps.length c0, .slice A1 apprs.length c1] w fun e w' => Below w.heap.size w w' ∧ ∃ p, e = .returned (.tuple #[.pointer (some ⟨p, 0, none⟩), .int .i64 0]) ∧ Live w w' p ⟨steps, apprs, [], []⟩ := by
  refine (new_calls A0 c0 steps A1 c1 apprs w h0 hc0 h1 kr rt hr).mono ?_
  rw [he]
  rintro e w' ⟨hb, ⟨h, _⟩ | ⟨_, p, F, rfl, hF, hk⟩⟩
  · exact absurd rfl h
  · exact ⟨hb, p, rfl, ⟨⟨F, hF, hk⟩, hb⟩⟩
end
theorem info3 : (Try.prog.info? 3).map (fun i => (i.zero, i.size, i.bytes)) = some (some (.int .i64 0), 1, 8) := by kernel_rfl
/-- The states of the first documents. -/
def befs (S : FlowS) (k : Nat) : List Int := (List.range k).map (fun (j : Nat) => stOf S (j : Int))
theorem befs_len (S : FlowS) (k : Nat) : (befs S k).length = k := by simp [befs]
theorem befs_succ (S : FlowS) (k : Nat) : befs S (k + 1) = befs S k ++ [stOf S (k : Int)] := by unfold befs; rw [List.range_succ, List.map_append]; rfl
theorem befs_rd (S : FlowS) {k n : Nat} (h : k < n) : Go.Proofs.YtbbhichndfbooaaW.PrintWords.rd (befs S n) (k : Int) = stOf S (k : Int) := by
  simp [Go.Proofs.YtbbhichndfbooaaW.PrintWords.rd, befs, h]
theorem wf_small {k : Nat} (h : k ≤ 1000) : (Lit.int .i64 (k : Int)).wf = true := by
  show (decide (IntKind.i64.min ≤ (k : Int)) && decide ((k : Int) ≤ IntKind.i64.max)) = true
  rw [Bool.and_eq_true, decide_eq_true_iff, decide_eq_true_iff]
  constructor
  · show (-9223372036854775808 : Int) ≤ (k : Int)
    omega
  · show (k : Int) ≤ 9223372036854775807
    omega
/-- The lists are no longer than any Go slice, and each number is an int. -/
def steps_ok (steps : List S60) (ops : List S46) : Prop := steps.length ≤ 9223372036854775807 ∧ ∀ o ∈ ops, (Lit.int .i64 o.f1).wf = true
instance (steps : List S60) (ops : List S46) : Decidable (steps_ok steps ops) := by unfold steps_ok; exact inferInstance
set_option maxHeartbeats 16000000 in
set_option maxRecDepth 100000 in
theorem flowApart_calls (A0 : Option Addr) (c0 : Nat) (steps : List S60) (A1 : Option Addr) (c1 : Nat) (apprs : List ByteArray) (A2 : Option Addr) (c2 : Nat) (ops : List S46) (w : World)
    (h0 : Kd.C k60 w A0 steps.length steps) (hc0 : steps.length ≤ c0) (h1 : Kd.string.C w A1 apprs.length apprs) (hc1 : apprs.length ≤ c1) (h2 : Kd.C k46 w A2 ops.length ops) (hc2 : ops.length ≤ c2) (hl : steps.length ≤ 9223372036854775807) (hwf : ∀ o ∈ ops, (Lit.int .i64 o.f1).wf = true) :
    Calls Try.prog 4 #[.agg #[.slice A0 steps.length c0, .slice A1 apprs.length c1], .slice A2 ops.length c2] w fun e w' => e = .returned (.bool true) ∧ Below w.heap.size w w' := by
  obtain ⟨rt, kr, hr⟩ := right_some steps hl
  obtain ⟨b, kl, hlt, hsm⟩ := light_some steps apprs ops
  have H0 := Aside0.mk h0
  have H1 := Aside0.mk h1
  have H2 := Aside0.mk h2
  have HR := Aside0.mk hr
  have HLT := Aside0.mk hlt
  have HSM := Aside0.mk hsm
  have HWF := Aside0.mk hwf
  clear h0 h1 h2 hr hlt hsm hwf
  obtain ⟨err, he⟩ : ∃ err, newErr rt steps apprs = err := ⟨_, rfl⟩
  have HE := Aside0.mk he
  clear he
  go_enter Try.func4, Try.ntmps4
  go_upto_region 1 with (fail)
  refine with_world (P := fun x => Code.wp _ _ _ _ x) _ ?_
  intro w1 hw1
  have BK : w1.heap[w.heap.size]? = some (.cells #[.slice A0 steps.length c0, .slice A1 apprs.length c1] 25 (0, 0)) := by rw [hw1]; exact blk_new w _
  have HB1 := Aside0.mk (show Below w.heap.size w w1 from by rw [hw1]; exact below_alloc (Below.refl _ _) _)
  obtain ⟨g, hg⟩ : ∃ g, w.heap.size = g := ⟨_, rfl⟩
  rw [hg] at BK ⊢
  clear hw1 hg
  have HBK := Aside0.mk BK
  have b0 := (blk_cell BK 0).trans rfl
  have b1 := (blk_cell BK 1).trans rfl
  clear BK
  by_cases hne : err = 0
  · subst hne
    go_upto_region 2 with (first | (go_at_call 11; refine (new_good (Kd.C_below H0.out HB1.out) hc0 (Kd.C_below H1.out HB1.out) HR.out HE.out).mono ?_; rintro e w2 ⟨hb_, p, rfl, hl_⟩; have HB12 := Aside0.mk hb_; have HL := Aside0.mk hl_; clear hb_ hl_ b0 b1))
    have HB2 := Aside0.mk (below_then HB1.out HB1.out.size HB12.out)
    have BK2 := blk_below HBK.out HB12.out
    have b0 := (blk_cell BK2 0).trans rfl
    have b1 := (blk_cell BK2 1).trans rfl
    have HLV := Aside0.mk (show Live w w2 p ⟨steps, apprs, [], []⟩ from ⟨by
      obtain ⟨⟨F, hF, hk⟩, _⟩ := HL.out
      exact ⟨F, hF, fun k hk' => Nat.le_trans HB1.out.size (hk k hk')⟩, HB2.out⟩)
    clear BK2 HL HB12 HBK HB1
    cases b
    · go_wp2_with (first | (go_at_call 9; refine (accountinglaw15_light.calls kl A0 c0 steps A1 c1 apprs A2 c2 ops false _ (Kd.C_below H0.out HB2.out) hc0 (Kd.C_below H1.out HB2.out) hc1 (Kd.C_below H2.out HB2.out) hc2 HLT.out).mono ?_; rintro e w3 ⟨rfl, hb_⟩; have HB3 := Aside0.mk (below_then HB2.out HB2.out.size hb_); clear hb_ b0 b1) | (go_at_call 10; refine (lives_calls _).mono ?_; rintro e w4 ⟨rfl, hb_⟩; have HB4 := Aside0.mk hb_; clear hb_))
      go_ret
      exact ⟨rfl, below_then HB3.out HB3.out.size HB4.out⟩
    · go_upto_region 4 with (first | (go_at_call 9; refine (accountinglaw15_light.calls kl A0 c0 steps A1 c1 apprs A2 c2 ops true _ (Kd.C_below H0.out HB2.out) hc0 (Kd.C_below H1.out HB2.out) hc1 (Kd.C_below H2.out HB2.out) hc2 HLT.out).mono ?_; rintro e w3 ⟨rfl, hb_⟩; have HL3 := Aside0.mk (HLV.out.below hb_); clear hb_ b0 b1))
      clear HLV HB2
      have hops : ops.length ≤ 40 := (HSM.out (by trivial)).2.2
      clear HSM HE HR HLT H0 H1
      go_wp2
      go_loopw [7, 8, 9, 10, 11, 12, 13, 14, 36, 37, 38, 39, 40, 41, 42, 43, 44, 45, 46, 47, 48, 49, 50, 51, 52, 53, 54, 55, 56, 57, 58, 59, 60, 61, 62, 63, 64, 65, 66, 67, 68, 69, 70, 71, 72, 73, 74, 75, 76, 77, 78, 79, 80, 81, 82, 83, 84, 85, 86, 87, 88, 89, 90, 91, 92, 93, 94, 95, 96, 97, 98, 99, 100, 101, 102, 103, 104, 105] (fun v7 _ _ _ _ _ _ _ _ _ _ _ _ _ _ _ _ _ _ _ _ _ _ _ _ _ _ _ _ _ _ _ _ _ _ _ _ _ _ _ _ _ _ _ _ _ _ _ _ _ _ _ _ _ _ _ _ _ _ _ _ _ _ _ _ _ _ _ _ _ _ _ _ _ _ _ _ _ wr => ∃ (i : Nat) (S : FlowS), i ≤ ops.length ∧ v7 = .int .i64 i ∧ Aside0 (Live w wr p S) ∧ Aside0 (Bnd S i)) (fun v7 _ _ _ _ _ _ _ _ _ _ _ _ _ _ _ _ _ _ _ _ _ _ _ _ _ _ _ _ _ _ _ _ _ _ _ _ _ _ _ _ _ _ _ _ _ _ _ _ _ _ _ _ _ _ _ _ _ _ _ _ _ _ _ _ _ _ _ _ _ _ _ _ _ _ _ _ _ _ => ops.length - (intOf v7).toNat)
      case atStart => exact ⟨0, _, Nat.zero_le _, rfl, HL3, ⟨⟨Nat.le_refl _, fun D hD => by cases hD⟩⟩⟩
      case round =>
        clear HL3
        obtain ⟨i, S, hi, rfl, HL, HBN⟩ := hrel
        rename World => wo
        by_cases hlt : i < ops.length
        · have d1 : decide ((i : Int) < (ops.length : Int)) = true := decide_eq_true (by omega)
          have d2 : decide (i < ops.length) = true := decide_eq_true hlt
          have p0 : (0 : Int) ≤ (i : Int) := by omega
          have p1 : (i : Int) < (ops.length : Int) := by omega
          go_wp2
          go_loopw [8, 9, 42, 43, 44, 45, 46, 47, 48, 49, 50, 51] (fun v8 v9 _ _ _ _ _ _ _ _ _ _ wr => ∃ k : Nat, k ≤ 42 ∧ v9 = .int .i64 k ∧ Aside0 (Below wo.heap.size wo wr) ∧ Aside0 ((Kd.int .i64).R 3 wr wo.heap.size (fun x => wo.heap.size ≤ x) v8 (befs S k))) (fun _ v9 _ _ _ _ _ _ _ _ _ _ _ => 42 - (intOf v9).toNat)
          case atStart => exact ⟨0, Nat.zero_le _, rfl, ⟨Below.refl _ _⟩, ⟨Kd.R_nil _ _ _ _ _⟩⟩
          case round =>
            obtain ⟨k, hk, rfl, HB, HRW⟩ := hrel
            obtain ⟨Ab, cb, hv⟩ := Kd.R_slice HRW.out
            subst hv
            by_cases hk41 : k ≤ 41
            · have d3 : decide ((k : Int) ≤ 41) = true := decide_eq_true (by omega)
              have d4 : decide (k ≤ 41) = true := decide_eq_true hk41
              obtain ⟨s, hs⟩ : ∃ s, stOf S (k : Int) = s := ⟨_, rfl⟩
              have HS := Aside0.mk hs
              have hbl := befs_len S k
              have HBL := Aside0.mk hbl
              clear hs hbl
              go_wp2_with (first | (go_at_call 15; refine (state_live (HL.out.below HB.out) (k : Int) (wf_small (by omega)) HS.out).mono ?_; rintro e w_ ⟨rfl, he_⟩; obtain rfl := he_.symm) | ((with_reducible refine gate_builtin (b := .append) (xs := #[.tmp 46, .tmp 50]) rfl ?_); at_builtin; refine Kd.R_append (Kd.int .i64) (w0 := wo) wo.heap.size rfl (.tmp 46) (.tmp 50) 39 3 (.int .i64 0) 8 rfl Try.underlying39 info3 rfl (by decide) (by omega) (.slice Ab (befs S k).length cb) (befs S k) s [.int .i64 s] (fun x => wo.heap.size ≤ x) (fun _ => False) rfl rfl ?aP (fun _ hk => hk.elim) ?aF ?aO ?aB ?aS ?aL ?_; (case aP => exact rfl); (case aF => exact fun x hx => Nat.le_trans HB.out.size hx); (case aO => exact HRW.out); (case aB => exact HB.out); (case aS => exact HB.out.size); (case aL => rw [HBL.out]; omega); intro v1 w2 ho hb hg hat; have HO := Aside0.mk ho; have HB2 := Aside0.mk hb; clear ho hb hg hat))
              go_roundw
              case rel => exact ⟨k + 1, by omega, by go_num, HB2, ⟨by rw [befs_succ, HS.out]; exact HO.out⟩⟩
              case measure => simp [intOf]; omega
            · obtain rfl : k = 42 := by omega
              have d3 : decide (((42 : Nat) : Int) ≤ 41) = false := by decide
              rename World => w5
              obtain ⟨⟨F, hF, hFk⟩, hlow⟩ := HL.out
              have HF5 := Aside0.mk (hF.below HB.out)
              have hn : S.acts.length ≤ 1000000 := by have := HBN.out.acts; omega
              have HFO := Aside0.mk hF
              have HFK := Aside0.mk hFk
              have HLO := Aside0.mk hlow
              clear hF hFk hlow
              go_upto_region 13 with (first | (go_at_call 16; refine (acts_calls p S F _ HF5.out hn).mono ?_; rintro e_ w6 ⟨v, rfl, hr_, hb_⟩; obtain ⟨Aa, ca, rfl⟩ := Kd.R_slice hr_; have HB6 := Aside0.mk hb_; clear hr_ hb_))
              have HB06 := Aside0.mk (below_then HB.out HB.out.size HB6.out)
              have HLW6 := Aside0.mk (below_then HLO.out HLO.out.size HB06.out)
              have HF6 := Aside0.mk (HFO.out.below HB06.out)
              have HR6 := Aside0.mk (Kd.R_below HRW.out HB6.out)
              clear HB6 HF5 HRW HB
              have hu46 := Try.underlying46
              obtain ⟨ad, e, q0, q1, q2, q3⟩ := at_T46 (Kd.C_below H2.out HLW6.out) (i : Int) (by omega) (by omega)
              subst e
              rw [Int.toNat_natCast] at q0 q1 q2 q3
              obtain ⟨o, ho⟩ : ∃ o, rd_T46 ops (i : Int) = o := ⟨_, rfl⟩
              have hom : o ∈ ops := by rw [← ho]; simp [rd_T46, hlt]
              rw [ho] at q0 q1 q2 q3
              have HOO := Aside0.mk ho
              have hwo := HWF.out o hom
              have HWO := Aside0.mk hwo
              clear ho hom hwo
              obtain ⟨pi, pe, S2, hq⟩ : ∃ pi pe S2, playOf S o = (pi, pe, S2) := ⟨_, _, _, rfl⟩
              have HQ := Aside0.mk hq
              have HSTP := Aside0.mk (play_step hq HBN.out)
              clear hq
              go_upto_region 14 with (first | (go_at_call 17; refine (play_after HF6.out o HWO.out hn (Nat.le_trans (HBN.out.doc _) (by omega)) HQ.out).mono ?_; rintro e_ w7 ⟨rfl, hA_⟩; have HA := Aside0.mk hA_; clear hA_ q0 q1 q2 q3))
              have HL7 := Aside0.mk (Live.after HLW6.out HFK.out HA.out)
              obtain ⟨G, hG, hs⟩ := HA.out
              have HG7 := Aside0.mk hG
              have HRW7 := Aside0.mk (show (Kd.int .i64).R 3 w7 wo.heap.size (fun x => wo.heap.size ≤ x) (.slice Ab (befs S 42).length cb) (befs S 42) from
                Kd.R_step HR6.out (fun x hx hlt6 => hs.but.block x hlt6 (fun hFx => by have := HFO.out.lt x hFx; omega)))
              clear hG hs HA HR6
              obtain ⟨ad2, e, q0, q1, q2, q3⟩ := at_T46 (Kd.C_below H2.out HL7.out.low) (i : Int) (by omega) (by omega)
              obtain rfl : ad = ad2 := Option.some.inj e
              rw [Int.toNat_natCast, HOO.out] at q0 q1
              clear e q2 q3
              by_cases hk1 : o.f0 = 1
              · have hd : (o.f0 == (1 : Int)) = true := by rw [hk1]; rfl
                have HAT := Aside0.mk (show ∀ x, x ≠ pi → pe = 0 → stOf S2 x = stOf S x from fun x hx he => by
                  rcases HSTP.out.2 with ⟨h1, _⟩ | ⟨_, _, h3⟩
                  · exact absurd he h1
                  · exact h3 x (by rw [if_pos hk1]; exact hx))
                clear hk1
                go_wp2
                go_loopw [14, 76, 77, 78, 79, 80, 81, 82, 83, 84, 85, 86, 87, 88, 89, 90, 91, 92, 93, 94, 95, 96] (fun v14 _ _ _ _ _ _ _ _ _ _ _ _ _ _ _ _ _ _ _ _ _ wr => ∃ x : Nat, x ≤ 42 ∧ v14 = .int .i64 x ∧ Drawn0 w7 wr) (fun v14 _ _ _ _ _ _ _ _ _ _ _ _ _ _ _ _ _ _ _ _ _ _ => 42 - (intOf v14).toNat)
                case atStart => exact ⟨0, Nat.zero_le _, rfl, by repeat (first | exact Drawn0.refl _ | apply Drawn0.step)⟩
                case round =>
                  clear q0 q1
                  obtain ⟨x, hx, rfl, ⟨n, rfl⟩⟩ := hrel
                  by_cases hx41 : x ≤ 41
                  · have d3 : decide ((x : Int) ≤ 41) = true := decide_eq_true (by omega)
                    have d4 : decide (x ≤ 41) = true := decide_eq_true hx41
                    obtain ⟨s2, hs2⟩ : ∃ s2, stOf S2 (x : Int) = s2 := ⟨_, rfl⟩
                    have HS2 := Aside0.mk hs2
                    obtain ⟨ab, e, qb⟩ := Kd.at_int (Kd.C_drewN (Kd.R_reads' HRW7.out).2.2 n) (x : Int) (by omega) (by rw [befs_len]; omega)
                    subst e
                    rw [Int.toNat_natCast, befs_rd S (by omega)] at qb
                    have qb0 : w7.cell? (ab.add x) = some (.int .i64 (stOf S (x : Int))) := qb
                    have p2 : (0 : Int) ≤ (x : Int) := by omega
                    have p3 : (x : Int) < ((befs S 42).length : Int) := by rw [befs_len]; omega
                    have d5 : decide (x < (befs S 42).length) = true := decide_eq_true (by rw [befs_len]; omega)
                    by_cases hse : s2 = stOf S (x : Int)
                    · have dn : (s2 != stOf S (x : Int)) = false := bne_eq_false_iff_eq.mpr hse
                      clear hs2 hse
                      go_wp2
                      go_quiet (first | (go_at_call 15; refine (state_live (HL7.out.below (by repeat (first | exact Below.refl _ _ | apply pw_below_drewN | apply below_drew))) (x : Int) (wf_small (by omega)) HS2.out).mono ?_; rintro e_ w_ ⟨rfl, he_⟩; first | exact ⟨rfl, _, he_⟩ | (obtain rfl := he_.symm)))
                      go_wp2_with (first | (go_at_call 15; refine (state_live (HL7.out.below (by repeat (first | exact Below.refl _ _ | apply pw_below_drewN | apply below_drew))) (x : Int) (wf_small (by omega)) HS2.out).mono ?_; rintro e_ w_ ⟨rfl, he_⟩; first | exact ⟨rfl, _, he_⟩ | (obtain rfl := he_.symm)))
                      go_roundw
                      case rel => exact ⟨x + 1, by omega, by go_num, by repeat (first | exact Drawn0.refl _ | apply Drawn0.step)⟩
                      case measure => simp [intOf]; omega
                    · have dn : (s2 != stOf S (x : Int)) = true := bne_iff_ne.mpr hse
                      have hpe : pe = 0 := by
                        rcases HSTP.out.2 with ⟨_, h2⟩ | ⟨h1, _⟩
                        · rw [h2] at hs2; exact absurd hs2.symm hse
                        · exact h1
                      have hxa : (x : Int) = pi := by
                        by_cases hxa : (x : Int) = pi
                        · exact hxa
                        · exact absurd (hs2.symm.trans (HAT.out _ hxa hpe)) hse
                      have de : (pe != (0 : Int)) = false := by rw [hpe]; rfl
                      have da : ((x : Int) != pi) = false := bne_eq_false_iff_eq.mpr hxa
                      clear hs2 hse hpe hxa
                      go_wp2
                      go_quiet (first | (go_at_call 15; refine (state_live (HL7.out.below (by repeat (first | exact Below.refl _ _ | apply pw_below_drewN | apply below_drew))) (x : Int) (wf_small (by omega)) HS2.out).mono ?_; rintro e_ w_ ⟨rfl, he_⟩; first | exact ⟨rfl, _, he_⟩ | (obtain rfl := he_.symm)))
                      go_wp2_with (first | (go_at_call 15; refine (state_live (HL7.out.below (by repeat (first | exact Below.refl _ _ | apply pw_below_drewN | apply below_drew))) (x : Int) (wf_small (by omega)) HS2.out).mono ?_; rintro e_ w_ ⟨rfl, he_⟩; first | exact ⟨rfl, _, he_⟩ | (obtain rfl := he_.symm)))
                      go_roundw
                      case rel => exact ⟨x + 1, by omega, by go_num, by repeat (first | exact Drawn0.refl _ | apply Drawn0.step)⟩
                      case measure => simp [intOf]; omega
                  · obtain rfl : x = 42 := by omega
                    have hwn : wrap64 ((S.acts.length : Int) + 1) = (S.acts.length : Int) + 1 := w64r (by omega) (by omega)
                    have HW8 := Aside0.mk (show Below w7.heap.size w7 (w7.drewN n) from pw_below_drewN (Below.refl _ _) n)
                    have hn2 : S2.acts.length ≤ 1000000 := by have := HSTP.out.1.acts; omega
                    have HAC := Aside0.mk (show (pe = 0 → (S2.acts.length : Int) = (S.acts.length : Int) + 1) ∧ (pe ≠ 0 → (S2.acts.length : Int) ≠ (S.acts.length : Int) + 1) from by
                      rcases HSTP.out.2 with ⟨h1, h2⟩ | ⟨h1, h2, _⟩
                      · exact ⟨fun h => absurd h h1, fun _ => by rw [h2]; omega⟩
                      · exact ⟨fun _ => by omega, fun h => absurd h1 h⟩)
                    by_cases hpe : pe = 0
                    · have de : (pe == (0 : Int)) = true := beq_iff_eq.mpr hpe
                      have dl : ((S2.acts.length : Int) == (S.acts.length : Int) + 1) = true := beq_iff_eq.mpr (HAC.out.1 hpe)
                      clear hpe
                      go_wp2_with (first | (go_at_call 16; refine (acts_calls p S2 G _ (HG7.out.below HW8.out) hn2).mono ?_; rintro e_ w9 ⟨v, rfl, hr_, hb_⟩; obtain ⟨Aa2, ca2, rfl⟩ := Kd.R_slice hr_; have HB9 := Aside0.mk (below_then HW8.out HW8.out.size hb_); clear hr_ hb_))
                      go_roundw
                      case rel => exact ⟨i + 1, S2, by omega, by go_num, ⟨HL7.out.below HB9.out⟩, ⟨HSTP.out.1⟩⟩
                      case measure => simp [intOf]; omega
                    · have de : (pe == (0 : Int)) = false := beq_eq_false_iff_ne.mpr hpe
                      have dl : ((S2.acts.length : Int) == (S.acts.length : Int) + 1) = false := beq_eq_false_iff_ne.mpr (HAC.out.2 hpe)
                      clear hpe
                      go_wp2_with (first | (go_at_call 16; refine (acts_calls p S2 G _ (HG7.out.below HW8.out) hn2).mono ?_; rintro e_ w9 ⟨v, rfl, hr_, hb_⟩; obtain ⟨Aa2, ca2, rfl⟩ := Kd.R_slice hr_; have HB9 := Aside0.mk (below_then HW8.out HW8.out.size hb_); clear hr_ hb_))
                      go_roundw
                      case rel => exact ⟨i + 1, S2, by omega, by go_num, ⟨HL7.out.below HB9.out⟩, ⟨HSTP.out.1⟩⟩
                      case measure => simp [intOf]; omega
              · have hd : (o.f0 == (1 : Int)) = false := beq_eq_false_iff_ne.mpr hk1
                have HAT := Aside0.mk (show ∀ x, x ≠ o.f1 → pe = 0 → stOf S2 x = stOf S x from fun x hx he => by
                  rcases HSTP.out.2 with ⟨h1, _⟩ | ⟨_, _, h3⟩
                  · exact absurd he h1
                  · exact h3 x (by rw [if_neg hk1]; exact hx))
                clear hk1
                go_wp2
                go_loopw [14, 76, 77, 78, 79, 80, 81, 82, 83, 84, 85, 86, 87, 88, 89, 90, 91, 92, 93, 94, 95, 96] (fun v14 _ _ _ _ _ _ _ _ _ _ _ _ _ _ _ _ _ _ _ _ _ wr => ∃ x : Nat, x ≤ 42 ∧ v14 = .int .i64 x ∧ Drawn0 w7 wr) (fun v14 _ _ _ _ _ _ _ _ _ _ _ _ _ _ _ _ _ _ _ _ _ _ => 42 - (intOf v14).toNat)
                case atStart => exact ⟨0, Nat.zero_le _, rfl, by repeat (first | exact Drawn0.refl _ | apply Drawn0.step)⟩
                case round =>
                  clear q0 q1
                  obtain ⟨x, hx, rfl, ⟨n, rfl⟩⟩ := hrel
                  by_cases hx41 : x ≤ 41
                  · have d3 : decide ((x : Int) ≤ 41) = true := decide_eq_true (by omega)
                    have d4 : decide (x ≤ 41) = true := decide_eq_true hx41
                    obtain ⟨s2, hs2⟩ : ∃ s2, stOf S2 (x : Int) = s2 := ⟨_, rfl⟩
                    have HS2 := Aside0.mk hs2
                    obtain ⟨ab, e, qb⟩ := Kd.at_int (Kd.C_drewN (Kd.R_reads' HRW7.out).2.2 n) (x : Int) (by omega) (by rw [befs_len]; omega)
                    subst e
                    rw [Int.toNat_natCast, befs_rd S (by omega)] at qb
                    have qb0 : w7.cell? (ab.add x) = some (.int .i64 (stOf S (x : Int))) := qb
                    have p2 : (0 : Int) ≤ (x : Int) := by omega
                    have p3 : (x : Int) < ((befs S 42).length : Int) := by rw [befs_len]; omega
                    have d5 : decide (x < (befs S 42).length) = true := decide_eq_true (by rw [befs_len]; omega)
                    by_cases hse : s2 = stOf S (x : Int)
                    · have dn : (s2 != stOf S (x : Int)) = false := bne_eq_false_iff_eq.mpr hse
                      clear hs2 hse
                      go_wp2
                      go_quiet (first | (go_at_call 15; refine (state_live (HL7.out.below (by repeat (first | exact Below.refl _ _ | apply pw_below_drewN | apply below_drew))) (x : Int) (wf_small (by omega)) HS2.out).mono ?_; rintro e_ w_ ⟨rfl, he_⟩; first | exact ⟨rfl, _, he_⟩ | (obtain rfl := he_.symm)))
                      go_wp2_with (first | (go_at_call 15; refine (state_live (HL7.out.below (by repeat (first | exact Below.refl _ _ | apply pw_below_drewN | apply below_drew))) (x : Int) (wf_small (by omega)) HS2.out).mono ?_; rintro e_ w_ ⟨rfl, he_⟩; first | exact ⟨rfl, _, he_⟩ | (obtain rfl := he_.symm)))
                      go_roundw
                      case rel => exact ⟨x + 1, by omega, by go_num, by repeat (first | exact Drawn0.refl _ | apply Drawn0.step)⟩
                      case measure => simp [intOf]; omega
                    · have dn : (s2 != stOf S (x : Int)) = true := bne_iff_ne.mpr hse
                      have hpe : pe = 0 := by
                        rcases HSTP.out.2 with ⟨_, h2⟩ | ⟨h1, _⟩
                        · rw [h2] at hs2; exact absurd hs2.symm hse
                        · exact h1
                      have hxa : (x : Int) = o.f1 := by
                        by_cases hxa : (x : Int) = o.f1
                        · exact hxa
                        · exact absurd (hs2.symm.trans (HAT.out _ hxa hpe)) hse
                      have de : (pe != (0 : Int)) = false := by rw [hpe]; rfl
                      have da : ((x : Int) != o.f1) = false := bne_eq_false_iff_eq.mpr hxa
                      clear hs2 hse hpe hxa
                      go_wp2
                      go_quiet (first | (go_at_call 15; refine (state_live (HL7.out.below (by repeat (first | exact Below.refl _ _ | apply pw_below_drewN | apply below_drew))) (x : Int) (wf_small (by omega)) HS2.out).mono ?_; rintro e_ w_ ⟨rfl, he_⟩; first | exact ⟨rfl, _, he_⟩ | (obtain rfl := he_.symm)))
                      go_wp2_with (first | (go_at_call 15; refine (state_live (HL7.out.below (by repeat (first | exact Below.refl _ _ | apply pw_below_drewN | apply below_drew))) (x : Int) (wf_small (by omega)) HS2.out).mono ?_; rintro e_ w_ ⟨rfl, he_⟩; first | exact ⟨rfl, _, he_⟩ | (obtain rfl := he_.symm)))
                      go_roundw
                      case rel => exact ⟨x + 1, by omega, by go_num, by repeat (first | exact Drawn0.refl _ | apply Drawn0.step)⟩
                      case measure => simp [intOf]; omega
                  · obtain rfl : x = 42 := by omega
                    have hwn : wrap64 ((S.acts.length : Int) + 1) = (S.acts.length : Int) + 1 := w64r (by omega) (by omega)
                    have HW8 := Aside0.mk (show Below w7.heap.size w7 (w7.drewN n) from pw_below_drewN (Below.refl _ _) n)
                    have hn2 : S2.acts.length ≤ 1000000 := by have := HSTP.out.1.acts; omega
                    have HAC := Aside0.mk (show (pe = 0 → (S2.acts.length : Int) = (S.acts.length : Int) + 1) ∧ (pe ≠ 0 → (S2.acts.length : Int) ≠ (S.acts.length : Int) + 1) from by
                      rcases HSTP.out.2 with ⟨h1, h2⟩ | ⟨h1, h2, _⟩
                      · exact ⟨fun h => absurd h h1, fun _ => by rw [h2]; omega⟩
                      · exact ⟨fun _ => by omega, fun h => absurd h1 h⟩)
                    by_cases hpe : pe = 0
                    · have de : (pe == (0 : Int)) = true := beq_iff_eq.mpr hpe
                      have dl : ((S2.acts.length : Int) == (S.acts.length : Int) + 1) = true := beq_iff_eq.mpr (HAC.out.1 hpe)
                      clear hpe
                      go_wp2_with (first | (go_at_call 16; refine (acts_calls p S2 G _ (HG7.out.below HW8.out) hn2).mono ?_; rintro e_ w9 ⟨v, rfl, hr_, hb_⟩; obtain ⟨Aa2, ca2, rfl⟩ := Kd.R_slice hr_; have HB9 := Aside0.mk (below_then HW8.out HW8.out.size hb_); clear hr_ hb_))
                      go_roundw
                      case rel => exact ⟨i + 1, S2, by omega, by go_num, ⟨HL7.out.below HB9.out⟩, ⟨HSTP.out.1⟩⟩
                      case measure => simp [intOf]; omega
                    · have de : (pe == (0 : Int)) = false := beq_eq_false_iff_ne.mpr hpe
                      have dl : ((S2.acts.length : Int) == (S.acts.length : Int) + 1) = false := beq_eq_false_iff_ne.mpr (HAC.out.2 hpe)
                      clear hpe
                      go_wp2_with (first | (go_at_call 16; refine (acts_calls p S2 G _ (HG7.out.below HW8.out) hn2).mono ?_; rintro e_ w9 ⟨v, rfl, hr_, hb_⟩; obtain ⟨Aa2, ca2, rfl⟩ := Kd.R_slice hr_; have HB9 := Aside0.mk (below_then HW8.out HW8.out.size hb_); clear hr_ hb_))
                      go_roundw
                      case rel => exact ⟨i + 1, S2, by omega, by go_num, ⟨HL7.out.below HB9.out⟩, ⟨HSTP.out.1⟩⟩
                      case measure => simp [intOf]; omega
        · obtain rfl : i = ops.length := by omega
          have d1 : decide ((ops.length : Int) < (ops.length : Int)) = false := decide_eq_false (by omega)
          go_wp2_with (first | (go_at_call 10; refine (lives_calls _).mono ?_; rintro e w4 ⟨rfl, hb_⟩; have HB4 := Aside0.mk hb_; clear hb_))
          go_ret
          exact ⟨rfl, below_then HL.out.low HL.out.low.size HB4.out⟩
  · have HNE := Aside0.mk hne
    have hn1 : (err != 0) = true := bne_iff_ne.mpr hne
    clear hne
    cases b
    · go_upto_region 2 with (first | (go_at_call 11; refine (new_bad (Kd.C_below H0.out HB1.out) hc0 (Kd.C_below H1.out HB1.out) HR.out HE.out HNE.out).mono ?_; rintro e w2 ⟨rfl, hb_⟩; have HB12 := Aside0.mk hb_; clear hb_ b0 b1))
      have HB2 := Aside0.mk (below_then HB1.out HB1.out.size HB12.out)
      have BK2 := blk_below HBK.out HB12.out
      have b0 := (blk_cell BK2 0).trans rfl
      have b1 := (blk_cell BK2 1).trans rfl
      clear BK2
      go_wp2_with (first | (go_at_call 9; refine (accountinglaw15_light.calls kl A0 c0 steps A1 c1 apprs A2 c2 ops false _ (Kd.C_below H0.out HB2.out) hc0 (Kd.C_below H1.out HB2.out) hc1 (Kd.C_below H2.out HB2.out) hc2 HLT.out).mono ?_; rintro e w3 ⟨rfl, hb_⟩; have HB3 := Aside0.mk (below_then HB2.out HB2.out.size hb_); clear hb_ b0 b1) | (go_at_call 10; refine (lives_calls _).mono ?_; rintro e w4 ⟨rfl, hb_⟩; have HB4 := Aside0.mk hb_; clear hb_))
      go_ret
      exact ⟨rfl, below_then HB3.out HB3.out.size HB4.out⟩
    · go_upto_region 2 with (first | (go_at_call 11; refine (new_bad (Kd.C_below H0.out HB1.out) hc0 (Kd.C_below H1.out HB1.out) HR.out HE.out HNE.out).mono ?_; rintro e w2 ⟨rfl, hb_⟩; have HB12 := Aside0.mk hb_; clear hb_ b0 b1))
      have HB2 := Aside0.mk (below_then HB1.out HB1.out.size HB12.out)
      have BK2 := blk_below HBK.out HB12.out
      have b0 := (blk_cell BK2 0).trans rfl
      have b1 := (blk_cell BK2 1).trans rfl
      clear BK2
      go_wp2_with (first | (go_at_call 9; refine (accountinglaw15_light.calls kl A0 c0 steps A1 c1 apprs A2 c2 ops true _ (Kd.C_below H0.out HB2.out) hc0 (Kd.C_below H1.out HB2.out) hc1 (Kd.C_below H2.out HB2.out) hc2 HLT.out).mono ?_; rintro e w3 ⟨rfl, hb_⟩; have HB3 := Aside0.mk (below_then HB2.out HB2.out.size hb_); clear hb_ b0 b1) | (go_at_call 10; refine (lives_calls _).mono ?_; rintro e w4 ⟨rfl, hb_⟩; have HB4 := Aside0.mk hb_; clear hb_))
      go_ret
      exact ⟨rfl, below_then HB3.out HB3.out.size HB4.out⟩
/-- The law's value: true where the lists are no longer than any Go slice and each number is an int. -/
def accountinglaw15_FlowApart.f (l0_0 : List S60) (l0_1 : List ByteArray) (l1 : List S46) : Option Bool := if steps_ok l0_0 l1 then some true else none
theorem accountinglaw15_FlowApart.calls (A0_0 : Option Addr) (c0_0 : Nat) (l0_0 : List S60) (A0_1 : Option Addr) (c0_1 : Nat) (l0_1 : List ByteArray) (A1 : Option Addr) (c1 : Nat) (l1 : List S46) (r : Bool) (w : World) (hr0_0 : Kd.C k60 w A0_0 l0_0.length l0_0) (hc0_0 : l0_0.length ≤ c0_0) (hr0_1 : Kd.C Kd.string w A0_1 l0_1.length l0_1) (hc0_1 : l0_1.length ≤ c0_1) (hr1 : Kd.C k46 w A1 l1.length l1) (hc1 : l1.length ≤ c1) (h : accountinglaw15_FlowApart.f l0_0 l0_1 l1 = some r) :
    Calls Try.prog 4 #[.agg #[.slice A0_0 l0_0.length c0_0, .slice A0_1 l0_1.length c0_1], .slice A1 l1.length c1] w fun e w' => e = .returned (.bool r) ∧ Below w.heap.size w w' := by
  unfold accountinglaw15_FlowApart.f at h
  split at h
  · rename_i hok
    obtain rfl := Option.some.inj h
    exact flowApart_calls A0_0 c0_0 l0_0 A0_1 c0_1 l0_1 A1 c1 l1 w hr0_0 hc0_0 hr0_1 hc0_1 hr1 hc1 hok.1 hok.2
  · cases h
section
variable {A0 A1 : Option Addr} {c0 c1 : Nat} {steps : List S60} {apprs : List ByteArray} {w : World}
theorem rnew_bad (h0 : Kd.C k60 w A0 steps.length steps) (hc0 : steps.length ≤ c0) (h1 : Kd.string.C w A1 apprs.length apprs) (hc1 : apprs.length ≤ c1) {kn : Nat} {err : Int} (hr : accountingref15_New.f kn steps apprs = some err) (hne : err ≠ 0) :
    Calls Try.prog 12 #[.slice A0 steps.length c0, .slice A1 apprs.length c1] w fun e w' => e = .returned (.tuple #[.pointer none, .int .i64 err]) ∧ Below w.heap.size w w' := by
  refine (rnew_calls kn A0 c0 steps A1 c1 apprs err w h0 hc0 h1 hc1 (fun h => absurd h hne) hr).mono ?_
  rintro e w' ⟨hb, ⟨_, rfl⟩ | ⟨h, _⟩⟩
  · exact ⟨rfl, hb⟩
  · exact absurd h hne
theorem rnew_good (h0 : Kd.C k60 w A0 steps.length steps) (hc0 : steps.length ≤ c0) (h1 : Kd.string.C w A1 apprs.length apprs) (hc1 : apprs.length ≤ c1) {kn : Nat} (hr : accountingref15_New.f kn steps apprs = some 0) (hl : steps.length ≤ 200 ∧ apprs.length ≤ 200) :
    Calls Try.prog 12 #[.slice A0 steps.length c0, .slice A1 apprs.length c1] w fun e w' => Below w.heap.size w w' ∧ ∃ q F, e = .returned (.tuple #[.pointer (some ⟨q, 0, none⟩), .int .i64 0]) ∧ Rfl w' F q ⟨steps, apprs, [], []⟩ ∧ ∀ k, F k → w.heap.size ≤ k := by
  refine (rnew_calls kn A0 c0 steps A1 c1 apprs 0 w h0 hc0 h1 hc1 (fun _ => hl) hr).mono ?_
  rintro e w' ⟨hb, ⟨h, _⟩ | ⟨_, q, F, rfl, hF, hk⟩⟩
  · exact absurd rfl h
  · exact ⟨hb, q, F, rfl, hF, hk⟩
end
set_option maxHeartbeats 16000000 in
set_option maxRecDepth 100000 in
theorem flowNew_calls (A0 : Option Addr) (c0 : Nat) (steps : List S60) (A1 : Option Addr) (c1 : Nat) (apprs : List ByteArray) (v : Int) (w : World)
    (h0 : Kd.C k60 w A0 steps.length steps) (hc0 : steps.length ≤ c0) (h1 : Kd.string.C w A1 apprs.length apprs) (hc1 : apprs.length ≤ c1) :
    Calls Try.prog 3 #[.agg #[.slice A0 steps.length c0, .slice A1 apprs.length c1], .int .i64 v] w fun e w' => e = .returned (.bool true) ∧ Below w.heap.size w w' := by
  obtain ⟨b, kl, hlt, _⟩ := light_some steps apprs []
  have H0 := Aside0.mk h0
  have H1 := Aside0.mk h1
  have HLT := Aside0.mk hlt
  have HNN := Aside0.mk (Kd.R_reads' (Kd.R_nil k46 46 w 0 (fun _ => True))).2.2
  clear h0 h1
  go_enter Try.func3, Try.ntmps3
  go_upto_region 1 with (fail)
  refine with_world (P := fun x => Code.wp _ _ _ _ x) _ ?_
  intro w1 hw1
  have BK : w1.heap[w.heap.size]? = some (.cells #[.slice A0 steps.length c0, .slice A1 apprs.length c1] 25 (0, 0)) := by rw [hw1]; exact blk_new w _
  have HB1 := Aside0.mk (show Below w.heap.size w w1 from by rw [hw1]; exact below_alloc (Below.refl _ _) _)
  obtain ⟨g, hg⟩ : ∃ g, w.heap.size = g := ⟨_, rfl⟩
  rw [hg] at BK ⊢
  clear hw1 hg
  have HBK := Aside0.mk BK
  have b0 := (blk_cell BK 0).trans rfl
  have b1 := (blk_cell BK 1).trans rfl
  clear BK
  cases b
  · clear hlt
    go_wp2_with (first | (go_at_call 9; refine (accountinglaw15_light.calls kl A0 c0 steps A1 c1 apprs none 0 [] false _ (Kd.C_below H0.out HB1.out) hc0 (Kd.C_below H1.out HB1.out) hc1 (Kd.R_reads' (Kd.R_nil k46 46 _ 0 (fun _ => True))).2.2 (Nat.le_refl _) HLT.out).mono ?_; rintro e w3 ⟨rfl, hb_⟩; have HB3 := Aside0.mk (below_then HB1.out HB1.out.size hb_); clear hb_ b0 b1) | (go_at_call 10; refine (lives_calls _).mono ?_; rintro e w4 ⟨rfl, hb_⟩; have HB4 := Aside0.mk hb_; clear hb_))
    go_ret
    exact ⟨rfl, below_then HB3.out HB3.out.size HB4.out⟩
  obtain ⟨l1, l2, _, l4⟩ := light_all hlt
  obtain ⟨rt, kr, kn, hr, hn⟩ := rnew_both steps apprs (by omega) (by omega) (fun a ha => by have := l4 a ha; omega)
  obtain ⟨err, he⟩ : ∃ err, newErr rt steps apprs = err := ⟨_, rfl⟩
  have HR := Aside0.mk hr
  have HN := Aside0.mk (he ▸ hn)
  have HE := Aside0.mk he
  clear hr hn he hlt l1 l2 l4
  go_upto_region 3 with (first | (go_at_call 9; refine (accountinglaw15_light.calls kl A0 c0 steps A1 c1 apprs none 0 [] true _ (Kd.C_below H0.out HB1.out) hc0 (Kd.C_below H1.out HB1.out) hc1 (Kd.R_reads' (Kd.R_nil k46 46 _ 0 (fun _ => True))).2.2 (Nat.le_refl _) HLT.out).mono ?_; rintro e w2 ⟨rfl, hb_⟩; have HB12 := Aside0.mk hb_; clear hb_ b0 b1))
  have HB2 := Aside0.mk (below_then HB1.out HB1.out.size HB12.out)
  have HBK2 := Aside0.mk (blk_below HBK.out HB12.out)
  clear HB12 HB1 HBK
  have b0 := (blk_cell HBK2.out 0).trans rfl
  have b1 := (blk_cell HBK2.out 1).trans rfl
  by_cases hne : err = 0
  · subst hne
    go_upto_region 4 with (first | (go_at_call 11; refine (new_good (Kd.C_below H0.out HB2.out) hc0 (Kd.C_below H1.out HB2.out) HR.out HE.out).mono ?_; rintro e w3 ⟨hb_, p, rfl, hl_⟩; have HB23 := Aside0.mk hb_; have HL3 := Aside0.mk hl_; clear hb_ hl_ b0 b1))
    have HB3 := Aside0.mk (below_then HB2.out HB2.out.size HB23.out)
    have HBK3 := Aside0.mk (blk_below HBK2.out HB23.out)
    clear HBK2
    have b0 := (blk_cell HBK3.out 0).trans rfl
    have b1 := (blk_cell HBK3.out 1).trans rfl
    have HLN := Aside0.mk (newErr_len HE.out)
    go_upto_region 7 with (first | (go_at_call 12; refine (rnew_good (Kd.C_below H0.out HB3.out) hc0 (Kd.C_below H1.out HB3.out) hc1 HN.out HLN.out).mono ?_; rintro e w4 ⟨hb_, q, F, rfl, hF, hk⟩; have HB34 := Aside0.mk hb_; have HF4 := Aside0.mk hF; clear hb_ hF hk b0 b1))
    have HB4 := Aside0.mk (below_then HB3.out HB3.out.size HB34.out)
    have HL4 := Aside0.mk (HL3.out.below HB34.out)
    obtain ⟨⟨nn, ok⟩, hnn⟩ : ∃ z, needOf steps v = z := ⟨_, rfl⟩
    have HNN2 := Aside0.mk hnn
    clear hnn
    obtain ⟨Fp, hFp, _⟩ := HL4.out.ex
    have HFp := Aside0.mk hFp
    clear hFp
    go_upto_region 8 with (first | (go_at_call 13; refine (need_is HNN2.out HFp.out).mono ?_; rintro e w5 ⟨rfl, hb_⟩; have HB45 := Aside0.mk hb_; clear hb_))
    have HB5 := Aside0.mk (below_then HB4.out HB4.out.size HB45.out)
    go_wp2_with (first | (go_at_call 14; refine (rneed_is HNN2.out (HF4.out.below HB45.out)).mono ?_; rintro e w6 ⟨rfl, he_⟩; obtain rfl := he_.symm) | (go_at_call 10; refine (lives_calls _).mono ?_; rintro e w7 ⟨rfl, hb_⟩; have HB7 := Aside0.mk hb_; clear hb_))
    go_ret
    exact ⟨by simp, below_then HB5.out HB5.out.size HB7.out⟩
  · have HNE := Aside0.mk hne
    clear hne
    go_upto_region 4 with (first | (go_at_call 11; refine (new_bad (Kd.C_below H0.out HB2.out) hc0 (Kd.C_below H1.out HB2.out) HR.out HE.out HNE.out).mono ?_; rintro e w3 ⟨rfl, hb_⟩; have HB23 := Aside0.mk hb_; clear hb_ b0 b1))
    have HB3 := Aside0.mk (below_then HB2.out HB2.out.size HB23.out)
    have HBK3 := Aside0.mk (blk_below HBK2.out HB23.out)
    clear HBK2
    have b0 := (blk_cell HBK3.out 0).trans rfl
    have b1 := (blk_cell HBK3.out 1).trans rfl
    go_wp2_with (first | (go_at_call 12; refine (rnew_bad (Kd.C_below H0.out HB3.out) hc0 (Kd.C_below H1.out HB3.out) hc1 HN.out HNE.out).mono ?_; rintro e w4 ⟨rfl, hb_⟩; have HB4 := Aside0.mk (below_then HB3.out HB3.out.size hb_); clear hb_ b0 b1) | (go_at_call 13; refine (need_nil v _).mono ?_; rintro e w5 ⟨rfl, he_⟩; obtain rfl := he_.symm) | (go_at_call 14; refine (rneed_nil v _).mono ?_; rintro e w6 ⟨rfl, he_⟩; obtain rfl := he_.symm) | (go_at_call 10; refine (lives_calls _).mono ?_; rintro e w7 ⟨rfl, hb_⟩; have HB7 := Aside0.mk hb_; clear hb_))
    go_ret
    exact ⟨by simp, below_then HB4.out HB4.out.size HB7.out⟩
def accountinglaw15_FlowNew.f (l0_0 : List S60) (l0_1 : List ByteArray) (a1 : Int) : Option Bool := some true
theorem accountinglaw15_FlowNew.calls (A0_0 : Option Addr) (c0_0 : Nat) (l0_0 : List S60) (A0_1 : Option Addr) (c0_1 : Nat) (l0_1 : List ByteArray) (a1 : Int) (r : Bool) (w : World) (hr0_0 : Kd.C k60 w A0_0 l0_0.length l0_0) (hc0_0 : l0_0.length ≤ c0_0) (hr0_1 : Kd.C Kd.string w A0_1 l0_1.length l0_1) (hc0_1 : l0_1.length ≤ c0_1) (h : accountinglaw15_FlowNew.f l0_0 l0_1 a1 = some r) :
    Calls Try.prog 3 #[.agg #[.slice A0_0 l0_0.length c0_0, .slice A0_1 l0_1.length c0_1], .int .i64 a1] w fun e w' => e = .returned (.bool r) ∧ Below w.heap.size w w' := by
  obtain rfl := Option.some.inj h
  exact flowNew_calls A0_0 c0_0 l0_0 A0_1 c0_1 l0_1 a1 w hr0_0 hc0_0 hr0_1 hc0_1
end Go.Proofs.Ytbbhichndfbooaa.P
namespace Go.Proofs.Ytbbhichndfbooaa.Op
open Go.RowKit Go.Proofs.YtbbhichndfbooaaW.PrintWords Go.ChangeShapes Go.WideShapes Go.Deep
def FitL {α : Type} (f : α → Prop) (xs : List α) : Prop := xs.length ≤ maxLen ∧ ∀ x ∈ xs, f x
/-- Whatever is read at type t is of the kind k, and fits. -/
def Opn (P : Program) (t : TypeId) {α : Type} (k : Kd α) (fit : α → Prop) : Prop :=
  ∀ {H : Type} {enc : TypeId × Value → H} {w : World} {fuel : Nat} {cs : List Value} {x : DataW H × List MemPlace}, DataW.trod enc P w 0 (fun _ => true) true fuel t cs = some x → ∃ y, k.K w y cs ∧ fit y
section
variable {P : Program}
theorem opn_int {t : TypeId} {k : IntKind} (ht : P.underlying t = some (.int k)) : Opn P t (Kd.int k) (fun n => (Lit.int k n).wf = true) := by
  intro H enc w fuel cs x h
  obtain ⟨n, rfl, _, hn⟩ := DataW.trod_int ht h
  exact ⟨n, rfl, hn⟩
theorem opn_bool {t : TypeId} (ht : P.underlying t = some .bool) : Opn P t Kd.bool (fun _ => True) := by
  intro H enc w fuel cs x h
  obtain ⟨b, rfl, _⟩ := DataW.trod_bool ht h
  exact ⟨b, rfl, trivial⟩
theorem opn_string {t : TypeId} (ht : P.underlying t = some .string) : Opn P t Kd.string (fun s => s.size ≤ maxLen) := by
  intro H enc w fuel cs x h
  obtain ⟨s, rfl, _, hs⟩ := DataW.trod_string ht h
  exact ⟨s, rfl, hs⟩
theorem opn_slice {t e : TypeId} {α : Type} {d : Kd α} {f : α → Prop} (ht : P.underlying t = some (.slice e)) (hC : P.cellsOf e = d.sz) (he : Opn P e d f) : Opn P t (Kd.slice e d) (FitL f) := by
  intro H enc w fuel cs x h
  rcases open_slice ht h with ⟨rfl, _⟩ | ⟨a, len, cap, m, n, D, Pl, rfl, hb, hl, hm, hmm, hx, hi⟩
  · exact ⟨[], ⟨none, 0, rfl, Nat.le_refl _, ⟨rfl, by simp, fun h => by simp at h⟩⟩, by simp, fun x hx => by simp at hx⟩
  · have hmc : m = cap := by rw [hmm]; simp
    have build : ∀ k, k ≤ len → ∃ ys : List α, ys.length = k ∧ (∀ y ∈ ys, f y) ∧ ∀ i y, ys[i]? = some y → ∃ c, c.length = d.sz ∧ d.K w y c ∧ ∀ j u, c[j]? = some u → w.cell? (a.add (i * d.sz + j)) = some u := by
      intro k
      induction k with
      | zero => exact fun _ => ⟨[], rfl, fun y hy => by simp at hy, fun i y hy => by simp at hy⟩
      | succ k ih =>
        intro hk
        obtain ⟨ys, hyl, hyf, hyc⟩ := ih (by omega)
        obtain ⟨cs', hc, ht'⟩ := hi k (by omega)
        obtain ⟨y, K, fy⟩ := he ht'
        rw [hC] at hc
        obtain ⟨_, hcl, hat⟩ := World.cells?_some hc
        refine ⟨ys ++ [y], by simp [hyl], fun z hz => ?_, fun i z hz => ?_⟩
        · rcases List.mem_append.1 hz with hz | hz
          · exact hyf z hz
          · rw [List.mem_singleton.1 hz]; exact fy
        · rcases Nat.lt_or_ge i ys.length with hlt | hge
          · rw [List.getElem?_append_left hlt] at hz
            exact hyc i z hz
          · have hil : i = ys.length := by
              have := (List.getElem?_eq_some_iff.1 hz).1
              simp at this; omega
            subst hil
            obtain rfl : y = z := by simpa using hz
            refine ⟨cs', hcl, K, fun j u hu => ?_⟩
            have hj : j < d.sz := by have := (List.getElem?_eq_some_iff.1 hu).1; omega
            rw [← Go.Deep.add_add, hyl, hat j hj, hu]
    obtain ⟨ys, hyl, hyf, hyc⟩ := build len (Nat.le_refl _)
    have hml : maxLen ≤ 9223372036854775807 := by unfold maxLen; omega
    exact ⟨ys, ⟨some a, cap, by rw [hyl], by omega, by rw [hyl]; exact ⟨hyl, by omega, fun _ => ⟨a, rfl, hyc⟩⟩⟩, by omega, hyf⟩
theorem Opn.last {α : Type} {k : Kd α} {w : World} {y : α} {cs : List Value} {o s : Nat} (h : k.K w y ((cs.drop o).take s)) (hl : cs.length ≤ o + s) : k.K w y (cs.drop o) := by
  rwa [List.take_of_length_le (by simp; omega)] at h
theorem Opn.cons {α β : Type} {a : Kd α} {b : Kd β} {w : World} {x : α} {y : β} {cs : List Value} {o s : Nat} (h : a.K w x ((cs.drop o).take s)) (k : b.K w y (cs.drop (o + s))) : (Kd.pair a b).K w (x, y) (cs.drop o) :=
  ⟨_, _, (by rw [← List.drop_drop]; exact (List.take_append_drop s (cs.drop o)).symm), h, k⟩
theorem Opn.zero {α : Type} {k : Kd α} {w : World} {y : α} {cs : List Value} (h : k.K w y (cs.drop 0)) : k.K w y cs := h
theorem opened_slice {H : Type} {enc : TypeId × Value → H} {w : World} {t e : TypeId} {α : Type} {d : Kd α} {f : α → Prop} {A : Option Addr} {len cap : Nat} {dd : DataW H} {ps : List MemPlace} (ho : Opn P t (Kd.slice e d) (FitL f))
    (h : DataW.Trod enc P w 0 (fun _ => true) true t (.slice A len cap) dd ps) : ∃ l : List α, l.length = len ∧ l.length ≤ cap ∧ d.C w A l.length l ∧ FitL f l := by
  obtain ⟨fuel, hf⟩ := h
  obtain ⟨y, ⟨A', c, e1, hl, hC⟩, fy⟩ := ho hf
  have e2 : Value.slice A len cap = Value.slice A' y.length c := by simpa [Value.cells] using e1
  injection e2 with e3 e4 e5
  subst e3 e4 e5
  exact ⟨y, rfl, hl, hC, fy⟩
theorem opened_struct {H : Type} {enc : TypeId × Value → H} {w : World} {t : TypeId} {α : Type} {d : Kd α} {f : α → Prop} {cs : Array Value} {dd : DataW H} {ps : List MemPlace} (ho : Opn P t d f)
    (h : DataW.Trod enc P w 0 (fun _ => true) true t (.agg cs) dd ps) : ∃ y : α, d.K w y cs.toList ∧ f y := by
  obtain ⟨fuel, hf⟩ := h
  exact ho hf
end
end Go.Proofs.Ytbbhichndfbooaa.Op
namespace Go.Proofs.Ytbbhichndfbooaa.P
open Go.RowKit Go.Proofs.YtbbhichndfbooaaW.PrintWords Go.Proofs.YtbbhichndfbooaaW.PrintLast
open Go.Proofs.Ytbbhichndfbooaa.Op
set_option linter.unusedVariables false
def fit60 (x : S60) : Prop := (fun n => (Lit.int .i64 n).wf = true) x.f0 ∧ (fun n => (Lit.int .i64 n).wf = true) x.f1
theorem opn60 : Opn Try.prog 60 k60 fit60 := by
  intro H enc w fuel cs x h
  obtain ⟨xs, n, _, _, hlen, hxl, hg⟩ := DataW.trod_struct Try.underlying60 h
  have hlen : cs.length = 2 := hlen.trans (by kernel_rfl)
  have g0 := (hg 0 _ rfl).trans (List.getElem?_eq_getElem (show 0 < xs.length by rw [hxl]; decide))
  change DataW.trod _ _ _ _ _ _ _ 3 (List.take (Try.prog.cellsOf 3) (List.drop 0 cs)) = _ at g0
  rw [show Try.prog.cellsOf 3 = 1 by kernel_rfl] at g0
  obtain ⟨y0, K0, f0⟩ := (opn_int Try.underlying3) g0
  have g1 := (hg 1 _ rfl).trans (List.getElem?_eq_getElem (show 1 < xs.length by rw [hxl]; decide))
  change DataW.trod _ _ _ _ _ _ _ 3 (List.take (Try.prog.cellsOf 3) (List.drop 1 cs)) = _ at g1
  rw [show Try.prog.cellsOf 3 = 1 by kernel_rfl] at g1
  obtain ⟨y1, K1, f1⟩ := (opn_int Try.underlying3) g1
  exact ⟨⟨y0, y1⟩, (show (Kd.pair (Kd.int .i64) (Kd.int .i64)).K w (y0, y1) cs from Opn.zero (Opn.cons K0 (Opn.last K1 (by omega)))), ⟨f0, f1⟩⟩
def fit25 (x : S25) : Prop := (FitL fit60) x.f0 ∧ (FitL (fun s => s.size ≤ maxLen)) x.f1
theorem opn25 : Opn Try.prog 25 k25 fit25 := by
  intro H enc w fuel cs x h
  obtain ⟨xs, n, _, _, hlen, hxl, hg⟩ := DataW.trod_struct Try.underlying25 h
  have hlen : cs.length = 2 := hlen.trans (by kernel_rfl)
  have g0 := (hg 0 _ rfl).trans (List.getElem?_eq_getElem (show 0 < xs.length by rw [hxl]; decide))
  change DataW.trod _ _ _ _ _ _ _ 22 (List.take (Try.prog.cellsOf 22) (List.drop 0 cs)) = _ at g0
  rw [show Try.prog.cellsOf 22 = 1 by kernel_rfl] at g0
  obtain ⟨y0, K0, f0⟩ := (opn_slice Try.underlying22 (by kernel_rfl) opn60) g0
  have g1 := (hg 1 _ rfl).trans (List.getElem?_eq_getElem (show 1 < xs.length by rw [hxl]; decide))
  change DataW.trod _ _ _ _ _ _ _ 23 (List.take (Try.prog.cellsOf 23) (List.drop 1 cs)) = _ at g1
  rw [show Try.prog.cellsOf 23 = 1 by kernel_rfl] at g1
  obtain ⟨y1, K1, f1⟩ := (opn_slice Try.underlying23 (by kernel_rfl) (opn_string Try.underlying9)) g1
  exact ⟨⟨y0, y1⟩, (show (Kd.pair (Kd.slice 60 k60) (Kd.slice 9 Kd.string)).K w (y0, y1) cs from Opn.zero (Opn.cons K0 (Opn.last K1 (by omega)))), ⟨f0, f1⟩⟩
def fit46 (x : S46) : Prop := (fun n => (Lit.int .i64 n).wf = true) x.f0 ∧ (fun n => (Lit.int .i64 n).wf = true) x.f1 ∧ (fun s => s.size ≤ maxLen) x.f2 ∧ (fun n => (Lit.int .i64 n).wf = true) x.f3
theorem opn46 : Opn Try.prog 46 k46 fit46 := by
  intro H enc w fuel cs x h
  obtain ⟨xs, n, _, _, hlen, hxl, hg⟩ := DataW.trod_struct Try.underlying46 h
  have hlen : cs.length = 4 := hlen.trans (by kernel_rfl)
  have g0 := (hg 0 _ rfl).trans (List.getElem?_eq_getElem (show 0 < xs.length by rw [hxl]; decide))
  change DataW.trod _ _ _ _ _ _ _ 3 (List.take (Try.prog.cellsOf 3) (List.drop 0 cs)) = _ at g0
  rw [show Try.prog.cellsOf 3 = 1 by kernel_rfl] at g0
  obtain ⟨y0, K0, f0⟩ := (opn_int Try.underlying3) g0
  have g1 := (hg 1 _ rfl).trans (List.getElem?_eq_getElem (show 1 < xs.length by rw [hxl]; decide))
  change DataW.trod _ _ _ _ _ _ _ 3 (List.take (Try.prog.cellsOf 3) (List.drop 1 cs)) = _ at g1
  rw [show Try.prog.cellsOf 3 = 1 by kernel_rfl] at g1
  obtain ⟨y1, K1, f1⟩ := (opn_int Try.underlying3) g1
  have g2 := (hg 2 _ rfl).trans (List.getElem?_eq_getElem (show 2 < xs.length by rw [hxl]; decide))
  change DataW.trod _ _ _ _ _ _ _ 9 (List.take (Try.prog.cellsOf 9) (List.drop 2 cs)) = _ at g2
  rw [show Try.prog.cellsOf 9 = 1 by kernel_rfl] at g2
  obtain ⟨y2, K2, f2⟩ := (opn_string Try.underlying9) g2
  have g3 := (hg 3 _ rfl).trans (List.getElem?_eq_getElem (show 3 < xs.length by rw [hxl]; decide))
  change DataW.trod _ _ _ _ _ _ _ 3 (List.take (Try.prog.cellsOf 3) (List.drop 3 cs)) = _ at g3
  rw [show Try.prog.cellsOf 3 = 1 by kernel_rfl] at g3
  obtain ⟨y3, K3, f3⟩ := (opn_int Try.underlying3) g3
  exact ⟨⟨y0, y1, y2, y3⟩, (show (Kd.pair (Kd.int .i64) (Kd.pair (Kd.int .i64) (Kd.pair Kd.string (Kd.int .i64)))).K w (y0, y1, y2, y3) cs from Opn.zero (Opn.cons K0 (Opn.cons K1 (Opn.cons K2 (Opn.last K3 (by omega)))))), ⟨f0, f1, f2, f3⟩⟩
end Go.Proofs.Ytbbhichndfbooaa.P
namespace Go.Proofs.Ytbbhichndfbooaa.P
open Go.RowKit Go.Proofs.YtbbhichndfbooaaW.PrintWords Go.Proofs.YtbbhichndfbooaaW.PrintLast
open Go.Proofs.Ytbbhichndfbooaa.Op
def accountinglaw15_FlowNew.Pure : Prop := ∀ (a0 : S25) (a1 : Int), fit25 a0 → (fun n => (Lit.int .i64 n).wf = true) a1 → accountinglaw15_FlowNew.f a0.f0 a0.f1 a1 = some true
end Go.Proofs.Ytbbhichndfbooaa.P
namespace Go.Proofs.Ytbbhichndfbooaa.Pure
open Go.RowKit Go.Proofs.Ytbbhichndfbooaa.P Go.Proofs.Ytbbhichndfbooaa.Op Go.Proofs.YtbbhichndfbooaaW.PrintWords Go.Proofs.YtbbhichndfbooaaW.PrintLast
theorem FlowNew : accountinglaw15_FlowNew.Pure := fun _ _ _ _ => rfl
end Go.Proofs.Ytbbhichndfbooaa.Pure
