/- The contract of words.Code: which strings are codes. -/
import Derived.Test.YtbbhichndfbooaaProg
import Derived.Test.YtbbhichndfbooaaWWords
import Derived.Test.YtbbhichndfbooaaWLast
import Derived.Test.YtbbhichndfbooaaWMore
import Derived.Below
import Derived.Deep.Draws
import Derived.WalkKit
import Derived.KernelRfl
import Derived.RowKit3
import Derived.Deep.LoopGhost
import Derived.Deep.QuietTactic
import Derived.BigQuiet
import Derived.WideLaws
import Derived.RowKit
import Derived.WalkMore
import Derived.Lib.Hide
import Derived.Laws.Strings
namespace Go.Proofs.Ytbbhichndfbooaa.P
open Go.RowKit Go.Proofs.YtbbhichndfbooaaW.PrintWords Go.Proofs.YtbbhichndfbooaaW.PrintLast Go.Proofs.YtbbhichndfbooaaW.PrintMore
set_option linter.unusedVariables false
set_option linter.unusedSimpArgs false

def isCodeByte (c : Int) : Bool := decide (97 ≤ c ∧ c ≤ 122 ∨ 65 ≤ c ∧ c ≤ 90 ∨ c = 95 ∨ 48 ≤ c ∧ c ≤ 57)
def allFrom (p : Int → Bool) (s : ByteArray) (i : Nat) : Bool := (s.data.toList.drop i).all fun c => p c.toNat

theorem allFrom_step (p : Int → Bool) (s : ByteArray) (i : Nat) (h : i < s.size) : allFrom p s i = (p (bt s i) && allFrom p s (i + 1)) := by
  have h' : i < s.data.toList.length := by simpa using h
  unfold allFrom
  rw [List.drop_eq_getElem_cons h', List.all_cons]
  congr 1
  unfold bt
  rw [dif_pos (by simpa using h)]
  rfl
theorem allFrom_end (p : Int → Bool) (s : ByteArray) : allFrom p s s.size = true := by
  unfold allFrom
  rw [List.drop_of_length_le (by simp)]
  rfl

def words_Code.f (a0 : ByteArray) : Option Bool := some (decide (0 < a0.size) && (decide (a0.size ≤ 12) && allFrom isCodeByte a0 0))
def isLetter (c : Int) : Bool := decide (97 ≤ c ∧ c ≤ 122 ∨ 65 ≤ c ∧ c ≤ 90 ∨ c = 95)
def isDigit (c : Int) : Bool := decide (48 ≤ c ∧ c ≤ 57)
theorem isCodeByte_or (c : Int) : isCodeByte c = (isLetter c || isDigit c) := by
  unfold isCodeByte isLetter isDigit
  rw [Bool.eq_iff_iff]
  simp
  omega

set_option maxHeartbeats 1000000 in
theorem digit_calls (c : Int) (w : World) :
    Calls Try.prog 54 #[.int .u8 c] w fun e w' => e = .returned (.bool (isDigit c)) ∧ Drawn0 w w' := by
  by_cases h1 : 48 ≤ c <;> by_cases h2 : c ≤ 57
  all_goals
    go_enter Try.func54, Try.ntmps54
    go_wp2
    go_ret
    exact ⟨by simp [isDigit, h1, h2], by repeat (first | exact Drawn0.refl _ | apply Drawn0.step)⟩
set_option maxHeartbeats 1000000 in
theorem letter_calls (c : Int) (w : World) :
    Calls Try.prog 53 #[.int .u8 c] w fun e w' => e = .returned (.bool (isLetter c)) ∧ Drawn0 w w' := by
  by_cases h1 : 97 ≤ c <;> by_cases h2 : c ≤ 122 <;> by_cases h3 : 65 ≤ c <;> by_cases h4 : c ≤ 90
  all_goals
    go_enter Try.func53, Try.ntmps53
    go_wp2
    all_goals
      go_ret
      exact ⟨by (try show Ending.returned (Value.bool _) = Ending.returned (Value.bool _)); congr 2; unfold isLetter; rw [Bool.eq_iff_iff]; simp; omega, by repeat (first | exact Drawn0.refl _ | apply Drawn0.step)⟩
set_option maxHeartbeats 1000000 in
theorem codeByte_calls (c : Int) (w : World) :
    Calls Try.prog 52 #[.int .u8 c] w fun e w' => e = .returned (.bool (isCodeByte c)) ∧ Drawn0 w w' := by
  cases h1 : isLetter c <;> cases h2 : isDigit c
  all_goals
    have H1 := Lib.hid h1
    have H2 := Lib.hid h2
    clear h1 h2
    go_enter Try.func52, Try.ntmps52
    go_wp2_with (first | (go_at_call 53; (with_reducible refine (letter_calls c _).mono ?_); rintro e w' ⟨rfl, ⟨nd, rfl⟩⟩; rw [H1.out]) | (go_at_call 54; (with_reducible refine (digit_calls c _).mono ?_); rintro e w' ⟨rfl, ⟨nd, rfl⟩⟩; rw [H2.out]))
    go_ret
    exact ⟨by rw [isCodeByte_or, H1.out, H2.out]; rfl, by repeat (first | exact Drawn0.refl _ | apply Drawn0.step)⟩

set_option maxHeartbeats 2000000 in
theorem every_codeByte (s : ByteArray) (w : World) (hs : s.size ≤ 12) :
    Calls Try.prog 51 #[.string s, .func (.func 52) #[] #[]] w fun e w' => e = .returned (.bool (allFrom isCodeByte s 0)) ∧ Drawn0 w w' := by
  go_enter Try.func51, Try.ntmps51
  go_wp2
  go_loopw [5, 8, 9, 10, 11, 12, 13, 14, 15, 16, 17] (fun _ i _ _ _ _ _ _ _ _ _ w' => ∃ k : Int, 0 ≤ k ∧ k ≤ s.size ∧ i = .int .i64 k ∧ Aside0 (allFrom isCodeByte s 0 = allFrom isCodeByte s k.toNat) ∧ Drawn0 w w') (fun _ i _ _ _ _ _ _ _ _ _ _ => s.size - (intOf i).toNat)
  case atStart => exact ⟨0, by omega, by omega, rfl, ⟨rfl⟩, Drawn0.refl _⟩
  case round =>
    obtain ⟨k, hk0, hk, rfl, HA, ⟨n, rfl⟩⟩ := hrel
    by_cases hlt : k < (s.size : Int)
    · have hst := allFrom_step isCodeByte s k.toNat (by omega)
      have Hst := Lib.hid hst
      clear hst
      have hx := bt_at s k
      have hbq : bt s ((k.toNat : Nat) : Int) = bt s k := by rw [Int.toNat_of_nonneg hk0]
      rw [hbq] at Hst
      clear hbq
      have p5 := eq_true hk0
      have q5 := eq_true hlt
      cases hb : isCodeByte (bt s k)
      all_goals
        have HB := Lib.hid hb
        clear hb
        go_wp2_with (first | (go_at_call 52; (with_reducible refine (codeByte_calls (bt s k) _).mono ?_); rintro e w' ⟨rfl, ⟨nd, rfl⟩⟩; rw [HB.out]))
      · go_ret
        exact ⟨by rw [HA.out, Hst.out, HB.out]; rfl, by repeat (first | exact Drawn0.refl _ | apply Drawn0.step)⟩
      · refine ⟨⟨k + 1, by omega, by omega, rfl, ⟨?_⟩, by repeat (first | exact Drawn0.refl _ | apply Drawn0.step)⟩, by simp [intOf]; omega⟩
        rw [HA.out, Hst.out, HB.out, show (k + 1).toNat = k.toNat + 1 by omega]; rfl
    · have hlt' : k = (s.size : Int) := by omega
      subst hlt'
      go_wp2
      go_ret
      exact ⟨by rw [HA.out, Int.toNat_natCast, allFrom_end]; rfl, by repeat (first | exact Drawn0.refl _ | apply Drawn0.step)⟩

set_option maxHeartbeats 1000000 in
theorem words_Code.calls (a0 : ByteArray) (r : Bool) (w : World) (h : words_Code.f a0 = some r) :
    Calls Try.prog 33 #[.string a0] w fun e w' => e = .returned (.bool r) ∧ Drawn0 w w' := by
  have H := Lib.hid h
  clear h
  by_cases h0 : a0.toList = []
  · have h0' : (a0.toList == []) = true := by simp [h0]
    have hz : a0.size = 0 := by have h := congrArg List.length (((ByteArray.toList_eq a0).symm).trans h0); simpa using h
    have HZ := Lib.hid hz
    clear hz
    go_enter Try.func33, Try.ntmps33
    go_wp2
    all_goals go_ret
    have H' := Option.some.inj H.out
    refine ⟨?_, by repeat (first | exact Drawn0.refl _ | apply Drawn0.step)⟩
    rw [← H', decide_eq_false (show ¬ 0 < a0.size by rw [HZ.out]; omega)]; rfl
  · have hz : 0 < a0.size := by
      rcases Nat.eq_zero_or_pos a0.size with h | h
      · exact absurd ((ByteArray.toList_eq a0).trans (List.length_eq_zero_iff.mp (by simpa using h))) h0
      · exact h
    have h1' : (!a0.toList.isEmpty) = true := by simpa using h0
    by_cases h1 : (a0.size : Int) ≤ 12
    · go_enter Try.func33, Try.ntmps33
      go_wp2_with (first | (go_at_call 51; (with_reducible refine (every_codeByte a0 _ (by omega)).mono ?_); rintro e w' ⟨rfl, ⟨nd, rfl⟩⟩))
      go_ret
      have H' := Option.some.inj H.out
      refine ⟨?_, by repeat (first | exact Drawn0.refl _ | apply Drawn0.step)⟩
      rw [← H', decide_eq_true (show a0.size ≤ 12 by omega), decide_eq_true hz]; rfl
    · go_enter Try.func33, Try.ntmps33
      go_wp2
      go_ret
      have H' := Option.some.inj H.out
      refine ⟨?_, by repeat (first | exact Drawn0.refl _ | apply Drawn0.step)⟩
      rw [← H', decide_eq_false (show ¬ a0.size ≤ 12 by omega), decide_eq_true hz]; rfl
end Go.Proofs.Ytbbhichndfbooaa.P
