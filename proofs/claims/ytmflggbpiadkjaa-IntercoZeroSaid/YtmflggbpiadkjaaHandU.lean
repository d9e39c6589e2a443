/- Texts of mine, joined: HandCode, HandMon. -/
import Derived.Test.YtmflggbpiadkjaaProg
import Derived.Test.YtmflggbpiadkjaaWWords
import Derived.Test.YtmflggbpiadkjaaWJ
import Derived.Below
import Derived.Deep.Draws
import Derived.WalkKit
import Derived.KernelRfl
import Derived.RowKit3
import Derived.Deep.LoopGhost
import Derived.Deep.QuietTactic
import Derived.BigQuiet
import Derived.WideLaws
import Derived.RowKit
import Derived.WalkMore
import Derived.Lib.Hide
import Derived.Laws.Strings
import Derived.Test.YtmflggbpiadkjaaSrtJ
import Derived.Lib.OthersKept
import Derived.Laws.RangeAny
import Derived.Laws.RangeString
/- The contract of words.Code: which strings are codes. -/
namespace Go.Proofs.Ytmflggbpiadkjaa.P
open Go.RowKit Go.Proofs.YtmflggbpiadkjaaW.PrintWords Go.Proofs.YtmflggbpiadkjaaW.PrintLast Go.Proofs.YtmflggbpiadkjaaW.PrintMore
set_option linter.unusedVariables false
set_option linter.unusedSimpArgs false

def isCodeByte (c : Int) : Bool := decide (97 ≤ c ∧ c ≤ 122 ∨ 65 ≤ c ∧ c ≤ 90 ∨ c = 95 ∨ 48 ≤ c ∧ c ≤ 57)
def allFrom (p : Int → Bool) (s : ByteArray) (i : Nat) : Bool := (s.data.toList.drop i).all fun c => p c.toNat

theorem allFrom_step (p : Int → Bool) (s : ByteArray) (i : Nat) (h : i < s.size) : allFrom p s i = (p (bt s i) && allFrom p s (i + 1)) := by
  have h' : i < s.data.toList.length := by simpa using h
  unfold allFrom
  rw [List.drop_eq_getElem_cons h', List.all_cons]
  congr 1
  unfold bt
  rw [dif_pos (by simpa using h)]
  rfl
theorem allFrom_end (p : Int → Bool) (s : ByteArray) : allFrom p s s.size = true := by
  unfold allFrom
  rw [List.drop_of_length_le (by simp)]
  rfl

def words_Code.f (a0 : ByteArray) : Option Bool := some (decide (0 < a0.size) && (decide (a0.size ≤ 12) && allFrom isCodeByte a0 0))
def isLetter (c : Int) : Bool := decide (97 ≤ c ∧ c ≤ 122 ∨ 65 ≤ c ∧ c ≤ 90 ∨ c = 95)
def isDigit (c : Int) : Bool := decide (48 ≤ c ∧ c ≤ 57)
theorem isCodeByte_or (c : Int) : isCodeByte c = (isLetter c || isDigit c) := by
  unfold isCodeByte isLetter isDigit
  rw [Bool.eq_iff_iff]
  simp
  omega

set_option maxHeartbeats 1000000 in
theorem digit_calls (c : Int) (w : World) :
    Calls Try.prog 93 #[.int .u8 c] w fun e w' => e = .returned (.bool (isDigit c)) ∧ Drawn0 w w' := by
  by_cases h1 : 48 ≤ c <;> by_cases h2 : c ≤ 57
  all_goals
    go_enter Try.func93, Try.ntmps93
    go_wp2
    go_ret
    exact ⟨by simp [isDigit, h1, h2], by repeat (first | exact Drawn0.refl _ | apply Drawn0.step)⟩
set_option maxHeartbeats 1000000 in
theorem letter_calls (c : Int) (w : World) :
    Calls Try.prog 92 #[.int .u8 c] w fun e w' => e = .returned (.bool (isLetter c)) ∧ Drawn0 w w' := by
  by_cases h1 : 97 ≤ c <;> by_cases h2 : c ≤ 122 <;> by_cases h3 : 65 ≤ c <;> by_cases h4 : c ≤ 90
  all_goals
    go_enter Try.func92, Try.ntmps92
    go_wp2
    all_goals
      go_ret
      exact ⟨by (try show Ending.returned (Value.bool _) = Ending.returned (Value.bool _)); congr 2; unfold isLetter; rw [Bool.eq_iff_iff]; simp; omega, by repeat (first | exact Drawn0.refl _ | apply Drawn0.step)⟩
set_option maxHeartbeats 1000000 in
theorem codeByte_calls (c : Int) (w : World) :
    Calls Try.prog 91 #[.int .u8 c] w fun e w' => e = .returned (.bool (isCodeByte c)) ∧ Drawn0 w w' := by
  cases h1 : isLetter c <;> cases h2 : isDigit c
  all_goals
    have H1 := Lib.hid h1
    have H2 := Lib.hid h2
    clear h1 h2
    go_enter Try.func91, Try.ntmps91
    go_wp2_with (first | (go_at_call 92; (with_reducible refine (letter_calls c _).mono ?_); rintro e w' ⟨rfl, ⟨nd, rfl⟩⟩; rw [H1.out]) | (go_at_call 93; (with_reducible refine (digit_calls c _).mono ?_); rintro e w' ⟨rfl, ⟨nd, rfl⟩⟩; rw [H2.out]))
    go_ret
    exact ⟨by rw [isCodeByte_or, H1.out, H2.out]; rfl, by repeat (first | exact Drawn0.refl _ | apply Drawn0.step)⟩

set_option maxHeartbeats 2000000 in
theorem every_codeByte (s : ByteArray) (w : World) (hs : s.size ≤ 12) :
    Calls Try.prog 90 #[.string s, .func (.func 91) #[] #[]] w fun e w' => e = .returned (.bool (allFrom isCodeByte s 0)) ∧ Drawn0 w w' := by
  go_enter Try.func90, Try.ntmps90
  go_wp2
  go_loopw [5, 8, 9, 10, 11, 12, 13, 14, 15, 16, 17] (fun _ i _ _ _ _ _ _ _ _ _ w' => ∃ k : Int, 0 ≤ k ∧ k ≤ s.size ∧ i = .int .i64 k ∧ Aside0 (allFrom isCodeByte s 0 = allFrom isCodeByte s k.toNat) ∧ Drawn0 w w') (fun _ i _ _ _ _ _ _ _ _ _ _ => s.size - (intOf i).toNat)
  case atStart => exact ⟨0, by omega, by omega, rfl, ⟨rfl⟩, Drawn0.refl _⟩
  case round =>
    obtain ⟨k, hk0, hk, rfl, HA, ⟨n, rfl⟩⟩ := hrel
    by_cases hlt : k < (s.size : Int)
    · have hst := allFrom_step isCodeByte s k.toNat (by omega)
      have Hst := Lib.hid hst
      clear hst
      have hx := bt_at s k
      have hbq : bt s ((k.toNat : Nat) : Int) = bt s k := by rw [Int.toNat_of_nonneg hk0]
      rw [hbq] at Hst
      clear hbq
      have p5 := eq_true hk0
      have q5 := eq_true hlt
      cases hb : isCodeByte (bt s k)
      all_goals
        have HB := Lib.hid hb
        clear hb
        go_wp2_with (first | (go_at_call 91; (with_reducible refine (codeByte_calls (bt s k) _).mono ?_); rintro e w' ⟨rfl, ⟨nd, rfl⟩⟩; rw [HB.out]))
      · go_ret
        exact ⟨by rw [HA.out, Hst.out, HB.out]; rfl, by repeat (first | exact Drawn0.refl _ | apply Drawn0.step)⟩
      · refine ⟨⟨k + 1, by omega, by omega, rfl, ⟨?_⟩, by repeat (first | exact Drawn0.refl _ | apply Drawn0.step)⟩, by simp [intOf]; omega⟩
        rw [HA.out, Hst.out, HB.out, show (k + 1).toNat = k.toNat + 1 by omega]; rfl
    · have hlt' : k = (s.size : Int) := by omega
      subst hlt'
      go_wp2
      go_ret
      exact ⟨by rw [HA.out, Int.toNat_natCast, allFrom_end]; rfl, by repeat (first | exact Drawn0.refl _ | apply Drawn0.step)⟩

set_option maxHeartbeats 1000000 in
theorem words_Code.calls (a0 : ByteArray) (r : Bool) (w : World) (h : words_Code.f a0 = some r) :
    Calls Try.prog 78 #[.string a0] w fun e w' => e = .returned (.bool r) ∧ Drawn0 w w' := by
  have H := Lib.hid h
  clear h
  by_cases h0 : a0.toList = []
  · have h0' : (a0.toList == []) = true := by simp [h0]
    have hz : a0.size = 0 := by have h := congrArg List.length (((ByteArray.toList_eq a0).symm).trans h0); simpa using h
    have HZ := Lib.hid hz
    clear hz
    go_enter Try.func78, Try.ntmps78
    go_wp2
    all_goals go_ret
    have H' := Option.some.inj H.out
    refine ⟨?_, by repeat (first | exact Drawn0.refl _ | apply Drawn0.step)⟩
    rw [← H', decide_eq_false (show ¬ 0 < a0.size by rw [HZ.out]; omega)]; rfl
  · have hz : 0 < a0.size := by
      rcases Nat.eq_zero_or_pos a0.size with h | h
      · exact absurd ((ByteArray.toList_eq a0).trans (List.length_eq_zero_iff.mp (by simpa using h))) h0
      · exact h
    have h1' : (!a0.toList.isEmpty) = true := by simpa using h0
    by_cases h1 : (a0.size : Int) ≤ 12
    · go_enter Try.func78, Try.ntmps78
      go_wp2_with (first | (go_at_call 90; (with_reducible refine (every_codeByte a0 _ (by omega)).mono ?_); rintro e w' ⟨rfl, ⟨nd, rfl⟩⟩))
      go_ret
      have H' := Option.some.inj H.out
      refine ⟨?_, by repeat (first | exact Drawn0.refl _ | apply Drawn0.step)⟩
      rw [← H', decide_eq_true (show a0.size ≤ 12 by omega), decide_eq_true hz]; rfl
    · go_enter Try.func78, Try.ntmps78
      go_wp2
      go_ret
      have H' := Option.some.inj H.out
      refine ⟨?_, by repeat (first | exact Drawn0.refl _ | apply Drawn0.step)⟩
      rw [← H', decide_eq_false (show ¬ a0.size ≤ 12 by omega), decide_eq_true hz]; rfl
end Go.Proofs.Ytmflggbpiadkjaa.P

/- The contract of money.Code: which strings are currency codes. -/
namespace Go.Proofs.Ytmflggbpiadkjaa.P
open Go.RowKit Go.Lib Go.Proofs.YtmflggbpiadkjaaW.PrintWords Go.Proofs.YtmflggbpiadkjaaW.PrintLast Go.Proofs.YtmflggbpiadkjaaW.PrintMore
set_option linter.unusedVariables false
set_option linter.unusedSimpArgs false
def upC (c : UInt8) : Bool := decide (65 ≤ c.toNat) && decide (c.toNat ≤ 90)
/-- Is it three capital letters? -/
def monB (s : ByteArray) : Bool := decide (s.size = 3) && s.data.toList.all upC
theorem mon_bad {s : ByteArray} {i : Nat} (h : i < s.size) (hu : upC s[i] = false) : monB s = false := by
  unfold monB
  rw [Bool.and_eq_false_iff]
  right
  rw [List.all_eq_false]
  exact ⟨s[i], by
    rw [show s[i] = s.data.toList[i]'(by simpa using h) from by simp [ByteArray.getElem_eq_getElem_data]]
    exact List.getElem_mem _, by simp [hu]⟩
theorem mon_end {s : ByteArray} (h : ∀ j, (hj : j < s.size) → upC s[j] = true) : monB s = decide (s.size = 3) := by
  unfold monB
  rw [List.all_eq_true.2, Bool.and_true]
  intro c hc
  obtain ⟨j, hj, rfl⟩ := List.mem_iff_getElem.1 hc
  have hj' : j < s.size := by simpa using hj
  have := h j hj'
  rw [show s[j] = s.data.toList[j] from by simp [ByteArray.getElem_eq_getElem_data]] at this
  exact this
set_option maxHeartbeats 2000000 in
set_option maxRecDepth 100000 in
theorem money_calls (s : ByteArray) (w : World) (hs : s.size ≤ maxLen) : Calls Try.prog 77 #[.string s] w fun e w' => e = .returned (.bool (monB s)) ∧ Below w.heap.size w w' := by
  obtain ⟨g, hg⟩ : ∃ g, w.heap.size = g := ⟨_, rfl⟩
  obtain ⟨res, hres⟩ : ∃ r, monB s = r := ⟨_, rfl⟩
  have HR := Aside0.mk hres
  have hlen : s.size ≤ 9223372036854775807 := by unfold maxLen at hs; omega
  clear hs
  rw [hres]
  clear hres
  go_enter Try.func77, Try.ntmps77
  go_upto_region 3 with (fail)
  refine with_world (P := fun x => Code.wp _ _ _ _ x) _ ?_
  intro w1 hw1
  replace hw1 : w1 = w.alloc (.stringIter s 0) := hw1
  (try rw [hg])
  have HI := Aside0.mk (show w1.heap[g]? = some (.stringIter s 0) from by rw [hw1, ← hg]; exact blk_new _ _)
  have HB1 := Aside0.mk (show Below g w w1 from by rw [hw1, ← hg]; exact below_alloc (Below.refl _ _) _)
  clear hw1
  go_loopw [2, 3, 5, 8, 9, 10, 11, 12, 13, 14, 15, 16, 17, 18] (fun _ v3 _ _ _ _ _ _ _ _ _ _ _ _ wr => ∃ n : Nat, n ≤ s.size ∧ v3 = .int .i64 n ∧ Aside0 (wr.heap[g]? = some (.stringIter s n)) ∧ Aside0 (Below g w wr) ∧ Aside0 (∀ j, (hj : j < s.size) → j < n → upC s[j] = true)) (fun _ v3 _ _ _ _ _ _ _ _ _ _ _ _ _ => s.size - (intOf v3).toNat)
  case atStart => exact ⟨0, Nat.zero_le _, rfl, HI, HB1, ⟨fun j _ h => absurd h (by omega)⟩⟩
  case round =>
    clear HI HB1
    obtain ⟨n, hn, rfl, HI, HB, HU⟩ := hrel
    by_cases hlt : n < s.size
    · by_cases hc : upC s[n] = true
      · have hu := hc
        unfold upC at hu
        rw [Bool.and_eq_true, decide_eq_true_iff, decide_eq_true_iff] at hu
        have hnx := run_next_ascii_at (P := Try.prog) wr g s n 0 HI.out hlt (by omega)
        have HC := Aside0.mk hc
        clear hc
        obtain ⟨c, hcc⟩ : ∃ c : Int, ((s[n].toNat : Nat) : Int) = c := ⟨_, rfl⟩
        rw [hcc] at hnx
        have d1 : decide (c < 65) = false := decide_eq_false (by omega)
        have d2 : decide (90 < c) = false := decide_eq_false (by omega)
        have hw : wrap64 ((n : Int) + 1) = ((n + 1 : Nat) : Int) := by unfold wrap64; omega
        clear hcc
        go_wp2
        go_roundw
        case rel =>
          refine ⟨n + 1, by omega, by go_num, ⟨iterAt_heap wr g s n (n + 1) HI.out⟩, ⟨below_iterAt HB.out (Nat.le_refl _) s (n + 1)⟩, ⟨fun j hj hjn => ?_⟩⟩
          rcases Nat.lt_succ_iff_lt_or_eq.1 hjn with h | h
          · exact HU.out j hj h
          · subst h; exact HC.out
        case measure => simp [intOf]; omega
      · have hc' : upC s[n] = false := by simpa using hc
        obtain ⟨r, k, hr, hnx⟩ : ∃ (r : Int) (k : Nat), (r < 65 ∨ 90 < r) ∧ (Instr.next (.pointer (some ⟨g, 0, none⟩)) true 0).run Try.prog wr = .ok (.tuple #[.bool true, .int .i64 n, .int .i32 r]) (wr.iterAt g s (n + k)) := by
          refine ⟨_, _, ?_, run_next_any_at (P := Try.prog) wr g s n 0 HI.out hlt⟩
          by_cases ha : (s[n]'hlt).toNat < 128
          · rw [decode_ascii s n hlt ha]
            unfold upC at hc'
            rw [Bool.and_eq_false_iff, decide_eq_false_iff_not, decide_eq_false_iff_not] at hc'
            show ((s[n].toNat : Nat) : Int) < 65 ∨ 90 < ((s[n].toNat : Nat) : Int)
            omega
          · have := (decode_high s n hlt (by omega)).1
            right
            omega
        have hres : false = res := (mon_bad hlt hc').symm.trans HR.out
        subst hres
        have HB2 := Aside0.mk (below_iterAt HB.out (Nat.le_refl g) s (n + k))
        clear hc hc'
        by_cases h1 : r < 65
        · have d1 : decide (r < 65) = true := decide_eq_true h1
          go_wp2
          go_ret
          exact ⟨rfl, by first | exact HB2.out | (rw [hg]; exact HB2.out)⟩
        · have d1 : decide (r < 65) = false := decide_eq_false h1
          have d2 : decide (90 < r) = true := decide_eq_true (by omega)
          go_wp2
          go_ret
          exact ⟨rfl, by first | exact HB2.out | (rw [hg]; exact HB2.out)⟩
    · obtain rfl : n = s.size := by omega
      have hnx := run_next_end_at (P := Try.prog) wr g s s.size 0 HI.out hlt
      have hres : decide (s.size = 3) = res := (mon_end (fun j hj => HU.out j hj hj)).symm.trans HR.out
      go_wp2
      go_ret
      refine ⟨?_, by first | exact HB.out | (rw [hg]; exact HB.out)⟩
      rw [← hres]
      show Ending.returned (Value.bool ((s.size : Int) == 3)) = Ending.returned (Value.bool (decide (s.size = 3)))
      have e : ((s.size : Int) == 3) = decide (s.size = 3) := by rw [Bool.eq_iff_iff, beq_iff_eq, decide_eq_true_iff]; omega
      rw [e]
end Go.Proofs.Ytmflggbpiadkjaa.P
