/- The contract of strings.Cut at a separator of one byte. -/
import Derived.Test.YtbljhfdmimmblaaProg
import Derived.Test.YtbljhfdmimmblaaWWords
import Derived.Test.YtbljhfdmimmblaaWLast
import Derived.Test.YtbljhfdmimmblaaWMore
import Derived.Below
import Derived.Deep.Draws
import Derived.WalkKit
import Derived.KernelRfl
import Derived.RowKit3
import Derived.Deep.QuietTactic
import Derived.BigQuiet
import Derived.WideLaws
import Derived.RowKit
import Derived.Lib.Hide
import Derived.Lib.Bytealg
import Derived.RegionTactic
import Derived.Laws.Strings
import Derived.Shelf.Strings.Search1
namespace Go.Proofs.Ytbljhfdmimmblaa.P
open Go.RowKit Go.Proofs.YtbljhfdmimmblaaW.PrintWords Go.Proofs.YtbljhfdmimmblaaW.PrintLast Go.Proofs.YtbljhfdmimmblaaW.PrintMore
set_option linter.unusedVariables false
set_option linter.unusedSimpArgs false

/-- Where the byte c first stands in l, -1 if nowhere. -/
def strings_Cut.f (s sep : ByteArray) : Option (ByteArray × ByteArray × Bool) :=
  if sep.size = 1 ∧ s.size ≤ 1000000 then (if Lib.indexByte s.data.toList (bt sep 0).toNat.toUInt8 < 0 then some (s, ⟨#[]⟩, false)
    else if Lib.indexByte s.data.toList (bt sep 0).toNat.toUInt8 + 1 ≤ (s.size : Int) then some (s.extract 0 (Lib.indexByte s.data.toList (bt sep 0).toNat.toUInt8).toNat, s.extract (Lib.indexByte s.data.toList (bt sep 0).toNat.toUInt8 + 1).toNat s.size, true) else none) else none

set_option maxHeartbeats 1000000 in
theorem IndexByte_calls (s : ByteArray) (c : Int) (w : World) :
    Calls Try.prog 45 #[.string s, .int .u8 c] w fun e w' => e = .returned (.int .i64 (Lib.indexByte s.data.toList c.toNat.toUInt8)) ∧ Drawn0 w w' := by
  go_enter Try.func45, Try.ntmps45
  go_wp2
  rw [run_callFunc_extern Try.func49 (by kernel_rfl) (by kernel_rfl) (by kernel_rfl) (e := Extern.BytealgIndexByte.indexByte) (by kernel_rfl), Lib.run_indexByteString]
  simp only [Result.andThen]
  rw [Oper.upon_value]
  go_wp2
  go_ret
  exact ⟨rfl, Drawn0.refl _⟩
set_option maxHeartbeats 1000000 in
theorem Index_calls (s sep : ByteArray) (w : World) (h1 : sep.size = 1) :
    Calls Try.prog 43 #[.string s, .string sep] w fun e w' => e = .returned (.int .i64 (Lib.indexByte s.data.toList (bt sep 0).toNat.toUInt8)) ∧ Drawn0 w w' := by
  have l1 : 0 < sep.size := by omega
  have hx0 : ((sep[0]'l1).toNat : Int) = bt sep 0 := bt_at sep 0 l1
  have hc : (sep.size : Int) = 1 := by omega
  have H1 := Lib.hid h1
  clear h1
  have c0 : ((sep.size : Int) == 0) = false := beq_eq_false_iff_ne.mpr (by omega)
  have c1 : ((sep.size : Int) == 1) = true := beq_iff_eq.mpr hc
  have l0 : (0 : Int) < (sep.size : Int) := by omega
  have c0' : (sep.size == 0) = false := beq_eq_false_iff_ne.mpr (by omega)
  have c1' : (sep.size == 1) = true := beq_iff_eq.mpr H1.out
  clear hc
  cases hq : (sep.toList == s.toList)
  · go_enter Try.func43, Try.ntmps43
    go_wp2_with (first | (go_at_call 45; (with_reducible refine (IndexByte_calls s (bt sep 0) _).mono ?_); rintro e w' ⟨rfl, ⟨nd, rfl⟩⟩))
    go_ret
    exact ⟨rfl, by repeat (first | exact Drawn0.refl _ | apply Drawn0.step)⟩
  · have hfin : Lib.indexByte s.data.toList (bt sep 0).toNat.toUInt8 = 0 := by
      have e : sep.toList = s.toList := by simpa using hq
      rw [ByteArray.toList_eq, ByteArray.toList_eq] at e
      rw [← e, ← hx0]
      have hl : sep.data.toList.length = 1 := by simpa using H1.out
      match hm : sep.data.toList, hl with
      | [c], _ =>
        have : sep[0] = c := by
          have h2 : sep.data.toList[0]'(by rw [hm]; simp) = c := by simp [hm]
          exact h2
        rw [this]
        simp [Lib.indexByte]
    have HF := Lib.hid hfin
    clear hfin hx0
    go_enter Try.func43, Try.ntmps43
    go_wp2
    go_ret
    exact ⟨by rw [HF.out]; rfl, by repeat (first | exact Drawn0.refl _ | apply Drawn0.step)⟩
set_option maxHeartbeats 1000000 in
theorem slCut_calls (s sep : ByteArray) (r : ByteArray × ByteArray × Bool) (w : World) (h : strings_Cut.f s sep = some r) :
    Calls Try.prog 34 #[.string s, .string sep] w fun e w' => e = .returned (.tuple #[.string r.1, .string r.2.1, .bool r.2.2]) ∧ Drawn0 w w' := by
  unfold strings_Cut.f at h
  by_cases h0 : sep.size = 1 ∧ s.size ≤ 1000000
  case neg => rw [if_neg h0] at h; simp at h
  rw [if_pos h0] at h
  have H1 := Lib.hid h0.1
  have hs := h0.2
  have l1 : sep.size ≤ 1 := by omega
  have l2 : 1 ≤ sep.size := by omega
  clear h0
  generalize hi : Lib.indexByte s.data.toList (bt sep 0).toNat.toUInt8 = i at h
  have HI := Lib.hid hi
  clear hi
  by_cases h2 : i < 0
  · rw [if_pos h2] at h
    obtain rfl := Option.some.inj h
    clear h
    have h2' : ¬ 0 ≤ i := by omega
    go_enter Try.func34, Try.ntmps34
    go_wp2_with (first | (go_at_call 43; (with_reducible refine (Index_calls s sep _ H1.out).mono ?_); rintro e w' ⟨rfl, ⟨nd, rfl⟩⟩; rw [HI.out]))
    go_ret3
    exact ⟨rfl, by repeat (first | exact Drawn0.refl _ | apply Drawn0.step)⟩
  · rw [if_neg h2] at h
    by_cases h3 : i + 1 ≤ (s.size : Int)
    case neg => rw [if_neg h3] at h; simp at h
    rw [if_pos h3] at h
    obtain rfl := Option.some.inj h
    clear h
    have p0 : 0 ≤ i := by omega
    have p1 : i ≤ (s.size : Int) := by omega
    have p2 : (sep.size : Int) = 1 := by have := H1.out; omega
    have p3 : i + (sep.size : Int) ≤ (s.size : Int) := by omega
    have p4 : 0 ≤ i + (sep.size : Int) := by omega
    have P2 := Lib.hid p2
    clear p2
    go_enter Try.func34, Try.ntmps34
    go_wp2_with (first | (go_at_call 43; (with_reducible refine (Index_calls s sep _ H1.out).mono ?_); rintro e w' ⟨rfl, ⟨nd, rfl⟩⟩; rw [HI.out]))
    go_region
    go_wp2
    go_ret3
    exact ⟨by rw [P2.out]; rfl, by repeat (first | exact Drawn0.refl _ | apply Drawn0.step)⟩
set_option maxHeartbeats 1000000 in
theorem strings_Cut.calls (a0 : ByteArray) (a1 : ByteArray) (r1 : ByteArray) (r2 : ByteArray) (r3 : Bool) (w : World) (h : strings_Cut.f a0 a1 = some (r1, r2, r3)) :
    Calls Try.prog 29 #[.string a0, .string a1] w fun e w' => e = .returned (.tuple #[.string r1, .string r2, .bool r3]) ∧ Drawn0 w w' := by
  go_enter Try.func29, Try.ntmps29
  go_wp2_with (first | (go_at_call 34; (with_reducible refine (slCut_calls a0 a1 (r1, r2, r3) _ h).mono ?_); rintro e w' ⟨rfl, ⟨nd, rfl⟩⟩))
  go_ret3
  exact ⟨rfl, by repeat (first | exact Drawn0.refl _ | apply Drawn0.step)⟩
end Go.Proofs.Ytbljhfdmimmblaa.P
