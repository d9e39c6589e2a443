-- PRINTED by print.py (a twelfth state) out of the translation. Not trusted: Lean checks it.
import Derived.Test.YtmflggbpiadkjaaPx0
import Derived.Test.YtmflggbpiadkjaaPx2
import Derived.Test.YtmflggbpiadkjaaPx11
import Derived.Test.YtmflggbpiadkjaaPx13
import Derived.Test.YtmflggbpiadkjaaPx16
import Derived.Test.YtmflggbpiadkjaaPx17
import Derived.Test.YtmflggbpiadkjaaHandJ
namespace Go.Proofs.Ytmflggbpiadkjaa.P
open Go.RowKit Go.Proofs.YtmflggbpiadkjaaW.PrintWords Go.Proofs.YtmflggbpiadkjaaW.PrintLast Go.Proofs.YtmflggbpiadkjaaW.PrintMore
attribute [local go_sem] max2_int min2_int max_two min_two max_three min_three max_four min_four   -- for this text's walks alone
set_option linter.unusedVariables false
set_option linter.unusedSimpArgs false

attribute [local go_sem high] eqA34
/-! ### accountinglaw19_lives: function 24 -/
def accountinglaw19_lives.f (k : Nat)  : Option (Bool) := (accountinglaw19_cell.f (⟨#[50, 48]⟩ : ByteArray) (-5)).bind fun bt182 => ((accountinglaw19_cell.f (⟨#[49, 48]⟩ : ByteArray) 7).bind fun bt189 => ((accountinglaw19_cell.f (⟨#[50, 48]⟩ : ByteArray) 2).bind fun bt196 => ((accountinglaw19_cell.f (⟨#[51, 48]⟩ : ByteArray) 1).bind fun bt203 => ((accountinglaw19_cell.f (⟨#[51, 48]⟩ : ByteArray) (-1)).bind fun bt210 => ((sheet_Of.f (([(⟨(⟨bt182.1, bt182.2.1, bt182.2.2.1, bt182.2.2.2.1, bt182.2.2.2.2.1⟩ : S32), bt182.2.2.2.2.2.1, bt182.2.2.2.2.2.2⟩ : S34), (⟨(⟨bt189.1, bt189.2.1, bt189.2.2.1, bt189.2.2.2.1, bt189.2.2.2.2.1⟩ : S32), bt189.2.2.2.2.2.1, bt189.2.2.2.2.2.2⟩ : S34), (⟨(⟨bt196.1, bt196.2.1, bt196.2.2.1, bt196.2.2.2.1, bt196.2.2.2.2.1⟩ : S32), bt196.2.2.2.2.2.1, bt196.2.2.2.2.2.2⟩ : S34), (⟨(⟨bt203.1, bt203.2.1, bt203.2.2.1, bt203.2.2.2.1, bt203.2.2.2.2.1⟩ : S32), bt203.2.2.2.2.2.1, bt203.2.2.2.2.2.2⟩ : S34), (⟨(⟨bt210.1, bt210.2.1, bt210.2.2.1, bt210.2.2.2.1, bt210.2.2.2.2.1⟩ : S32), bt210.2.2.2.2.2.1, bt210.2.2.2.2.2.2⟩ : S34)] : List (S34)))).bind fun bt220 => ((sheet_Fold.f k bt220.1 1).bind fun bt224 => ((sheet_Base.f k bt220.1).bind fun bt228 => ((accountinglaw19_cell.f (⟨#[49, 48]⟩ : ByteArray) 7).bind fun bt230 => ((accountinglaw19_cell.f (⟨#[50, 48]⟩ : ByteArray) (-3)).bind fun bt237 => ((accountingref19_Same.f k bt220.1 (([(⟨(⟨bt230.1, bt230.2.1, bt230.2.2.1, bt230.2.2.2.1, bt230.2.2.2.2.1⟩ : S32), bt230.2.2.2.2.2.1, bt230.2.2.2.2.2.2⟩ : S34), (⟨(⟨bt237.1, bt237.2.1, bt237.2.2.1, bt237.2.2.2.1, bt237.2.2.2.2.1⟩ : S32), bt237.2.2.2.2.2.1, bt237.2.2.2.2.2.2⟩ : S34)] : List (S34)))).bind fun t247 => (if t247 = true then (if bt220.2 = 0 then (if (bt224.1.length : Int) = 1 then (if bt224.2 = 0 then (if 0 < (bt224.1.length : Int) then (if (((((rd_T34 bt224.1 0).f0.f0).toList) == ([97] : List UInt8) && ((((rd_T34 bt224.1 0).f0.f1).toList) == ([] : List UInt8) && ((((rd_T34 bt224.1 0).f0.f2).toList) == ([] : List UInt8) && ((((rd_T34 bt224.1 0).f0.f3).toList) == ([] : List UInt8) && ((((rd_T34 bt224.1 0).f0.f4).toList) == ([] : List UInt8)))))) && (((rd_T34 bt224.1 0).f1) == 4 && (((rd_T34 bt224.1 0).f2) == 4))) = true then (if bt228.1 = 4 then (if bt228.2 = 0 then (if 0 < (bt220.1.length : Int) then (if 1 < (bt220.1.length : Int) then ((sheet_Cmp.f ((rd_T34 bt220.1 0).f0.f0) ((rd_T34 bt220.1 0).f0.f1) ((rd_T34 bt220.1 0).f0.f2) ((rd_T34 bt220.1 0).f0.f3) ((rd_T34 bt220.1 0).f0.f4) ((rd_T34 bt220.1 1).f0.f0) ((rd_T34 bt220.1 1).f0.f1) ((rd_T34 bt220.1 1).f0.f2) ((rd_T34 bt220.1 1).f0.f3) ((rd_T34 bt220.1 1).f0.f4)).bind fun t251 => (some (t251 == (-1)))) else (none)) else (none)) else (some false)) else (some false)) else (some false)) else (none)) else (some false)) else (some false)) else (some false)) else (some false))))))))))))
theorem accountinglaw19_lives.mono : ∀ k, LeO (accountinglaw19_lives.f k ) (accountinglaw19_lives.f (k + 1) ) := by
  intro  k
  unfold accountinglaw19_lives.f
  repeat' first
      | (with_reducible exact accountingref19_Same.mono _ _ _)
      | (with_reducible exact sheet_Base.mono _ _)
      | (with_reducible exact sheet_Fold.mono _ _ _)
      | (with_reducible exact LeO.refl _)
      | (with_reducible exact LeO.none _)
      | (with_reducible refine LeO.ite ?_ ?_)
      | (with_reducible refine LeO.bind ?_ (fun _ => ?_))
      | exact accountingref19_Same.mono _ _ _
      | exact sheet_Base.mono _ _
      | exact sheet_Fold.mono _ _ _
      | exact LeO.none _
      | refine LeO.ite ?_ ?_
      | refine LeO.bind ?_ (fun _ => ?_)
def accountinglaw19_lives.T4 : Bool × List (List Nat × List Nat) := (true, [([], []), ([], []), ([1], []), ([1, 2], [1, 2]), ([0, 3, 2], [0, 3]), ([4, 4], [4]), ([5], [5]), ([6, 5], [5, 6]), ([5, 7], [5, 7]), ([8, 5], [8]), ([9], [9]), ([10, 9], [9, 10]), ([11, 9], [9, 11]), ([9, 12], [9, 12]), ([13, 9], [13]), ([14], [14]), ([15, 14], [14, 15]), ([14, 16], [14, 16]), ([17, 14], [17]), ([18], [18]), ([19, 18], [18, 19]), ([20, 18], [18, 20]), ([18], [18]), ([22, 18], [18, 22]), ([21, 23, 18], [18, 21, 23]), ([18, 24], [18, 24]), ([25, 18], [25]), ([26], [26]), ([27, 26], [26, 27]), ([26, 28], [26, 28]), ([29, 26], [29]), ([30], [30]), ([31, 30], [30, 31]), ([30, 32], [30, 32]), ([33, 30], [33]), ([34], [34]), ([35, 34], [34, 35]), ([36, 34], [34, 36]), ([37, 34], [34, 37]), ([34], [34]), ([39, 34], [34, 39]), ([40, 34], [34, 40]), ([41, 34], [34, 41]), ([38, 42, 34, 34], [34, 38, 42]), ([43, 34], [34, 43]), ([34, 44], [34, 44]), ([45, 43, 0, 1, 2, 3, 4, 5, 6, 7, 8, 9, 10, 11, 12, 13, 14, 15, 16, 17, 18, 19, 20, 21, 22, 23, 24, 25, 26, 27, 28, 29, 30, 31, 32, 33, 34, 35, 36, 37, 38, 39, 40, 41, 42, 43, 44, 45], [45])])
def accountinglaw19_lives.B4 : List Nat := [0, 0, 2, 6, 15, 31, 63, 127, 255, 511, 1023, 2047, 4095, 8191, 16383, 32767, 65535, 131071, 262143, 524287, 1048575, 2097151, 524287, 4718591, 16777215, 33554431, 67108863, 134217727, 268435455, 536870911, 1073741823, 2147483647, 4294967295, 8589934591, 17179869183, 34359738367, 68719476735, 137438953471, 274877906943, 34359738367, 584115552255, 1683627180031, 3882650435583, 8796093022207, 17592186044415, 35184372088831, 70368744177663]
theorem accountinglaw19_lives.tab4 : rtab .any (opsOf Try.f24 4) = accountinglaw19_lives.T4 := by kernel_rfl
theorem accountinglaw19_lives.bits4 : waitsOk accountinglaw19_lives.T4.2 accountinglaw19_lives.B4 = true := by kernel_rfl
set_option maxHeartbeats 8000000 in
set_option maxRecDepth 100000 in
theorem accountinglaw19_lives.calls_true (k : Nat)  (r : Bool) (w : World) (h : accountinglaw19_lives.f k  = some r) (hrt : r = true) :
    Calls Try.prog 24 #[] w fun e w' => e = .returned (.bool r) ∧ Below w.heap.size w w' := by
  have HRT := Aside0.mk hrt
  clear hrt
  have hu34 := Try.underlying34
  have hu32 := Try.underlying32
  have HB := Aside0.mk (Below.refl w.heap.size w)
  have H : ((accountinglaw19_cell.f (⟨#[50, 48]⟩ : ByteArray) (-5)).bind fun bt182 => ((accountinglaw19_cell.f (⟨#[49, 48]⟩ : ByteArray) 7).bind fun bt189 => ((accountinglaw19_cell.f (⟨#[50, 48]⟩ : ByteArray) 2).bind fun bt196 => ((accountinglaw19_cell.f (⟨#[51, 48]⟩ : ByteArray) 1).bind fun bt203 => ((accountinglaw19_cell.f (⟨#[51, 48]⟩ : ByteArray) (-1)).bind fun bt210 => ((sheet_Of.f (([(⟨(⟨bt182.1, bt182.2.1, bt182.2.2.1, bt182.2.2.2.1, bt182.2.2.2.2.1⟩ : S32), bt182.2.2.2.2.2.1, bt182.2.2.2.2.2.2⟩ : S34), (⟨(⟨bt189.1, bt189.2.1, bt189.2.2.1, bt189.2.2.2.1, bt189.2.2.2.2.1⟩ : S32), bt189.2.2.2.2.2.1, bt189.2.2.2.2.2.2⟩ : S34), (⟨(⟨bt196.1, bt196.2.1, bt196.2.2.1, bt196.2.2.2.1, bt196.2.2.2.2.1⟩ : S32), bt196.2.2.2.2.2.1, bt196.2.2.2.2.2.2⟩ : S34), (⟨(⟨bt203.1, bt203.2.1, bt203.2.2.1, bt203.2.2.2.1, bt203.2.2.2.2.1⟩ : S32), bt203.2.2.2.2.2.1, bt203.2.2.2.2.2.2⟩ : S34), (⟨(⟨bt210.1, bt210.2.1, bt210.2.2.1, bt210.2.2.2.1, bt210.2.2.2.2.1⟩ : S32), bt210.2.2.2.2.2.1, bt210.2.2.2.2.2.2⟩ : S34)] : List (S34)))).bind fun bt220 => ((sheet_Fold.f k bt220.1 1).bind fun bt224 => ((sheet_Base.f k bt220.1).bind fun bt228 => ((accountinglaw19_cell.f (⟨#[49, 48]⟩ : ByteArray) 7).bind fun bt230 => ((accountinglaw19_cell.f (⟨#[50, 48]⟩ : ByteArray) (-3)).bind fun bt237 => ((accountingref19_Same.f k bt220.1 (([(⟨(⟨bt230.1, bt230.2.1, bt230.2.2.1, bt230.2.2.2.1, bt230.2.2.2.2.1⟩ : S32), bt230.2.2.2.2.2.1, bt230.2.2.2.2.2.2⟩ : S34), (⟨(⟨bt237.1, bt237.2.1, bt237.2.2.1, bt237.2.2.2.1, bt237.2.2.2.2.1⟩ : S32), bt237.2.2.2.2.2.1, bt237.2.2.2.2.2.2⟩ : S34)] : List (S34)))).bind fun t247 => (if t247 = true then (if bt220.2 = 0 then (if (bt224.1.length : Int) = 1 then (if bt224.2 = 0 then (if 0 < (bt224.1.length : Int) then (if (((((rd_T34 bt224.1 0).f0.f0).toList) == ([97] : List UInt8) && ((((rd_T34 bt224.1 0).f0.f1).toList) == ([] : List UInt8) && ((((rd_T34 bt224.1 0).f0.f2).toList) == ([] : List UInt8) && ((((rd_T34 bt224.1 0).f0.f3).toList) == ([] : List UInt8) && ((((rd_T34 bt224.1 0).f0.f4).toList) == ([] : List UInt8)))))) && (((rd_T34 bt224.1 0).f1) == 4 && (((rd_T34 bt224.1 0).f2) == 4))) = true then (if bt228.1 = 4 then (if bt228.2 = 0 then (if 0 < (bt220.1.length : Int) then (if 1 < (bt220.1.length : Int) then ((sheet_Cmp.f ((rd_T34 bt220.1 0).f0.f0) ((rd_T34 bt220.1 0).f0.f1) ((rd_T34 bt220.1 0).f0.f2) ((rd_T34 bt220.1 0).f0.f3) ((rd_T34 bt220.1 0).f0.f4) ((rd_T34 bt220.1 1).f0.f0) ((rd_T34 bt220.1 1).f0.f1) ((rd_T34 bt220.1 1).f0.f2) ((rd_T34 bt220.1 1).f0.f3) ((rd_T34 bt220.1 1).f0.f4)).bind fun t251 => (some (t251 == (-1)))) else (none)) else (none)) else (some false)) else (some false)) else (some false)) else (none)) else (some false)) else (some false)) else (some false)) else (some false))))))))))))) = some r := h
  clear h
  replace H := Option.bind_eq_some_iff.mp H
  obtain ⟨⟨t182, t183, t184, t185, t186, t187, t188⟩, A10, H⟩ := H
  replace H : ((accountinglaw19_cell.f (⟨#[49, 48]⟩ : ByteArray) 7).bind fun bt189 => ((accountinglaw19_cell.f (⟨#[50, 48]⟩ : ByteArray) 2).bind fun bt196 => ((accountinglaw19_cell.f (⟨#[51, 48]⟩ : ByteArray) 1).bind fun bt203 => ((accountinglaw19_cell.f (⟨#[51, 48]⟩ : ByteArray) (-1)).bind fun bt210 => ((sheet_Of.f (([(⟨(⟨t182, t183, t184, t185, t186⟩ : S32), t187, t188⟩ : S34), (⟨(⟨bt189.1, bt189.2.1, bt189.2.2.1, bt189.2.2.2.1, bt189.2.2.2.2.1⟩ : S32), bt189.2.2.2.2.2.1, bt189.2.2.2.2.2.2⟩ : S34), (⟨(⟨bt196.1, bt196.2.1, bt196.2.2.1, bt196.2.2.2.1, bt196.2.2.2.2.1⟩ : S32), bt196.2.2.2.2.2.1, bt196.2.2.2.2.2.2⟩ : S34), (⟨(⟨bt203.1, bt203.2.1, bt203.2.2.1, bt203.2.2.2.1, bt203.2.2.2.2.1⟩ : S32), bt203.2.2.2.2.2.1, bt203.2.2.2.2.2.2⟩ : S34), (⟨(⟨bt210.1, bt210.2.1, bt210.2.2.1, bt210.2.2.2.1, bt210.2.2.2.2.1⟩ : S32), bt210.2.2.2.2.2.1, bt210.2.2.2.2.2.2⟩ : S34)] : List (S34)))).bind fun bt220 => ((sheet_Fold.f k bt220.1 1).bind fun bt224 => ((sheet_Base.f k bt220.1).bind fun bt228 => ((accountinglaw19_cell.f (⟨#[49, 48]⟩ : ByteArray) 7).bind fun bt230 => ((accountinglaw19_cell.f (⟨#[50, 48]⟩ : ByteArray) (-3)).bind fun bt237 => ((accountingref19_Same.f k bt220.1 (([(⟨(⟨bt230.1, bt230.2.1, bt230.2.2.1, bt230.2.2.2.1, bt230.2.2.2.2.1⟩ : S32), bt230.2.2.2.2.2.1, bt230.2.2.2.2.2.2⟩ : S34), (⟨(⟨bt237.1, bt237.2.1, bt237.2.2.1, bt237.2.2.2.1, bt237.2.2.2.2.1⟩ : S32), bt237.2.2.2.2.2.1, bt237.2.2.2.2.2.2⟩ : S34)] : List (S34)))).bind fun t247 => (if t247 = true then (if bt220.2 = 0 then (if (bt224.1.length : Int) = 1 then (if bt224.2 = 0 then (if 0 < (bt224.1.length : Int) then (if (((((rd_T34 bt224.1 0).f0.f0).toList) == ([97] : List UInt8) && ((((rd_T34 bt224.1 0).f0.f1).toList) == ([] : List UInt8) && ((((rd_T34 bt224.1 0).f0.f2).toList) == ([] : List UInt8) && ((((rd_T34 bt224.1 0).f0.f3).toList) == ([] : List UInt8) && ((((rd_T34 bt224.1 0).f0.f4).toList) == ([] : List UInt8)))))) && (((rd_T34 bt224.1 0).f1) == 4 && (((rd_T34 bt224.1 0).f2) == 4))) = true then (if bt228.1 = 4 then (if bt228.2 = 0 then (if 0 < (bt220.1.length : Int) then (if 1 < (bt220.1.length : Int) then ((sheet_Cmp.f ((rd_T34 bt220.1 0).f0.f0) ((rd_T34 bt220.1 0).f0.f1) ((rd_T34 bt220.1 0).f0.f2) ((rd_T34 bt220.1 0).f0.f3) ((rd_T34 bt220.1 0).f0.f4) ((rd_T34 bt220.1 1).f0.f0) ((rd_T34 bt220.1 1).f0.f1) ((rd_T34 bt220.1 1).f0.f2) ((rd_T34 bt220.1 1).f0.f3) ((rd_T34 bt220.1 1).f0.f4)).bind fun t251 => (some (t251 == (-1)))) else (none)) else (none)) else (some false)) else (some false)) else (some false)) else (none)) else (some false)) else (some false)) else (some false)) else (some false)))))))))))) = some r := H
  have A1 := Aside0.mk A10
  clear A10
  replace H := Option.bind_eq_some_iff.mp H
  obtain ⟨⟨t189, t190, t191, t192, t193, t194, t195⟩, A20, H⟩ := H
  replace H : ((accountinglaw19_cell.f (⟨#[50, 48]⟩ : ByteArray) 2).bind fun bt196 => ((accountinglaw19_cell.f (⟨#[51, 48]⟩ : ByteArray) 1).bind fun bt203 => ((accountinglaw19_cell.f (⟨#[51, 48]⟩ : ByteArray) (-1)).bind fun bt210 => ((sheet_Of.f (([(⟨(⟨t182, t183, t184, t185, t186⟩ : S32), t187, t188⟩ : S34), (⟨(⟨t189, t190, t191, t192, t193⟩ : S32), t194, t195⟩ : S34), (⟨(⟨bt196.1, bt196.2.1, bt196.2.2.1, bt196.2.2.2.1, bt196.2.2.2.2.1⟩ : S32), bt196.2.2.2.2.2.1, bt196.2.2.2.2.2.2⟩ : S34), (⟨(⟨bt203.1, bt203.2.1, bt203.2.2.1, bt203.2.2.2.1, bt203.2.2.2.2.1⟩ : S32), bt203.2.2.2.2.2.1, bt203.2.2.2.2.2.2⟩ : S34), (⟨(⟨bt210.1, bt210.2.1, bt210.2.2.1, bt210.2.2.2.1, bt210.2.2.2.2.1⟩ : S32), bt210.2.2.2.2.2.1, bt210.2.2.2.2.2.2⟩ : S34)] : List (S34)))).bind fun bt220 => ((sheet_Fold.f k bt220.1 1).bind fun bt224 => ((sheet_Base.f k bt220.1).bind fun bt228 => ((accountinglaw19_cell.f (⟨#[49, 48]⟩ : ByteArray) 7).bind fun bt230 => ((accountinglaw19_cell.f (⟨#[50, 48]⟩ : ByteArray) (-3)).bind fun bt237 => ((accountingref19_Same.f k bt220.1 (([(⟨(⟨bt230.1, bt230.2.1, bt230.2.2.1, bt230.2.2.2.1, bt230.2.2.2.2.1⟩ : S32), bt230.2.2.2.2.2.1, bt230.2.2.2.2.2.2⟩ : S34), (⟨(⟨bt237.1, bt237.2.1, bt237.2.2.1, bt237.2.2.2.1, bt237.2.2.2.2.1⟩ : S32), bt237.2.2.2.2.2.1, bt237.2.2.2.2.2.2⟩ : S34)] : List (S34)))).bind fun t247 => (if t247 = true then (if bt220.2 = 0 then (if (bt224.1.length : Int) = 1 then (if bt224.2 = 0 then (if 0 < (bt224.1.length : Int) then (if (((((rd_T34 bt224.1 0).f0.f0).toList) == ([97] : List UInt8) && ((((rd_T34 bt224.1 0).f0.f1).toList) == ([] : List UInt8) && ((((rd_T34 bt224.1 0).f0.f2).toList) == ([] : List UInt8) && ((((rd_T34 bt224.1 0).f0.f3).toList) == ([] : List UInt8) && ((((rd_T34 bt224.1 0).f0.f4).toList) == ([] : List UInt8)))))) && (((rd_T34 bt224.1 0).f1) == 4 && (((rd_T34 bt224.1 0).f2) == 4))) = true then (if bt228.1 = 4 then (if bt228.2 = 0 then (if 0 < (bt220.1.length : Int) then (if 1 < (bt220.1.length : Int) then ((sheet_Cmp.f ((rd_T34 bt220.1 0).f0.f0) ((rd_T34 bt220.1 0).f0.f1) ((rd_T34 bt220.1 0).f0.f2) ((rd_T34 bt220.1 0).f0.f3) ((rd_T34 bt220.1 0).f0.f4) ((rd_T34 bt220.1 1).f0.f0) ((rd_T34 bt220.1 1).f0.f1) ((rd_T34 bt220.1 1).f0.f2) ((rd_T34 bt220.1 1).f0.f3) ((rd_T34 bt220.1 1).f0.f4)).bind fun t251 => (some (t251 == (-1)))) else (none)) else (none)) else (some false)) else (some false)) else (some false)) else (none)) else (some false)) else (some false)) else (some false)) else (some false))))))))))) = some r := H
  have A2 := Aside0.mk A20
  clear A20
  replace H := Option.bind_eq_some_iff.mp H
  obtain ⟨⟨t196, t197, t198, t199, t200, t201, t202⟩, A30, H⟩ := H
  replace H : ((accountinglaw19_cell.f (⟨#[51, 48]⟩ : ByteArray) 1).bind fun bt203 => ((accountinglaw19_cell.f (⟨#[51, 48]⟩ : ByteArray) (-1)).bind fun bt210 => ((sheet_Of.f (([(⟨(⟨t182, t183, t184, t185, t186⟩ : S32), t187, t188⟩ : S34), (⟨(⟨t189, t190, t191, t192, t193⟩ : S32), t194, t195⟩ : S34), (⟨(⟨t196, t197, t198, t199, t200⟩ : S32), t201, t202⟩ : S34), (⟨(⟨bt203.1, bt203.2.1, bt203.2.2.1, bt203.2.2.2.1, bt203.2.2.2.2.1⟩ : S32), bt203.2.2.2.2.2.1, bt203.2.2.2.2.2.2⟩ : S34), (⟨(⟨bt210.1, bt210.2.1, bt210.2.2.1, bt210.2.2.2.1, bt210.2.2.2.2.1⟩ : S32), bt210.2.2.2.2.2.1, bt210.2.2.2.2.2.2⟩ : S34)] : List (S34)))).bind fun bt220 => ((sheet_Fold.f k bt220.1 1).bind fun bt224 => ((sheet_Base.f k bt220.1).bind fun bt228 => ((accountinglaw19_cell.f (⟨#[49, 48]⟩ : ByteArray) 7).bind fun bt230 => ((accountinglaw19_cell.f (⟨#[50, 48]⟩ : ByteArray) (-3)).bind fun bt237 => ((accountingref19_Same.f k bt220.1 (([(⟨(⟨bt230.1, bt230.2.1, bt230.2.2.1, bt230.2.2.2.1, bt230.2.2.2.2.1⟩ : S32), bt230.2.2.2.2.2.1, bt230.2.2.2.2.2.2⟩ : S34), (⟨(⟨bt237.1, bt237.2.1, bt237.2.2.1, bt237.2.2.2.1, bt237.2.2.2.2.1⟩ : S32), bt237.2.2.2.2.2.1, bt237.2.2.2.2.2.2⟩ : S34)] : List (S34)))).bind fun t247 => (if t247 = true then (if bt220.2 = 0 then (if (bt224.1.length : Int) = 1 then (if bt224.2 = 0 then (if 0 < (bt224.1.length : Int) then (if (((((rd_T34 bt224.1 0).f0.f0).toList) == ([97] : List UInt8) && ((((rd_T34 bt224.1 0).f0.f1).toList) == ([] : List UInt8) && ((((rd_T34 bt224.1 0).f0.f2).toList) == ([] : List UInt8) && ((((rd_T34 bt224.1 0).f0.f3).toList) == ([] : List UInt8) && ((((rd_T34 bt224.1 0).f0.f4).toList) == ([] : List UInt8)))))) && (((rd_T34 bt224.1 0).f1) == 4 && (((rd_T34 bt224.1 0).f2) == 4))) = true then (if bt228.1 = 4 then (if bt228.2 = 0 then (if 0 < (bt220.1.length : Int) then (if 1 < (bt220.1.length : Int) then ((sheet_Cmp.f ((rd_T34 bt220.1 0).f0.f0) ((rd_T34 bt220.1 0).f0.f1) ((rd_T34 bt220.1 0).f0.f2) ((rd_T34 bt220.1 0).f0.f3) ((rd_T34 bt220.1 0).f0.f4) ((rd_T34 bt220.1 1).f0.f0) ((rd_T34 bt220.1 1).f0.f1) ((rd_T34 bt220.1 1).f0.f2) ((rd_T34 bt220.1 1).f0.f3) ((rd_T34 bt220.1 1).f0.f4)).bind fun t251 => (some (t251 == (-1)))) else (none)) else (none)) else (some false)) else (some false)) else (some false)) else (none)) else (some false)) else (some false)) else (some false)) else (some false)))))))))) = some r := H
  have A3 := Aside0.mk A30
  clear A30
  replace H := Option.bind_eq_some_iff.mp H
  obtain ⟨⟨t203, t204, t205, t206, t207, t208, t209⟩, A40, H⟩ := H
  replace H : ((accountinglaw19_cell.f (⟨#[51, 48]⟩ : ByteArray) (-1)).bind fun bt210 => ((sheet_Of.f (([(⟨(⟨t182, t183, t184, t185, t186⟩ : S32), t187, t188⟩ : S34), (⟨(⟨t189, t190, t191, t192, t193⟩ : S32), t194, t195⟩ : S34), (⟨(⟨t196, t197, t198, t199, t200⟩ : S32), t201, t202⟩ : S34), (⟨(⟨t203, t204, t205, t206, t207⟩ : S32), t208, t209⟩ : S34), (⟨(⟨bt210.1, bt210.2.1, bt210.2.2.1, bt210.2.2.2.1, bt210.2.2.2.2.1⟩ : S32), bt210.2.2.2.2.2.1, bt210.2.2.2.2.2.2⟩ : S34)] : List (S34)))).bind fun bt220 => ((sheet_Fold.f k bt220.1 1).bind fun bt224 => ((sheet_Base.f k bt220.1).bind fun bt228 => ((accountinglaw19_cell.f (⟨#[49, 48]⟩ : ByteArray) 7).bind fun bt230 => ((accountinglaw19_cell.f (⟨#[50, 48]⟩ : ByteArray) (-3)).bind fun bt237 => ((accountingref19_Same.f k bt220.1 (([(⟨(⟨bt230.1, bt230.2.1, bt230.2.2.1, bt230.2.2.2.1, bt230.2.2.2.2.1⟩ : S32), bt230.2.2.2.2.2.1, bt230.2.2.2.2.2.2⟩ : S34), (⟨(⟨bt237.1, bt237.2.1, bt237.2.2.1, bt237.2.2.2.1, bt237.2.2.2.2.1⟩ : S32), bt237.2.2.2.2.2.1, bt237.2.2.2.2.2.2⟩ : S34)] : List (S34)))).bind fun t247 => (if t247 = true then (if bt220.2 = 0 then (if (bt224.1.length : Int) = 1 then (if bt224.2 = 0 then (if 0 < (bt224.1.length : Int) then (if (((((rd_T34 bt224.1 0).f0.f0).toList) == ([97] : List UInt8) && ((((rd_T34 bt224.1 0).f0.f1).toList) == ([] : List UInt8) && ((((rd_T34 bt224.1 0).f0.f2).toList) == ([] : List UInt8) && ((((rd_T34 bt224.1 0).f0.f3).toList) == ([] : List UInt8) && ((((rd_T34 bt224.1 0).f0.f4).toList) == ([] : List UInt8)))))) && (((rd_T34 bt224.1 0).f1) == 4 && (((rd_T34 bt224.1 0).f2) == 4))) = true then (if bt228.1 = 4 then (if bt228.2 = 0 then (if 0 < (bt220.1.length : Int) then (if 1 < (bt220.1.length : Int) then ((sheet_Cmp.f ((rd_T34 bt220.1 0).f0.f0) ((rd_T34 bt220.1 0).f0.f1) ((rd_T34 bt220.1 0).f0.f2) ((rd_T34 bt220.1 0).f0.f3) ((rd_T34 bt220.1 0).f0.f4) ((rd_T34 bt220.1 1).f0.f0) ((rd_T34 bt220.1 1).f0.f1) ((rd_T34 bt220.1 1).f0.f2) ((rd_T34 bt220.1 1).f0.f3) ((rd_T34 bt220.1 1).f0.f4)).bind fun t251 => (some (t251 == (-1)))) else (none)) else (none)) else (some false)) else (some false)) else (some false)) else (none)) else (some false)) else (some false)) else (some false)) else (some false))))))))) = some r := H
  have A4 := Aside0.mk A40
  clear A40
  replace H := Option.bind_eq_some_iff.mp H
  obtain ⟨⟨t210, t211, t212, t213, t214, t215, t216⟩, A50, H⟩ := H
  replace H : ((sheet_Of.f (([(⟨(⟨t182, t183, t184, t185, t186⟩ : S32), t187, t188⟩ : S34), (⟨(⟨t189, t190, t191, t192, t193⟩ : S32), t194, t195⟩ : S34), (⟨(⟨t196, t197, t198, t199, t200⟩ : S32), t201, t202⟩ : S34), (⟨(⟨t203, t204, t205, t206, t207⟩ : S32), t208, t209⟩ : S34), (⟨(⟨t210, t211, t212, t213, t214⟩ : S32), t215, t216⟩ : S34)] : List (S34)))).bind fun bt220 => ((sheet_Fold.f k bt220.1 1).bind fun bt224 => ((sheet_Base.f k bt220.1).bind fun bt228 => ((accountinglaw19_cell.f (⟨#[49, 48]⟩ : ByteArray) 7).bind fun bt230 => ((accountinglaw19_cell.f (⟨#[50, 48]⟩ : ByteArray) (-3)).bind fun bt237 => ((accountingref19_Same.f k bt220.1 (([(⟨(⟨bt230.1, bt230.2.1, bt230.2.2.1, bt230.2.2.2.1, bt230.2.2.2.2.1⟩ : S32), bt230.2.2.2.2.2.1, bt230.2.2.2.2.2.2⟩ : S34), (⟨(⟨bt237.1, bt237.2.1, bt237.2.2.1, bt237.2.2.2.1, bt237.2.2.2.2.1⟩ : S32), bt237.2.2.2.2.2.1, bt237.2.2.2.2.2.2⟩ : S34)] : List (S34)))).bind fun t247 => (if t247 = true then (if bt220.2 = 0 then (if (bt224.1.length : Int) = 1 then (if bt224.2 = 0 then (if 0 < (bt224.1.length : Int) then (if (((((rd_T34 bt224.1 0).f0.f0).toList) == ([97] : List UInt8) && ((((rd_T34 bt224.1 0).f0.f1).toList) == ([] : List UInt8) && ((((rd_T34 bt224.1 0).f0.f2).toList) == ([] : List UInt8) && ((((rd_T34 bt224.1 0).f0.f3).toList) == ([] : List UInt8) && ((((rd_T34 bt224.1 0).f0.f4).toList) == ([] : List UInt8)))))) && (((rd_T34 bt224.1 0).f1) == 4 && (((rd_T34 bt224.1 0).f2) == 4))) = true then (if bt228.1 = 4 then (if bt228.2 = 0 then (if 0 < (bt220.1.length : Int) then (if 1 < (bt220.1.length : Int) then ((sheet_Cmp.f ((rd_T34 bt220.1 0).f0.f0) ((rd_T34 bt220.1 0).f0.f1) ((rd_T34 bt220.1 0).f0.f2) ((rd_T34 bt220.1 0).f0.f3) ((rd_T34 bt220.1 0).f0.f4) ((rd_T34 bt220.1 1).f0.f0) ((rd_T34 bt220.1 1).f0.f1) ((rd_T34 bt220.1 1).f0.f2) ((rd_T34 bt220.1 1).f0.f3) ((rd_T34 bt220.1 1).f0.f4)).bind fun t251 => (some (t251 == (-1)))) else (none)) else (none)) else (some false)) else (some false)) else (some false)) else (none)) else (some false)) else (some false)) else (some false)) else (some false)))))))) = some r := H
  have A5 := Aside0.mk A50
  clear A50
  obtain ⟨y217, hy217⟩ : ∃ y_ : List (S34), y_ = (([(⟨(⟨t182, t183, t184, t185, t186⟩ : S32), t187, t188⟩ : S34), (⟨(⟨t189, t190, t191, t192, t193⟩ : S32), t194, t195⟩ : S34), (⟨(⟨t196, t197, t198, t199, t200⟩ : S32), t201, t202⟩ : S34), (⟨(⟨t203, t204, t205, t206, t207⟩ : S32), t208, t209⟩ : S34), (⟨(⟨t210, t211, t212, t213, t214⟩ : S32), t215, t216⟩ : S34)] : List (S34))) := ⟨_, rfl⟩
  replace H : ((sheet_Of.f y217).bind fun bt220 => ((sheet_Fold.f k bt220.1 1).bind fun bt224 => ((sheet_Base.f k bt220.1).bind fun bt228 => ((accountinglaw19_cell.f (⟨#[49, 48]⟩ : ByteArray) 7).bind fun bt230 => ((accountinglaw19_cell.f (⟨#[50, 48]⟩ : ByteArray) (-3)).bind fun bt237 => ((accountingref19_Same.f k bt220.1 (([(⟨(⟨bt230.1, bt230.2.1, bt230.2.2.1, bt230.2.2.2.1, bt230.2.2.2.2.1⟩ : S32), bt230.2.2.2.2.2.1, bt230.2.2.2.2.2.2⟩ : S34), (⟨(⟨bt237.1, bt237.2.1, bt237.2.2.1, bt237.2.2.2.1, bt237.2.2.2.2.1⟩ : S32), bt237.2.2.2.2.2.1, bt237.2.2.2.2.2.2⟩ : S34)] : List (S34)))).bind fun t247 => (if t247 = true then (if bt220.2 = 0 then (if (bt224.1.length : Int) = 1 then (if bt224.2 = 0 then (if 0 < (bt224.1.length : Int) then (if (((((rd_T34 bt224.1 0).f0.f0).toList) == ([97] : List UInt8) && ((((rd_T34 bt224.1 0).f0.f1).toList) == ([] : List UInt8) && ((((rd_T34 bt224.1 0).f0.f2).toList) == ([] : List UInt8) && ((((rd_T34 bt224.1 0).f0.f3).toList) == ([] : List UInt8) && ((((rd_T34 bt224.1 0).f0.f4).toList) == ([] : List UInt8)))))) && (((rd_T34 bt224.1 0).f1) == 4 && (((rd_T34 bt224.1 0).f2) == 4))) = true then (if bt228.1 = 4 then (if bt228.2 = 0 then (if 0 < (bt220.1.length : Int) then (if 1 < (bt220.1.length : Int) then ((sheet_Cmp.f ((rd_T34 bt220.1 0).f0.f0) ((rd_T34 bt220.1 0).f0.f1) ((rd_T34 bt220.1 0).f0.f2) ((rd_T34 bt220.1 0).f0.f3) ((rd_T34 bt220.1 0).f0.f4) ((rd_T34 bt220.1 1).f0.f0) ((rd_T34 bt220.1 1).f0.f1) ((rd_T34 bt220.1 1).f0.f2) ((rd_T34 bt220.1 1).f0.f3) ((rd_T34 bt220.1 1).f0.f4)).bind fun t251 => (some (t251 == (-1)))) else (none)) else (none)) else (some false)) else (some false)) else (some false)) else (none)) else (some false)) else (some false)) else (some false)) else (some false)))))))) = some r := by first | (rw [hy217]; with_reducible exact H) | (have H2_ := (Option.bind_some _ _).symm.trans H; rw [hy217]; with_reducible exact H2_) | (have H2_ := (Option.bind_some _ _).symm.trans H; with_reducible exact H2_) | with_reducible exact H | (rw [hy217]; exact H) | exact H
  have Ny217 := Aside0.mk hy217
  clear hy217
  replace H := Option.bind_eq_some_iff.mp H
  obtain ⟨⟨t220, t221⟩, A60, H⟩ := H
  replace H : ((sheet_Fold.f k t220 1).bind fun bt224 => ((sheet_Base.f k t220).bind fun bt228 => ((accountinglaw19_cell.f (⟨#[49, 48]⟩ : ByteArray) 7).bind fun bt230 => ((accountinglaw19_cell.f (⟨#[50, 48]⟩ : ByteArray) (-3)).bind fun bt237 => ((accountingref19_Same.f k t220 (([(⟨(⟨bt230.1, bt230.2.1, bt230.2.2.1, bt230.2.2.2.1, bt230.2.2.2.2.1⟩ : S32), bt230.2.2.2.2.2.1, bt230.2.2.2.2.2.2⟩ : S34), (⟨(⟨bt237.1, bt237.2.1, bt237.2.2.1, bt237.2.2.2.1, bt237.2.2.2.2.1⟩ : S32), bt237.2.2.2.2.2.1, bt237.2.2.2.2.2.2⟩ : S34)] : List (S34)))).bind fun t247 => (if t247 = true then (if t221 = 0 then (if (bt224.1.length : Int) = 1 then (if bt224.2 = 0 then (if 0 < (bt224.1.length : Int) then (if (((((rd_T34 bt224.1 0).f0.f0).toList) == ([97] : List UInt8) && ((((rd_T34 bt224.1 0).f0.f1).toList) == ([] : List UInt8) && ((((rd_T34 bt224.1 0).f0.f2).toList) == ([] : List UInt8) && ((((rd_T34 bt224.1 0).f0.f3).toList) == ([] : List UInt8) && ((((rd_T34 bt224.1 0).f0.f4).toList) == ([] : List UInt8)))))) && (((rd_T34 bt224.1 0).f1) == 4 && (((rd_T34 bt224.1 0).f2) == 4))) = true then (if bt228.1 = 4 then (if bt228.2 = 0 then (if 0 < (t220.length : Int) then (if 1 < (t220.length : Int) then ((sheet_Cmp.f ((rd_T34 t220 0).f0.f0) ((rd_T34 t220 0).f0.f1) ((rd_T34 t220 0).f0.f2) ((rd_T34 t220 0).f0.f3) ((rd_T34 t220 0).f0.f4) ((rd_T34 t220 1).f0.f0) ((rd_T34 t220 1).f0.f1) ((rd_T34 t220 1).f0.f2) ((rd_T34 t220 1).f0.f3) ((rd_T34 t220 1).f0.f4)).bind fun t251 => (some (t251 == (-1)))) else (none)) else (none)) else (some false)) else (some false)) else (some false)) else (none)) else (some false)) else (some false)) else (some false)) else (some false))))))) = some r := H
  have A6 := Aside0.mk A60
  clear A60
  replace H := Option.bind_eq_some_iff.mp H
  obtain ⟨⟨t224, t225⟩, A70, H⟩ := H
  replace H : ((sheet_Base.f k t220).bind fun bt228 => ((accountinglaw19_cell.f (⟨#[49, 48]⟩ : ByteArray) 7).bind fun bt230 => ((accountinglaw19_cell.f (⟨#[50, 48]⟩ : ByteArray) (-3)).bind fun bt237 => ((accountingref19_Same.f k t220 (([(⟨(⟨bt230.1, bt230.2.1, bt230.2.2.1, bt230.2.2.2.1, bt230.2.2.2.2.1⟩ : S32), bt230.2.2.2.2.2.1, bt230.2.2.2.2.2.2⟩ : S34), (⟨(⟨bt237.1, bt237.2.1, bt237.2.2.1, bt237.2.2.2.1, bt237.2.2.2.2.1⟩ : S32), bt237.2.2.2.2.2.1, bt237.2.2.2.2.2.2⟩ : S34)] : List (S34)))).bind fun t247 => (if t247 = true then (if t221 = 0 then (if (t224.length : Int) = 1 then (if t225 = 0 then (if 0 < (t224.length : Int) then (if (((((rd_T34 t224 0).f0.f0).toList) == ([97] : List UInt8) && ((((rd_T34 t224 0).f0.f1).toList) == ([] : List UInt8) && ((((rd_T34 t224 0).f0.f2).toList) == ([] : List UInt8) && ((((rd_T34 t224 0).f0.f3).toList) == ([] : List UInt8) && ((((rd_T34 t224 0).f0.f4).toList) == ([] : List UInt8)))))) && (((rd_T34 t224 0).f1) == 4 && (((rd_T34 t224 0).f2) == 4))) = true then (if bt228.1 = 4 then (if bt228.2 = 0 then (if 0 < (t220.length : Int) then (if 1 < (t220.length : Int) then ((sheet_Cmp.f ((rd_T34 t220 0).f0.f0) ((rd_T34 t220 0).f0.f1) ((rd_T34 t220 0).f0.f2) ((rd_T34 t220 0).f0.f3) ((rd_T34 t220 0).f0.f4) ((rd_T34 t220 1).f0.f0) ((rd_T34 t220 1).f0.f1) ((rd_T34 t220 1).f0.f2) ((rd_T34 t220 1).f0.f3) ((rd_T34 t220 1).f0.f4)).bind fun t251 => (some (t251 == (-1)))) else (none)) else (none)) else (some false)) else (some false)) else (some false)) else (none)) else (some false)) else (some false)) else (some false)) else (some false)))))) = some r := H
  have A7 := Aside0.mk A70
  clear A70
  replace H := Option.bind_eq_some_iff.mp H
  obtain ⟨⟨t228, t229⟩, A80, H⟩ := H
  replace H : ((accountinglaw19_cell.f (⟨#[49, 48]⟩ : ByteArray) 7).bind fun bt230 => ((accountinglaw19_cell.f (⟨#[50, 48]⟩ : ByteArray) (-3)).bind fun bt237 => ((accountingref19_Same.f k t220 (([(⟨(⟨bt230.1, bt230.2.1, bt230.2.2.1, bt230.2.2.2.1, bt230.2.2.2.2.1⟩ : S32), bt230.2.2.2.2.2.1, bt230.2.2.2.2.2.2⟩ : S34), (⟨(⟨bt237.1, bt237.2.1, bt237.2.2.1, bt237.2.2.2.1, bt237.2.2.2.2.1⟩ : S32), bt237.2.2.2.2.2.1, bt237.2.2.2.2.2.2⟩ : S34)] : List (S34)))).bind fun t247 => (if t247 = true then (if t221 = 0 then (if (t224.length : Int) = 1 then (if t225 = 0 then (if 0 < (t224.length : Int) then (if (((((rd_T34 t224 0).f0.f0).toList) == ([97] : List UInt8) && ((((rd_T34 t224 0).f0.f1).toList) == ([] : List UInt8) && ((((rd_T34 t224 0).f0.f2).toList) == ([] : List UInt8) && ((((rd_T34 t224 0).f0.f3).toList) == ([] : List UInt8) && ((((rd_T34 t224 0).f0.f4).toList) == ([] : List UInt8)))))) && (((rd_T34 t224 0).f1) == 4 && (((rd_T34 t224 0).f2) == 4))) = true then (if t228 = 4 then (if t229 = 0 then (if 0 < (t220.length : Int) then (if 1 < (t220.length : Int) then ((sheet_Cmp.f ((rd_T34 t220 0).f0.f0) ((rd_T34 t220 0).f0.f1) ((rd_T34 t220 0).f0.f2) ((rd_T34 t220 0).f0.f3) ((rd_T34 t220 0).f0.f4) ((rd_T34 t220 1).f0.f0) ((rd_T34 t220 1).f0.f1) ((rd_T34 t220 1).f0.f2) ((rd_T34 t220 1).f0.f3) ((rd_T34 t220 1).f0.f4)).bind fun t251 => (some (t251 == (-1)))) else (none)) else (none)) else (some false)) else (some false)) else (some false)) else (none)) else (some false)) else (some false)) else (some false)) else (some false))))) = some r := H
  have A8 := Aside0.mk A80
  clear A80
  replace H := Option.bind_eq_some_iff.mp H
  obtain ⟨⟨t230, t231, t232, t233, t234, t235, t236⟩, A90, H⟩ := H
  replace H : ((accountinglaw19_cell.f (⟨#[50, 48]⟩ : ByteArray) (-3)).bind fun bt237 => ((accountingref19_Same.f k t220 (([(⟨(⟨t230, t231, t232, t233, t234⟩ : S32), t235, t236⟩ : S34), (⟨(⟨bt237.1, bt237.2.1, bt237.2.2.1, bt237.2.2.2.1, bt237.2.2.2.2.1⟩ : S32), bt237.2.2.2.2.2.1, bt237.2.2.2.2.2.2⟩ : S34)] : List (S34)))).bind fun t247 => (if t247 = true then (if t221 = 0 then (if (t224.length : Int) = 1 then (if t225 = 0 then (if 0 < (t224.length : Int) then (if (((((rd_T34 t224 0).f0.f0).toList) == ([97] : List UInt8) && ((((rd_T34 t224 0).f0.f1).toList) == ([] : List UInt8) && ((((rd_T34 t224 0).f0.f2).toList) == ([] : List UInt8) && ((((rd_T34 t224 0).f0.f3).toList) == ([] : List UInt8) && ((((rd_T34 t224 0).f0.f4).toList) == ([] : List UInt8)))))) && (((rd_T34 t224 0).f1) == 4 && (((rd_T34 t224 0).f2) == 4))) = true then (if t228 = 4 then (if t229 = 0 then (if 0 < (t220.length : Int) then (if 1 < (t220.length : Int) then ((sheet_Cmp.f ((rd_T34 t220 0).f0.f0) ((rd_T34 t220 0).f0.f1) ((rd_T34 t220 0).f0.f2) ((rd_T34 t220 0).f0.f3) ((rd_T34 t220 0).f0.f4) ((rd_T34 t220 1).f0.f0) ((rd_T34 t220 1).f0.f1) ((rd_T34 t220 1).f0.f2) ((rd_T34 t220 1).f0.f3) ((rd_T34 t220 1).f0.f4)).bind fun t251 => (some (t251 == (-1)))) else (none)) else (none)) else (some false)) else (some false)) else (some false)) else (none)) else (some false)) else (some false)) else (some false)) else (some false)))) = some r := H
  have A9 := Aside0.mk A90
  clear A90
  replace H := Option.bind_eq_some_iff.mp H
  obtain ⟨⟨t237, t238, t239, t240, t241, t242, t243⟩, A100, H⟩ := H
  replace H : ((accountingref19_Same.f k t220 (([(⟨(⟨t230, t231, t232, t233, t234⟩ : S32), t235, t236⟩ : S34), (⟨(⟨t237, t238, t239, t240, t241⟩ : S32), t242, t243⟩ : S34)] : List (S34)))).bind fun t247 => (if t247 = true then (if t221 = 0 then (if (t224.length : Int) = 1 then (if t225 = 0 then (if 0 < (t224.length : Int) then (if (((((rd_T34 t224 0).f0.f0).toList) == ([97] : List UInt8) && ((((rd_T34 t224 0).f0.f1).toList) == ([] : List UInt8) && ((((rd_T34 t224 0).f0.f2).toList) == ([] : List UInt8) && ((((rd_T34 t224 0).f0.f3).toList) == ([] : List UInt8) && ((((rd_T34 t224 0).f0.f4).toList) == ([] : List UInt8)))))) && (((rd_T34 t224 0).f1) == 4 && (((rd_T34 t224 0).f2) == 4))) = true then (if t228 = 4 then (if t229 = 0 then (if 0 < (t220.length : Int) then (if 1 < (t220.length : Int) then ((sheet_Cmp.f ((rd_T34 t220 0).f0.f0) ((rd_T34 t220 0).f0.f1) ((rd_T34 t220 0).f0.f2) ((rd_T34 t220 0).f0.f3) ((rd_T34 t220 0).f0.f4) ((rd_T34 t220 1).f0.f0) ((rd_T34 t220 1).f0.f1) ((rd_T34 t220 1).f0.f2) ((rd_T34 t220 1).f0.f3) ((rd_T34 t220 1).f0.f4)).bind fun t251 => (some (t251 == (-1)))) else (none)) else (none)) else (some false)) else (some false)) else (some false)) else (none)) else (some false)) else (some false)) else (some false)) else (some false))) = some r := H
  have A10 := Aside0.mk A100
  clear A100
  obtain ⟨y244, hy244⟩ : ∃ y_ : List (S34), y_ = (([(⟨(⟨t230, t231, t232, t233, t234⟩ : S32), t235, t236⟩ : S34), (⟨(⟨t237, t238, t239, t240, t241⟩ : S32), t242, t243⟩ : S34)] : List (S34))) := ⟨_, rfl⟩
  replace H : ((accountingref19_Same.f k t220 y244).bind fun t247 => (if t247 = true then (if t221 = 0 then (if (t224.length : Int) = 1 then (if t225 = 0 then (if 0 < (t224.length : Int) then (if (((((rd_T34 t224 0).f0.f0).toList) == ([97] : List UInt8) && ((((rd_T34 t224 0).f0.f1).toList) == ([] : List UInt8) && ((((rd_T34 t224 0).f0.f2).toList) == ([] : List UInt8) && ((((rd_T34 t224 0).f0.f3).toList) == ([] : List UInt8) && ((((rd_T34 t224 0).f0.f4).toList) == ([] : List UInt8)))))) && (((rd_T34 t224 0).f1) == 4 && (((rd_T34 t224 0).f2) == 4))) = true then (if t228 = 4 then (if t229 = 0 then (if 0 < (t220.length : Int) then (if 1 < (t220.length : Int) then ((sheet_Cmp.f ((rd_T34 t220 0).f0.f0) ((rd_T34 t220 0).f0.f1) ((rd_T34 t220 0).f0.f2) ((rd_T34 t220 0).f0.f3) ((rd_T34 t220 0).f0.f4) ((rd_T34 t220 1).f0.f0) ((rd_T34 t220 1).f0.f1) ((rd_T34 t220 1).f0.f2) ((rd_T34 t220 1).f0.f3) ((rd_T34 t220 1).f0.f4)).bind fun t251 => (some (t251 == (-1)))) else (none)) else (none)) else (some false)) else (some false)) else (some false)) else (none)) else (some false)) else (some false)) else (some false)) else (some false))) = some r := by first | (rw [hy244]; with_reducible exact H) | (have H2_ := (Option.bind_some _ _).symm.trans H; rw [hy244]; with_reducible exact H2_) | (have H2_ := (Option.bind_some _ _).symm.trans H; with_reducible exact H2_) | with_reducible exact H | (rw [hy244]; exact H) | exact H
  have Ny244 := Aside0.mk hy244
  clear hy244
  replace H := Option.bind_eq_some_iff.mp H
  obtain ⟨t247, A110, H⟩ := H
  replace H : (if t247 = true then (if t221 = 0 then (if (t224.length : Int) = 1 then (if t225 = 0 then (if 0 < (t224.length : Int) then (if (((((rd_T34 t224 0).f0.f0).toList) == ([97] : List UInt8) && ((((rd_T34 t224 0).f0.f1).toList) == ([] : List UInt8) && ((((rd_T34 t224 0).f0.f2).toList) == ([] : List UInt8) && ((((rd_T34 t224 0).f0.f3).toList) == ([] : List UInt8) && ((((rd_T34 t224 0).f0.f4).toList) == ([] : List UInt8)))))) && (((rd_T34 t224 0).f1) == 4 && (((rd_T34 t224 0).f2) == 4))) = true then (if t228 = 4 then (if t229 = 0 then (if 0 < (t220.length : Int) then (if 1 < (t220.length : Int) then ((sheet_Cmp.f ((rd_T34 t220 0).f0.f0) ((rd_T34 t220 0).f0.f1) ((rd_T34 t220 0).f0.f2) ((rd_T34 t220 0).f0.f3) ((rd_T34 t220 0).f0.f4) ((rd_T34 t220 1).f0.f0) ((rd_T34 t220 1).f0.f1) ((rd_T34 t220 1).f0.f2) ((rd_T34 t220 1).f0.f3) ((rd_T34 t220 1).f0.f4)).bind fun t251 => (some (t251 == (-1)))) else (none)) else (none)) else (some false)) else (some false)) else (some false)) else (none)) else (some false)) else (some false)) else (some false)) else (some false)) = some r := H
  have A11 := Aside0.mk A110
  clear A110
  by_cases c12 : t247 = true
  · subst c12
    have H1 : (if t221 = 0 then (if (t224.length : Int) = 1 then (if t225 = 0 then (if 0 < (t224.length : Int) then (if (((((rd_T34 t224 0).f0.f0).toList) == ([97] : List UInt8) && ((((rd_T34 t224 0).f0.f1).toList) == ([] : List UInt8) && ((((rd_T34 t224 0).f0.f2).toList) == ([] : List UInt8) && ((((rd_T34 t224 0).f0.f3).toList) == ([] : List UInt8) && ((((rd_T34 t224 0).f0.f4).toList) == ([] : List UInt8)))))) && (((rd_T34 t224 0).f1) == 4 && (((rd_T34 t224 0).f2) == 4))) = true then (if t228 = 4 then (if t229 = 0 then (if 0 < (t220.length : Int) then (if 1 < (t220.length : Int) then ((sheet_Cmp.f ((rd_T34 t220 0).f0.f0) ((rd_T34 t220 0).f0.f1) ((rd_T34 t220 0).f0.f2) ((rd_T34 t220 0).f0.f3) ((rd_T34 t220 0).f0.f4) ((rd_T34 t220 1).f0.f0) ((rd_T34 t220 1).f0.f1) ((rd_T34 t220 1).f0.f2) ((rd_T34 t220 1).f0.f3) ((rd_T34 t220 1).f0.f4)).bind fun t251 => (some (t251 == (-1)))) else (none)) else (none)) else (some false)) else (some false)) else (some false)) else (none)) else (some false)) else (some false)) else (some false)) = some r := by rw [if_pos rfl] at H; exact H
    clear H
    have H := H1
    clear H1
    by_cases c13 : t221 = 0
    · rw [if_pos c13] at H
      have c13b0 : (t221 == 0) = true := beq_iff_eq.mpr c13
      have c13b1 : (t221 != 0) = false := bne_eq_false_iff_eq.mpr c13
      clear c13
      by_cases c14 : (t224.length : Int) = 1
      · rw [if_pos c14] at H
        have c14b0 : ((t224.length : Int) == 1) = true := beq_iff_eq.mpr c14
        have c14b1 : ((t224.length : Int) != 1) = false := bne_eq_false_iff_eq.mpr c14
        clear c14
        by_cases c15 : t225 = 0
        · rw [if_pos c15] at H
          have c15b0 : (t225 == 0) = true := beq_iff_eq.mpr c15
          have c15b1 : (t225 != 0) = false := bne_eq_false_iff_eq.mpr c15
          clear c15
          by_cases c16 : 0 < (t224.length : Int)
          · rw [if_pos c16] at H
            have c16b0 : decide (0 < (t224.length : Int)) = true := decide_eq_true c16
            have c16b1 : decide (0 < t224.length) = true := decide_eq_true (by omega)
            clear c16
            by_cases c17 : (((((rd_T34 t224 0).f0.f0).toList) == ([97] : List UInt8) && ((((rd_T34 t224 0).f0.f1).toList) == ([] : List UInt8) && ((((rd_T34 t224 0).f0.f2).toList) == ([] : List UInt8) && ((((rd_T34 t224 0).f0.f3).toList) == ([] : List UInt8) && ((((rd_T34 t224 0).f0.f4).toList) == ([] : List UInt8)))))) && (((rd_T34 t224 0).f1) == 4 && (((rd_T34 t224 0).f2) == 4))) = true
            · rw [if_pos c17] at H
              have c17b0 : (((((rd_T34 t224 0).f0.f0).toList) == ([97] : List UInt8) && ((((rd_T34 t224 0).f0.f1).toList) == ([] : List UInt8) && ((((rd_T34 t224 0).f0.f2).toList) == ([] : List UInt8) && ((((rd_T34 t224 0).f0.f3).toList) == ([] : List UInt8) && ((((rd_T34 t224 0).f0.f4).toList) == ([] : List UInt8)))))) && (((rd_T34 t224 0).f1) == 4 && (((rd_T34 t224 0).f2) == 4))) = true := c17
              have c17b1 := c17b0
              simp only [List.beq_nil_eq] at c17b1
              clear c17
              by_cases c18 : t228 = 4
              · rw [if_pos c18] at H
                have c18b0 : (t228 == 4) = true := beq_iff_eq.mpr c18
                have c18b1 : (t228 != 4) = false := bne_eq_false_iff_eq.mpr c18
                clear c18
                by_cases c19 : t229 = 0
                · rw [if_pos c19] at H
                  have c19b0 : (t229 == 0) = true := beq_iff_eq.mpr c19
                  have c19b1 : (t229 != 0) = false := bne_eq_false_iff_eq.mpr c19
                  clear c19
                  by_cases c20 : 0 < (t220.length : Int)
                  · rw [if_pos c20] at H
                    have c20b0 : decide (0 < (t220.length : Int)) = true := decide_eq_true c20
                    have c20b1 : decide (0 < t220.length) = true := decide_eq_true (by omega)
                    clear c20
                    by_cases c21 : 1 < (t220.length : Int)
                    · rw [if_pos c21] at H
                      have c21b0 : decide (1 < (t220.length : Int)) = true := decide_eq_true c21
                      have c21b1 : decide (1 < t220.length) = true := decide_eq_true (by omega)
                      clear c21
                      replace H := Option.bind_eq_some_iff.mp H
                      obtain ⟨t251, A220, H⟩ := H
                      replace H : (some (t251 == (-1))) = some r := H
                      have A22 := Aside0.mk A220
                      clear A220
                      obtain rfl := Option.some.inj H
                      go_enter Try.func24, Try.ntmps24
                      try go_wp2_with (first | ((with_reducible refine gate_callee (f := 61) rfl ?_); refine goesL_ (some 8) rfl rfl Try.func61 (by kernel_rfl) rfl #[.string (⟨#[50, 48]⟩ : ByteArray), .int .i64 (-5)] rfl (by (try simp only [List.map_toArray, List.map_cons, List.map_nil]); first | done | rfl | (simp only [List.length_drop, List.length_take]; rfl)) ?_; (with_reducible refine (accountinglaw19_cell.calls (⟨#[50, 48]⟩ : ByteArray) (-5) t182 t183 t184 t185 t186 t187 t188 _ A1.out).mono ?_); rintro e w23 ⟨rfl, hb⟩; refine ⟨_, rfl, ?_⟩; have n0_ := Aside0.mk (below_step (by repeat (first | (with_reducible first | exact HB.out | apply below_alloc | apply pw_below_drewN | apply below_drew1) | exact HB.out)) hb); clear HB; have HB := n0_; clear n0_; (try clear hb); (try clear hb2); (try clear hk); (try clear hi)) | ((with_reducible refine gate_callee (f := 61) rfl ?_); refine goesL_ (some 9) rfl rfl Try.func61 (by kernel_rfl) rfl #[.string (⟨#[49, 48]⟩ : ByteArray), .int .i64 7] rfl (by (try simp only [List.map_toArray, List.map_cons, List.map_nil]); first | done | rfl | (simp only [List.length_drop, List.length_take]; rfl)) ?_; (with_reducible refine (accountinglaw19_cell.calls (⟨#[49, 48]⟩ : ByteArray) 7 t189 t190 t191 t192 t193 t194 t195 _ A2.out).mono ?_); rintro e w24 ⟨rfl, hb⟩; refine ⟨_, rfl, ?_⟩; have n0_ := Aside0.mk (below_step (by repeat (first | (with_reducible first | exact HB.out | apply below_alloc | apply pw_below_drewN | apply below_drew1) | exact HB.out)) hb); clear HB; have HB := n0_; clear n0_; (try clear hb); (try clear hb2); (try clear hk); (try clear hi)) | ((with_reducible refine gate_callee (f := 61) rfl ?_); refine goesL_ (some 10) rfl rfl Try.func61 (by kernel_rfl) rfl #[.string (⟨#[50, 48]⟩ : ByteArray), .int .i64 2] rfl (by (try simp only [List.map_toArray, List.map_cons, List.map_nil]); first | done | rfl | (simp only [List.length_drop, List.length_take]; rfl)) ?_; (with_reducible refine (accountinglaw19_cell.calls (⟨#[50, 48]⟩ : ByteArray) 2 t196 t197 t198 t199 t200 t201 t202 _ A3.out).mono ?_); rintro e w25 ⟨rfl, hb⟩; refine ⟨_, rfl, ?_⟩; have n0_ := Aside0.mk (below_step (by repeat (first | (with_reducible first | exact HB.out | apply below_alloc | apply pw_below_drewN | apply below_drew1) | exact HB.out)) hb); clear HB; have HB := n0_; clear n0_; (try clear hb); (try clear hb2); (try clear hk); (try clear hi)) | ((with_reducible refine gate_callee (f := 61) rfl ?_); refine goesL_ (some 11) rfl rfl Try.func61 (by kernel_rfl) rfl #[.string (⟨#[51, 48]⟩ : ByteArray), .int .i64 1] rfl (by (try simp only [List.map_toArray, List.map_cons, List.map_nil]); first | done | rfl | (simp only [List.length_drop, List.length_take]; rfl)) ?_; (with_reducible refine (accountinglaw19_cell.calls (⟨#[51, 48]⟩ : ByteArray) 1 t203 t204 t205 t206 t207 t208 t209 _ A4.out).mono ?_); rintro e w26 ⟨rfl, hb⟩; refine ⟨_, rfl, ?_⟩; have n0_ := Aside0.mk (below_step (by repeat (first | (with_reducible first | exact HB.out | apply below_alloc | apply pw_below_drewN | apply below_drew1) | exact HB.out)) hb); clear HB; have HB := n0_; clear n0_; (try clear hb); (try clear hb2); (try clear hk); (try clear hi)) | ((with_reducible refine gate_callee (f := 61) rfl ?_); refine goesL_ (some 12) rfl rfl Try.func61 (by kernel_rfl) rfl #[.string (⟨#[51, 48]⟩ : ByteArray), .int .i64 (-1)] rfl (by (try simp only [List.map_toArray, List.map_cons, List.map_nil]); first | done | rfl | (simp only [List.length_drop, List.length_take]; rfl)) ?_; (with_reducible refine (accountinglaw19_cell.calls (⟨#[51, 48]⟩ : ByteArray) (-1) t210 t211 t212 t213 t214 t215 t216 _ A5.out).mono ?_); rintro e w27 ⟨rfl, hb⟩; refine ⟨_, rfl, ?_⟩; have n0_ := Aside0.mk (below_step (by repeat (first | (with_reducible first | exact HB.out | apply below_alloc | apply pw_below_drewN | apply below_drew1) | exact HB.out)) hb); clear HB; have HB := n0_; clear n0_; (try clear hb); (try clear hb2); (try clear hk); (try clear hi)) | ((with_reducible refine gate_dst (N := 13) rfl ?_); (try (refine gate_guard (by rfl) ?_; dsimp only)); refine Kd.R_lit k34 _ 34 ?hg (N := 13) ?hd (xs := ([(⟨(⟨t182, t183, t184, t185, t186⟩ : S32), t187, t188⟩ : S34), (⟨(⟨t189, t190, t191, t192, t193⟩ : S32), t194, t195⟩ : S34), (⟨(⟨t196, t197, t198, t199, t200⟩ : S32), t201, t202⟩ : S34), (⟨(⟨t203, t204, t205, t206, t207⟩ : S32), t208, t209⟩ : S34), (⟨(⟨t210, t211, t212, t213, t214⟩ : S32), t215, t216⟩ : S34)] : List (S34))) (inner := [.string t182, .string t183, .string t184, .string t185, .string t186, .int .i64 t187, .int .i64 t188, .string t189, .string t190, .string t191, .string t192, .string t193, .int .i64 t194, .int .i64 t195, .string t196, .string t197, .string t198, .string t199, .string t200, .int .i64 t201, .int .i64 t202, .string t203, .string t204, .string t205, .string t206, .string t207, .int .i64 t208, .int .i64 t209, .string t210, .string t211, .string t212, .string t213, .string t214, .int .i64 t215, .int .i64 t216]) (ok := fun _ => True) (okp := fun _ => True) ?hr ?hp (fun _ hk => hk) trivial (Below.refl _ _) (Nat.le_refl _) (by simp) ?_; (case hd => rfl); (case hg => rfl); (case hr => first | (go_simp; done) | (go_simp; rfl)); (case hp => exact (Reps.c7 (show Kd.M k34 _ _ _ (⟨(⟨t182, t183, t184, t185, t186⟩ : S32), t187, t188⟩ : S34) [.string t182, .string t183, .string t184, .string t185, .string t186, .int .i64 t187, .int .i64 t188] from (k34_mkM _ _ _ (⟨(⟨t182, t183, t184, t185, t186⟩ : S32), t187, t188⟩ : S34) )) (Reps.c7 (show Kd.M k34 _ _ _ (⟨(⟨t189, t190, t191, t192, t193⟩ : S32), t194, t195⟩ : S34) [.string t189, .string t190, .string t191, .string t192, .string t193, .int .i64 t194, .int .i64 t195] from (k34_mkM _ _ _ (⟨(⟨t189, t190, t191, t192, t193⟩ : S32), t194, t195⟩ : S34) )) (Reps.c7 (show Kd.M k34 _ _ _ (⟨(⟨t196, t197, t198, t199, t200⟩ : S32), t201, t202⟩ : S34) [.string t196, .string t197, .string t198, .string t199, .string t200, .int .i64 t201, .int .i64 t202] from (k34_mkM _ _ _ (⟨(⟨t196, t197, t198, t199, t200⟩ : S32), t201, t202⟩ : S34) )) (Reps.c7 (show Kd.M k34 _ _ _ (⟨(⟨t203, t204, t205, t206, t207⟩ : S32), t208, t209⟩ : S34) [.string t203, .string t204, .string t205, .string t206, .string t207, .int .i64 t208, .int .i64 t209] from (k34_mkM _ _ _ (⟨(⟨t203, t204, t205, t206, t207⟩ : S32), t208, t209⟩ : S34) )) (Reps.c7 (show Kd.M k34 _ _ _ (⟨(⟨t210, t211, t212, t213, t214⟩ : S32), t215, t216⟩ : S34) [.string t210, .string t211, .string t212, .string t213, .string t214, .int .i64 t215, .int .i64 t216] from (k34_mkM _ _ _ (⟨(⟨t210, t211, t212, t213, t214⟩ : S32), t215, t216⟩ : S34) )) (Reps.none _ _))))))); intro v218 w28 ho29 hb hg_ hnew_; clear hg_ hnew_; (first | rw [← Ny217.out] at ho29 | (simp only [Int.reduceToNat] at ho29; rw [← Ny217.out] at ho29)); have n0_ := Aside0.mk (Kd.R_lower ho29 (below_size (by repeat (first | (with_reducible first | exact HB.out | apply below_alloc | apply pw_below_drewN | apply below_drew1) | exact HB.out)))); have n1_ := Aside0.mk (below_step (by repeat (first | (with_reducible first | exact HB.out | apply below_alloc | apply pw_below_drewN | apply below_drew1) | exact HB.out)) hb); clear HB; have HO219 := n0_; have HB := n1_; clear n0_ n1_; clear hb ho29; obtain ⟨Ao30, co30, eo30⟩ := Kd.R_slice HO219.out; subst eo30) | ((with_reducible refine gate_callee (f := 19) rfl ?_); refine goesL_ (some 14) rfl rfl Try.func19 (by kernel_rfl) rfl #[.slice Ao30 y217.length co30] rfl (by (try simp only [List.map_toArray, List.map_cons, List.map_nil]); first | done | rfl | (simp only [List.length_drop, List.length_take]; rfl)) ?_; (with_reducible refine (sheet_Of.calls _ _ y217 t220 t221 _ ?side1 ?side2 A6.out).mono ?_); (case side1 => repeat (first | exact (Kd.R_reads' HO219.out).2.2 | (with_reducible refine Kd.C_alloc ?_ _) | (with_reducible refine Kd.C_drewN ?_ _) | (with_reducible refine Kd.C_drew ?_))); (case side2 => exact (Kd.R_reads' HO219.out).2.1); rintro e w31 ⟨v222, rfl, ho0, hb⟩; refine ⟨_, rfl, ?_⟩; have n0_ := Aside0.mk (Kd.R_elder' (by (with_reducible repeat (first | apply Kd.R_alloc | apply Kd.R_drewN | apply Kd.R_drew)); exact HO219.out) (Kd.R_base ho0) hb); have n1_ := Aside0.mk (Kd.R_lower (Kd.R_new' ho0 (Kd.R_lt (by (with_reducible repeat (first | apply Kd.R_alloc | apply Kd.R_drewN | apply Kd.R_drew)); exact HO219.out))) (below_size (by repeat (first | (with_reducible first | exact HB.out | apply below_alloc | apply pw_below_drewN | apply below_drew1) | exact HB.out)))); have n2_ := Aside0.mk (below_step (by repeat (first | (with_reducible first | exact HB.out | apply below_alloc | apply pw_below_drewN | apply below_drew1) | exact HB.out)) hb); clear HO219; clear HB; have HO219 := n0_; have HO223 := n1_; have HB := n2_; clear n0_ n1_ n2_; (try clear hb); (try clear hb2); (try clear hk); (try clear hi); (try clear ho0); obtain ⟨Ao32, co32, eo32⟩ := Kd.R_slice HO223.out; subst eo32) | ((with_reducible refine gate_callee (f := 25) rfl ?_); refine goesL_ (some 19) rfl rfl Try.func25 (by kernel_rfl) rfl #[.slice Ao32 t220.length co32, .int .i64 1] rfl (by (try simp only [List.map_toArray, List.map_cons, List.map_nil]); first | done | rfl | (simp only [List.length_drop, List.length_take]; rfl)) ?_; (with_reducible refine (sheet_Fold.calls k _ _ t220 1 t224 t225 _ ?side1 ?side2 A7.out).mono ?_); (case side1 => repeat (first | exact (Kd.R_reads' HO223.out).2.2 | (with_reducible refine Kd.C_alloc ?_ _) | (with_reducible refine Kd.C_drewN ?_ _) | (with_reducible refine Kd.C_drew ?_))); (case side2 => exact (Kd.R_reads' HO223.out).2.1); rintro e w33 ⟨v226, rfl, ho0, hb⟩; refine ⟨_, rfl, ?_⟩; have n0_ := Aside0.mk (Kd.R_elder' (by (with_reducible repeat (first | apply Kd.R_alloc | apply Kd.R_drewN | apply Kd.R_drew)); exact HO219.out) (Kd.R_base ho0) hb); have n1_ := Aside0.mk (Kd.R_elder' (by (with_reducible repeat (first | apply Kd.R_alloc | apply Kd.R_drewN | apply Kd.R_drew)); exact HO223.out) (Kd.R_base ho0) hb); have n2_ := Aside0.mk (Kd.R_lower (Kd.R_new' (Kd.R_new' ho0 (Kd.R_lt (by (with_reducible repeat (first | apply Kd.R_alloc | apply Kd.R_drewN | apply Kd.R_drew)); exact HO219.out))) (Kd.R_lt (by (with_reducible repeat (first | apply Kd.R_alloc | apply Kd.R_drewN | apply Kd.R_drew)); exact HO223.out))) (below_size (by repeat (first | (with_reducible first | exact HB.out | apply below_alloc | apply pw_below_drewN | apply below_drew1) | exact HB.out)))); have n3_ := Aside0.mk (below_step (by repeat (first | (with_reducible first | exact HB.out | apply below_alloc | apply pw_below_drewN | apply below_drew1) | exact HB.out)) hb); clear HO219; clear HO223; clear HB; have HO219 := n0_; have HO223 := n1_; have HO227 := n2_; have HB := n3_; clear n0_ n1_ n2_ n3_; (try clear hb); (try clear hb2); (try clear hk); (try clear hi); (try clear ho0)) | ((with_reducible refine gate_callee (f := 27) rfl ?_); refine goesL_ (some 24) rfl rfl Try.func27 (by kernel_rfl) rfl #[.slice Ao32 t220.length co32] rfl (by (try simp only [List.map_toArray, List.map_cons, List.map_nil]); first | done | rfl | (simp only [List.length_drop, List.length_take]; rfl)) ?_; (with_reducible refine (sheet_Base.calls k _ _ t220 t228 t229 _ ?side1 ?side2 A8.out).mono ?_); (case side1 => repeat (first | exact (Kd.R_reads' HO223.out).2.2 | (with_reducible refine Kd.C_alloc ?_ _) | (with_reducible refine Kd.C_drewN ?_ _) | (with_reducible refine Kd.C_drew ?_))); (case side2 => exact (Kd.R_reads' HO223.out).2.1); rintro e w34 ⟨rfl, hb⟩; refine ⟨_, rfl, ?_⟩; have n0_ := Aside0.mk (Kd.R_below (by (with_reducible repeat (first | apply Kd.R_alloc | apply Kd.R_drewN | apply Kd.R_drew)); exact HO219.out) hb); have n1_ := Aside0.mk (Kd.R_below (by (with_reducible repeat (first | apply Kd.R_alloc | apply Kd.R_drewN | apply Kd.R_drew)); exact HO223.out) hb); have n2_ := Aside0.mk (Kd.R_below (by (with_reducible repeat (first | apply Kd.R_alloc | apply Kd.R_drewN | apply Kd.R_drew)); exact HO227.out) hb); have n3_ := Aside0.mk (below_step (by repeat (first | (with_reducible first | exact HB.out | apply below_alloc | apply pw_below_drewN | apply below_drew1) | exact HB.out)) hb); clear HO219; clear HO223; clear HO227; clear HB; have HO219 := n0_; have HO223 := n1_; have HO227 := n2_; have HB := n3_; clear n0_ n1_ n2_ n3_; (try clear hb); (try clear hb2); (try clear hk); (try clear hi)))
                      have n0_ := Aside0.mk (Kd.R_drew HO219.out)
                      have n1_ := Aside0.mk (Kd.R_drew HO223.out)
                      have n2_ := Aside0.mk (Kd.R_drew HO227.out)
                      have n3_ := Aside0.mk (below_drew1 HB.out)
                      clear HO219
                      clear HO223
                      clear HO227
                      clear HB
                      have HO219 := n0_
                      have HO223 := n1_
                      have HO227 := n2_
                      have HB := n3_
                      clear n0_ n1_ n2_ n3_
                      obtain ⟨Ao34, co34, rfl⟩ := Kd.R_slice HO227.out
                      have p248 : 0 ≤ (0 : Int) := (by omega)
                      have q248 : 0 < (t224.length : Int) := of_decide_eq_true (by first | (with_reducible assumption) | assumption)
                      obtain ⟨ad248, e248, hx248_0, hx248_1, hx248_2, hx248_3, hx248_4, hx248_5, hx248_6⟩ := at_T34 (Kd.R_reads' HO227.out).2.2 0 p248 q248
                      cases e248
                      have qi248 : (0 < t224.length) = True := eq_true (by omega)
                      (try rw [show ((0 : Int)).toNat = 0 from rfl] at hx248_0)
                      (try rw [show 0 * 7 = 0 from rfl] at hx248_0)
                      (try rw [Addr.add_zero'] at hx248_0)
                      (try rw [show ((0 : Int)).toNat = 0 from rfl] at hx248_1)
                      (try rw [show 0 * 7 = 0 from rfl] at hx248_1)
                      (try rw [Addr.add_zero'] at hx248_1)
                      (try rw [show ((0 : Int)).toNat = 0 from rfl] at hx248_2)
                      (try rw [show 0 * 7 = 0 from rfl] at hx248_2)
                      (try rw [Addr.add_zero'] at hx248_2)
                      (try rw [show ((0 : Int)).toNat = 0 from rfl] at hx248_3)
                      (try rw [show 0 * 7 = 0 from rfl] at hx248_3)
                      (try rw [Addr.add_zero'] at hx248_3)
                      (try rw [show ((0 : Int)).toNat = 0 from rfl] at hx248_4)
                      (try rw [show 0 * 7 = 0 from rfl] at hx248_4)
                      (try rw [Addr.add_zero'] at hx248_4)
                      (try rw [show ((0 : Int)).toNat = 0 from rfl] at hx248_5)
                      (try rw [show 0 * 7 = 0 from rfl] at hx248_5)
                      (try rw [Addr.add_zero'] at hx248_5)
                      (try rw [show ((0 : Int)).toNat = 0 from rfl] at hx248_6)
                      (try rw [show 0 * 7 = 0 from rfl] at hx248_6)
                      (try rw [Addr.add_zero'] at hx248_6)
                      replace p248 := eq_true p248
                      replace q248 := eq_true q248
                      have p249 : 0 ≤ (0 : Int) := (by omega)
                      have q249 : 0 < (t220.length : Int) := of_decide_eq_true (by first | (with_reducible assumption) | assumption)
                      obtain ⟨ad249, e249, hx249_0, hx249_1, hx249_2, hx249_3, hx249_4, hx249_5, hx249_6⟩ := at_T34 (Kd.R_reads' HO223.out).2.2 0 p249 q249
                      cases e249
                      have qi249 : (0 < t220.length) = True := eq_true (by omega)
                      (try rw [show ((0 : Int)).toNat = 0 from rfl] at hx249_0)
                      (try rw [show 0 * 7 = 0 from rfl] at hx249_0)
                      (try rw [Addr.add_zero'] at hx249_0)
                      (try rw [show ((0 : Int)).toNat = 0 from rfl] at hx249_1)
                      (try rw [show 0 * 7 = 0 from rfl] at hx249_1)
                      (try rw [Addr.add_zero'] at hx249_1)
                      (try rw [show ((0 : Int)).toNat = 0 from rfl] at hx249_2)
                      (try rw [show 0 * 7 = 0 from rfl] at hx249_2)
                      (try rw [Addr.add_zero'] at hx249_2)
                      (try rw [show ((0 : Int)).toNat = 0 from rfl] at hx249_3)
                      (try rw [show 0 * 7 = 0 from rfl] at hx249_3)
                      (try rw [Addr.add_zero'] at hx249_3)
                      (try rw [show ((0 : Int)).toNat = 0 from rfl] at hx249_4)
                      (try rw [show 0 * 7 = 0 from rfl] at hx249_4)
                      (try rw [Addr.add_zero'] at hx249_4)
                      (try rw [show ((0 : Int)).toNat = 0 from rfl] at hx249_5)
                      (try rw [show 0 * 7 = 0 from rfl] at hx249_5)
                      (try rw [Addr.add_zero'] at hx249_5)
                      (try rw [show ((0 : Int)).toNat = 0 from rfl] at hx249_6)
                      (try rw [show 0 * 7 = 0 from rfl] at hx249_6)
                      (try rw [Addr.add_zero'] at hx249_6)
                      replace p249 := eq_true p249
                      replace q249 := eq_true q249
                      have p250 : 0 ≤ (1 : Int) := (by omega)
                      have q250 : 1 < (t220.length : Int) := of_decide_eq_true (by first | (with_reducible assumption) | assumption)
                      obtain ⟨ad250, e250, hx250_0, hx250_1, hx250_2, hx250_3, hx250_4, hx250_5, hx250_6⟩ := at_T34 (Kd.R_reads' HO223.out).2.2 1 p250 q250
                      obtain rfl : ad249 = ad250 := (by injection e250)
                      (try simp only [show (1 : Int).toNat = 1 from rfl, Nat.reduceMul, Nat.reduceEqDiff, Go.Addr.add, ↓reduceIte] at hx250_0)
                      (try simp only [show (1 : Int).toNat = 1 from rfl, Nat.reduceMul, Nat.reduceEqDiff, Go.Addr.add, ↓reduceIte] at hx250_1)
                      (try simp only [show (1 : Int).toNat = 1 from rfl, Nat.reduceMul, Nat.reduceEqDiff, Go.Addr.add, ↓reduceIte] at hx250_2)
                      (try simp only [show (1 : Int).toNat = 1 from rfl, Nat.reduceMul, Nat.reduceEqDiff, Go.Addr.add, ↓reduceIte] at hx250_3)
                      (try simp only [show (1 : Int).toNat = 1 from rfl, Nat.reduceMul, Nat.reduceEqDiff, Go.Addr.add, ↓reduceIte] at hx250_4)
                      (try simp only [show (1 : Int).toNat = 1 from rfl, Nat.reduceMul, Nat.reduceEqDiff, Go.Addr.add, ↓reduceIte] at hx250_5)
                      (try simp only [show (1 : Int).toNat = 1 from rfl, Nat.reduceMul, Nat.reduceEqDiff, Go.Addr.add, ↓reduceIte] at hx250_6)
                      have qi250 : (1 < t220.length) = True := eq_true (by omega)
                      (try rw [show ((1 : Int)).toNat = 1 from rfl] at hx250_0)
                      (try rw [show 1 * 7 = 7 from rfl] at hx250_0)
                      (try rw [show ((1 : Int)).toNat = 1 from rfl] at hx250_1)
                      (try rw [show 1 * 7 = 7 from rfl] at hx250_1)
                      (try rw [show ((1 : Int)).toNat = 1 from rfl] at hx250_2)
                      (try rw [show 1 * 7 = 7 from rfl] at hx250_2)
                      (try rw [show ((1 : Int)).toNat = 1 from rfl] at hx250_3)
                      (try rw [show 1 * 7 = 7 from rfl] at hx250_3)
                      (try rw [show ((1 : Int)).toNat = 1 from rfl] at hx250_4)
                      (try rw [show 1 * 7 = 7 from rfl] at hx250_4)
                      (try rw [show ((1 : Int)).toNat = 1 from rfl] at hx250_5)
                      (try rw [show 1 * 7 = 7 from rfl] at hx250_5)
                      (try rw [show ((1 : Int)).toNat = 1 from rfl] at hx250_6)
                      (try rw [show 1 * 7 = 7 from rfl] at hx250_6)
                      replace p250 := eq_true p250
                      replace q250 := eq_true q250
                      refine start_ (n := 47) (S := fun w' => w'.cell? ad248 = some (.string ((rd_T34 t224 0).f0.f0)) ∧ w'.cell? ⟨ad248.block, ad248.off + 1, none⟩ = some (.string ((rd_T34 t224 0).f0.f1)) ∧ w'.cell? ⟨ad248.block, ad248.off + 2, none⟩ = some (.string ((rd_T34 t224 0).f0.f2)) ∧ w'.cell? ⟨ad248.block, ad248.off + 3, none⟩ = some (.string ((rd_T34 t224 0).f0.f3)) ∧ w'.cell? ⟨ad248.block, ad248.off + 4, none⟩ = some (.string ((rd_T34 t224 0).f0.f4)) ∧ w'.cell? ⟨ad248.block, ad248.off + 5, none⟩ = some (.int .i64 ((rd_T34 t224 0).f1)) ∧ w'.cell? ⟨ad248.block, ad248.off + 6, none⟩ = some (.int .i64 ((rd_T34 t224 0).f2)) ∧ w'.cell? ad249 = some (.string ((rd_T34 t220 0).f0.f0)) ∧ w'.cell? ⟨ad249.block, ad249.off + 1, none⟩ = some (.string ((rd_T34 t220 0).f0.f1)) ∧ w'.cell? ⟨ad249.block, ad249.off + 2, none⟩ = some (.string ((rd_T34 t220 0).f0.f2)) ∧ w'.cell? ⟨ad249.block, ad249.off + 3, none⟩ = some (.string ((rd_T34 t220 0).f0.f3)) ∧ w'.cell? ⟨ad249.block, ad249.off + 4, none⟩ = some (.string ((rd_T34 t220 0).f0.f4)) ∧ w'.cell? ⟨ad249.block, ad249.off + 5, none⟩ = some (.int .i64 ((rd_T34 t220 0).f1)) ∧ w'.cell? ⟨ad249.block, ad249.off + 6, none⟩ = some (.int .i64 ((rd_T34 t220 0).f2)) ∧ w'.cell? ⟨ad249.block, ad249.off + 7, none⟩ = some (.string ((rd_T34 t220 1).f0.f0)) ∧ w'.cell? ⟨ad249.block, ad249.off + 7 + 1, none⟩ = some (.string ((rd_T34 t220 1).f0.f1)) ∧ w'.cell? ⟨ad249.block, ad249.off + 7 + 2, none⟩ = some (.string ((rd_T34 t220 1).f0.f2)) ∧ w'.cell? ⟨ad249.block, ad249.off + 7 + 3, none⟩ = some (.string ((rd_T34 t220 1).f0.f3)) ∧ w'.cell? ⟨ad249.block, ad249.off + 7 + 4, none⟩ = some (.string ((rd_T34 t220 1).f0.f4)) ∧ w'.cell? ⟨ad249.block, ad249.off + 7 + 5, none⟩ = some (.int .i64 ((rd_T34 t220 1).f1)) ∧ w'.cell? ⟨ad249.block, ad249.off + 7 + 6, none⟩ = some (.int .i64 ((rd_T34 t220 1).f2))) (ds := []) #[false, false, false, false, false, false, false, false, false, false, false, false, false, false, false, false, false, false, false, false, false, false, false, false, false, false, false, false, false, false, false, false, false, false, false, false, false, false, false, false, false, false, false, false, false, false, false] (by kernel_rfl) rfl rfl ⟨hx248_0, hx248_1, hx248_2, hx248_3, hx248_4, hx248_5, hx248_6, hx249_0, hx249_1, hx249_2, hx249_3, hx249_4, hx249_5, hx249_6, hx250_0, hx250_1, hx250_2, hx250_3, hx250_4, hx250_5, hx250_6⟩ (fun hHeld => ?_); refine with_tabW accountinglaw19_lives.tab4 accountinglaw19_lives.bits4 (fun HT_ HW_ => ?_)
                      generalize w34.drew = w35 at HO219 HO223 HO227 HB hx248_0 hx248_1 hx248_2 hx248_3 hx248_4 hx248_5 hx248_6 hx249_0 hx249_1 hx249_2 hx249_3 hx249_4 hx249_5 hx249_6 hx250_0 hx250_1 hx250_2 hx250_3 hx250_4 hx250_5 hx250_6 hHeld ⊢
                      refine pure_ (i := 0) (N := some 27) (v := ?_) (a' := ?_) #[true, false, false, false, false, false, false, false, false, false, false, false, false, false, false, false, false, false, false, false, false, false, false, false, false, false, false, false, false, false, false, false, false, false, false, false, false, false, false, false, false, false, false, false, false, false, false] rfl rfl (any_of HT_.out (by kernel_rfl)) (fun _ _ _ h => h) (Or.inl ⟨by rfl, ?_⟩) ?_ ?_
                      rotate_left
                      · intro w'
                        go_simp
                        with_reducible rfl
                      rotate_left
                      · simp only [Act.put, List.setIfInBounds_toArray, List.set_cons_zero, List.set_cons_succ, i64_w, i32_w]
                        rfl
                      refine one_ (i := 1) (N := some 28) #[true, true, false, false, false, false, false, false, false, false, false, false, false, false, false, false, false, false, false, false, false, false, false, false, false, false, false, false, false, false, false, false, false, false, false, false, false, false, false, false, false, false, false, false, false, false, false] rfl rfl (one_of HT_.out (by kernel_rfl)) (by decide) (fun K hK => ?_)
                      refine goes_ Try.func61 (by kernel_rfl) rfl #[.string (⟨#[49, 48]⟩ : ByteArray), .int .i64 7] (by rfl) rfl rfl (by (try simp only [List.map_toArray, List.map_cons, List.map_nil]); first | done | rfl | (simp only [List.length_drop, List.length_take]; rfl)) ?_
                      with_reducible refine (accountinglaw19_cell.calls (⟨#[49, 48]⟩ : ByteArray) 7 t230 t231 t232 t233 t234 t235 t236 _ A9.out).mono ?_
                      rintro e w36 ⟨rfl, hb⟩
                      have HS0_ := (hb.cell (World.block_lt_of_cell? _ _ (hHeld.1))).trans (hHeld.1)
                      have HS1_ := (hb.cell (World.block_lt_of_cell? _ _ (hHeld.2.1))).trans (hHeld.2.1)
                      have HS2_ := (hb.cell (World.block_lt_of_cell? _ _ (hHeld.2.2.1))).trans (hHeld.2.2.1)
                      have HS3_ := (hb.cell (World.block_lt_of_cell? _ _ (hHeld.2.2.2.1))).trans (hHeld.2.2.2.1)
                      have HS4_ := (hb.cell (World.block_lt_of_cell? _ _ (hHeld.2.2.2.2.1))).trans (hHeld.2.2.2.2.1)
                      have HS5_ := (hb.cell (World.block_lt_of_cell? _ _ (hHeld.2.2.2.2.2.1))).trans (hHeld.2.2.2.2.2.1)
                      have HS6_ := (hb.cell (World.block_lt_of_cell? _ _ (hHeld.2.2.2.2.2.2.1))).trans (hHeld.2.2.2.2.2.2.1)
                      have HS7_ := (hb.cell (World.block_lt_of_cell? _ _ (hHeld.2.2.2.2.2.2.2.1))).trans (hHeld.2.2.2.2.2.2.2.1)
                      have HS8_ := (hb.cell (World.block_lt_of_cell? _ _ (hHeld.2.2.2.2.2.2.2.2.1))).trans (hHeld.2.2.2.2.2.2.2.2.1)
                      have HS9_ := (hb.cell (World.block_lt_of_cell? _ _ (hHeld.2.2.2.2.2.2.2.2.2.1))).trans (hHeld.2.2.2.2.2.2.2.2.2.1)
                      have HS10_ := (hb.cell (World.block_lt_of_cell? _ _ (hHeld.2.2.2.2.2.2.2.2.2.2.1))).trans (hHeld.2.2.2.2.2.2.2.2.2.2.1)
                      have HS11_ := (hb.cell (World.block_lt_of_cell? _ _ (hHeld.2.2.2.2.2.2.2.2.2.2.2.1))).trans (hHeld.2.2.2.2.2.2.2.2.2.2.2.1)
                      have HS12_ := (hb.cell (World.block_lt_of_cell? _ _ (hHeld.2.2.2.2.2.2.2.2.2.2.2.2.1))).trans (hHeld.2.2.2.2.2.2.2.2.2.2.2.2.1)
                      have HS13_ := (hb.cell (World.block_lt_of_cell? _ _ (hHeld.2.2.2.2.2.2.2.2.2.2.2.2.2.1))).trans (hHeld.2.2.2.2.2.2.2.2.2.2.2.2.2.1)
                      have HS14_ := (hb.cell (World.block_lt_of_cell? _ _ (hHeld.2.2.2.2.2.2.2.2.2.2.2.2.2.2.1))).trans (hHeld.2.2.2.2.2.2.2.2.2.2.2.2.2.2.1)
                      have HS15_ := (hb.cell (World.block_lt_of_cell? _ _ (hHeld.2.2.2.2.2.2.2.2.2.2.2.2.2.2.2.1))).trans (hHeld.2.2.2.2.2.2.2.2.2.2.2.2.2.2.2.1)
                      have HS16_ := (hb.cell (World.block_lt_of_cell? _ _ (hHeld.2.2.2.2.2.2.2.2.2.2.2.2.2.2.2.2.1))).trans (hHeld.2.2.2.2.2.2.2.2.2.2.2.2.2.2.2.2.1)
                      have HS17_ := (hb.cell (World.block_lt_of_cell? _ _ (hHeld.2.2.2.2.2.2.2.2.2.2.2.2.2.2.2.2.2.1))).trans (hHeld.2.2.2.2.2.2.2.2.2.2.2.2.2.2.2.2.2.1)
                      have HS18_ := (hb.cell (World.block_lt_of_cell? _ _ (hHeld.2.2.2.2.2.2.2.2.2.2.2.2.2.2.2.2.2.2.1))).trans (hHeld.2.2.2.2.2.2.2.2.2.2.2.2.2.2.2.2.2.2.1)
                      have HS19_ := (hb.cell (World.block_lt_of_cell? _ _ (hHeld.2.2.2.2.2.2.2.2.2.2.2.2.2.2.2.2.2.2.2.1))).trans (hHeld.2.2.2.2.2.2.2.2.2.2.2.2.2.2.2.2.2.2.2.1)
                      have HS20_ := (hb.cell (World.block_lt_of_cell? _ _ (hHeld.2.2.2.2.2.2.2.2.2.2.2.2.2.2.2.2.2.2.2.2))).trans (hHeld.2.2.2.2.2.2.2.2.2.2.2.2.2.2.2.2.2.2.2.2)
                      refine ⟨_, rfl, ?_⟩
                      have n0_ := Aside0.mk (Kd.R_below (by (with_reducible repeat (first | apply Kd.R_alloc | apply Kd.R_drewN | apply Kd.R_drew)); exact HO219.out) hb)
                      have n1_ := Aside0.mk (Kd.R_below (by (with_reducible repeat (first | apply Kd.R_alloc | apply Kd.R_drewN | apply Kd.R_drew)); exact HO223.out) hb)
                      have n2_ := Aside0.mk (Kd.R_below (by (with_reducible repeat (first | apply Kd.R_alloc | apply Kd.R_drewN | apply Kd.R_drew)); exact HO227.out) hb)
                      have n3_ := Aside0.mk (below_step (by repeat (first | (with_reducible first | exact HB.out | apply below_alloc | apply pw_below_drewN | apply below_drew1) | exact HB.out)) hb)
                      clear HO219
                      clear HO223
                      clear HO227
                      clear HB
                      have HO219 := n0_
                      have HO223 := n1_
                      have HO227 := n2_
                      have HB := n3_
                      clear n0_ n1_ n2_ n3_
                      (try clear hb)
                      (try clear hb2)
                      (try clear hk)
                      (try clear hi)
                      refine hK.out _ _ ⟨HS0_, HS1_, HS2_, HS3_, HS4_, HS5_, HS6_, HS7_, HS8_, HS9_, HS10_, HS11_, HS12_, HS13_, HS14_, HS15_, HS16_, HS17_, HS18_, HS19_, HS20_⟩ (fun hHeld => ?_)
                      clear hK K
                      refine norm_ (a' := ?_) ?_ ?_
                      rotate_left
                      · show Act.put _ (some 28) _ = _
                        simp only [Act.put, List.setIfInBounds_toArray, List.set_cons_zero, List.set_cons_succ, i64_w, i32_w]
                        rfl
                      refine one_ (i := 2) (N := some 29) #[true, true, true, false, false, false, false, false, false, false, false, false, false, false, false, false, false, false, false, false, false, false, false, false, false, false, false, false, false, false, false, false, false, false, false, false, false, false, false, false, false, false, false, false, false, false, false] rfl rfl (one_of HT_.out (by kernel_rfl)) (by decide) (fun K hK => ?_)
                      refine goes_ Try.func61 (by kernel_rfl) rfl #[.string (⟨#[50, 48]⟩ : ByteArray), .int .i64 (-3)] (by rfl) rfl rfl (by (try simp only [List.map_toArray, List.map_cons, List.map_nil]); first | done | rfl | (simp only [List.length_drop, List.length_take]; rfl)) ?_
                      with_reducible refine (accountinglaw19_cell.calls (⟨#[50, 48]⟩ : ByteArray) (-3) t237 t238 t239 t240 t241 t242 t243 _ A10.out).mono ?_
                      rintro e w37 ⟨rfl, hb⟩
                      have HS0_ := (hb.cell (World.block_lt_of_cell? _ _ (hHeld.1))).trans (hHeld.1)
                      have HS1_ := (hb.cell (World.block_lt_of_cell? _ _ (hHeld.2.1))).trans (hHeld.2.1)
                      have HS2_ := (hb.cell (World.block_lt_of_cell? _ _ (hHeld.2.2.1))).trans (hHeld.2.2.1)
                      have HS3_ := (hb.cell (World.block_lt_of_cell? _ _ (hHeld.2.2.2.1))).trans (hHeld.2.2.2.1)
                      have HS4_ := (hb.cell (World.block_lt_of_cell? _ _ (hHeld.2.2.2.2.1))).trans (hHeld.2.2.2.2.1)
                      have HS5_ := (hb.cell (World.block_lt_of_cell? _ _ (hHeld.2.2.2.2.2.1))).trans (hHeld.2.2.2.2.2.1)
                      have HS6_ := (hb.cell (World.block_lt_of_cell? _ _ (hHeld.2.2.2.2.2.2.1))).trans (hHeld.2.2.2.2.2.2.1)
                      have HS7_ := (hb.cell (World.block_lt_of_cell? _ _ (hHeld.2.2.2.2.2.2.2.1))).trans (hHeld.2.2.2.2.2.2.2.1)
                      have HS8_ := (hb.cell (World.block_lt_of_cell? _ _ (hHeld.2.2.2.2.2.2.2.2.1))).trans (hHeld.2.2.2.2.2.2.2.2.1)
                      have HS9_ := (hb.cell (World.block_lt_of_cell? _ _ (hHeld.2.2.2.2.2.2.2.2.2.1))).trans (hHeld.2.2.2.2.2.2.2.2.2.1)
                      have HS10_ := (hb.cell (World.block_lt_of_cell? _ _ (hHeld.2.2.2.2.2.2.2.2.2.2.1))).trans (hHeld.2.2.2.2.2.2.2.2.2.2.1)
                      have HS11_ := (hb.cell (World.block_lt_of_cell? _ _ (hHeld.2.2.2.2.2.2.2.2.2.2.2.1))).trans (hHeld.2.2.2.2.2.2.2.2.2.2.2.1)
                      have HS12_ := (hb.cell (World.block_lt_of_cell? _ _ (hHeld.2.2.2.2.2.2.2.2.2.2.2.2.1))).trans (hHeld.2.2.2.2.2.2.2.2.2.2.2.2.1)
                      have HS13_ := (hb.cell (World.block_lt_of_cell? _ _ (hHeld.2.2.2.2.2.2.2.2.2.2.2.2.2.1))).trans (hHeld.2.2.2.2.2.2.2.2.2.2.2.2.2.1)
                      have HS14_ := (hb.cell (World.block_lt_of_cell? _ _ (hHeld.2.2.2.2.2.2.2.2.2.2.2.2.2.2.1))).trans (hHeld.2.2.2.2.2.2.2.2.2.2.2.2.2.2.1)
                      have HS15_ := (hb.cell (World.block_lt_of_cell? _ _ (hHeld.2.2.2.2.2.2.2.2.2.2.2.2.2.2.2.1))).trans (hHeld.2.2.2.2.2.2.2.2.2.2.2.2.2.2.2.1)
                      have HS16_ := (hb.cell (World.block_lt_of_cell? _ _ (hHeld.2.2.2.2.2.2.2.2.2.2.2.2.2.2.2.2.1))).trans (hHeld.2.2.2.2.2.2.2.2.2.2.2.2.2.2.2.2.1)
                      have HS17_ := (hb.cell (World.block_lt_of_cell? _ _ (hHeld.2.2.2.2.2.2.2.2.2.2.2.2.2.2.2.2.2.1))).trans (hHeld.2.2.2.2.2.2.2.2.2.2.2.2.2.2.2.2.2.1)
                      have HS18_ := (hb.cell (World.block_lt_of_cell? _ _ (hHeld.2.2.2.2.2.2.2.2.2.2.2.2.2.2.2.2.2.2.1))).trans (hHeld.2.2.2.2.2.2.2.2.2.2.2.2.2.2.2.2.2.2.1)
                      have HS19_ := (hb.cell (World.block_lt_of_cell? _ _ (hHeld.2.2.2.2.2.2.2.2.2.2.2.2.2.2.2.2.2.2.2.1))).trans (hHeld.2.2.2.2.2.2.2.2.2.2.2.2.2.2.2.2.2.2.2.1)
                      have HS20_ := (hb.cell (World.block_lt_of_cell? _ _ (hHeld.2.2.2.2.2.2.2.2.2.2.2.2.2.2.2.2.2.2.2.2))).trans (hHeld.2.2.2.2.2.2.2.2.2.2.2.2.2.2.2.2.2.2.2.2)
                      refine ⟨_, rfl, ?_⟩
                      have n0_ := Aside0.mk (Kd.R_below (by (with_reducible repeat (first | apply Kd.R_alloc | apply Kd.R_drewN | apply Kd.R_drew)); exact HO219.out) hb)
                      have n1_ := Aside0.mk (Kd.R_below (by (with_reducible repeat (first | apply Kd.R_alloc | apply Kd.R_drewN | apply Kd.R_drew)); exact HO223.out) hb)
                      have n2_ := Aside0.mk (Kd.R_below (by (with_reducible repeat (first | apply Kd.R_alloc | apply Kd.R_drewN | apply Kd.R_drew)); exact HO227.out) hb)
                      have n3_ := Aside0.mk (below_step (by repeat (first | (with_reducible first | exact HB.out | apply below_alloc | apply pw_below_drewN | apply below_drew1) | exact HB.out)) hb)
                      clear HO219
                      clear HO223
                      clear HO227
                      clear HB
                      have HO219 := n0_
                      have HO223 := n1_
                      have HO227 := n2_
                      have HB := n3_
                      clear n0_ n1_ n2_ n3_
                      (try clear hb)
                      (try clear hb2)
                      (try clear hk)
                      (try clear hi)
                      refine hK.out _ _ ⟨HS0_, HS1_, HS2_, HS3_, HS4_, HS5_, HS6_, HS7_, HS8_, HS9_, HS10_, HS11_, HS12_, HS13_, HS14_, HS15_, HS16_, HS17_, HS18_, HS19_, HS20_⟩ (fun hHeld => ?_)
                      clear hK K
                      refine norm_ (a' := ?_) ?_ ?_
                      rotate_left
                      · show Act.put _ (some 29) _ = _
                        simp only [Act.put, List.setIfInBounds_toArray, List.set_cons_zero, List.set_cons_succ, i64_w, i32_w]
                        rfl
                      refine one_ (i := 3) (N := some 30) #[true, true, true, true, false, false, false, false, false, false, false, false, false, false, false, false, false, false, false, false, false, false, false, false, false, false, false, false, false, false, false, false, false, false, false, false, false, false, false, false, false, false, false, false, false, false, false] rfl rfl (one_of HT_.out (by kernel_rfl)) (by decide) (fun K hK => ?_)
                      refine Kd.R_lit_step k34 _ 34 ?hg (N := 30) ?hd (xs := ([(⟨(⟨t230, t231, t232, t233, t234⟩ : S32), t235, t236⟩ : S34), (⟨(⟨t237, t238, t239, t240, t241⟩ : S32), t242, t243⟩ : S34)] : List (S34))) (inner := [.string t230, .string t231, .string t232, .string t233, .string t234, .int .i64 t235, .int .i64 t236, .string t237, .string t238, .string t239, .string t240, .string t241, .int .i64 t242, .int .i64 t243]) (ok := fun _ => True) (okp := fun _ => True) ?hr ?hp (fun _ hk => hk) trivial (Below.refl _ _) (Nat.le_refl _) (by simp) ?_; (case hd => rfl); (case hg => rfl); (case hr => first | (go_simp; done) | (go_simp; rfl)); (case hp => exact (Reps.c7 (show Kd.M k34 _ _ _ (⟨(⟨t230, t231, t232, t233, t234⟩ : S32), t235, t236⟩ : S34) [.string t230, .string t231, .string t232, .string t233, .string t234, .int .i64 t235, .int .i64 t236] from (k34_mkM _ _ _ (⟨(⟨t230, t231, t232, t233, t234⟩ : S32), t235, t236⟩ : S34) )) (Reps.c7 (show Kd.M k34 _ _ _ (⟨(⟨t237, t238, t239, t240, t241⟩ : S32), t242, t243⟩ : S34) [.string t237, .string t238, .string t239, .string t240, .string t241, .int .i64 t242, .int .i64 t243] from (k34_mkM _ _ _ (⟨(⟨t237, t238, t239, t240, t241⟩ : S32), t242, t243⟩ : S34) )) (Reps.none _ _))))
                      intro v245 w38 ho39 hb hg_ hnew_
                      have HS0_ := (hb.cell (World.block_lt_of_cell? _ _ (hHeld.1))).trans (hHeld.1)
                      have HS1_ := (hb.cell (World.block_lt_of_cell? _ _ (hHeld.2.1))).trans (hHeld.2.1)
                      have HS2_ := (hb.cell (World.block_lt_of_cell? _ _ (hHeld.2.2.1))).trans (hHeld.2.2.1)
                      have HS3_ := (hb.cell (World.block_lt_of_cell? _ _ (hHeld.2.2.2.1))).trans (hHeld.2.2.2.1)
                      have HS4_ := (hb.cell (World.block_lt_of_cell? _ _ (hHeld.2.2.2.2.1))).trans (hHeld.2.2.2.2.1)
                      have HS5_ := (hb.cell (World.block_lt_of_cell? _ _ (hHeld.2.2.2.2.2.1))).trans (hHeld.2.2.2.2.2.1)
                      have HS6_ := (hb.cell (World.block_lt_of_cell? _ _ (hHeld.2.2.2.2.2.2.1))).trans (hHeld.2.2.2.2.2.2.1)
                      have HS7_ := (hb.cell (World.block_lt_of_cell? _ _ (hHeld.2.2.2.2.2.2.2.1))).trans (hHeld.2.2.2.2.2.2.2.1)
                      have HS8_ := (hb.cell (World.block_lt_of_cell? _ _ (hHeld.2.2.2.2.2.2.2.2.1))).trans (hHeld.2.2.2.2.2.2.2.2.1)
                      have HS9_ := (hb.cell (World.block_lt_of_cell? _ _ (hHeld.2.2.2.2.2.2.2.2.2.1))).trans (hHeld.2.2.2.2.2.2.2.2.2.1)
                      have HS10_ := (hb.cell (World.block_lt_of_cell? _ _ (hHeld.2.2.2.2.2.2.2.2.2.2.1))).trans (hHeld.2.2.2.2.2.2.2.2.2.2.1)
                      have HS11_ := (hb.cell (World.block_lt_of_cell? _ _ (hHeld.2.2.2.2.2.2.2.2.2.2.2.1))).trans (hHeld.2.2.2.2.2.2.2.2.2.2.2.1)
                      have HS12_ := (hb.cell (World.block_lt_of_cell? _ _ (hHeld.2.2.2.2.2.2.2.2.2.2.2.2.1))).trans (hHeld.2.2.2.2.2.2.2.2.2.2.2.2.1)
                      have HS13_ := (hb.cell (World.block_lt_of_cell? _ _ (hHeld.2.2.2.2.2.2.2.2.2.2.2.2.2.1))).trans (hHeld.2.2.2.2.2.2.2.2.2.2.2.2.2.1)
                      have HS14_ := (hb.cell (World.block_lt_of_cell? _ _ (hHeld.2.2.2.2.2.2.2.2.2.2.2.2.2.2.1))).trans (hHeld.2.2.2.2.2.2.2.2.2.2.2.2.2.2.1)
                      have HS15_ := (hb.cell (World.block_lt_of_cell? _ _ (hHeld.2.2.2.2.2.2.2.2.2.2.2.2.2.2.2.1))).trans (hHeld.2.2.2.2.2.2.2.2.2.2.2.2.2.2.2.1)
                      have HS16_ := (hb.cell (World.block_lt_of_cell? _ _ (hHeld.2.2.2.2.2.2.2.2.2.2.2.2.2.2.2.2.1))).trans (hHeld.2.2.2.2.2.2.2.2.2.2.2.2.2.2.2.2.1)
                      have HS17_ := (hb.cell (World.block_lt_of_cell? _ _ (hHeld.2.2.2.2.2.2.2.2.2.2.2.2.2.2.2.2.2.1))).trans (hHeld.2.2.2.2.2.2.2.2.2.2.2.2.2.2.2.2.2.1)
                      have HS18_ := (hb.cell (World.block_lt_of_cell? _ _ (hHeld.2.2.2.2.2.2.2.2.2.2.2.2.2.2.2.2.2.2.1))).trans (hHeld.2.2.2.2.2.2.2.2.2.2.2.2.2.2.2.2.2.2.1)
                      have HS19_ := (hb.cell (World.block_lt_of_cell? _ _ (hHeld.2.2.2.2.2.2.2.2.2.2.2.2.2.2.2.2.2.2.2.1))).trans (hHeld.2.2.2.2.2.2.2.2.2.2.2.2.2.2.2.2.2.2.2.1)
                      have HS20_ := (hb.cell (World.block_lt_of_cell? _ _ (hHeld.2.2.2.2.2.2.2.2.2.2.2.2.2.2.2.2.2.2.2.2))).trans (hHeld.2.2.2.2.2.2.2.2.2.2.2.2.2.2.2.2.2.2.2.2)
                      clear hg_ hnew_
                      (first | rw [← Ny244.out] at ho39 | (simp only [Int.reduceToNat] at ho39; rw [← Ny244.out] at ho39))
                      have n0_ := Aside0.mk (Kd.R_elder' (by (with_reducible repeat (first | apply Kd.R_alloc | apply Kd.R_drewN | apply Kd.R_drew)); exact HO219.out) (Kd.R_base ho39) hb)
                      have n1_ := Aside0.mk (Kd.R_elder' (by (with_reducible repeat (first | apply Kd.R_alloc | apply Kd.R_drewN | apply Kd.R_drew)); exact HO223.out) (Kd.R_base ho39) hb)
                      have n2_ := Aside0.mk (Kd.R_elder' (by (with_reducible repeat (first | apply Kd.R_alloc | apply Kd.R_drewN | apply Kd.R_drew)); exact HO227.out) (Kd.R_base ho39) hb)
                      have n3_ := Aside0.mk (Kd.R_lower (Kd.R_new' (Kd.R_new' (Kd.R_new' ho39 (Kd.R_lt (by (with_reducible repeat (first | apply Kd.R_alloc | apply Kd.R_drewN | apply Kd.R_drew)); exact HO219.out))) (Kd.R_lt (by (with_reducible repeat (first | apply Kd.R_alloc | apply Kd.R_drewN | apply Kd.R_drew)); exact HO223.out))) (Kd.R_lt (by (with_reducible repeat (first | apply Kd.R_alloc | apply Kd.R_drewN | apply Kd.R_drew)); exact HO227.out))) (below_size (by repeat (first | (with_reducible first | exact HB.out | apply below_alloc | apply pw_below_drewN | apply below_drew1) | exact HB.out))))
                      have n4_ := Aside0.mk (below_step (by repeat (first | (with_reducible first | exact HB.out | apply below_alloc | apply pw_below_drewN | apply below_drew1) | exact HB.out)) hb)
                      clear HO219
                      clear HO223
                      clear HO227
                      clear HB
                      have HO219 := n0_
                      have HO223 := n1_
                      have HO227 := n2_
                      have HO246 := n3_
                      have HB := n4_
                      clear n0_ n1_ n2_ n3_ n4_
                      clear hb ho39
                      obtain ⟨Ao40, co40, eo40⟩ := Kd.R_slice HO246.out
                      (first | subst eo40 | (injection eo40 with f1_ f2_ f3_; have f4_ := f1_.symm; have f5_ := f3_.symm; clear f1_ f2_ f3_; subst f4_; subst f5_))
                      refine hK.out _ _ ⟨HS0_, HS1_, HS2_, HS3_, HS4_, HS5_, HS6_, HS7_, HS8_, HS9_, HS10_, HS11_, HS12_, HS13_, HS14_, HS15_, HS16_, HS17_, HS18_, HS19_, HS20_⟩ (fun hHeld => ?_)
                      clear hK K
                      refine norm_ (a' := ?_) ?_ ?_
                      rotate_left
                      · show Act.put _ (some 30) _ = _
                        simp only [Act.put, List.setIfInBounds_toArray, List.set_cons_zero, List.set_cons_succ, i64_w, i32_w]
                        rfl
                      refine one_ (i := 4) (N := some 31) #[true, true, true, true, true, false, false, false, false, false, false, false, false, false, false, false, false, false, false, false, false, false, false, false, false, false, false, false, false, false, false, false, false, false, false, false, false, false, false, false, false, false, false, false, false, false, false] rfl rfl (one_of HT_.out (by kernel_rfl)) (by decide) (fun K hK => ?_)
                      refine goes_ Try.func21 (by kernel_rfl) rfl #[.slice (some ad249) t220.length co32, .slice Ao40 y244.length co40] (by rfl) rfl rfl (by (try simp only [List.map_toArray, List.map_cons, List.map_nil]); first | done | rfl | (simp only [List.length_drop, List.length_take]; rfl)) ?_
                      with_reducible refine (accountingref19_Same.calls k _ _ t220 _ _ y244 true _ ?side1 ?side2 ?side3 ?side4 A11.out).mono ?_
                      (case side1 => repeat (first | exact (Kd.R_reads' HO223.out).2.2 | (with_reducible refine Kd.C_alloc ?_ _) | (with_reducible refine Kd.C_drewN ?_ _) | (with_reducible refine Kd.C_drew ?_)))
                      (case side2 => exact (Kd.R_reads' HO223.out).2.1)
                      (case side3 => repeat (first | exact (Kd.R_reads' HO246.out).2.2 | (with_reducible refine Kd.C_alloc ?_ _) | (with_reducible refine Kd.C_drewN ?_ _) | (with_reducible refine Kd.C_drew ?_)))
                      (case side4 => exact (Kd.R_reads' HO246.out).2.1)
                      rintro e w' ⟨rfl, ⟨nd, rfl⟩⟩
                      refine ⟨_, rfl, ?_⟩
                      obtain ⟨Ao41, co41, eo41⟩ := Kd.R_slice HO227.out
                      (first | subst eo41 | (injection eo41 with f1_ f2_ f3_; have f4_ := f1_.symm; have f5_ := f3_.symm; clear f1_ f2_ f3_; subst f4_; subst f5_))
                      refine hK.out _ _ ⟨hHeld.1, hHeld.2.1, hHeld.2.2.1, hHeld.2.2.2.1, hHeld.2.2.2.2.1, hHeld.2.2.2.2.2.1, hHeld.2.2.2.2.2.2.1, hHeld.2.2.2.2.2.2.2.1, hHeld.2.2.2.2.2.2.2.2.1, hHeld.2.2.2.2.2.2.2.2.2.1, hHeld.2.2.2.2.2.2.2.2.2.2.1, hHeld.2.2.2.2.2.2.2.2.2.2.2.1, hHeld.2.2.2.2.2.2.2.2.2.2.2.2.1, hHeld.2.2.2.2.2.2.2.2.2.2.2.2.2.1, hHeld.2.2.2.2.2.2.2.2.2.2.2.2.2.2.1, hHeld.2.2.2.2.2.2.2.2.2.2.2.2.2.2.2.1, hHeld.2.2.2.2.2.2.2.2.2.2.2.2.2.2.2.2.1, hHeld.2.2.2.2.2.2.2.2.2.2.2.2.2.2.2.2.2.1, hHeld.2.2.2.2.2.2.2.2.2.2.2.2.2.2.2.2.2.2.1, hHeld.2.2.2.2.2.2.2.2.2.2.2.2.2.2.2.2.2.2.2.1, hHeld.2.2.2.2.2.2.2.2.2.2.2.2.2.2.2.2.2.2.2.2⟩ (fun hHeld => ?_)
                      clear hK K
                      refine norm_ (a' := ?_) ?_ ?_
                      rotate_left
                      · show Act.put _ (some 31) _ = _
                        simp only [Act.put, List.setIfInBounds_toArray, List.set_cons_zero, List.set_cons_succ, i64_w, i32_w]
                        rfl
                      refine pure_ (i := 5) (N := some 32) (v := ?_) (a' := ?_) #[true, true, true, true, true, true, false, false, false, false, false, false, false, false, false, false, false, false, false, false, false, false, false, false, false, false, false, false, false, false, false, false, false, false, false, false, false, false, false, false, false, false, false, false, false, false, false] rfl rfl (any_of HT_.out (by kernel_rfl)) (fun _ _ _ h => h) (Or.inl ⟨by rfl, ?_⟩) ?_ ?_
                      rotate_left
                      · intro w'
                        go_simp
                        with_reducible rfl
                      rotate_left
                      · simp only [Act.put, List.setIfInBounds_toArray, List.set_cons_zero, List.set_cons_succ, i64_w, i32_w]
                        rfl
                      refine pure_ (i := 6) (N := some 33) (v := ?_) (a' := ?_) #[true, true, true, true, true, true, true, false, false, false, false, false, false, false, false, false, false, false, false, false, false, false, false, false, false, false, false, false, false, false, false, false, false, false, false, false, false, false, false, false, false, false, false, false, false, false, false] rfl rfl (any_of HT_.out (by kernel_rfl)) (fun _ _ _ h => h) (Or.inl ⟨by rfl, ?_⟩) ?_ ?_
                      rotate_left
                      · intro w'
                        go_simp
                        with_reducible rfl
                      rotate_left
                      · simp only [Act.put, List.setIfInBounds_toArray, List.set_cons_zero, List.set_cons_succ, i64_w, i32_w]
                        rfl
                      refine pure_ (i := 7) (N := some 34) (v := ?_) (a' := ?_) #[true, true, true, true, true, true, true, true, false, false, false, false, false, false, false, false, false, false, false, false, false, false, false, false, false, false, false, false, false, false, false, false, false, false, false, false, false, false, false, false, false, false, false, false, false, false, false] rfl rfl (any_of HT_.out (by kernel_rfl)) (fun _ _ _ h => h) (Or.inl ⟨by rfl, ?_⟩) ?_ ?_
                      rotate_left
                      · intro w'
                        go_simp
                        with_reducible rfl
                      rotate_left
                      · simp only [Act.put, List.setIfInBounds_toArray, List.set_cons_zero, List.set_cons_succ, i64_w, i32_w]
                        rfl
                      refine pure_ (i := 8) (N := some 35) (v := ?_) (a' := ?_) #[true, true, true, true, true, true, true, true, true, false, false, false, false, false, false, false, false, false, false, false, false, false, false, false, false, false, false, false, false, false, false, false, false, false, false, false, false, false, false, false, false, false, false, false, false, false, false] rfl rfl (any_of HT_.out (by kernel_rfl)) (fun _ _ _ h => h) (Or.inl ⟨by rfl, ?_⟩) ?_ ?_
                      rotate_left
                      · intro w'
                        go_simp
                        with_reducible rfl
                      rotate_left
                      · simp only [Act.put, List.setIfInBounds_toArray, List.set_cons_zero, List.set_cons_succ, i64_w, i32_w]
                        rfl
                      refine pure_ (i := 9) (N := some 36) (v := ?_) (a' := ?_) #[true, true, true, true, true, true, true, true, true, true, false, false, false, false, false, false, false, false, false, false, false, false, false, false, false, false, false, false, false, false, false, false, false, false, false, false, false, false, false, false, false, false, false, false, false, false, false] rfl rfl (any_of HT_.out (by kernel_rfl)) (fun _ _ _ h => h) (Or.inl ⟨by rfl, ?_⟩) ?_ ?_
                      rotate_left
                      · intro w'
                        go_simp
                        with_reducible rfl
                      rotate_left
                      · simp only [Act.put, List.setIfInBounds_toArray, List.set_cons_zero, List.set_cons_succ, i64_w, i32_w]
                        rfl
                      refine pure_ (i := 10) (N := some 37) (v := ?_) (a' := ?_) #[true, true, true, true, true, true, true, true, true, true, true, false, false, false, false, false, false, false, false, false, false, false, false, false, false, false, false, false, false, false, false, false, false, false, false, false, false, false, false, false, false, false, false, false, false, false, false] rfl rfl (any_of HT_.out (by kernel_rfl)) (fun _ _ _ h => h) (Or.inl ⟨by rfl, ?_⟩) ?_ ?_
                      rotate_left
                      · intro w'
                        go_simp
                        with_reducible rfl
                      rotate_left
                      · simp only [Act.put, List.setIfInBounds_toArray, List.set_cons_zero, List.set_cons_succ, i64_w, i32_w]
                        rfl
                      refine pure_ (i := 11) (N := some 38) (v := ?_) (a' := ?_) #[true, true, true, true, true, true, true, true, true, true, true, true, false, false, false, false, false, false, false, false, false, false, false, false, false, false, false, false, false, false, false, false, false, false, false, false, false, false, false, false, false, false, false, false, false, false, false] rfl rfl (any_of HT_.out (by kernel_rfl)) (fun _ _ _ h => h) (Or.inl ⟨by rfl, ?_⟩) ?_ ?_
                      rotate_left
                      · intro w'
                        go_simp
                        with_reducible rfl
                      rotate_left
                      · simp only [Act.put, List.setIfInBounds_toArray, List.set_cons_zero, List.set_cons_succ, i64_w, i32_w]
                        rfl
                      refine pure_ (i := 12) (N := some 39) (v := ?_) (a' := ?_) #[true, true, true, true, true, true, true, true, true, true, true, true, true, false, false, false, false, false, false, false, false, false, false, false, false, false, false, false, false, false, false, false, false, false, false, false, false, false, false, false, false, false, false, false, false, false, false] rfl rfl (any_of HT_.out (by kernel_rfl)) (fun _ _ _ h => h) (Or.inl ⟨by rfl, ?_⟩) ?_ ?_
                      rotate_left
                      · intro w'
                        go_simp
                        with_reducible rfl
                      rotate_left
                      · simp only [Act.put, List.setIfInBounds_toArray, List.set_cons_zero, List.set_cons_succ, i64_w, i32_w]
                        rfl
                      refine pure_ (i := 13) (N := some 40) (v := ?_) (a' := ?_) #[true, true, true, true, true, true, true, true, true, true, true, true, true, true, false, false, false, false, false, false, false, false, false, false, false, false, false, false, false, false, false, false, false, false, false, false, false, false, false, false, false, false, false, false, false, false, false] rfl rfl (any_of HT_.out (by kernel_rfl)) (fun _ _ _ h => h) (Or.inl ⟨by rfl, ?_⟩) ?_ ?_
                      rotate_left
                      · intro w'
                        go_simp
                        with_reducible rfl
                      rotate_left
                      · simp only [Act.put, List.setIfInBounds_toArray, List.set_cons_zero, List.set_cons_succ, i64_w, i32_w]
                        rfl
                      refine pure_ (i := 14) (N := some 41) (v := ?_) (a' := ?_) #[true, true, true, true, true, true, true, true, true, true, true, true, true, true, true, false, false, false, false, false, false, false, false, false, false, false, false, false, false, false, false, false, false, false, false, false, false, false, false, false, false, false, false, false, false, false, false] rfl rfl (any_of HT_.out (by kernel_rfl)) (fun _ _ _ h => h) (Or.inl ⟨by rfl, ?_⟩) ?_ ?_
                      rotate_left
                      · intro w'
                        go_simp
                        with_reducible rfl
                      rotate_left
                      · simp only [Act.put, List.setIfInBounds_toArray, List.set_cons_zero, List.set_cons_succ, i64_w, i32_w]
                        rfl
                      refine pure_ (i := 15) (N := some 42) (v := ?_) (a' := ?_) #[true, true, true, true, true, true, true, true, true, true, true, true, true, true, true, true, false, false, false, false, false, false, false, false, false, false, false, false, false, false, false, false, false, false, false, false, false, false, false, false, false, false, false, false, false, false, false] rfl rfl (any_of HT_.out (by kernel_rfl)) (fun _ _ _ h => h) (Or.inl ⟨by rfl, ?_⟩) ?_ ?_
                      rotate_left
                      · intro w'
                        go_simp
                        with_reducible rfl
                      rotate_left
                      · simp only [Act.put, List.setIfInBounds_toArray, List.set_cons_zero, List.set_cons_succ, i64_w, i32_w]
                        rfl
                      refine pure_ (i := 16) (N := some 43) (v := ?_) (a' := ?_) #[true, true, true, true, true, true, true, true, true, true, true, true, true, true, true, true, true, false, false, false, false, false, false, false, false, false, false, false, false, false, false, false, false, false, false, false, false, false, false, false, false, false, false, false, false, false, false] rfl rfl (any_of HT_.out (by kernel_rfl)) (fun _ _ _ h => h) (Or.inl ⟨by rfl, ?_⟩) ?_ ?_
                      rotate_left
                      · intro w'
                        go_simp
                        with_reducible rfl
                      rotate_left
                      · simp only [Act.put, List.setIfInBounds_toArray, List.set_cons_zero, List.set_cons_succ, i64_w, i32_w]
                        rfl
                      refine pure_ (i := 17) (N := some 44) (v := ?_) (a' := ?_) #[true, true, true, true, true, true, true, true, true, true, true, true, true, true, true, true, true, true, false, false, false, false, false, false, false, false, false, false, false, false, false, false, false, false, false, false, false, false, false, false, false, false, false, false, false, false, false] rfl rfl (any_of HT_.out (by kernel_rfl)) (fun _ _ _ h => h) (Or.inl ⟨by rfl, ?_⟩) ?_ ?_
                      rotate_left
                      · intro w'
                        go_simp
                        with_reducible rfl
                      rotate_left
                      · simp only [Act.put, List.setIfInBounds_toArray, List.set_cons_zero, List.set_cons_succ, i64_w, i32_w]
                        rfl
                      refine pure_ (i := 18) (N := some 45) (v := ?_) (a' := ?_) #[true, true, true, true, true, true, true, true, true, true, true, true, true, true, true, true, true, true, true, false, false, false, false, false, false, false, false, false, false, false, false, false, false, false, false, false, false, false, false, false, false, false, false, false, false, false, false] rfl rfl (any_of HT_.out (by kernel_rfl)) (fun _ _ _ h => h) (Or.inl ⟨by rfl, ?_⟩) ?_ ?_
                      rotate_left
                      · intro w'
                        go_simp
                        with_reducible rfl
                      rotate_left
                      · simp only [Act.put, List.setIfInBounds_toArray, List.set_cons_zero, List.set_cons_succ, i64_w, i32_w]
                        rfl
                      refine pure_ (i := 19) (N := some 46) (v := ?_) (a' := ?_) #[true, true, true, true, true, true, true, true, true, true, true, true, true, true, true, true, true, true, true, true, false, false, false, false, false, false, false, false, false, false, false, false, false, false, false, false, false, false, false, false, false, false, false, false, false, false, false] rfl rfl (any_of HT_.out (by kernel_rfl)) (fun _ _ _ h => h) (Or.inl ⟨by rfl, ?_⟩) ?_ ?_
                      rotate_left
                      · intro w'
                        go_simp
                        with_reducible rfl
                      rotate_left
                      · simp only [Act.put, List.setIfInBounds_toArray, List.set_cons_zero, List.set_cons_succ, i64_w, i32_w]
                        rfl
                      refine pure_ (i := 20) (N := some 47) (v := ?_) (a' := ?_) #[true, true, true, true, true, true, true, true, true, true, true, true, true, true, true, true, true, true, true, true, true, false, false, false, false, false, false, false, false, false, false, false, false, false, false, false, false, false, false, false, false, false, false, false, false, false, false] rfl rfl (any_of HT_.out (by kernel_rfl)) (fun _ _ _ h => h) (Or.inl ⟨by rfl, ?_⟩) ?_ ?_
                      rotate_left
                      · intro w'
                        go_simp
                        with_reducible rfl
                      rotate_left
                      · simp only [Act.put, List.setIfInBounds_toArray, List.set_cons_zero, List.set_cons_succ, i64_w, i32_w]
                        rfl
                      refine pure_ (i := 22) (N := some 49) (v := ?_) (a' := ?_) #[true, true, true, true, true, true, true, true, true, true, true, true, true, true, true, true, true, true, true, true, true, false, true, false, false, false, false, false, false, false, false, false, false, false, false, false, false, false, false, false, false, false, false, false, false, false, false] rfl rfl (any_of HT_.out (by kernel_rfl)) (fun _ _ _ h => h) (Or.inl ⟨by rfl, ?_⟩) ?_ ?_
                      rotate_left
                      · intro w'
                        go_simp
                        with_reducible rfl
                      rotate_left
                      · simp only [Act.put, List.setIfInBounds_toArray, List.set_cons_zero, List.set_cons_succ, i64_w, i32_w]
                        rfl
                      refine pure_ (i := 23) (N := some 50) (v := ?_) (a' := ?_) #[true, true, true, true, true, true, true, true, true, true, true, true, true, true, true, true, true, true, true, true, true, false, true, true, false, false, false, false, false, false, false, false, false, false, false, false, false, false, false, false, false, false, false, false, false, false, false] rfl rfl (any_of HT_.out (by kernel_rfl)) (fun _ _ _ h => h) (Or.inl ⟨by rfl, ?_⟩) ?_ ?_
                      rotate_left
                      · intro w'
                        go_simp
                        with_reducible rfl
                      rotate_left
                      · simp only [Act.put, List.setIfInBounds_toArray, List.set_cons_zero, List.set_cons_succ, i64_w, i32_w]
                        rfl
                      refine take_ (i := 21) (N := some 48) (v := ?_) (a' := ?_) #[true, true, true, true, true, true, true, true, true, true, true, true, true, true, true, true, true, true, true, true, true, true, true, true, false, false, false, false, false, false, false, false, false, false, false, false, false, false, false, false, false, false, false, false, false, false, false] rfl rfl (take_ofW HT_.out HW_.out (by kernel_rfl)) (fun _ _ _ h => h) (Or.inl ⟨by rfl, ?_⟩) hHeld ?_ ?_
                      rotate_left
                      · rintro w' ⟨s0, s1, s2, s3, s4, s5, s6, s7, s8, s9, s10, s11, s12, s13, s14, s15, s16, s17, s18, s19, s20⟩
                        go_simp
                        with_reducible rfl
                      rotate_left
                      · simp only [Act.put, List.setIfInBounds_toArray, List.set_cons_zero, List.set_cons_succ, i64_w, i32_w]
                        rfl
                      refine pure_ (i := 24) (N := some 51) (v := ?_) (a' := ?_) #[true, true, true, true, true, true, true, true, true, true, true, true, true, true, true, true, true, true, true, true, true, true, true, true, true, false, false, false, false, false, false, false, false, false, false, false, false, false, false, false, false, false, false, false, false, false, false] rfl rfl (any_of HT_.out (by kernel_rfl)) (fun _ _ _ h => h) (Or.inl ⟨by rfl, ?_⟩) ?_ ?_
                      rotate_left
                      · intro w'
                        go_simp
                        with_reducible rfl
                      rotate_left
                      · simp only [Act.put, List.setIfInBounds_toArray, List.set_cons_zero, List.set_cons_succ, i64_w, i32_w]
                        rfl
                      refine pure_ (i := 25) (N := some 52) (v := ?_) (a' := ?_) #[true, true, true, true, true, true, true, true, true, true, true, true, true, true, true, true, true, true, true, true, true, true, true, true, true, true, false, false, false, false, false, false, false, false, false, false, false, false, false, false, false, false, false, false, false, false, false] rfl rfl (any_of HT_.out (by kernel_rfl)) (fun _ _ _ h => h) (Or.inl ⟨by rfl, ?_⟩) ?_ ?_
                      rotate_left
                      · intro w'
                        go_simp
                        with_reducible rfl
                      rotate_left
                      · simp only [Act.put, List.setIfInBounds_toArray, List.set_cons_zero, List.set_cons_succ, i64_w, i32_w]
                        rfl
                      refine pure_ (i := 26) (N := some 53) (v := ?_) (a' := ?_) #[true, true, true, true, true, true, true, true, true, true, true, true, true, true, true, true, true, true, true, true, true, true, true, true, true, true, true, false, false, false, false, false, false, false, false, false, false, false, false, false, false, false, false, false, false, false, false] rfl rfl (any_of HT_.out (by kernel_rfl)) (fun _ _ _ h => h) (Or.inl ⟨by rfl, ?_⟩) ?_ ?_
                      rotate_left
                      · intro w'
                        go_simp
                        with_reducible rfl
                      rotate_left
                      · simp only [Act.put, List.setIfInBounds_toArray, List.set_cons_zero, List.set_cons_succ, i64_w, i32_w]
                        rfl
                      refine pure_ (i := 27) (N := some 54) (v := ?_) (a' := ?_) #[true, true, true, true, true, true, true, true, true, true, true, true, true, true, true, true, true, true, true, true, true, true, true, true, true, true, true, true, false, false, false, false, false, false, false, false, false, false, false, false, false, false, false, false, false, false, false] rfl rfl (any_of HT_.out (by kernel_rfl)) (fun _ _ _ h => h) (Or.inl ⟨by rfl, ?_⟩) ?_ ?_
                      rotate_left
                      · intro w'
                        go_simp
                        with_reducible rfl
                      rotate_left
                      · simp only [Act.put, List.setIfInBounds_toArray, List.set_cons_zero, List.set_cons_succ, i64_w, i32_w]
                        rfl
                      refine pure_ (i := 28) (N := some 55) (v := ?_) (a' := ?_) #[true, true, true, true, true, true, true, true, true, true, true, true, true, true, true, true, true, true, true, true, true, true, true, true, true, true, true, true, true, false, false, false, false, false, false, false, false, false, false, false, false, false, false, false, false, false, false] rfl rfl (any_of HT_.out (by kernel_rfl)) (fun _ _ _ h => h) (Or.inl ⟨by rfl, ?_⟩) ?_ ?_
                      rotate_left
                      · intro w'
                        go_simp
                        with_reducible rfl
                      rotate_left
                      · simp only [Act.put, List.setIfInBounds_toArray, List.set_cons_zero, List.set_cons_succ, i64_w, i32_w]
                        rfl
                      refine pure_ (i := 29) (N := some 56) (v := ?_) (a' := ?_) #[true, true, true, true, true, true, true, true, true, true, true, true, true, true, true, true, true, true, true, true, true, true, true, true, true, true, true, true, true, true, false, false, false, false, false, false, false, false, false, false, false, false, false, false, false, false, false] rfl rfl (any_of HT_.out (by kernel_rfl)) (fun _ _ _ h => h) (Or.inl ⟨by rfl, ?_⟩) ?_ ?_
                      rotate_left
                      · intro w'
                        go_simp
                        with_reducible rfl
                      rotate_left
                      · simp only [Act.put, List.setIfInBounds_toArray, List.set_cons_zero, List.set_cons_succ, i64_w, i32_w]
                        rfl
                      refine pure_ (i := 30) (N := some 57) (v := ?_) (a' := ?_) #[true, true, true, true, true, true, true, true, true, true, true, true, true, true, true, true, true, true, true, true, true, true, true, true, true, true, true, true, true, true, true, false, false, false, false, false, false, false, false, false, false, false, false, false, false, false, false] rfl rfl (any_of HT_.out (by kernel_rfl)) (fun _ _ _ h => h) (Or.inl ⟨by rfl, ?_⟩) ?_ ?_
                      rotate_left
                      · intro w'
                        go_simp
                        with_reducible rfl
                      rotate_left
                      · simp only [Act.put, List.setIfInBounds_toArray, List.set_cons_zero, List.set_cons_succ, i64_w, i32_w]
                        rfl
                      refine pure_ (i := 31) (N := some 58) (v := ?_) (a' := ?_) #[true, true, true, true, true, true, true, true, true, true, true, true, true, true, true, true, true, true, true, true, true, true, true, true, true, true, true, true, true, true, true, true, false, false, false, false, false, false, false, false, false, false, false, false, false, false, false] rfl rfl (any_of HT_.out (by kernel_rfl)) (fun _ _ _ h => h) (Or.inl ⟨by rfl, ?_⟩) ?_ ?_
                      rotate_left
                      · intro w'
                        go_simp
                        with_reducible rfl
                      rotate_left
                      · simp only [Act.put, List.setIfInBounds_toArray, List.set_cons_zero, List.set_cons_succ, i64_w, i32_w]
                        rfl
                      refine pure_ (i := 32) (N := some 59) (v := ?_) (a' := ?_) #[true, true, true, true, true, true, true, true, true, true, true, true, true, true, true, true, true, true, true, true, true, true, true, true, true, true, true, true, true, true, true, true, true, false, false, false, false, false, false, false, false, false, false, false, false, false, false] rfl rfl (any_of HT_.out (by kernel_rfl)) (fun _ _ _ h => h) (Or.inl ⟨by rfl, ?_⟩) ?_ ?_
                      rotate_left
                      · intro w'
                        go_simp
                        with_reducible rfl
                      rotate_left
                      · simp only [Act.put, List.setIfInBounds_toArray, List.set_cons_zero, List.set_cons_succ, i64_w, i32_w]
                        rfl
                      refine pure_ (i := 33) (N := some 60) (v := ?_) (a' := ?_) #[true, true, true, true, true, true, true, true, true, true, true, true, true, true, true, true, true, true, true, true, true, true, true, true, true, true, true, true, true, true, true, true, true, true, false, false, false, false, false, false, false, false, false, false, false, false, false] rfl rfl (any_of HT_.out (by kernel_rfl)) (fun _ _ _ h => h) (Or.inl ⟨by rfl, ?_⟩) ?_ ?_
                      rotate_left
                      · intro w'
                        go_simp
                        with_reducible rfl
                      rotate_left
                      · simp only [Act.put, List.setIfInBounds_toArray, List.set_cons_zero, List.set_cons_succ, i64_w, i32_w]
                        rfl
                      refine pure_ (i := 34) (N := some 61) (v := ?_) (a' := ?_) #[true, true, true, true, true, true, true, true, true, true, true, true, true, true, true, true, true, true, true, true, true, true, true, true, true, true, true, true, true, true, true, true, true, true, true, false, false, false, false, false, false, false, false, false, false, false, false] rfl rfl (any_of HT_.out (by kernel_rfl)) (fun _ _ _ h => h) (Or.inl ⟨by rfl, ?_⟩) ?_ ?_
                      rotate_left
                      · intro w'
                        go_simp
                        with_reducible rfl
                      rotate_left
                      · simp only [Act.put, List.setIfInBounds_toArray, List.set_cons_zero, List.set_cons_succ, i64_w, i32_w]
                        rfl
                      refine pure_ (i := 35) (N := some 62) (v := ?_) (a' := ?_) #[true, true, true, true, true, true, true, true, true, true, true, true, true, true, true, true, true, true, true, true, true, true, true, true, true, true, true, true, true, true, true, true, true, true, true, true, false, false, false, false, false, false, false, false, false, false, false] rfl rfl (any_of HT_.out (by kernel_rfl)) (fun _ _ _ h => h) (Or.inl ⟨by rfl, ?_⟩) ?_ ?_
                      rotate_left
                      · intro w'
                        go_simp
                        with_reducible rfl
                      rotate_left
                      · simp only [Act.put, List.setIfInBounds_toArray, List.set_cons_zero, List.set_cons_succ, i64_w, i32_w]
                        rfl
                      refine pure_ (i := 36) (N := some 63) (v := ?_) (a' := ?_) #[true, true, true, true, true, true, true, true, true, true, true, true, true, true, true, true, true, true, true, true, true, true, true, true, true, true, true, true, true, true, true, true, true, true, true, true, true, false, false, false, false, false, false, false, false, false, false] rfl rfl (any_of HT_.out (by kernel_rfl)) (fun _ _ _ h => h) (Or.inl ⟨by rfl, ?_⟩) ?_ ?_
                      rotate_left
                      · intro w'
                        go_simp
                        with_reducible rfl
                      rotate_left
                      · simp only [Act.put, List.setIfInBounds_toArray, List.set_cons_zero, List.set_cons_succ, i64_w, i32_w]
                        rfl
                      refine pure_ (i := 37) (N := some 64) (v := ?_) (a' := ?_) #[true, true, true, true, true, true, true, true, true, true, true, true, true, true, true, true, true, true, true, true, true, true, true, true, true, true, true, true, true, true, true, true, true, true, true, true, true, true, false, false, false, false, false, false, false, false, false] rfl rfl (any_of HT_.out (by kernel_rfl)) (fun _ _ _ h => h) (Or.inl ⟨by rfl, ?_⟩) ?_ ?_
                      rotate_left
                      · intro w'
                        go_simp
                        with_reducible rfl
                      rotate_left
                      · simp only [Act.put, List.setIfInBounds_toArray, List.set_cons_zero, List.set_cons_succ, i64_w, i32_w]
                        rfl
                      refine pure_ (i := 39) (N := some 66) (v := ?_) (a' := ?_) #[true, true, true, true, true, true, true, true, true, true, true, true, true, true, true, true, true, true, true, true, true, true, true, true, true, true, true, true, true, true, true, true, true, true, true, true, true, true, false, true, false, false, false, false, false, false, false] rfl rfl (any_of HT_.out (by kernel_rfl)) (fun _ _ _ h => h) (Or.inl ⟨by rfl, ?_⟩) ?_ ?_
                      rotate_left
                      · intro w'
                        go_simp
                        with_reducible rfl
                      rotate_left
                      · simp only [Act.put, List.setIfInBounds_toArray, List.set_cons_zero, List.set_cons_succ, i64_w, i32_w]
                        rfl
                      refine pure_ (i := 40) (N := some 67) (v := ?_) (a' := ?_) #[true, true, true, true, true, true, true, true, true, true, true, true, true, true, true, true, true, true, true, true, true, true, true, true, true, true, true, true, true, true, true, true, true, true, true, true, true, true, false, true, true, false, false, false, false, false, false] rfl rfl (any_of HT_.out (by kernel_rfl)) (fun _ _ _ h => h) (Or.inl ⟨by rfl, ?_⟩) ?_ ?_
                      rotate_left
                      · intro w'
                        go_simp
                        with_reducible rfl
                      rotate_left
                      · simp only [Act.put, List.setIfInBounds_toArray, List.set_cons_zero, List.set_cons_succ, i64_w, i32_w]
                        rfl
                      refine pure_ (i := 41) (N := some 68) (v := ?_) (a' := ?_) #[true, true, true, true, true, true, true, true, true, true, true, true, true, true, true, true, true, true, true, true, true, true, true, true, true, true, true, true, true, true, true, true, true, true, true, true, true, true, false, true, true, true, false, false, false, false, false] rfl rfl (any_of HT_.out (by kernel_rfl)) (fun _ _ _ h => h) (Or.inl ⟨by rfl, ?_⟩) ?_ ?_
                      rotate_left
                      · intro w'
                        go_simp
                        with_reducible rfl
                      rotate_left
                      · simp only [Act.put, List.setIfInBounds_toArray, List.set_cons_zero, List.set_cons_succ, i64_w, i32_w]
                        rfl
                      refine take_ (i := 38) (N := some 65) (v := ?_) (a' := ?_) #[true, true, true, true, true, true, true, true, true, true, true, true, true, true, true, true, true, true, true, true, true, true, true, true, true, true, true, true, true, true, true, true, true, true, true, true, true, true, true, true, true, true, false, false, false, false, false] rfl rfl (take_ofW HT_.out HW_.out (by kernel_rfl)) (fun _ _ _ h => h) (Or.inl ⟨by rfl, ?_⟩) hHeld ?_ ?_
                      rotate_left
                      · rintro w' ⟨s0, s1, s2, s3, s4, s5, s6, s7, s8, s9, s10, s11, s12, s13, s14, s15, s16, s17, s18, s19, s20⟩
                        go_simp
                        with_reducible rfl
                      rotate_left
                      · simp only [Act.put, List.setIfInBounds_toArray, List.set_cons_zero, List.set_cons_succ, i64_w, i32_w]
                        rfl
                      refine take_ (i := 42) (N := some 69) (v := ?_) (a' := ?_) #[true, true, true, true, true, true, true, true, true, true, true, true, true, true, true, true, true, true, true, true, true, true, true, true, true, true, true, true, true, true, true, true, true, true, true, true, true, true, true, true, true, true, true, false, false, false, false] rfl rfl (take_ofW HT_.out HW_.out (by kernel_rfl)) (fun _ _ _ h => h) (Or.inl ⟨by rfl, ?_⟩) hHeld ?_ ?_
                      rotate_left
                      · rintro w' ⟨s0, s1, s2, s3, s4, s5, s6, s7, s8, s9, s10, s11, s12, s13, s14, s15, s16, s17, s18, s19, s20⟩
                        go_simp
                        with_reducible rfl
                      rotate_left
                      · simp only [Act.put, List.setIfInBounds_toArray, List.set_cons_zero, List.set_cons_succ, i64_w, i32_w]
                        rfl
                      refine one_ (i := 43) (N := some 70) #[true, true, true, true, true, true, true, true, true, true, true, true, true, true, true, true, true, true, true, true, true, true, true, true, true, true, true, true, true, true, true, true, true, true, true, true, true, true, true, true, true, true, true, true, false, false, false] rfl rfl (one_of HT_.out (by kernel_rfl)) (by decide) (fun K hK => ?_)
                      refine goes_ Try.func29 (by kernel_rfl) rfl #[.agg #[.string ((rd_T34 t220 0).f0.f0), .string ((rd_T34 t220 0).f0.f1), .string ((rd_T34 t220 0).f0.f2), .string ((rd_T34 t220 0).f0.f3), .string ((rd_T34 t220 0).f0.f4)], .agg #[.string ((rd_T34 t220 1).f0.f0), .string ((rd_T34 t220 1).f0.f1), .string ((rd_T34 t220 1).f0.f2), .string ((rd_T34 t220 1).f0.f3), .string ((rd_T34 t220 1).f0.f4)]] (by rfl) rfl rfl (by (try simp only [List.map_toArray, List.map_cons, List.map_nil]); first | done | rfl | (simp only [List.length_drop, List.length_take]; rfl)) ?_
                      with_reducible refine (sheet_Cmp.calls ((rd_T34 t220 0).f0.f0) ((rd_T34 t220 0).f0.f1) ((rd_T34 t220 0).f0.f2) ((rd_T34 t220 0).f0.f3) ((rd_T34 t220 0).f0.f4) ((rd_T34 t220 1).f0.f0) ((rd_T34 t220 1).f0.f1) ((rd_T34 t220 1).f0.f2) ((rd_T34 t220 1).f0.f3) ((rd_T34 t220 1).f0.f4) t251 _ A22.out).mono ?_
                      rintro e w42 ⟨rfl, hb⟩
                      have HS0_ := (hb.cell (World.block_lt_of_cell? _ _ (hHeld.1))).trans (hHeld.1)
                      have HS1_ := (hb.cell (World.block_lt_of_cell? _ _ (hHeld.2.1))).trans (hHeld.2.1)
                      have HS2_ := (hb.cell (World.block_lt_of_cell? _ _ (hHeld.2.2.1))).trans (hHeld.2.2.1)
                      have HS3_ := (hb.cell (World.block_lt_of_cell? _ _ (hHeld.2.2.2.1))).trans (hHeld.2.2.2.1)
                      have HS4_ := (hb.cell (World.block_lt_of_cell? _ _ (hHeld.2.2.2.2.1))).trans (hHeld.2.2.2.2.1)
                      have HS5_ := (hb.cell (World.block_lt_of_cell? _ _ (hHeld.2.2.2.2.2.1))).trans (hHeld.2.2.2.2.2.1)
                      have HS6_ := (hb.cell (World.block_lt_of_cell? _ _ (hHeld.2.2.2.2.2.2.1))).trans (hHeld.2.2.2.2.2.2.1)
                      have HS7_ := (hb.cell (World.block_lt_of_cell? _ _ (hHeld.2.2.2.2.2.2.2.1))).trans (hHeld.2.2.2.2.2.2.2.1)
                      have HS8_ := (hb.cell (World.block_lt_of_cell? _ _ (hHeld.2.2.2.2.2.2.2.2.1))).trans (hHeld.2.2.2.2.2.2.2.2.1)
                      have HS9_ := (hb.cell (World.block_lt_of_cell? _ _ (hHeld.2.2.2.2.2.2.2.2.2.1))).trans (hHeld.2.2.2.2.2.2.2.2.2.1)
                      have HS10_ := (hb.cell (World.block_lt_of_cell? _ _ (hHeld.2.2.2.2.2.2.2.2.2.2.1))).trans (hHeld.2.2.2.2.2.2.2.2.2.2.1)
                      have HS11_ := (hb.cell (World.block_lt_of_cell? _ _ (hHeld.2.2.2.2.2.2.2.2.2.2.2.1))).trans (hHeld.2.2.2.2.2.2.2.2.2.2.2.1)
                      have HS12_ := (hb.cell (World.block_lt_of_cell? _ _ (hHeld.2.2.2.2.2.2.2.2.2.2.2.2.1))).trans (hHeld.2.2.2.2.2.2.2.2.2.2.2.2.1)
                      have HS13_ := (hb.cell (World.block_lt_of_cell? _ _ (hHeld.2.2.2.2.2.2.2.2.2.2.2.2.2.1))).trans (hHeld.2.2.2.2.2.2.2.2.2.2.2.2.2.1)
                      have HS14_ := (hb.cell (World.block_lt_of_cell? _ _ (hHeld.2.2.2.2.2.2.2.2.2.2.2.2.2.2.1))).trans (hHeld.2.2.2.2.2.2.2.2.2.2.2.2.2.2.1)
                      have HS15_ := (hb.cell (World.block_lt_of_cell? _ _ (hHeld.2.2.2.2.2.2.2.2.2.2.2.2.2.2.2.1))).trans (hHeld.2.2.2.2.2.2.2.2.2.2.2.2.2.2.2.1)
                      have HS16_ := (hb.cell (World.block_lt_of_cell? _ _ (hHeld.2.2.2.2.2.2.2.2.2.2.2.2.2.2.2.2.1))).trans (hHeld.2.2.2.2.2.2.2.2.2.2.2.2.2.2.2.2.1)
                      have HS17_ := (hb.cell (World.block_lt_of_cell? _ _ (hHeld.2.2.2.2.2.2.2.2.2.2.2.2.2.2.2.2.2.1))).trans (hHeld.2.2.2.2.2.2.2.2.2.2.2.2.2.2.2.2.2.1)
                      have HS18_ := (hb.cell (World.block_lt_of_cell? _ _ (hHeld.2.2.2.2.2.2.2.2.2.2.2.2.2.2.2.2.2.2.1))).trans (hHeld.2.2.2.2.2.2.2.2.2.2.2.2.2.2.2.2.2.2.1)
                      have HS19_ := (hb.cell (World.block_lt_of_cell? _ _ (hHeld.2.2.2.2.2.2.2.2.2.2.2.2.2.2.2.2.2.2.2.1))).trans (hHeld.2.2.2.2.2.2.2.2.2.2.2.2.2.2.2.2.2.2.2.1)
                      have HS20_ := (hb.cell (World.block_lt_of_cell? _ _ (hHeld.2.2.2.2.2.2.2.2.2.2.2.2.2.2.2.2.2.2.2.2))).trans (hHeld.2.2.2.2.2.2.2.2.2.2.2.2.2.2.2.2.2.2.2.2)
                      refine ⟨_, rfl, ?_⟩
                      have n0_ := Aside0.mk (Kd.R_below (by (with_reducible repeat (first | apply Kd.R_alloc | apply Kd.R_drewN | apply Kd.R_drew)); exact HO219.out) hb)
                      have n1_ := Aside0.mk (Kd.R_below (by (with_reducible repeat (first | apply Kd.R_alloc | apply Kd.R_drewN | apply Kd.R_drew)); exact HO223.out) hb)
                      have n2_ := Aside0.mk (Kd.R_below (by (with_reducible repeat (first | apply Kd.R_alloc | apply Kd.R_drewN | apply Kd.R_drew)); exact HO227.out) hb)
                      have n3_ := Aside0.mk (Kd.R_below (by (with_reducible repeat (first | apply Kd.R_alloc | apply Kd.R_drewN | apply Kd.R_drew)); exact HO246.out) hb)
                      have n4_ := Aside0.mk (below_step (by repeat (first | (with_reducible first | exact HB.out | apply below_alloc | apply pw_below_drewN | apply below_drew1) | exact HB.out)) hb)
                      clear HO219
                      clear HO223
                      clear HO227
                      clear HO246
                      clear HB
                      have HO219 := n0_
                      have HO223 := n1_
                      have HO227 := n2_
                      have HO246 := n3_
                      have HB := n4_
                      clear n0_ n1_ n2_ n3_ n4_
                      (try clear hb)
                      (try clear hb2)
                      (try clear hk)
                      (try clear hi)
                      refine hK.out _ _ ⟨HS0_, HS1_, HS2_, HS3_, HS4_, HS5_, HS6_, HS7_, HS8_, HS9_, HS10_, HS11_, HS12_, HS13_, HS14_, HS15_, HS16_, HS17_, HS18_, HS19_, HS20_⟩ (fun hHeld => ?_)
                      clear hK K
                      refine norm_ (a' := ?_) ?_ ?_
                      rotate_left
                      · show Act.put _ (some 70) _ = _
                        simp only [Act.put, List.setIfInBounds_toArray, List.set_cons_zero, List.set_cons_succ, i64_w, i32_w]
                        rfl
                      refine pure_ (i := 44) (N := some 71) (v := ?_) (a' := ?_) #[true, true, true, true, true, true, true, true, true, true, true, true, true, true, true, true, true, true, true, true, true, true, true, true, true, true, true, true, true, true, true, true, true, true, true, true, true, true, true, true, true, true, true, true, true, false, false] rfl rfl (any_of HT_.out (by kernel_rfl)) (fun _ _ _ h => h) (Or.inl ⟨by rfl, ?_⟩) ?_ ?_
                      rotate_left
                      · intro w'
                        go_simp
                        with_reducible rfl
                      rotate_left
                      · simp only [Act.put, List.setIfInBounds_toArray, List.set_cons_zero, List.set_cons_succ, i64_w, i32_w]
                        rfl
                      refine pure_ (i := 45) (N := some 72) (v := ?_) (a' := ?_) #[true, true, true, true, true, true, true, true, true, true, true, true, true, true, true, true, true, true, true, true, true, true, true, true, true, true, true, true, true, true, true, true, true, true, true, true, true, true, true, true, true, true, true, true, true, true, false] rfl rfl (any_of HT_.out (by kernel_rfl)) (fun _ _ _ h => h) (Or.inl ⟨by rfl, ?_⟩) ?_ ?_
                      rotate_left
                      · intro w'
                        go_simp
                        with_reducible rfl
                      rotate_left
                      · simp only [Act.put, List.setIfInBounds_toArray, List.set_cons_zero, List.set_cons_succ, i64_w, i32_w]
                        rfl
                      refine pure_ (i := 46) (N := some 0) (v := ?_) (a' := ?_) #[true, true, true, true, true, true, true, true, true, true, true, true, true, true, true, true, true, true, true, true, true, true, true, true, true, true, true, true, true, true, true, true, true, true, true, true, true, true, true, true, true, true, true, true, true, true, true] rfl rfl (any_of HT_.out (by kernel_rfl)) (fun _ _ _ h => h) (Or.inl ⟨by rfl, ?_⟩) ?_ ?_
                      rotate_left
                      · intro w'
                        go_simp
                        with_reducible rfl
                      rotate_left
                      · simp only [Act.put, List.setIfInBounds_toArray, List.set_cons_zero, List.set_cons_succ, i64_w, i32_w]
                        rfl
                      refine done_ (done_of HT_.out (by kernel_rfl)) ?_
                      try go_wp2
                      go_ret
                      exact ⟨by first | rfl | (simp [errW_none, errW_some] <;> rfl) | (simp [*, errW_none, errW_some] <;> rfl), by repeat (first | (with_reducible first | exact HB.out | apply below_alloc | apply pw_below_drewN | apply below_drew1) | exact HB.out)⟩
                    · rw [if_neg c21] at H
                      exact absurd H (by simp)
                  · rw [if_neg c20] at H
                    exact absurd H (by simp)
                · rw [if_neg c19] at H
                  have c19b0 : (t229 == 0) = false := beq_eq_false_iff_ne.mpr c19
                  have c19b1 : (t229 != 0) = true := bne_iff_ne.mpr c19
                  exact absurd ((Option.some.inj H).trans HRT.out) (by simp)
              · rw [if_neg c18] at H
                have c18b0 : (t228 == 4) = false := beq_eq_false_iff_ne.mpr c18
                have c18b1 : (t228 != 4) = true := bne_iff_ne.mpr c18
                exact absurd ((Option.some.inj H).trans HRT.out) (by simp)
            · rw [if_neg c17] at H
              have c17b0 : (((((rd_T34 t224 0).f0.f0).toList) == ([97] : List UInt8) && ((((rd_T34 t224 0).f0.f1).toList) == ([] : List UInt8) && ((((rd_T34 t224 0).f0.f2).toList) == ([] : List UInt8) && ((((rd_T34 t224 0).f0.f3).toList) == ([] : List UInt8) && ((((rd_T34 t224 0).f0.f4).toList) == ([] : List UInt8)))))) && (((rd_T34 t224 0).f1) == 4 && (((rd_T34 t224 0).f2) == 4))) = false := by simpa using c17
              clear c17
              exact absurd ((Option.some.inj H).trans HRT.out) (by simp)
          · rw [if_neg c16] at H
            exact absurd H (by simp)
        · rw [if_neg c15] at H
          have c15b0 : (t225 == 0) = false := beq_eq_false_iff_ne.mpr c15
          have c15b1 : (t225 != 0) = true := bne_iff_ne.mpr c15
          exact absurd ((Option.some.inj H).trans HRT.out) (by simp)
      · rw [if_neg c14] at H
        have c14b0 : ((t224.length : Int) == 1) = false := beq_eq_false_iff_ne.mpr c14
        have c14b1 : ((t224.length : Int) != 1) = true := bne_iff_ne.mpr c14
        exact absurd ((Option.some.inj H).trans HRT.out) (by simp)
    · rw [if_neg c13] at H
      have c13b0 : (t221 == 0) = false := beq_eq_false_iff_ne.mpr c13
      have c13b1 : (t221 != 0) = true := bne_iff_ne.mpr c13
      exact absurd ((Option.some.inj H).trans HRT.out) (by simp)
  · replace c12 := Bool.eq_false_iff.mpr c12
    subst c12
    have H1 : (some false) = some r := by rw [if_neg (show ¬ (false = true) by decide)] at H; exact H
    clear H
    have H := H1
    clear H1
    exact absurd ((Option.some.inj H).trans HRT.out) (by simp)
theorem accountinglaw19_lives.true_at : accountinglaw19_lives.f 100 = some true := by decide +kernel
theorem accountinglaw19_lives.tells (k : Nat) (r : Bool) (h : accountinglaw19_lives.f k = some r) : r = true := by
  have up : ∀ m j, LeO (accountinglaw19_lives.f j) (accountinglaw19_lives.f (j + m)) := fun m => by
    induction m with
    | zero => exact fun j => LeO.refl _
    | succ m ih => exact fun j r h => accountinglaw19_lives.mono _ _ (ih j r h)
  have h1 := up 100 k r h
  have h2 := up k 100 true accountinglaw19_lives.true_at
  rw [Nat.add_comm] at h2
  exact Option.some.inj (h1.symm.trans h2)
theorem accountinglaw19_lives.calls (k : Nat)  (r : Bool) (w : World) (h : accountinglaw19_lives.f k  = some r) :
    Calls Try.prog 24 #[] w fun e w' => e = .returned (.bool r) ∧ Below w.heap.size w w' := accountinglaw19_lives.calls_true k r w h (accountinglaw19_lives.tells k r h)

end Go.Proofs.Ytmflggbpiadkjaa.P
