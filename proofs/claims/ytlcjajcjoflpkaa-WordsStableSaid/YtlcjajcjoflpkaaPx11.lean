-- PRINTED by print.py (a twelfth state) out of the translation. Not trusted: Lean checks it.
import Derived.Test.YtlcjajcjoflpkaaPx0
import Derived.Test.YtlcjajcjoflpkaaPx8
import Derived.Test.YtlcjajcjoflpkaaPx9
import Derived.Test.YtlcjajcjoflpkaaPx10
import Derived.Test.YtlcjajcjoflpkaaHand
namespace Go.Proofs.Ytlcjajcjoflpkaa.P
open Go.RowKit Go.Proofs.YtlcjajcjoflpkaaW.PrintWords Go.Proofs.YtlcjajcjoflpkaaW.PrintLast Go.Proofs.YtlcjajcjoflpkaaW.PrintMore
attribute [local go_sem] max2_int min2_int max_two min_two max_three min_three max_four min_four   -- for this text's walks alone
set_option linter.unusedVariables false
set_option linter.unusedSimpArgs false

/-! ### accountinglaw06_lives: function 10 -/
def accountinglaw06_lives.f (k : Nat)  : Option (Bool) := (words_Cut.f k (⟨#[112, 111, 115, 116, 32, 45, 49, 46, 53, 48, 32, 34, 97, 32, 98, 34, 32, 35, 32, 120]⟩ : ByteArray)).bind fun bt167 => ((some (([(⟨1, (⟨#[112, 111, 115, 116]⟩ : ByteArray), 0⟩ : S39), (⟨2, (⟨#[45, 49, 46, 53, 48]⟩ : ByteArray), 5⟩ : S39), (⟨3, (⟨#[97, 32, 98]⟩ : ByteArray), 11⟩ : S39)] : List (S39)) : List (S39))).bind fun y172 => ((words_Cut.f k (⟨#[97, 60, 61, 50, 46, 46, 51]⟩ : ByteArray)).bind fun bt175 => ((words_Cut.f k (⟨#[97, 32, 63, 32, 34]⟩ : ByteArray)).bind fun bt180 => ((words_Quote.f k (⟨#[97, 34, 98]⟩ : ByteArray)).bind fun bt185 => ((words_Join.f k y172).bind fun bt187 => (if bt167.2.2 = 0 then (if bt167.2.1 = 20 then ((accountingref06_Same.f k bt167.1 y172).bind fun t189 => (if t189 = true then (if bt175.2.2 = 0 then (if (bt175.1.length : Int) = 5 then (if 1 < (bt175.1.length : Int) then (if ((rd_T39 bt175.1 1).f1).toList = ([60, 61] : List UInt8) then (if 3 < (bt175.1.length : Int) then (if ((rd_T39 bt175.1 3).f1).toList = ([46, 46] : List UInt8) then (if bt180.2.1 = 2 then (if bt180.2.2 = 5 then (if bt185.2 = 0 then (if bt185.1.toList = ([34, 97, 92, 34, 98, 34] : List UInt8) then (if bt187.2 = 0 then (if bt187.1.toList = ([112, 111, 115, 116, 32, 45, 49, 46, 53, 48, 32, 34, 97, 32, 98, 34] : List UInt8) then ((words_Code.f (⟨#[120, 95, 49]⟩ : ByteArray)).bind fun t192 => (if t192 = true then ((words_Code.f (⟨#[]⟩ : ByteArray)).bind fun t193 => (if t193 = true then (some false) else ((words_Plain.f (⟨#[]⟩ : ByteArray)).bind fun t194 => (some t194)))) else (some false))) else (some false)) else (some false)) else (some false)) else (some false)) else (some false)) else (some false)) else (some false)) else (none)) else (some false)) else (none)) else (some false)) else (some false)) else (some false))) else (some false)) else (some false)))))))
theorem accountinglaw06_lives.mono : ∀ k, LeO (accountinglaw06_lives.f k ) (accountinglaw06_lives.f (k + 1) ) := by
  intro  k
  unfold accountinglaw06_lives.f
  repeat' first
      | (with_reducible exact accountingref06_Same.mono _ _ _)
      | (with_reducible exact words_Cut.mono _ _)
      | (with_reducible exact words_Join.mono _ _)
      | (with_reducible exact words_Quote.mono _ _)
      | (with_reducible exact LeO.refl _)
      | (with_reducible exact LeO.none _)
      | (with_reducible refine LeO.ite ?_ ?_)
      | (with_reducible refine LeO.bind ?_ (fun _ => ?_))
      | exact accountingref06_Same.mono _ _ _
      | exact words_Cut.mono _ _
      | exact words_Join.mono _ _
      | exact words_Quote.mono _ _
      | exact LeO.none _
      | refine LeO.ite ?_ ?_
      | refine LeO.bind ?_ (fun _ => ?_)
set_option maxHeartbeats 8000000 in
set_option maxRecDepth 100000 in
theorem accountinglaw06_lives.calls_true (k : Nat)  (r : Bool) (w : World) (h : accountinglaw06_lives.f k  = some r) (hrt : r = true) :
    Calls Try.prog 10 #[] w fun e w' => e = .returned (.bool r) ∧ Below w.heap.size w w' := by
  have HRT := Aside0.mk hrt
  clear hrt
  have hu39 := Try.underlying39
  have HB := Aside0.mk (Below.refl w.heap.size w)
  have H : ((words_Cut.f k (⟨#[112, 111, 115, 116, 32, 45, 49, 46, 53, 48, 32, 34, 97, 32, 98, 34, 32, 35, 32, 120]⟩ : ByteArray)).bind fun bt167 => ((some (([(⟨1, (⟨#[112, 111, 115, 116]⟩ : ByteArray), 0⟩ : S39), (⟨2, (⟨#[45, 49, 46, 53, 48]⟩ : ByteArray), 5⟩ : S39), (⟨3, (⟨#[97, 32, 98]⟩ : ByteArray), 11⟩ : S39)] : List (S39)) : List (S39))).bind fun y172 => ((words_Cut.f k (⟨#[97, 60, 61, 50, 46, 46, 51]⟩ : ByteArray)).bind fun bt175 => ((words_Cut.f k (⟨#[97, 32, 63, 32, 34]⟩ : ByteArray)).bind fun bt180 => ((words_Quote.f k (⟨#[97, 34, 98]⟩ : ByteArray)).bind fun bt185 => ((words_Join.f k y172).bind fun bt187 => (if bt167.2.2 = 0 then (if bt167.2.1 = 20 then ((accountingref06_Same.f k bt167.1 y172).bind fun t189 => (if t189 = true then (if bt175.2.2 = 0 then (if (bt175.1.length : Int) = 5 then (if 1 < (bt175.1.length : Int) then (if ((rd_T39 bt175.1 1).f1).toList = ([60, 61] : List UInt8) then (if 3 < (bt175.1.length : Int) then (if ((rd_T39 bt175.1 3).f1).toList = ([46, 46] : List UInt8) then (if bt180.2.1 = 2 then (if bt180.2.2 = 5 then (if bt185.2 = 0 then (if bt185.1.toList = ([34, 97, 92, 34, 98, 34] : List UInt8) then (if bt187.2 = 0 then (if bt187.1.toList = ([112, 111, 115, 116, 32, 45, 49, 46, 53, 48, 32, 34, 97, 32, 98, 34] : List UInt8) then ((words_Code.f (⟨#[120, 95, 49]⟩ : ByteArray)).bind fun t192 => (if t192 = true then ((words_Code.f (⟨#[]⟩ : ByteArray)).bind fun t193 => (if t193 = true then (some false) else ((words_Plain.f (⟨#[]⟩ : ByteArray)).bind fun t194 => (some t194)))) else (some false))) else (some false)) else (some false)) else (some false)) else (some false)) else (some false)) else (some false)) else (some false)) else (none)) else (some false)) else (none)) else (some false)) else (some false)) else (some false))) else (some false)) else (some false)))))))) = some r := h
  clear h
  replace H := Option.bind_eq_some_iff.mp H
  obtain ⟨⟨t167, t168, t169⟩, A10, H⟩ := H
  replace H : ((some (([(⟨1, (⟨#[112, 111, 115, 116]⟩ : ByteArray), 0⟩ : S39), (⟨2, (⟨#[45, 49, 46, 53, 48]⟩ : ByteArray), 5⟩ : S39), (⟨3, (⟨#[97, 32, 98]⟩ : ByteArray), 11⟩ : S39)] : List (S39)) : List (S39))).bind fun y172 => ((words_Cut.f k (⟨#[97, 60, 61, 50, 46, 46, 51]⟩ : ByteArray)).bind fun bt175 => ((words_Cut.f k (⟨#[97, 32, 63, 32, 34]⟩ : ByteArray)).bind fun bt180 => ((words_Quote.f k (⟨#[97, 34, 98]⟩ : ByteArray)).bind fun bt185 => ((words_Join.f k y172).bind fun bt187 => (if t169 = 0 then (if t168 = 20 then ((accountingref06_Same.f k t167 y172).bind fun t189 => (if t189 = true then (if bt175.2.2 = 0 then (if (bt175.1.length : Int) = 5 then (if 1 < (bt175.1.length : Int) then (if ((rd_T39 bt175.1 1).f1).toList = ([60, 61] : List UInt8) then (if 3 < (bt175.1.length : Int) then (if ((rd_T39 bt175.1 3).f1).toList = ([46, 46] : List UInt8) then (if bt180.2.1 = 2 then (if bt180.2.2 = 5 then (if bt185.2 = 0 then (if bt185.1.toList = ([34, 97, 92, 34, 98, 34] : List UInt8) then (if bt187.2 = 0 then (if bt187.1.toList = ([112, 111, 115, 116, 32, 45, 49, 46, 53, 48, 32, 34, 97, 32, 98, 34] : List UInt8) then ((words_Code.f (⟨#[120, 95, 49]⟩ : ByteArray)).bind fun t192 => (if t192 = true then ((words_Code.f (⟨#[]⟩ : ByteArray)).bind fun t193 => (if t193 = true then (some false) else ((words_Plain.f (⟨#[]⟩ : ByteArray)).bind fun t194 => (some t194)))) else (some false))) else (some false)) else (some false)) else (some false)) else (some false)) else (some false)) else (some false)) else (some false)) else (none)) else (some false)) else (none)) else (some false)) else (some false)) else (some false))) else (some false)) else (some false))))))) = some r := H
  have A1 := Aside0.mk A10
  clear A10
  obtain ⟨y172, hy172⟩ : ∃ y_ : List (S39), y_ = (([(⟨1, (⟨#[112, 111, 115, 116]⟩ : ByteArray), 0⟩ : S39), (⟨2, (⟨#[45, 49, 46, 53, 48]⟩ : ByteArray), 5⟩ : S39), (⟨3, (⟨#[97, 32, 98]⟩ : ByteArray), 11⟩ : S39)] : List (S39))) := ⟨_, rfl⟩
  replace H : ((words_Cut.f k (⟨#[97, 60, 61, 50, 46, 46, 51]⟩ : ByteArray)).bind fun bt175 => ((words_Cut.f k (⟨#[97, 32, 63, 32, 34]⟩ : ByteArray)).bind fun bt180 => ((words_Quote.f k (⟨#[97, 34, 98]⟩ : ByteArray)).bind fun bt185 => ((words_Join.f k y172).bind fun bt187 => (if t169 = 0 then (if t168 = 20 then ((accountingref06_Same.f k t167 y172).bind fun t189 => (if t189 = true then (if bt175.2.2 = 0 then (if (bt175.1.length : Int) = 5 then (if 1 < (bt175.1.length : Int) then (if ((rd_T39 bt175.1 1).f1).toList = ([60, 61] : List UInt8) then (if 3 < (bt175.1.length : Int) then (if ((rd_T39 bt175.1 3).f1).toList = ([46, 46] : List UInt8) then (if bt180.2.1 = 2 then (if bt180.2.2 = 5 then (if bt185.2 = 0 then (if bt185.1.toList = ([34, 97, 92, 34, 98, 34] : List UInt8) then (if bt187.2 = 0 then (if bt187.1.toList = ([112, 111, 115, 116, 32, 45, 49, 46, 53, 48, 32, 34, 97, 32, 98, 34] : List UInt8) then ((words_Code.f (⟨#[120, 95, 49]⟩ : ByteArray)).bind fun t192 => (if t192 = true then ((words_Code.f (⟨#[]⟩ : ByteArray)).bind fun t193 => (if t193 = true then (some false) else ((words_Plain.f (⟨#[]⟩ : ByteArray)).bind fun t194 => (some t194)))) else (some false))) else (some false)) else (some false)) else (some false)) else (some false)) else (some false)) else (some false)) else (some false)) else (none)) else (some false)) else (none)) else (some false)) else (some false)) else (some false))) else (some false)) else (some false)))))) = some r := by first | (rw [hy172]; with_reducible exact H) | (have H2_ := (Option.bind_some _ _).symm.trans H; rw [hy172]; with_reducible exact H2_) | (have H2_ := (Option.bind_some _ _).symm.trans H; with_reducible exact H2_) | with_reducible exact H | (rw [hy172]; exact H) | exact H
  have Ny172 := Aside0.mk hy172
  clear hy172
  replace H := Option.bind_eq_some_iff.mp H
  obtain ⟨⟨t175, t176, t177⟩, A20, H⟩ := H
  replace H : ((words_Cut.f k (⟨#[97, 32, 63, 32, 34]⟩ : ByteArray)).bind fun bt180 => ((words_Quote.f k (⟨#[97, 34, 98]⟩ : ByteArray)).bind fun bt185 => ((words_Join.f k y172).bind fun bt187 => (if t169 = 0 then (if t168 = 20 then ((accountingref06_Same.f k t167 y172).bind fun t189 => (if t189 = true then (if t177 = 0 then (if (t175.length : Int) = 5 then (if 1 < (t175.length : Int) then (if ((rd_T39 t175 1).f1).toList = ([60, 61] : List UInt8) then (if 3 < (t175.length : Int) then (if ((rd_T39 t175 3).f1).toList = ([46, 46] : List UInt8) then (if bt180.2.1 = 2 then (if bt180.2.2 = 5 then (if bt185.2 = 0 then (if bt185.1.toList = ([34, 97, 92, 34, 98, 34] : List UInt8) then (if bt187.2 = 0 then (if bt187.1.toList = ([112, 111, 115, 116, 32, 45, 49, 46, 53, 48, 32, 34, 97, 32, 98, 34] : List UInt8) then ((words_Code.f (⟨#[120, 95, 49]⟩ : ByteArray)).bind fun t192 => (if t192 = true then ((words_Code.f (⟨#[]⟩ : ByteArray)).bind fun t193 => (if t193 = true then (some false) else ((words_Plain.f (⟨#[]⟩ : ByteArray)).bind fun t194 => (some t194)))) else (some false))) else (some false)) else (some false)) else (some false)) else (some false)) else (some false)) else (some false)) else (some false)) else (none)) else (some false)) else (none)) else (some false)) else (some false)) else (some false))) else (some false)) else (some false))))) = some r := H
  have A2 := Aside0.mk A20
  clear A20
  replace H := Option.bind_eq_some_iff.mp H
  obtain ⟨⟨t180, t181, t182⟩, A30, H⟩ := H
  replace H : ((words_Quote.f k (⟨#[97, 34, 98]⟩ : ByteArray)).bind fun bt185 => ((words_Join.f k y172).bind fun bt187 => (if t169 = 0 then (if t168 = 20 then ((accountingref06_Same.f k t167 y172).bind fun t189 => (if t189 = true then (if t177 = 0 then (if (t175.length : Int) = 5 then (if 1 < (t175.length : Int) then (if ((rd_T39 t175 1).f1).toList = ([60, 61] : List UInt8) then (if 3 < (t175.length : Int) then (if ((rd_T39 t175 3).f1).toList = ([46, 46] : List UInt8) then (if t181 = 2 then (if t182 = 5 then (if bt185.2 = 0 then (if bt185.1.toList = ([34, 97, 92, 34, 98, 34] : List UInt8) then (if bt187.2 = 0 then (if bt187.1.toList = ([112, 111, 115, 116, 32, 45, 49, 46, 53, 48, 32, 34, 97, 32, 98, 34] : List UInt8) then ((words_Code.f (⟨#[120, 95, 49]⟩ : ByteArray)).bind fun t192 => (if t192 = true then ((words_Code.f (⟨#[]⟩ : ByteArray)).bind fun t193 => (if t193 = true then (some false) else ((words_Plain.f (⟨#[]⟩ : ByteArray)).bind fun t194 => (some t194)))) else (some false))) else (some false)) else (some false)) else (some false)) else (some false)) else (some false)) else (some false)) else (some false)) else (none)) else (some false)) else (none)) else (some false)) else (some false)) else (some false))) else (some false)) else (some false)))) = some r := H
  have A3 := Aside0.mk A30
  clear A30
  replace H := Option.bind_eq_some_iff.mp H
  obtain ⟨⟨t185, t186⟩, A40, H⟩ := H
  replace H : ((words_Join.f k y172).bind fun bt187 => (if t169 = 0 then (if t168 = 20 then ((accountingref06_Same.f k t167 y172).bind fun t189 => (if t189 = true then (if t177 = 0 then (if (t175.length : Int) = 5 then (if 1 < (t175.length : Int) then (if ((rd_T39 t175 1).f1).toList = ([60, 61] : List UInt8) then (if 3 < (t175.length : Int) then (if ((rd_T39 t175 3).f1).toList = ([46, 46] : List UInt8) then (if t181 = 2 then (if t182 = 5 then (if t186 = 0 then (if t185.toList = ([34, 97, 92, 34, 98, 34] : List UInt8) then (if bt187.2 = 0 then (if bt187.1.toList = ([112, 111, 115, 116, 32, 45, 49, 46, 53, 48, 32, 34, 97, 32, 98, 34] : List UInt8) then ((words_Code.f (⟨#[120, 95, 49]⟩ : ByteArray)).bind fun t192 => (if t192 = true then ((words_Code.f (⟨#[]⟩ : ByteArray)).bind fun t193 => (if t193 = true then (some false) else ((words_Plain.f (⟨#[]⟩ : ByteArray)).bind fun t194 => (some t194)))) else (some false))) else (some false)) else (some false)) else (some false)) else (some false)) else (some false)) else (some false)) else (some false)) else (none)) else (some false)) else (none)) else (some false)) else (some false)) else (some false))) else (some false)) else (some false))) = some r := H
  have A4 := Aside0.mk A40
  clear A40
  replace H := Option.bind_eq_some_iff.mp H
  obtain ⟨⟨t187, t188⟩, A50, H⟩ := H
  replace H : (if t169 = 0 then (if t168 = 20 then ((accountingref06_Same.f k t167 y172).bind fun t189 => (if t189 = true then (if t177 = 0 then (if (t175.length : Int) = 5 then (if 1 < (t175.length : Int) then (if ((rd_T39 t175 1).f1).toList = ([60, 61] : List UInt8) then (if 3 < (t175.length : Int) then (if ((rd_T39 t175 3).f1).toList = ([46, 46] : List UInt8) then (if t181 = 2 then (if t182 = 5 then (if t186 = 0 then (if t185.toList = ([34, 97, 92, 34, 98, 34] : List UInt8) then (if t188 = 0 then (if t187.toList = ([112, 111, 115, 116, 32, 45, 49, 46, 53, 48, 32, 34, 97, 32, 98, 34] : List UInt8) then ((words_Code.f (⟨#[120, 95, 49]⟩ : ByteArray)).bind fun t192 => (if t192 = true then ((words_Code.f (⟨#[]⟩ : ByteArray)).bind fun t193 => (if t193 = true then (some false) else ((words_Plain.f (⟨#[]⟩ : ByteArray)).bind fun t194 => (some t194)))) else (some false))) else (some false)) else (some false)) else (some false)) else (some false)) else (some false)) else (some false)) else (some false)) else (none)) else (some false)) else (none)) else (some false)) else (some false)) else (some false))) else (some false)) else (some false)) = some r := H
  have A5 := Aside0.mk A50
  clear A50
  by_cases c6 : t169 = 0
  · rw [if_pos c6] at H
    have c6b0 : (t169 == 0) = true := beq_iff_eq.mpr c6
    have c6b1 : (t169 != 0) = false := bne_eq_false_iff_eq.mpr c6
    clear c6
    by_cases c7 : t168 = 20
    · rw [if_pos c7] at H
      have c7b0 : (t168 == 20) = true := beq_iff_eq.mpr c7
      have c7b1 : (t168 != 20) = false := bne_eq_false_iff_eq.mpr c7
      clear c7
      replace H := Option.bind_eq_some_iff.mp H
      obtain ⟨t189, A80, H⟩ := H
      replace H : (if t189 = true then (if t177 = 0 then (if (t175.length : Int) = 5 then (if 1 < (t175.length : Int) then (if ((rd_T39 t175 1).f1).toList = ([60, 61] : List UInt8) then (if 3 < (t175.length : Int) then (if ((rd_T39 t175 3).f1).toList = ([46, 46] : List UInt8) then (if t181 = 2 then (if t182 = 5 then (if t186 = 0 then (if t185.toList = ([34, 97, 92, 34, 98, 34] : List UInt8) then (if t188 = 0 then (if t187.toList = ([112, 111, 115, 116, 32, 45, 49, 46, 53, 48, 32, 34, 97, 32, 98, 34] : List UInt8) then ((words_Code.f (⟨#[120, 95, 49]⟩ : ByteArray)).bind fun t192 => (if t192 = true then ((words_Code.f (⟨#[]⟩ : ByteArray)).bind fun t193 => (if t193 = true then (some false) else ((words_Plain.f (⟨#[]⟩ : ByteArray)).bind fun t194 => (some t194)))) else (some false))) else (some false)) else (some false)) else (some false)) else (some false)) else (some false)) else (some false)) else (some false)) else (none)) else (some false)) else (none)) else (some false)) else (some false)) else (some false)) = some r := H
      have A8 := Aside0.mk A80
      clear A80
      by_cases c9 : t189 = true
      · subst c9
        have H1 : (if t177 = 0 then (if (t175.length : Int) = 5 then (if 1 < (t175.length : Int) then (if ((rd_T39 t175 1).f1).toList = ([60, 61] : List UInt8) then (if 3 < (t175.length : Int) then (if ((rd_T39 t175 3).f1).toList = ([46, 46] : List UInt8) then (if t181 = 2 then (if t182 = 5 then (if t186 = 0 then (if t185.toList = ([34, 97, 92, 34, 98, 34] : List UInt8) then (if t188 = 0 then (if t187.toList = ([112, 111, 115, 116, 32, 45, 49, 46, 53, 48, 32, 34, 97, 32, 98, 34] : List UInt8) then ((words_Code.f (⟨#[120, 95, 49]⟩ : ByteArray)).bind fun t192 => (if t192 = true then ((words_Code.f (⟨#[]⟩ : ByteArray)).bind fun t193 => (if t193 = true then (some false) else ((words_Plain.f (⟨#[]⟩ : ByteArray)).bind fun t194 => (some t194)))) else (some false))) else (some false)) else (some false)) else (some false)) else (some false)) else (some false)) else (some false)) else (some false)) else (none)) else (some false)) else (none)) else (some false)) else (some false)) = some r := by rw [if_pos rfl] at H; exact H
        clear H
        have H := H1
        clear H1
        by_cases c10 : t177 = 0
        · rw [if_pos c10] at H
          have c10b0 : (t177 == 0) = true := beq_iff_eq.mpr c10
          have c10b1 : (t177 != 0) = false := bne_eq_false_iff_eq.mpr c10
          clear c10
          by_cases c11 : (t175.length : Int) = 5
          · rw [if_pos c11] at H
            have c11b0 : ((t175.length : Int) == 5) = true := beq_iff_eq.mpr c11
            have c11b1 : ((t175.length : Int) != 5) = false := bne_eq_false_iff_eq.mpr c11
            clear c11
            by_cases c12 : 1 < (t175.length : Int)
            · rw [if_pos c12] at H
              have c12b0 : decide (1 < (t175.length : Int)) = true := decide_eq_true c12
              have c12b1 : decide (1 < t175.length) = true := decide_eq_true (by omega)
              clear c12
              by_cases c13 : ((rd_T39 t175 1).f1).toList = ([60, 61] : List UInt8)
              · rw [if_pos c13] at H
                have c13b0 : (((rd_T39 t175 1).f1).toList == ([60, 61] : List UInt8)) = true := beq_iff_eq.mpr c13
                have c13b1 : (((rd_T39 t175 1).f1).toList != ([60, 61] : List UInt8)) = false := bne_eq_false_iff_eq.mpr c13
                clear c13
                by_cases c14 : 3 < (t175.length : Int)
                · rw [if_pos c14] at H
                  have c14b0 : decide (3 < (t175.length : Int)) = true := decide_eq_true c14
                  have c14b1 : decide (3 < t175.length) = true := decide_eq_true (by omega)
                  clear c14
                  by_cases c15 : ((rd_T39 t175 3).f1).toList = ([46, 46] : List UInt8)
                  · rw [if_pos c15] at H
                    have c15b0 : (((rd_T39 t175 3).f1).toList == ([46, 46] : List UInt8)) = true := beq_iff_eq.mpr c15
                    have c15b1 : (((rd_T39 t175 3).f1).toList != ([46, 46] : List UInt8)) = false := bne_eq_false_iff_eq.mpr c15
                    clear c15
                    by_cases c16 : t181 = 2
                    · rw [if_pos c16] at H
                      have c16b0 : (t181 == 2) = true := beq_iff_eq.mpr c16
                      have c16b1 : (t181 != 2) = false := bne_eq_false_iff_eq.mpr c16
                      clear c16
                      by_cases c17 : t182 = 5
                      · rw [if_pos c17] at H
                        have c17b0 : (t182 == 5) = true := beq_iff_eq.mpr c17
                        have c17b1 : (t182 != 5) = false := bne_eq_false_iff_eq.mpr c17
                        clear c17
                        by_cases c18 : t186 = 0
                        · rw [if_pos c18] at H
                          have c18b0 : (t186 == 0) = true := beq_iff_eq.mpr c18
                          have c18b1 : (t186 != 0) = false := bne_eq_false_iff_eq.mpr c18
                          clear c18
                          by_cases c19 : t185.toList = ([34, 97, 92, 34, 98, 34] : List UInt8)
                          · rw [if_pos c19] at H
                            have c19b0 : (t185.toList == ([34, 97, 92, 34, 98, 34] : List UInt8)) = true := beq_iff_eq.mpr c19
                            have c19b1 : (t185.toList != ([34, 97, 92, 34, 98, 34] : List UInt8)) = false := bne_eq_false_iff_eq.mpr c19
                            clear c19
                            by_cases c20 : t188 = 0
                            · rw [if_pos c20] at H
                              have c20b0 : (t188 == 0) = true := beq_iff_eq.mpr c20
                              have c20b1 : (t188 != 0) = false := bne_eq_false_iff_eq.mpr c20
                              clear c20
                              by_cases c21 : t187.toList = ([112, 111, 115, 116, 32, 45, 49, 46, 53, 48, 32, 34, 97, 32, 98, 34] : List UInt8)
                              · rw [if_pos c21] at H
                                have c21b0 : (t187.toList == ([112, 111, 115, 116, 32, 45, 49, 46, 53, 48, 32, 34, 97, 32, 98, 34] : List UInt8)) = true := beq_iff_eq.mpr c21
                                have c21b1 : (t187.toList != ([112, 111, 115, 116, 32, 45, 49, 46, 53, 48, 32, 34, 97, 32, 98, 34] : List UInt8)) = false := bne_eq_false_iff_eq.mpr c21
                                clear c21
                                replace H := Option.bind_eq_some_iff.mp H
                                obtain ⟨t192, A220, H⟩ := H
                                replace H : (if t192 = true then ((words_Code.f (⟨#[]⟩ : ByteArray)).bind fun t193 => (if t193 = true then (some false) else ((words_Plain.f (⟨#[]⟩ : ByteArray)).bind fun t194 => (some t194)))) else (some false)) = some r := H
                                have A22 := Aside0.mk A220
                                clear A220
                                by_cases c23 : t192 = true
                                · subst c23
                                  have H1 : ((words_Code.f (⟨#[]⟩ : ByteArray)).bind fun t193 => (if t193 = true then (some false) else ((words_Plain.f (⟨#[]⟩ : ByteArray)).bind fun t194 => (some t194)))) = some r := by rw [if_pos rfl] at H; exact H
                                  clear H
                                  have H := H1
                                  clear H1
                                  replace H := Option.bind_eq_some_iff.mp H
                                  obtain ⟨t193, A240, H⟩ := H
                                  replace H : (if t193 = true then (some false) else ((words_Plain.f (⟨#[]⟩ : ByteArray)).bind fun t194 => (some t194))) = some r := H
                                  have A24 := Aside0.mk A240
                                  clear A240
                                  by_cases c25 : t193 = true
                                  · subst c25
                                    have H1 : (some false) = some r := by rw [if_pos rfl] at H; exact H
                                    clear H
                                    have H := H1
                                    clear H1
                                    exact absurd ((Option.some.inj H).trans HRT.out) (by simp)
                                  · replace c25 := Bool.eq_false_iff.mpr c25
                                    subst c25
                                    have H1 : ((words_Plain.f (⟨#[]⟩ : ByteArray)).bind fun t194 => (some t194)) = some r := by rw [if_neg (show ¬ (false = true) by decide)] at H; exact H
                                    clear H
                                    have H := H1
                                    clear H1
                                    replace H := Option.bind_eq_some_iff.mp H
                                    obtain ⟨t194, A260, H⟩ := H
                                    replace H : (some t194) = some r := H
                                    have A26 := Aside0.mk A260
                                    clear A260
                                    obtain rfl := Option.some.inj H
                                    go_enter Try.func10, Try.ntmps10
                                    go_wp2_with (first | ((with_reducible refine gate_callee (f := 15) rfl ?_); refine goesL_ (some 16) rfl rfl Try.func15 (by kernel_rfl) rfl #[.string (⟨#[112, 111, 115, 116, 32, 45, 49, 46, 53, 48, 32, 34, 97, 32, 98, 34, 32, 35, 32, 120]⟩ : ByteArray)] rfl (by (try simp only [List.map_toArray, List.map_cons, List.map_nil]); first | done | rfl | (simp only [List.length_drop, List.length_take]; rfl)) ?_; (with_reducible refine (words_Cut.calls k (⟨#[112, 111, 115, 116, 32, 45, 49, 46, 53, 48, 32, 34, 97, 32, 98, 34, 32, 35, 32, 120]⟩ : ByteArray) t167 t168 t169 _ A1.out).mono ?_); rintro e w27 ⟨v170, rfl, ho0, hb⟩; refine ⟨_, rfl, ?_⟩; have n0_ := Aside0.mk (Kd.R_lower ho0 (below_size (by repeat (first | (with_reducible first | exact HB.out | apply below_alloc | apply pw_below_drewN | apply below_drew1) | exact HB.out)))); have n1_ := Aside0.mk (below_step (by repeat (first | (with_reducible first | exact HB.out | apply below_alloc | apply pw_below_drewN | apply below_drew1) | exact HB.out)) hb); clear HB; have HO171 := n0_; have HB := n1_; clear n0_ n1_; (try clear hb); (try clear hb2); (try clear hk); (try clear hi); (try clear ho0)) | ((with_reducible refine gate_dst (N := 23) rfl ?_); (try (refine gate_guard (by rfl) ?_; dsimp only)); refine Kd.R_lit k39 _ 39 ?hg (N := 23) ?hd (xs := ([(⟨1, (⟨#[112, 111, 115, 116]⟩ : ByteArray), 0⟩ : S39), (⟨2, (⟨#[45, 49, 46, 53, 48]⟩ : ByteArray), 5⟩ : S39), (⟨3, (⟨#[97, 32, 98]⟩ : ByteArray), 11⟩ : S39)] : List (S39))) (inner := [.int .i64 1, .string (⟨#[112, 111, 115, 116]⟩ : ByteArray), .int .i64 0, .int .i64 2, .string (⟨#[45, 49, 46, 53, 48]⟩ : ByteArray), .int .i64 5, .int .i64 3, .string (⟨#[97, 32, 98]⟩ : ByteArray), .int .i64 11]) (ok := fun _ => True) (okp := fun _ => True) ?hr ?hp (fun _ hk => hk) trivial (Below.refl _ _) (Nat.le_refl _) (by simp) ?_; (case hd => rfl); (case hg => rfl); (case hr => first | (go_simp; done) | (go_simp; rfl)); (case hp => exact (Reps.c3 (show Kd.M k39 _ _ _ (⟨1, (⟨#[112, 111, 115, 116]⟩ : ByteArray), 0⟩ : S39) [.int .i64 1, .string (⟨#[112, 111, 115, 116]⟩ : ByteArray), .int .i64 0] from (k39_mkM _ _ _ (⟨1, (⟨#[112, 111, 115, 116]⟩ : ByteArray), 0⟩ : S39) )) (Reps.c3 (show Kd.M k39 _ _ _ (⟨2, (⟨#[45, 49, 46, 53, 48]⟩ : ByteArray), 5⟩ : S39) [.int .i64 2, .string (⟨#[45, 49, 46, 53, 48]⟩ : ByteArray), .int .i64 5] from (k39_mkM _ _ _ (⟨2, (⟨#[45, 49, 46, 53, 48]⟩ : ByteArray), 5⟩ : S39) )) (Reps.c3 (show Kd.M k39 _ _ _ (⟨3, (⟨#[97, 32, 98]⟩ : ByteArray), 11⟩ : S39) [.int .i64 3, .string (⟨#[97, 32, 98]⟩ : ByteArray), .int .i64 11] from (k39_mkM _ _ _ (⟨3, (⟨#[97, 32, 98]⟩ : ByteArray), 11⟩ : S39) )) (Reps.none _ _))))); intro v173 w28 ho29 hb hg_ hnew_; clear hg_ hnew_; (first | rw [← Ny172.out] at ho29 | (simp only [Int.reduceToNat] at ho29; rw [← Ny172.out] at ho29)); have n0_ := Aside0.mk (Kd.R_elder' (by (with_reducible repeat (first | apply Kd.R_alloc | apply Kd.R_drewN | apply Kd.R_drew)); exact HO171.out) (Kd.R_base ho29) hb); have n1_ := Aside0.mk (Kd.R_lower (Kd.R_new' ho29 (Kd.R_lt (by (with_reducible repeat (first | apply Kd.R_alloc | apply Kd.R_drewN | apply Kd.R_drew)); exact HO171.out))) (below_size (by repeat (first | (with_reducible first | exact HB.out | apply below_alloc | apply pw_below_drewN | apply below_drew1) | exact HB.out)))); have n2_ := Aside0.mk (below_step (by repeat (first | (with_reducible first | exact HB.out | apply below_alloc | apply pw_below_drewN | apply below_drew1) | exact HB.out)) hb); clear HO171; clear HB; have HO171 := n0_; have HO174 := n1_; have HB := n2_; clear n0_ n1_ n2_; clear hb ho29) | ((with_reducible refine gate_callee (f := 15) rfl ?_); refine goesL_ (some 25) rfl rfl Try.func15 (by kernel_rfl) rfl #[.string (⟨#[97, 60, 61, 50, 46, 46, 51]⟩ : ByteArray)] rfl (by (try simp only [List.map_toArray, List.map_cons, List.map_nil]); first | done | rfl | (simp only [List.length_drop, List.length_take]; rfl)) ?_; (with_reducible refine (words_Cut.calls k (⟨#[97, 60, 61, 50, 46, 46, 51]⟩ : ByteArray) t175 t176 t177 _ A2.out).mono ?_); rintro e w30 ⟨v178, rfl, ho0, hb⟩; refine ⟨_, rfl, ?_⟩; have n0_ := Aside0.mk (Kd.R_elder' (by (with_reducible repeat (first | apply Kd.R_alloc | apply Kd.R_drewN | apply Kd.R_drew)); exact HO171.out) (Kd.R_base ho0) hb); have n1_ := Aside0.mk (Kd.R_elder' (by (with_reducible repeat (first | apply Kd.R_alloc | apply Kd.R_drewN | apply Kd.R_drew)); exact HO174.out) (Kd.R_base ho0) hb); have n2_ := Aside0.mk (Kd.R_lower (Kd.R_new' (Kd.R_new' ho0 (Kd.R_lt (by (with_reducible repeat (first | apply Kd.R_alloc | apply Kd.R_drewN | apply Kd.R_drew)); exact HO171.out))) (Kd.R_lt (by (with_reducible repeat (first | apply Kd.R_alloc | apply Kd.R_drewN | apply Kd.R_drew)); exact HO174.out))) (below_size (by repeat (first | (with_reducible first | exact HB.out | apply below_alloc | apply pw_below_drewN | apply below_drew1) | exact HB.out)))); have n3_ := Aside0.mk (below_step (by repeat (first | (with_reducible first | exact HB.out | apply below_alloc | apply pw_below_drewN | apply below_drew1) | exact HB.out)) hb); clear HO171; clear HO174; clear HB; have HO171 := n0_; have HO174 := n1_; have HO179 := n2_; have HB := n3_; clear n0_ n1_ n2_ n3_; (try clear hb); (try clear hb2); (try clear hk); (try clear hi); (try clear ho0)) | ((with_reducible refine gate_callee (f := 15) rfl ?_); refine goesL_ (some 30) rfl rfl Try.func15 (by kernel_rfl) rfl #[.string (⟨#[97, 32, 63, 32, 34]⟩ : ByteArray)] rfl (by (try simp only [List.map_toArray, List.map_cons, List.map_nil]); first | done | rfl | (simp only [List.length_drop, List.length_take]; rfl)) ?_; (with_reducible refine (words_Cut.calls k (⟨#[97, 32, 63, 32, 34]⟩ : ByteArray) t180 t181 t182 _ A3.out).mono ?_); rintro e w31 ⟨v183, rfl, ho0, hb⟩; refine ⟨_, rfl, ?_⟩; have n0_ := Aside0.mk (Kd.R_elder' (by (with_reducible repeat (first | apply Kd.R_alloc | apply Kd.R_drewN | apply Kd.R_drew)); exact HO171.out) (Kd.R_base ho0) hb); have n1_ := Aside0.mk (Kd.R_elder' (by (with_reducible repeat (first | apply Kd.R_alloc | apply Kd.R_drewN | apply Kd.R_drew)); exact HO174.out) (Kd.R_base ho0) hb); have n2_ := Aside0.mk (Kd.R_elder' (by (with_reducible repeat (first | apply Kd.R_alloc | apply Kd.R_drewN | apply Kd.R_drew)); exact HO179.out) (Kd.R_base ho0) hb); have n3_ := Aside0.mk (Kd.R_lower (Kd.R_new' (Kd.R_new' (Kd.R_new' ho0 (Kd.R_lt (by (with_reducible repeat (first | apply Kd.R_alloc | apply Kd.R_drewN | apply Kd.R_drew)); exact HO171.out))) (Kd.R_lt (by (with_reducible repeat (first | apply Kd.R_alloc | apply Kd.R_drewN | apply Kd.R_drew)); exact HO174.out))) (Kd.R_lt (by (with_reducible repeat (first | apply Kd.R_alloc | apply Kd.R_drewN | apply Kd.R_drew)); exact HO179.out))) (below_size (by repeat (first | (with_reducible first | exact HB.out | apply below_alloc | apply pw_below_drewN | apply below_drew1) | exact HB.out)))); have n4_ := Aside0.mk (below_step (by repeat (first | (with_reducible first | exact HB.out | apply below_alloc | apply pw_below_drewN | apply below_drew1) | exact HB.out)) hb); clear HO171; clear HO174; clear HO179; clear HB; have HO171 := n0_; have HO174 := n1_; have HO179 := n2_; have HO184 := n3_; have HB := n4_; clear n0_ n1_ n2_ n3_ n4_; (try clear hb); (try clear hb2); (try clear hk); (try clear hi); (try clear ho0)) | ((with_reducible refine gate_callee (f := 18) rfl ?_); refine goesL_ (some 35) rfl rfl Try.func18 (by kernel_rfl) rfl #[.string (⟨#[97, 34, 98]⟩ : ByteArray)] rfl (by (try simp only [List.map_toArray, List.map_cons, List.map_nil]); first | done | rfl | (simp only [List.length_drop, List.length_take]; rfl)) ?_; (with_reducible refine (words_Quote.calls k (⟨#[97, 34, 98]⟩ : ByteArray) t185 t186 _ A4.out).mono ?_); rintro e w32 ⟨rfl, hb⟩; refine ⟨_, rfl, ?_⟩; have n0_ := Aside0.mk (Kd.R_below (by (with_reducible repeat (first | apply Kd.R_alloc | apply Kd.R_drewN | apply Kd.R_drew)); exact HO171.out) hb); have n1_ := Aside0.mk (Kd.R_below (by (with_reducible repeat (first | apply Kd.R_alloc | apply Kd.R_drewN | apply Kd.R_drew)); exact HO174.out) hb); have n2_ := Aside0.mk (Kd.R_below (by (with_reducible repeat (first | apply Kd.R_alloc | apply Kd.R_drewN | apply Kd.R_drew)); exact HO179.out) hb); have n3_ := Aside0.mk (Kd.R_below (by (with_reducible repeat (first | apply Kd.R_alloc | apply Kd.R_drewN | apply Kd.R_drew)); exact HO184.out) hb); have n4_ := Aside0.mk (below_step (by repeat (first | (with_reducible first | exact HB.out | apply below_alloc | apply pw_below_drewN | apply below_drew1) | exact HB.out)) hb); clear HO171; clear HO174; clear HO179; clear HO184; clear HB; have HO171 := n0_; have HO174 := n1_; have HO179 := n2_; have HO184 := n3_; have HB := n4_; clear n0_ n1_ n2_ n3_ n4_; (try clear hb); (try clear hb2); (try clear hk); (try clear hi); obtain ⟨Ao33, co33, eo33⟩ := Kd.R_slice HO174.out; subst eo33) | ((with_reducible refine gate_callee (f := 21) rfl ?_); refine goesL_ (some 40) rfl rfl Try.func21 (by kernel_rfl) rfl #[.slice Ao33 y172.length co33] rfl (by (try simp only [List.map_toArray, List.map_cons, List.map_nil]); first | done | rfl | (simp only [List.length_drop, List.length_take]; rfl)) ?_; (with_reducible refine (words_Join.calls k _ _ y172 t187 t188 _ ?side1 ?side2 A5.out).mono ?_); (case side1 => repeat (first | exact (Kd.R_reads' HO174.out).2.2 | (with_reducible refine Kd.C_alloc ?_ _) | (with_reducible refine Kd.C_drewN ?_ _) | (with_reducible refine Kd.C_drew ?_))); (case side2 => exact (Kd.R_reads' HO174.out).2.1); rintro e w34 ⟨rfl, hb⟩; refine ⟨_, rfl, ?_⟩; have n0_ := Aside0.mk (Kd.R_below (by (with_reducible repeat (first | apply Kd.R_alloc | apply Kd.R_drewN | apply Kd.R_drew)); exact HO171.out) hb); have n1_ := Aside0.mk (Kd.R_below (by (with_reducible repeat (first | apply Kd.R_alloc | apply Kd.R_drewN | apply Kd.R_drew)); exact HO174.out) hb); have n2_ := Aside0.mk (Kd.R_below (by (with_reducible repeat (first | apply Kd.R_alloc | apply Kd.R_drewN | apply Kd.R_drew)); exact HO179.out) hb); have n3_ := Aside0.mk (Kd.R_below (by (with_reducible repeat (first | apply Kd.R_alloc | apply Kd.R_drewN | apply Kd.R_drew)); exact HO184.out) hb); have n4_ := Aside0.mk (below_step (by repeat (first | (with_reducible first | exact HB.out | apply below_alloc | apply pw_below_drewN | apply below_drew1) | exact HB.out)) hb); clear HO171; clear HO174; clear HO179; clear HO184; clear HB; have HO171 := n0_; have HO174 := n1_; have HO179 := n2_; have HO184 := n3_; have HB := n4_; clear n0_ n1_ n2_ n3_ n4_; (try clear hb); (try clear hb2); (try clear hk); (try clear hi); obtain ⟨Ao35, co35, eo35⟩ := Kd.R_slice HO171.out; subst eo35) | (go_at_call 17; (with_reducible refine (accountingref06_Same.calls k _ _ t167 _ _ y172 true _ ?side1 ?side2 ?side3 ?side4 A8.out).mono ?_); (case side1 => repeat (first | exact (Kd.R_reads' HO171.out).2.2 | (with_reducible refine Kd.C_alloc ?_ _) | (with_reducible refine Kd.C_drewN ?_ _) | (with_reducible refine Kd.C_drew ?_))); (case side2 => exact (Kd.R_reads' HO171.out).2.1); (case side3 => repeat (first | exact (Kd.R_reads' HO174.out).2.2 | (with_reducible refine Kd.C_alloc ?_ _) | (with_reducible refine Kd.C_drewN ?_ _) | (with_reducible refine Kd.C_drew ?_))); (case side4 => exact (Kd.R_reads' HO174.out).2.1); rintro e w' ⟨rfl, ⟨nd, rfl⟩⟩; obtain ⟨Ao36, co36, eo36⟩ := Kd.R_slice HO179.out; subst eo36; have p190 : 0 ≤ (1 : Int) := (by omega); have q190 : 1 < (t175.length : Int) := of_decide_eq_true (by first | (with_reducible assumption) | assumption); obtain ⟨ad190, e190, hx190_0, hx190_1, hx190_2⟩ := at_T39 (Kd.R_reads' HO179.out).2.2 1 p190 q190; cases e190; (try simp only [show (1 : Int).toNat = 1 from rfl, Nat.reduceMul, Nat.reduceEqDiff, Go.Addr.add, ↓reduceIte] at hx190_0); (try simp only [show (1 : Int).toNat = 1 from rfl, Nat.reduceMul, Nat.reduceEqDiff, Go.Addr.add, ↓reduceIte] at hx190_1); (try simp only [show (1 : Int).toNat = 1 from rfl, Nat.reduceMul, Nat.reduceEqDiff, Go.Addr.add, ↓reduceIte] at hx190_2); have qi190 : (1 < t175.length) = True := eq_true (by omega); (try rw [show ((1 : Int)).toNat = 1 from rfl] at hx190_0); (try rw [show 1 * 3 = 3 from rfl] at hx190_0); (try rw [show ((1 : Int)).toNat = 1 from rfl] at hx190_1); (try rw [show 1 * 3 = 3 from rfl] at hx190_1); (try rw [show ((1 : Int)).toNat = 1 from rfl] at hx190_2); (try rw [show 1 * 3 = 3 from rfl] at hx190_2); replace p190 := eq_true p190; replace q190 := eq_true q190; have p191 : 0 ≤ (3 : Int) := (by omega); have q191 : 3 < (t175.length : Int) := of_decide_eq_true (by first | (with_reducible assumption) | assumption); obtain ⟨ad191, e191, hx191_0, hx191_1, hx191_2⟩ := at_T39 (Kd.R_reads' HO179.out).2.2 3 p191 q191; obtain rfl : ad190 = ad191 := (by injection e191); (try simp only [show (3 : Int).toNat = 3 from rfl, Nat.reduceMul, Nat.reduceEqDiff, Go.Addr.add, ↓reduceIte] at hx191_0); (try simp only [show (3 : Int).toNat = 3 from rfl, Nat.reduceMul, Nat.reduceEqDiff, Go.Addr.add, ↓reduceIte] at hx191_1); (try simp only [show (3 : Int).toNat = 3 from rfl, Nat.reduceMul, Nat.reduceEqDiff, Go.Addr.add, ↓reduceIte] at hx191_2); have qi191 : (3 < t175.length) = True := eq_true (by omega); (try rw [show ((3 : Int)).toNat = 3 from rfl] at hx191_0); (try rw [show 3 * 3 = 9 from rfl] at hx191_0); (try rw [show ((3 : Int)).toNat = 3 from rfl] at hx191_1); (try rw [show 3 * 3 = 9 from rfl] at hx191_1); (try rw [show ((3 : Int)).toNat = 3 from rfl] at hx191_2); (try rw [show 3 * 3 = 9 from rfl] at hx191_2); replace p191 := eq_true p191; replace q191 := eq_true q191) | (go_at_call 11; (with_reducible refine (words_Code.calls (⟨#[120, 95, 49]⟩ : ByteArray) true _ A22.out).mono ?_); rintro e w' ⟨rfl, ⟨nd, rfl⟩⟩) | (go_at_call 11; (with_reducible refine (words_Code.calls (⟨#[]⟩ : ByteArray) false _ A24.out).mono ?_); rintro e w' ⟨rfl, ⟨nd, rfl⟩⟩) | (go_at_call 13; (with_reducible refine (words_Plain.calls (⟨#[]⟩ : ByteArray) t194 _ A26.out).mono ?_); rintro e w' ⟨rfl, ⟨nd, rfl⟩⟩))
                                    go_ret
                                    exact ⟨by first | rfl | (simp [errW_none, errW_some] <;> rfl) | (simp [*, errW_none, errW_some] <;> rfl), by repeat (first | (with_reducible first | exact HB.out | apply below_alloc | apply pw_below_drewN | apply below_drew1) | exact HB.out)⟩
                                · replace c23 := Bool.eq_false_iff.mpr c23
                                  subst c23
                                  have H1 : (some false) = some r := by rw [if_neg (show ¬ (false = true) by decide)] at H; exact H
                                  clear H
                                  have H := H1
                                  clear H1
                                  exact absurd ((Option.some.inj H).trans HRT.out) (by simp)
                              · rw [if_neg c21] at H
                                have c21b0 : (t187.toList == ([112, 111, 115, 116, 32, 45, 49, 46, 53, 48, 32, 34, 97, 32, 98, 34] : List UInt8)) = false := beq_eq_false_iff_ne.mpr c21
                                have c21b1 : (t187.toList != ([112, 111, 115, 116, 32, 45, 49, 46, 53, 48, 32, 34, 97, 32, 98, 34] : List UInt8)) = true := bne_iff_ne.mpr c21
                                exact absurd ((Option.some.inj H).trans HRT.out) (by simp)
                            · rw [if_neg c20] at H
                              have c20b0 : (t188 == 0) = false := beq_eq_false_iff_ne.mpr c20
                              have c20b1 : (t188 != 0) = true := bne_iff_ne.mpr c20
                              exact absurd ((Option.some.inj H).trans HRT.out) (by simp)
                          · rw [if_neg c19] at H
                            have c19b0 : (t185.toList == ([34, 97, 92, 34, 98, 34] : List UInt8)) = false := beq_eq_false_iff_ne.mpr c19
                            have c19b1 : (t185.toList != ([34, 97, 92, 34, 98, 34] : List UInt8)) = true := bne_iff_ne.mpr c19
                            exact absurd ((Option.some.inj H).trans HRT.out) (by simp)
                        · rw [if_neg c18] at H
                          have c18b0 : (t186 == 0) = false := beq_eq_false_iff_ne.mpr c18
                          have c18b1 : (t186 != 0) = true := bne_iff_ne.mpr c18
                          exact absurd ((Option.some.inj H).trans HRT.out) (by simp)
                      · rw [if_neg c17] at H
                        have c17b0 : (t182 == 5) = false := beq_eq_false_iff_ne.mpr c17
                        have c17b1 : (t182 != 5) = true := bne_iff_ne.mpr c17
                        exact absurd ((Option.some.inj H).trans HRT.out) (by simp)
                    · rw [if_neg c16] at H
                      have c16b0 : (t181 == 2) = false := beq_eq_false_iff_ne.mpr c16
                      have c16b1 : (t181 != 2) = true := bne_iff_ne.mpr c16
                      exact absurd ((Option.some.inj H).trans HRT.out) (by simp)
                  · rw [if_neg c15] at H
                    have c15b0 : (((rd_T39 t175 3).f1).toList == ([46, 46] : List UInt8)) = false := beq_eq_false_iff_ne.mpr c15
                    have c15b1 : (((rd_T39 t175 3).f1).toList != ([46, 46] : List UInt8)) = true := bne_iff_ne.mpr c15
                    exact absurd ((Option.some.inj H).trans HRT.out) (by simp)
                · rw [if_neg c14] at H
                  exact absurd H (by simp)
              · rw [if_neg c13] at H
                have c13b0 : (((rd_T39 t175 1).f1).toList == ([60, 61] : List UInt8)) = false := beq_eq_false_iff_ne.mpr c13
                have c13b1 : (((rd_T39 t175 1).f1).toList != ([60, 61] : List UInt8)) = true := bne_iff_ne.mpr c13
                exact absurd ((Option.some.inj H).trans HRT.out) (by simp)
            · rw [if_neg c12] at H
              exact absurd H (by simp)
          · rw [if_neg c11] at H
            have c11b0 : ((t175.length : Int) == 5) = false := beq_eq_false_iff_ne.mpr c11
            have c11b1 : ((t175.length : Int) != 5) = true := bne_iff_ne.mpr c11
            exact absurd ((Option.some.inj H).trans HRT.out) (by simp)
        · rw [if_neg c10] at H
          have c10b0 : (t177 == 0) = false := beq_eq_false_iff_ne.mpr c10
          have c10b1 : (t177 != 0) = true := bne_iff_ne.mpr c10
          exact absurd ((Option.some.inj H).trans HRT.out) (by simp)
      · replace c9 := Bool.eq_false_iff.mpr c9
        subst c9
        have H1 : (some false) = some r := by rw [if_neg (show ¬ (false = true) by decide)] at H; exact H
        clear H
        have H := H1
        clear H1
        exact absurd ((Option.some.inj H).trans HRT.out) (by simp)
    · rw [if_neg c7] at H
      have c7b0 : (t168 == 20) = false := beq_eq_false_iff_ne.mpr c7
      have c7b1 : (t168 != 20) = true := bne_iff_ne.mpr c7
      exact absurd ((Option.some.inj H).trans HRT.out) (by simp)
  · rw [if_neg c6] at H
    have c6b0 : (t169 == 0) = false := beq_eq_false_iff_ne.mpr c6
    have c6b1 : (t169 != 0) = true := bne_iff_ne.mpr c6
    exact absurd ((Option.some.inj H).trans HRT.out) (by simp)
theorem accountinglaw06_lives.true_at : accountinglaw06_lives.f 100 = some true := by decide +kernel
theorem accountinglaw06_lives.tells (k : Nat) (r : Bool) (h : accountinglaw06_lives.f k = some r) : r = true := by
  have up : ∀ m j, LeO (accountinglaw06_lives.f j) (accountinglaw06_lives.f (j + m)) := fun m => by
    induction m with
    | zero => exact fun j => LeO.refl _
    | succ m ih => exact fun j r h => accountinglaw06_lives.mono _ _ (ih j r h)
  have h1 := up 100 k r h
  have h2 := up k 100 true accountinglaw06_lives.true_at
  rw [Nat.add_comm] at h2
  exact Option.some.inj (h1.symm.trans h2)
theorem accountinglaw06_lives.calls (k : Nat)  (r : Bool) (w : World) (h : accountinglaw06_lives.f k  = some r) :
    Calls Try.prog 10 #[] w fun e w' => e = .returned (.bool r) ∧ Below w.heap.size w w' := accountinglaw06_lives.calls_true k r w h (accountinglaw06_lives.tells k r h)

/-! ### accountingref06_letter: function 27 -/
def accountingref06_letter.f (a0 : Int) : Option (Bool) := if a0 ≥ 97 then (if a0 ≤ 122 then (some true) else (if a0 ≥ 65 then (if a0 ≤ 90 then (some true) else (some (a0 == 95))) else (some (a0 == 95)))) else (if a0 ≥ 65 then (if a0 ≤ 90 then (some true) else (some (a0 == 95))) else (some (a0 == 95)))
set_option maxHeartbeats 8000000 in
set_option maxRecDepth 100000 in
theorem accountingref06_letter.calls (a0 : Int) (r : Bool) (w : World) (h : accountingref06_letter.f a0 = some r) :
    Calls Try.prog 27 #[.int .u8 a0] w fun e w' => e = .returned (.bool r) ∧ Drawn0 w w' := by
  have H : (if a0 ≥ 97 then (if a0 ≤ 122 then (some true) else (if a0 ≥ 65 then (if a0 ≤ 90 then (some true) else (some (a0 == 95))) else (some (a0 == 95)))) else (if a0 ≥ 65 then (if a0 ≤ 90 then (some true) else (some (a0 == 95))) else (some (a0 == 95)))) = some r := h
  clear h
  by_cases c2 : a0 ≥ 97
  · rw [if_pos c2] at H
    have c2b0 : decide (97 ≤ a0) = true := decide_eq_true c2
    clear c2
    by_cases c3 : a0 ≤ 122
    · rw [if_pos c3] at H
      have c3b0 : decide (a0 ≤ 122) = true := decide_eq_true c3
      clear c3
      obtain rfl := Option.some.inj H
      go_enter Try.func27, Try.ntmps27
      go_wp2
      go_ret
      exact ⟨by first | rfl | (simp; done) | (simp [*]; done), by repeat (first | exact Drawn0.refl _ | apply Drawn0.step)⟩
    · rw [if_neg c3] at H
      have c3b0 : decide (a0 ≤ 122) = false := decide_eq_false c3
      clear c3
      by_cases c4 : a0 ≥ 65
      · rw [if_pos c4] at H
        have c4b0 : decide (65 ≤ a0) = true := decide_eq_true c4
        clear c4
        by_cases c5 : a0 ≤ 90
        · rw [if_pos c5] at H
          have c5b0 : decide (a0 ≤ 90) = true := decide_eq_true c5
          clear c5
          obtain rfl := Option.some.inj H
          go_enter Try.func27, Try.ntmps27
          go_wp2
          go_ret
          exact ⟨by first | rfl | (simp; done) | (simp [*]; done), by repeat (first | exact Drawn0.refl _ | apply Drawn0.step)⟩
        · rw [if_neg c5] at H
          have c5b0 : decide (a0 ≤ 90) = false := decide_eq_false c5
          clear c5
          obtain rfl := Option.some.inj H
          go_enter Try.func27, Try.ntmps27
          go_wp2
          go_ret
          exact ⟨by first | rfl | (simp; done) | (simp [*]; done), by repeat (first | exact Drawn0.refl _ | apply Drawn0.step)⟩
      · rw [if_neg c4] at H
        have c4b0 : decide (65 ≤ a0) = false := decide_eq_false c4
        clear c4
        obtain rfl := Option.some.inj H
        go_enter Try.func27, Try.ntmps27
        go_wp2
        go_ret
        exact ⟨by first | rfl | (simp; done) | (simp [*]; done), by repeat (first | exact Drawn0.refl _ | apply Drawn0.step)⟩
  · rw [if_neg c2] at H
    have c2b0 : decide (97 ≤ a0) = false := decide_eq_false c2
    clear c2
    by_cases c6 : a0 ≥ 65
    · rw [if_pos c6] at H
      have c6b0 : decide (65 ≤ a0) = true := decide_eq_true c6
      clear c6
      by_cases c7 : a0 ≤ 90
      · rw [if_pos c7] at H
        have c7b0 : decide (a0 ≤ 90) = true := decide_eq_true c7
        clear c7
        obtain rfl := Option.some.inj H
        go_enter Try.func27, Try.ntmps27
        go_wp2
        go_ret
        exact ⟨by first | rfl | (simp; done) | (simp [*]; done), by repeat (first | exact Drawn0.refl _ | apply Drawn0.step)⟩
      · rw [if_neg c7] at H
        have c7b0 : decide (a0 ≤ 90) = false := decide_eq_false c7
        clear c7
        obtain rfl := Option.some.inj H
        go_enter Try.func27, Try.ntmps27
        go_wp2
        go_ret
        exact ⟨by first | rfl | (simp; done) | (simp [*]; done), by repeat (first | exact Drawn0.refl _ | apply Drawn0.step)⟩
    · rw [if_neg c6] at H
      have c6b0 : decide (65 ≤ a0) = false := decide_eq_false c6
      clear c6
      obtain rfl := Option.some.inj H
      go_enter Try.func27, Try.ntmps27
      go_wp2
      go_ret
      exact ⟨by first | rfl | (simp; done) | (simp [*]; done), by repeat (first | exact Drawn0.refl _ | apply Drawn0.step)⟩

/-! ### accountingref06_digit: function 28 -/
def accountingref06_digit.f (a0 : Int) : Option (Bool) := if a0 ≥ 48 then (some (decide (a0 ≤ 57))) else (some false)
set_option maxHeartbeats 8000000 in
set_option maxRecDepth 100000 in
theorem accountingref06_digit.calls (a0 : Int) (r : Bool) (w : World) (h : accountingref06_digit.f a0 = some r) :
    Calls Try.prog 28 #[.int .u8 a0] w fun e w' => e = .returned (.bool r) ∧ Drawn0 w w' := by
  have H : (if a0 ≥ 48 then (some (decide (a0 ≤ 57))) else (some false)) = some r := h
  clear h
  by_cases c2 : a0 ≥ 48
  · rw [if_pos c2] at H
    have c2b0 : decide (48 ≤ a0) = true := decide_eq_true c2
    clear c2
    obtain rfl := Option.some.inj H
    go_enter Try.func28, Try.ntmps28
    go_wp2
    go_ret
    exact ⟨by first | rfl | (simp; done) | (simp [*]; done), by repeat (first | exact Drawn0.refl _ | apply Drawn0.step)⟩
  · rw [if_neg c2] at H
    have c2b0 : decide (48 ≤ a0) = false := decide_eq_false c2
    clear c2
    obtain rfl := Option.some.inj H
    go_enter Try.func28, Try.ntmps28
    go_wp2
    go_ret
    exact ⟨by first | rfl | (simp; done) | (simp [*]; done), by repeat (first | exact Drawn0.refl _ | apply Drawn0.step)⟩

end Go.Proofs.Ytlcjajcjoflpkaa.P
