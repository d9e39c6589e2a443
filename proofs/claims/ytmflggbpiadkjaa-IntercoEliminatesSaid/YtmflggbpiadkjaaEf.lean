/- Texts of mine and of the print, joined: Px63, Px64, SayIntercoEliminates, SpecI, SpecQ, SpecEl, SpecIr, SpecQr, SpecS, SpecO, SpecK, SpecEr, SpecSm, SpecLi, PureIntercoEliminates. -/
import Derived.Test.YtmflggbpiadkjaaEa
import Derived.Test.YtmflggbpiadkjaaEe
import Derived.Test.YtmflggbpiadkjaaEc
import Derived.Test.YtmflggbpiadkjaaEd
import Derived.Test.YtmflggbpiadkjaaEb
import Derived.KernelRfl
namespace Go.Proofs.Ytmflggbpiadkjaa.P
open Go.RowKit Go.Proofs.YtmflggbpiadkjaaW.PrintWords Go.Proofs.YtmflggbpiadkjaaW.PrintLast Go.Proofs.YtmflggbpiadkjaaW.PrintMore
attribute [local go_sem] max2_int min2_int max_two min_two max_three min_three max_four min_four
set_option linter.unusedVariables false
set_option linter.unusedSimpArgs false
mutual
def accountingref44_Eliminate.l0 : Nat → ByteArray → ByteArray → List (S89) → List (S34) → List (S34) → Int → Option ((List (S34)) × Int)
 | 0, _, _, _, _, _, _ => none
 | k + 1, x1, x2, x10, x12, x14, x15 => if x15 < (x12.length : Int) then (if 0 ≤ x15 then (if x14.length < 1466015503701 then (accountingref44_Eliminate.l0 k x1 x2 x10 x12 (x14 ++ [(⟨(⟨(rd_T34 x12 x15).f0.f0, (rd_T34 x12 x15).f0.f1, (rd_T34 x12 x15).f0.f2, (rd_T34 x12 x15).f0.f3, (rd_T34 x12 x15).f0.f4⟩ : S32), wrap64 (-((rd_T34 x12 x15).f1)), wrap64 (-((rd_T34 x12 x15).f2))⟩ : S34)]) (wrap64 (x15 + 1))) else (none)) else (none)) else (accountingref44_Eliminate.l1 k x1 x2 x10 x14 0)
def accountingref44_Eliminate.l1 : Nat → ByteArray → ByteArray → List (S89) → List (S34) → Int → Option ((List (S34)) × Int)
 | 0, _, _, _, _, _ => none
 | k + 1, x1, x2, x10, x14, x16 => if x16 < (x10.length : Int) then (if 0 ≤ x16 then (if x14.length < 1466015503701 then (accountingref44_Eliminate.l1 k x1 x2 x10 (x14 ++ [(⟨(⟨(rd_T89 x10 x16).f0, x2, x1, (⟨#[]⟩ : ByteArray), (⟨#[]⟩ : ByteArray)⟩ : S32), (rd_T89 x10 x16).f2, (rd_T89 x10 x16).f2⟩ : S34)]) (wrap64 (x16 + 1))) else (none)) else (none)) else ((accountingref19_Of.f k x14).bind fun bt831 => (some (bt831.1, bt831.2)))
end
def accountingref44_Eliminate.f (k : Nat) (l0 : List (S34)) (a1 : ByteArray) (a2 : ByteArray) (l3 : List ByteArray) : Option ((List (S34)) × Int) := (accountingref19_Right.f l0).bind fun t806 => (if t806 = true then ((accountingref07_Code.f k a1).bind fun t807 => (if t807 = true then ((accountingref06_Code.f k a2).bind fun t808 => (if t808 = true then ((accountingref44_Pairs.f k l0 l3).bind fun bt809 => (if bt809.2 = 0 then ((accountingref44_Inside.f k l0 l3).bind fun bt813 => (accountingref44_Eliminate.l0 k a1 a2 bt809.1 bt813.1 ([] : List (S34)) 0)) else (some (([] : List (S34)), bt809.2)))) else (some (([] : List (S34)), 7)))) else (some (([] : List (S34)), 13)))) else (some (([] : List (S34)), 2)))
theorem accountingref44_Eliminate.mono_l : ∀ k, (∀ y0 y1 y2 y3 y4 y5, LeO (accountingref44_Eliminate.l0 k y0 y1 y2 y3 y4 y5) (accountingref44_Eliminate.l0 (k + 1) y0 y1 y2 y3 y4 y5)) ∧ (∀ y0 y1 y2 y3 y4, LeO (accountingref44_Eliminate.l1 k y0 y1 y2 y3 y4) (accountingref44_Eliminate.l1 (k + 1) y0 y1 y2 y3 y4))
 | 0 => ⟨fun _ _ _ _ _ _ r h => by simp [accountingref44_Eliminate.l0] at h, fun _ _ _ _ _ r h => by simp [accountingref44_Eliminate.l1] at h⟩
 | k + 1 => by
  obtain ⟨ih0, ih1⟩ := accountingref44_Eliminate.mono_l k
  refine ⟨?_, ?_⟩
  ·intro y0 y1 y2 y3 y4 y5
   unfold accountingref44_Eliminate.l0
   repeat' first
   | (with_reducible exact ih0 _ _ _ _ _ _)
   | (with_reducible exact ih1 _ _ _ _ _)
   | (with_reducible exact accountingref06_Code.mono _ _)
   | (with_reducible exact accountingref07_Code.mono _ _)
   | (with_reducible exact accountingref19_Of.mono _ _)
   | (with_reducible exact accountingref44_Inside.mono _ _ _)
   | (with_reducible exact accountingref44_Pairs.mono _ _ _)
   | (with_reducible exact LeO.refl _)
   | (with_reducible exact LeO.none _)
   | (with_reducible refine LeO.ite ?_ ?_)
   | (with_reducible refine LeO.bind ?_ (fun _ => ?_))
   | exact ih0 _ _ _ _ _ _
   | exact ih1 _ _ _ _ _
   | exact accountingref06_Code.mono _ _
   | exact accountingref07_Code.mono _ _
   | exact accountingref19_Of.mono _ _
   | exact accountingref44_Inside.mono _ _ _
   | exact accountingref44_Pairs.mono _ _ _
   | exact LeO.none _
   | refine LeO.ite ?_ ?_
   | refine LeO.bind ?_ (fun _ => ?_)
  ·intro y0 y1 y2 y3 y4
   unfold accountingref44_Eliminate.l1
   repeat' first
   | (with_reducible exact ih0 _ _ _ _ _ _)
   | (with_reducible exact ih1 _ _ _ _ _)
   | (with_reducible exact accountingref06_Code.mono _ _)
   | (with_reducible exact accountingref07_Code.mono _ _)
   | (with_reducible exact accountingref19_Of.mono _ _)
   | (with_reducible exact accountingref44_Inside.mono _ _ _)
   | (with_reducible exact accountingref44_Pairs.mono _ _ _)
   | (with_reducible exact LeO.refl _)
   | (with_reducible exact LeO.none _)
   | (with_reducible refine LeO.ite ?_ ?_)
   | (with_reducible refine LeO.bind ?_ (fun _ => ?_))
   | exact ih0 _ _ _ _ _ _
   | exact ih1 _ _ _ _ _
   | exact accountingref06_Code.mono _ _
   | exact accountingref07_Code.mono _ _
   | exact accountingref19_Of.mono _ _
   | exact accountingref44_Inside.mono _ _ _
   | exact accountingref44_Pairs.mono _ _ _
   | exact LeO.none _
   | refine LeO.ite ?_ ?_
   | refine LeO.bind ?_ (fun _ => ?_)
theorem accountingref44_Eliminate.mono : ∀ a0 a1 a2 a3 k, LeO (accountingref44_Eliminate.f k a0 a1 a2 a3) (accountingref44_Eliminate.f (k + 1) a0 a1 a2 a3) := by
 intro a0 a1 a2 a3 k
 obtain ⟨ih0, ih1⟩ := accountingref44_Eliminate.mono_l k
 unfold accountingref44_Eliminate.f
 repeat' first
   | (with_reducible exact ih0 _ _ _ _ _ _)
   | (with_reducible exact ih1 _ _ _ _ _)
   | (with_reducible exact accountingref06_Code.mono _ _)
   | (with_reducible exact accountingref07_Code.mono _ _)
   | (with_reducible exact accountingref19_Of.mono _ _)
   | (with_reducible exact accountingref44_Inside.mono _ _ _)
   | (with_reducible exact accountingref44_Pairs.mono _ _ _)
   | (with_reducible exact LeO.refl _)
   | (with_reducible exact LeO.none _)
   | (with_reducible refine LeO.ite ?_ ?_)
   | (with_reducible refine LeO.bind ?_ (fun _ => ?_))
   | exact ih0 _ _ _ _ _ _
   | exact ih1 _ _ _ _ _
   | exact accountingref06_Code.mono _ _
   | exact accountingref07_Code.mono _ _
   | exact accountingref19_Of.mono _ _
   | exact accountingref44_Inside.mono _ _ _
   | exact accountingref44_Pairs.mono _ _ _
   | exact LeO.none _
   | refine LeO.ite ?_ ?_
   | refine LeO.bind ?_ (fun _ => ?_)
def accountingref44_Eliminate.T15 : Bool × List (List Nat × List Nat) := (true, [([], []), ([], []), ([], []), ([1, 2], [1, 2]), ([3], [3]), ([4], [4]), ([], []), ([], []), ([6, 7], [6, 7]), ([8], [8]), ([9], [9]), ([10], [10]), ([], []), ([], []), ([12, 13], [12, 13]), ([14], [14]), ([15], [15]), ([16], [16]), ([5, 11, 17], [5, 11, 17]), ([18], [18]), ([0, 19], [0, 19]), ([20, 20, 0, 1, 2, 3, 4, 5, 6, 7, 8, 9, 10, 11, 12, 13, 14, 15, 16, 17, 18, 19, 20], [0, 20])])
def accountingref44_Eliminate.B15 : List Nat := [0, 0, 0, 6, 14, 30, 0, 0, 192, 448, 960, 1984, 0, 0, 12288, 28672, 61440, 126976, 262142, 524286, 1048575, 2097151]
theorem accountingref44_Eliminate.tab15 : rtab .any (opsOf Try.f51 15) = accountingref44_Eliminate.T15 := by kernel_rfl
theorem accountingref44_Eliminate.bits15 : waitsOk accountingref44_Eliminate.T15.2 accountingref44_Eliminate.B15 = true := by kernel_rfl
def accountingref44_Eliminate.T19 : Bool × List (List Nat × List Nat) := (true, [([], []), ([], []), ([], []), ([1, 2], [1, 2]), ([3], [3]), ([4], [4]), ([], []), ([], []), ([5, 6, 7], [5, 6, 7]), ([], []), ([], []), ([9, 10], [9, 10]), ([11], [11]), ([12], [12]), ([], []), ([], []), ([14, 15], [14, 15]), ([16], [16]), ([17], [17]), ([8, 13, 18], [8, 13, 18]), ([19], [19]), ([0, 20], [0, 20]), ([21, 21, 0, 1, 2, 3, 4, 5, 6, 7, 8, 9, 10, 11, 12, 13, 14, 15, 16, 17, 18, 19, 20, 21], [0, 21])])
def accountingref44_Eliminate.B19 : List Nat := [0, 0, 0, 6, 14, 30, 0, 0, 254, 0, 0, 1536, 3584, 7680, 0, 0, 49152, 114688, 245760, 524286, 1048574, 2097151, 4194303]
theorem accountingref44_Eliminate.tab19 : rtab .any (opsOf Try.f51 19) = accountingref44_Eliminate.T19 := by kernel_rfl
theorem accountingref44_Eliminate.bits19 : waitsOk accountingref44_Eliminate.T19.2 accountingref44_Eliminate.B19 = true := by kernel_rfl
set_option maxHeartbeats 8000000 in
set_option maxRecDepth 100000 in
theorem accountingref44_Eliminate.calls (k : Nat) (A0 : Option Addr) (c0 : Nat) (l0 : List (S34)) (a1 : ByteArray) (a2 : ByteArray) (A3 : Option Addr) (c3 : Nat) (l3 : List ByteArray) (r1 : List (S34)) (r2 : Int) (w : World) (hr0 : Kd.C k34 w A0 l0.length l0) (hc0 : l0.length ≤ c0) (hr3 : Kd.C Kd.string w A3 l3.length l3) (hc3 : l3.length ≤ c3) (h : accountingref44_Eliminate.f k l0 a1 a2 l3 = some (r1, r2)) :
  Calls Try.prog 51 #[.slice A0 l0.length c0, .string a1, .string a2, .slice A3 l3.length c3] w fun e w' => ∃ v0_ : Value, e = .returned (.tuple #[v0_, .int .i64 r2]) ∧ Kd.R k34 34 w' w.heap.size (fun _ => True) v0_ r1 ∧ Below w.heap.size w w' := by
 have hu32 := Try.underlying32
 have hu34 := Try.underlying34
 have HR0 := Aside0.mk hr0
 have HC0 := Aside0.mk hc0
 clear hr0 hc0
 have HR3 := Aside0.mk hr3
 have HC3 := Aside0.mk hc3
 clear hr3 hc3
 have HB := Aside0.mk (Below.refl w.heap.size w)
 have H : ((accountingref19_Right.f l0).bind fun t806 => (if t806 = true then ((accountingref07_Code.f k a1).bind fun t807 => (if t807 = true then ((accountingref06_Code.f k a2).bind fun t808 => (if t808 = true then ((accountingref44_Pairs.f k l0 l3).bind fun bt809 => (if bt809.2 = 0 then ((accountingref44_Inside.f k l0 l3).bind fun bt813 => (accountingref44_Eliminate.l0 k a1 a2 bt809.1 bt813.1 ([] : List (S34)) 0)) else (some (([] : List (S34)), bt809.2)))) else (some (([] : List (S34)), 7)))) else (some (([] : List (S34)), 13)))) else (some (([] : List (S34)), 2)))) = some (r1, r2) := h
 clear h
 replace H := Option.bind_eq_some_iff.mp H
 obtain ⟨t806, A50, H⟩ := H
 try dsimp only at H
 have A5 := Aside0.mk A50
 clear A50
 by_cases c6 : t806 = true
 ·subst c6
  have H1 : ((accountingref07_Code.f k a1).bind fun t807 => (if t807 = true then ((accountingref06_Code.f k a2).bind fun t808 => (if t808 = true then ((accountingref44_Pairs.f k l0 l3).bind fun bt809 => (if bt809.2 = 0 then ((accountingref44_Inside.f k l0 l3).bind fun bt813 => (accountingref44_Eliminate.l0 k a1 a2 bt809.1 bt813.1 ([] : List (S34)) 0)) else (some (([] : List (S34)), bt809.2)))) else (some (([] : List (S34)), 7)))) else (some (([] : List (S34)), 13)))) = some (r1, r2) := by rw [if_pos rfl] at H; exact H
  clear H
  have H := H1
  clear H1
  replace H := Option.bind_eq_some_iff.mp H
  obtain ⟨t807, A70, H⟩ := H
  try dsimp only at H
  have A7 := Aside0.mk A70
  clear A70
  by_cases c8 : t807 = true
  ·subst c8
   have H1 : ((accountingref06_Code.f k a2).bind fun t808 => (if t808 = true then ((accountingref44_Pairs.f k l0 l3).bind fun bt809 => (if bt809.2 = 0 then ((accountingref44_Inside.f k l0 l3).bind fun bt813 => (accountingref44_Eliminate.l0 k a1 a2 bt809.1 bt813.1 ([] : List (S34)) 0)) else (some (([] : List (S34)), bt809.2)))) else (some (([] : List (S34)), 7)))) = some (r1, r2) := by rw [if_pos rfl] at H; exact H
   clear H
   have H := H1
   clear H1
   replace H := Option.bind_eq_some_iff.mp H
   obtain ⟨t808, A90, H⟩ := H
   try dsimp only at H
   have A9 := Aside0.mk A90
   clear A90
   by_cases c10 : t808 = true
   ·subst c10
    have H1 : ((accountingref44_Pairs.f k l0 l3).bind fun bt809 => (if bt809.2 = 0 then ((accountingref44_Inside.f k l0 l3).bind fun bt813 => (accountingref44_Eliminate.l0 k a1 a2 bt809.1 bt813.1 ([] : List (S34)) 0)) else (some (([] : List (S34)), bt809.2)))) = some (r1, r2) := by rw [if_pos rfl] at H; exact H
    clear H
    have H := H1
    clear H1
    replace H := Option.bind_eq_some_iff.mp H
    obtain ⟨⟨t809, t810⟩, A110, H⟩ := H
    try dsimp only at H
    have A11 := Aside0.mk A110
    clear A110
    by_cases c12 : t810 = 0
    ·rw [if_pos c12] at H
     have c12b0 : (t810 == 0) = true := beq_iff_eq.mpr c12
     have c12b1 : (t810 != 0) = false := bne_eq_false_iff_eq.mpr c12
     clear c12
     replace H := Option.bind_eq_some_iff.mp H
     obtain ⟨⟨t813, t814⟩, A130, H⟩ := H
     replace H : (accountingref44_Eliminate.l0 k a1 a2 t809 t813 ([] : List (S34)) 0) = some (r1, r2) := H
     have A13 := Aside0.mk A130
     clear A130
     have H' := Aside0.mk H
     clear H
     go_enter Try.func51, Try.ntmps51
     go_wp2_with (first | ((with_reducible refine gate_callee (f := 23) rfl ?_); refine goesL_ (some 18) rfl rfl Try.func23 (by kernel_rfl) rfl #[.slice A0 l0.length c0] rfl (by (try simp only [List.map_toArray, List.map_cons, List.map_nil]); first | done | rfl | (simp only [List.length_drop, List.length_take]; rfl)) ?_; (with_reducible refine (accountingref19_Right.calls _ _ l0 true _ ?side1 ?side2 A5.out).mono ?_); (case side1 => repeat (first | exact HR0.out | (with_reducible refine Kd.C_alloc ?_ _) | (with_reducible refine Kd.C_drewN ?_ _) | (with_reducible refine Kd.C_drew ?_))); (case side2 => exact HC0.out); rintro e w14 ⟨rfl, hb⟩; refine ⟨_, rfl, ?_⟩; have n0_ := Aside0.mk (below_step (by repeat (first | (with_reducible first | exact HB.out | apply below_alloc | apply pw_below_drewN | apply below_drew1) | exact HB.out)) hb); clear HB; have HB := n0_; clear n0_; (try clear hb); (try clear hb2); (try clear hk); (try clear hi)) | ((with_reducible refine gate_callee (f := 79) rfl ?_); refine goesL_ (some 21) rfl rfl Try.func79 (by kernel_rfl) rfl #[.string a1] rfl (by (try simp only [List.map_toArray, List.map_cons, List.map_nil]); first | done | rfl | (simp only [List.length_drop, List.length_take]; rfl)) ?_; (with_reducible refine (accountingref07_Code.calls k a1 true _ A7.out).mono ?_); rintro e w' ⟨rfl, ⟨nd, rfl⟩⟩; refine ⟨_, rfl, ?_⟩) | ((with_reducible refine gate_callee (f := 80) rfl ?_); refine goesL_ (some 24) rfl rfl Try.func80 (by kernel_rfl) rfl #[.string a2] rfl (by (try simp only [List.map_toArray, List.map_cons, List.map_nil]); first | done | rfl | (simp only [List.length_drop, List.length_take]; rfl)) ?_; (with_reducible refine (accountingref06_Code.calls k a2 true _ A9.out).mono ?_); rintro e w' ⟨rfl, ⟨nd, rfl⟩⟩; refine ⟨_, rfl, ?_⟩) | ((with_reducible refine gate_callee (f := 48) rfl ?_); refine goesL_ (some 29) rfl rfl Try.func48 (by kernel_rfl) rfl #[.slice A0 l0.length c0, .slice A3 l3.length c3] rfl (by (try simp only [List.map_toArray, List.map_cons, List.map_nil]); first | done | rfl | (simp only [List.length_drop, List.length_take]; rfl)) ?_; (with_reducible refine (accountingref44_Pairs.calls k _ _ l0 _ _ l3 t809 t810 _ ?side1 ?side2 ?side3 ?side4 A11.out).mono ?_); (case side1 => repeat (first | exact (Kd.C_below HR0.out (by repeat (first | (with_reducible first | exact HB.out | apply below_alloc | apply pw_below_drewN | apply below_drew1) | exact HB.out))) | (with_reducible refine Kd.C_alloc ?_ _) | (with_reducible refine Kd.C_drewN ?_ _) | (with_reducible refine Kd.C_drew ?_))); (case side2 => exact HC0.out); (case side3 => repeat (first | exact (Kd.C_below HR3.out (by repeat (first | (with_reducible first | exact HB.out | apply below_alloc | apply pw_below_drewN | apply below_drew1) | exact HB.out))) | (with_reducible refine Kd.C_alloc ?_ _) | (with_reducible refine Kd.C_drewN ?_ _) | (with_reducible refine Kd.C_drew ?_))); (case side4 => exact HC3.out); rintro e w15 ⟨v811, rfl, ho0, hb⟩; refine ⟨_, rfl, ?_⟩; have n0_ := Aside0.mk (Kd.R_lower ho0 (below_size (by repeat (first | (with_reducible first | exact HB.out | apply below_alloc | apply pw_below_drewN | apply below_drew1) | exact HB.out)))); have n1_ := Aside0.mk (below_step (by repeat (first | (with_reducible first | exact HB.out | apply below_alloc | apply pw_below_drewN | apply below_drew1) | exact HB.out)) hb); clear HB; have HO812 := n0_; have HB := n1_; clear n0_ n1_; (try clear hb); (try clear hb2); (try clear hk); (try clear hi); (try clear ho0)) | ((with_reducible refine gate_callee (f := 45) rfl ?_); refine goesL_ (some 38) rfl rfl Try.func45 (by kernel_rfl) rfl #[.slice A0 l0.length c0, .slice A3 l3.length c3] rfl (by (try simp only [List.map_toArray, List.map_cons, List.map_nil]); first | done | rfl | (simp only [List.length_drop, List.length_take]; rfl)) ?_; (with_reducible refine (accountingref44_Inside.calls k _ _ l0 _ _ l3 t813 t814 _ ?side1 ?side2 ?side3 ?side4 A13.out).mono ?_); (case side1 => repeat (first | exact (Kd.C_below HR0.out HB.out) | exact (Kd.C_drewN (Kd.C_below HR0.out HB.out) _) | (with_reducible refine Kd.C_alloc ?_ _) | (with_reducible refine Kd.C_drewN ?_ _) | (with_reducible refine Kd.C_drew ?_))); (case side2 => exact HC0.out); (case side3 => repeat (first | exact (Kd.C_below HR3.out HB.out) | exact (Kd.C_drewN (Kd.C_below HR3.out HB.out) _) | (with_reducible refine Kd.C_alloc ?_ _) | (with_reducible refine Kd.C_drewN ?_ _) | (with_reducible refine Kd.C_drew ?_))); (case side4 => exact HC3.out); rintro e w16 ⟨v815, v817, rfl, ho0, ho1, hb⟩; refine ⟨_, rfl, ?_⟩; have n0_ := Aside0.mk (Kd.R_below (by (with_reducible repeat (first | apply Kd.R_alloc | apply Kd.R_drewN | apply Kd.R_drew)); exact HO812.out) hb); have n1_ := Aside0.mk (Kd.R_lower ho0 (below_size (by repeat (first | (with_reducible first | exact HB.out | apply below_alloc | apply pw_below_drewN | apply below_drew1) | exact HB.out)))); have n2_ := Aside0.mk (Kd.R_lower ho1 (below_size (by repeat (first | (with_reducible first | exact HB.out | apply below_alloc | apply pw_below_drewN | apply below_drew1) | exact HB.out)))); have n3_ := Aside0.mk (below_step (by repeat (first | (with_reducible first | exact HB.out | apply below_alloc | apply pw_below_drewN | apply below_drew1) | exact HB.out)) hb); clear HO812; clear HB; have HO812 := n0_; have HO816 := n1_; have HO818 := n2_; have HB := n3_; clear n0_ n1_ n2_ n3_; (try clear hb); (try clear hb2); (try clear hk); (try clear hi); (try clear ho0); (try clear ho1)))
     go_loopg [14, 15] k (fun kq v14 v15 w' => ∃ (x14_1 : List (S34)) (x15_1 : Int), v15 = .int .i64 x15_1 ∧ Aside0 (accountingref44_Eliminate.l0 kq a1 a2 t809 t813 x14_1 x15_1 = some (r1, r2)) ∧ Aside0 (kq ≤ k) ∧ Aside0 (Kd.R k89 89 w' w.heap.size (fun _ => True) v811 t809) ∧ Aside0 (Kd.R k34 34 w' w.heap.size (fun k_ => some k_ ≠ (v14 : Value).ownBlock) v815 t813) ∧ Aside0 (Kd.R k34 34 w' w.heap.size (fun k_ => some k_ ≠ (v815 : Value).ownBlock) v14 x14_1) ∧ Aside0 (Below w.heap.size w w'))
     case atStart => exact ⟨(([] : List (S34))), (0), (by first | rfl | (simp; done) | (simp [*]; done)), H', ⟨Nat.le_refl _⟩, ⟨by (with_reducible repeat (first | apply Kd.R_alloc | apply Kd.R_drewN | apply Kd.R_drew)); exact HO812.out⟩, ⟨by (with_reducible repeat (first | apply Kd.R_alloc | apply Kd.R_drewN | apply Kd.R_drew)); exact Kd.R_mono HO816.out (fun _ hk => (by simp [Value.ownBlock]))⟩, ⟨by first | exact Kd.R_nil _ _ _ _ _ | exact Kd.N_nil _ _ _ _ _ | exact Kd.V_nil _ _ _ _ _ | exact Kd.Q_nil _ _ _ _ _ | exact Kd.S_nil _ _ _ _ _⟩, ⟨by repeat (first | (with_reducible first | exact HB.out | apply below_alloc | apply pw_below_drewN | apply below_drew1) | exact HB.out)⟩⟩
     case round =>
      clear H'
      try clear c1
      try clear c2
      try clear p2
      try clear c3
      try clear c4
      try clear c5
      try clear c6
      try clear c7
      try clear c8
      try clear c10
      try clear c12
      try clear c12b0
      try clear c12b1
      obtain ⟨x14_1, x15_1, rfl, HA, HK1, HO_10, HO_12, HO_14, HB⟩ := hrel
      cases gk with
      | zero => exact absurd HA.out (by simp [accountingref44_Eliminate.l0])
      | succ k1 =>
       have H := HA.out
       clear HA
       simp only [accountingref44_Eliminate.l0] at H
       by_cases c17 : x15_1 < (t813.length : Int)
       ·rw [if_pos c17] at H
        have c17b0 : decide (x15_1 < (t813.length : Int)) = true := decide_eq_true c17
        clear c17
        by_cases c18 : 0 ≤ x15_1
        ·rw [if_pos c18] at H
         have c18b0 : decide (0 ≤ x15_1) = true := decide_eq_true c18
         clear c18
         by_cases c19 : x14_1.length < 1466015503701
         ·rw [if_pos c19] at H
          have LMc19 := Aside0.mk c19
          clear c19
          obtain ⟨y822, hy822⟩ : ∃ y_ : List (S34), y_ = (x14_1 ++ [(⟨(⟨(rd_T34 t813 x15_1).f0.f0, (rd_T34 t813 x15_1).f0.f1, (rd_T34 t813 x15_1).f0.f2, (rd_T34 t813 x15_1).f0.f3, (rd_T34 t813 x15_1).f0.f4⟩ : S32), wrap64 (-((rd_T34 t813 x15_1).f1)), wrap64 (-((rd_T34 t813 x15_1).f2))⟩ : S34)]) := ⟨_, rfl⟩
          replace H : (accountingref44_Eliminate.l0 k1 a1 a2 t809 t813 y822 (wrap64 (x15_1 + 1))) = some (r1, r2) := by first | (rw [hy822]; with_reducible exact H) | (have H2_ := (Option.bind_some _ _).symm.trans H; rw [hy822]; with_reducible exact H2_) | (have H2_ := (Option.bind_some _ _).symm.trans H; with_reducible exact H2_) | with_reducible exact H | (rw [hy822]; exact H) | exact H
          have Ny822 := Aside0.mk hy822
          clear hy822
          have H' := Aside0.mk H
          clear H
          obtain ⟨Ao20, co20, eo20⟩ := Kd.R_slice HO_12.out
          subst eo20
          try go_wp2
          have n0_ := Aside0.mk (Kd.R_drew HO_10.out)
          have n1_ := Aside0.mk (Kd.R_drew HO_12.out)
          have n2_ := Aside0.mk (Kd.R_drew HO_14.out)
          have n3_ := Aside0.mk (below_drew1 HB.out)
          clear HO_10
          clear HO_12
          clear HO_14
          clear HB
          have HO_10 := n0_
          have HO_12 := n1_
          have HO_14 := n2_
          have HB := n3_
          clear n0_ n1_ n2_ n3_
          have p819 : 0 ≤ (x15_1 : Int) := odt_
          have q819 : x15_1 < (t813.length : Int) := odt_
          obtain ⟨ad819, e819, hx819_0, hx819_1, hx819_2, hx819_3, hx819_4, hx819_5, hx819_6⟩ := at_T34 (Kd.R_reads' HO_12.out).2.2 x15_1 p819 q819
          cases e819
          replace p819 := eq_true p819
          replace q819 := eq_true q819
          have p820 : 0 ≤ (x15_1 : Int) := odt_
          have q820 : x15_1 < (t813.length : Int) := odt_
          obtain ⟨ad820, e820, hx820_0, hx820_1, hx820_2, hx820_3, hx820_4, hx820_5, hx820_6⟩ := at_T34 (Kd.R_reads' HO_12.out).2.2 x15_1 p820 q820
          obtain rfl : ad819 = ad820 := (by injection e820)
          replace p820 := eq_true p820
          replace q820 := eq_true q820
          have p821 : 0 ≤ (x15_1 : Int) := odt_
          have q821 : x15_1 < (t813.length : Int) := odt_
          obtain ⟨ad821, e821, hx821_0, hx821_1, hx821_2, hx821_3, hx821_4, hx821_5, hx821_6⟩ := at_T34 (Kd.R_reads' HO_12.out).2.2 x15_1 p821 q821
          obtain rfl : ad819 = ad821 := (by injection e821)
          replace p821 := eq_true p821
          replace q821 := eq_true q821
          refine start_ (n := 22) (S := fun w' => w'.cell? (ad819.add ((x15_1).toNat * 7)) = some (.string ((rd_T34 t813 x15_1).f0.f0)) ∧ w'.cell? ⟨(ad819.add ((x15_1).toNat * 7)).block, (ad819.add ((x15_1).toNat * 7)).off + 1, none⟩ = some (.string ((rd_T34 t813 x15_1).f0.f1)) ∧ w'.cell? ⟨(ad819.add ((x15_1).toNat * 7)).block, (ad819.add ((x15_1).toNat * 7)).off + 2, none⟩ = some (.string ((rd_T34 t813 x15_1).f0.f2)) ∧ w'.cell? ⟨(ad819.add ((x15_1).toNat * 7)).block, (ad819.add ((x15_1).toNat * 7)).off + 3, none⟩ = some (.string ((rd_T34 t813 x15_1).f0.f3)) ∧ w'.cell? ⟨(ad819.add ((x15_1).toNat * 7)).block, (ad819.add ((x15_1).toNat * 7)).off + 4, none⟩ = some (.string ((rd_T34 t813 x15_1).f0.f4)) ∧ w'.cell? ⟨(ad819.add ((x15_1).toNat * 7)).block, (ad819.add ((x15_1).toNat * 7)).off + 5, none⟩ = some (.int .i64 ((rd_T34 t813 x15_1).f1)) ∧ w'.cell? ⟨(ad819.add ((x15_1).toNat * 7)).block, (ad819.add ((x15_1).toNat * 7)).off + 6, none⟩ = some (.int .i64 ((rd_T34 t813 x15_1).f2)) ∧ w'.cell? (ad819.add ((x15_1).toNat * 7)) = some (.string ((rd_T34 t813 x15_1).f0.f0)) ∧ w'.cell? ⟨(ad819.add ((x15_1).toNat * 7)).block, (ad819.add ((x15_1).toNat * 7)).off + 1, none⟩ = some (.string ((rd_T34 t813 x15_1).f0.f1)) ∧ w'.cell? ⟨(ad819.add ((x15_1).toNat * 7)).block, (ad819.add ((x15_1).toNat * 7)).off + 2, none⟩ = some (.string ((rd_T34 t813 x15_1).f0.f2)) ∧ w'.cell? ⟨(ad819.add ((x15_1).toNat * 7)).block, (ad819.add ((x15_1).toNat * 7)).off + 3, none⟩ = some (.string ((rd_T34 t813 x15_1).f0.f3)) ∧ w'.cell? ⟨(ad819.add ((x15_1).toNat * 7)).block, (ad819.add ((x15_1).toNat * 7)).off + 4, none⟩ = some (.string ((rd_T34 t813 x15_1).f0.f4)) ∧ w'.cell? ⟨(ad819.add ((x15_1).toNat * 7)).block, (ad819.add ((x15_1).toNat * 7)).off + 5, none⟩ = some (.int .i64 ((rd_T34 t813 x15_1).f1)) ∧ w'.cell? ⟨(ad819.add ((x15_1).toNat * 7)).block, (ad819.add ((x15_1).toNat * 7)).off + 6, none⟩ = some (.int .i64 ((rd_T34 t813 x15_1).f2)) ∧ w'.cell? (ad819.add ((x15_1).toNat * 7)) = some (.string ((rd_T34 t813 x15_1).f0.f0)) ∧ w'.cell? ⟨(ad819.add ((x15_1).toNat * 7)).block, (ad819.add ((x15_1).toNat * 7)).off + 1, none⟩ = some (.string ((rd_T34 t813 x15_1).f0.f1)) ∧ w'.cell? ⟨(ad819.add ((x15_1).toNat * 7)).block, (ad819.add ((x15_1).toNat * 7)).off + 2, none⟩ = some (.string ((rd_T34 t813 x15_1).f0.f2)) ∧ w'.cell? ⟨(ad819.add ((x15_1).toNat * 7)).block, (ad819.add ((x15_1).toNat * 7)).off + 3, none⟩ = some (.string ((rd_T34 t813 x15_1).f0.f3)) ∧ w'.cell? ⟨(ad819.add ((x15_1).toNat * 7)).block, (ad819.add ((x15_1).toNat * 7)).off + 4, none⟩ = some (.string ((rd_T34 t813 x15_1).f0.f4)) ∧ w'.cell? ⟨(ad819.add ((x15_1).toNat * 7)).block, (ad819.add ((x15_1).toNat * 7)).off + 5, none⟩ = some (.int .i64 ((rd_T34 t813 x15_1).f1)) ∧ w'.cell? ⟨(ad819.add ((x15_1).toNat * 7)).block, (ad819.add ((x15_1).toNat * 7)).off + 6, none⟩ = some (.int .i64 ((rd_T34 t813 x15_1).f2))) (ds := [19, 20]) #[false, false, false, false, false, false, false, false, false, false, false, false, false, false, false, false, false, false, false, false, false, false] (by kernel_rfl) rfl rfl ⟨hx819_0, hx819_1, hx819_2, hx819_3, hx819_4, hx819_5, hx819_6, hx820_0, hx820_1, hx820_2, hx820_3, hx820_4, hx820_5, hx820_6, hx821_0, hx821_1, hx821_2, hx821_3, hx821_4, hx821_5, hx821_6⟩ (fun hHeld => ?_); refine with_tabW accountingref44_Eliminate.tab15 accountingref44_Eliminate.bits15 (fun HT_ HW_ => ?_)
          generalize wr.drew = w21 at HO_10 HO_12 HO_14 HB hx819_0 hx819_1 hx819_2 hx819_3 hx819_4 hx819_5 hx819_6 hx820_0 hx820_1 hx820_2 hx820_3 hx820_4 hx820_5 hx820_6 hx821_0 hx821_1 hx821_2 hx821_3 hx821_4 hx821_5 hx821_6 hHeld ⊢
          refine pu_ 0 (some 47) (btz 22 1) HT_ ?_
          refine pu_ 1 (some 48) (btz 22 3) HT_ ?_
          refine pu_ 2 (some 49) (btz 22 7) HT_ ?_
          refine pu_ 3 (some 50) (btz 22 15) HT_ ?_
          refine pu_ 4 (some 51) (btz 22 31) HT_ ?_
          refine pu_ 6 (some 53) (btz 22 95) HT_ ?_
          refine pu_ 7 (some 54) (btz 22 223) HT_ ?_
          refine pu_ 8 (some 55) (btz 22 479) HT_ ?_
          refine pu_ 9 (some 56) (btz 22 991) HT_ ?_
          refine pu_ 12 (some 59) (btz 22 5087) HT_ ?_
          refine pu_ 13 (some 60) (btz 22 13279) HT_ ?_
          refine pu_ 14 (some 61) (btz 22 29663) HT_ ?_
          refine pu_ 15 (some 62) (btz 22 62431) HT_ ?_
          refine ta_ 5 (some 52) (btz 22 62463) HT_ HW_ hHeld rfl rfl (by rintro w' ⟨s0, s1, s2, s3, s4, s5, s6, s7, s8, s9, s10, s11, s12, s13, s14, s15, s16, s17, s18, s19, s20⟩; go_simp; with_reducible rfl) ?_
          refine ta_ 10 (some 57) (btz 22 63487) HT_ HW_ hHeld rfl rfl (by rintro w' ⟨s0, s1, s2, s3, s4, s5, s6, s7, s8, s9, s10, s11, s12, s13, s14, s15, s16, s17, s18, s19, s20⟩; go_simp; with_reducible rfl) ?_
          refine pu_ 11 (some 58) (btz 22 65535) HT_ ?_
          refine ta_ 16 (some 63) (btz 22 131071) HT_ HW_ hHeld rfl rfl (by rintro w' ⟨s0, s1, s2, s3, s4, s5, s6, s7, s8, s9, s10, s11, s12, s13, s14, s15, s16, s17, s18, s19, s20⟩; go_simp; with_reducible rfl) ?_
          refine pu_ 17 (some 64) (btz 22 262143) HT_ ?_
          refine pu_ 18 (some 65) (btz 22 524287) HT_ ?_
          refine last_ (i := 19) (N := some 66) #[true, true, true, true, true, true, true, true, true, true, true, true, true, true, true, true, true, true, true, true, false, false] rfl rfl (one_of HT_.out (by kernel_rfl)) (by decide) (fun K hK => ?_)
          refine value_ (w1 := ?_) (v := ?_) (by rfl) rfl ?_ ?_
          rotate_left 2
          ·go_simp
           constructor
           ·rfl
           ·rfl
          refine hK.out _ _ ?_
          clear hK K
          refine norm_ (a' := ?_) ?_ ?_
          rotate_left
          ·show Act.put _ (some 66) _ = _
           simp only [Act.put, List.setIfInBounds_toArray, List.set_cons_zero, List.set_cons_succ, i64_w, i32_w]
           rfl
          refine last_ (i := 20) (N := some 67) #[true, true, true, true, true, true, true, true, true, true, true, true, true, true, true, true, true, true, true, true, true, false] rfl rfl (one_of HT_.out (by kernel_rfl)) (by decide) (fun K hK => ?_)
          refine Kd.R_append_step k34 (w0 := w) w.heap.size (by rfl) (.tmp 47) (.tmp 66) 22 34 (.agg #[(.string ⟨#[]⟩), (.string ⟨#[]⟩), (.string ⟨#[]⟩), (.string ⟨#[]⟩), (.string ⟨#[]⟩), (.int .i64 0), (.int .i64 0)]) 96 rfl Try.underlying22 info34 rfl (by decide) (by omega) u14 x14_1 (⟨(⟨(rd_T34 t813 x15_1).f0.f0, (rd_T34 t813 x15_1).f0.f1, (rd_T34 t813 x15_1).f0.f2, (rd_T34 t813 x15_1).f0.f3, (rd_T34 t813 x15_1).f0.f4⟩ : S32), wrap64 (-((rd_T34 t813 x15_1).f1)), wrap64 (-((rd_T34 t813 x15_1).f2))⟩ : S34) [.string ((rd_T34 t813 x15_1).f0.f0), .string ((rd_T34 t813 x15_1).f0.f1), .string ((rd_T34 t813 x15_1).f0.f2), .string ((rd_T34 t813 x15_1).f0.f3), .string ((rd_T34 t813 x15_1).f0.f4), .int .i64 (wrap64 (-((rd_T34 t813 x15_1).f1))), .int .i64 (wrap64 (-((rd_T34 t813 x15_1).f2)))] (fun k_ => some k_ ≠ (.slice (some ad819) t813.length co20 : Value).ownBlock) (fun _ => False) rfl rfl ?aP (fun _ hk => hk.elim) ?aF ?aO ?aB ?aS ?aL ?_
          (case aP => exact k34_mkM _ _ _ (⟨(⟨(rd_T34 t813 x15_1).f0.f0, (rd_T34 t813 x15_1).f0.f1, (rd_T34 t813 x15_1).f0.f2, (rd_T34 t813 x15_1).f0.f3, (rd_T34 t813 x15_1).f0.f4⟩ : S32), wrap64 (-((rd_T34 t813 x15_1).f1)), wrap64 (-((rd_T34 t813 x15_1).f2))⟩ : S34))
          (case aB => exact (by repeat (first | (with_reducible first | exact HB.out | apply below_alloc | apply pw_below_drewN | apply below_drew1) | exact HB.out)))
          (case aF => exact (fun k_ hk => Kd.fresh' (Kd.R_lt (by (with_reducible repeat (first | apply Kd.R_alloc | apply Kd.R_drewN | apply Kd.R_drew)); exact HO_12.out)) k_ hk))
          (case aO => exact (by (with_reducible repeat (first | apply Kd.R_alloc | apply Kd.R_drewN | apply Kd.R_drew)); exact HO_14.out))
          (case aS => exact (below_size (by repeat (first | (with_reducible first | exact HB.out | apply below_alloc | apply pw_below_drewN | apply below_drew1) | exact HB.out))))
          (case aL => have := LMc19.out; omega)
          intro v823 w22 ho hb hg hat
          rw [← Ny822.out] at ho
          have n0_ := Aside0.mk (Kd.R_over' (by (with_reducible repeat (first | apply Kd.R_alloc | apply Kd.R_drewN | apply Kd.R_drew)); exact HO_10.out) (Kd.R_typed (by (with_reducible repeat (first | apply Kd.R_alloc | apply Kd.R_drewN | apply Kd.R_drew)); exact HO_14.out)) (by decide) hg)
          have n1_ := Aside0.mk (Kd.R_after (ok := (fun _ => True)) (by (with_reducible repeat (first | apply Kd.R_alloc | apply Kd.R_drewN | apply Kd.R_drew)); exact Kd.R_mono HO_12.out (fun _ hk => ⟨trivial, hk⟩)) hg hat)
          have n2_ := Aside0.mk (hb)
          have n3_ := Aside0.mk (ho)
          clear HO_10
          clear HO_12
          clear HB
          clear HO_14
          have HO_10 := n0_
          have HO_12 := n1_
          have HB := n2_
          have HO824 := n3_
          clear n0_ n1_ n2_ n3_
          clear ho hb hg hat
          refine hK.out _ _ ?_
          clear hK K
          refine norm_ (a' := ?_) ?_ ?_
          rotate_left
          ·show Act.put _ (some 67) _ = _
           simp only [Act.put, List.setIfInBounds_toArray, List.set_cons_zero, List.set_cons_succ, i64_w, i32_w]
           rfl
          refine pu_ 21 (some 14) (btz 22 4194303) HT_ ?_
          refine done_ (done_of HT_.out (by kernel_rfl)) ?_
          try go_wp2
          go_roundg k1
          case measure => have := HK1.out; omega
          case rel => exact ⟨(y822), (wrap64 (x15_1 + 1)), (by first | rfl | (simp; done) | (simp [*]; done)), H', ⟨by have := HK1.out; omega⟩, ⟨by (with_reducible repeat (first | apply Kd.R_alloc | apply Kd.R_drewN | apply Kd.R_drew)); exact HO_10.out⟩, ⟨by (with_reducible repeat (first | apply Kd.R_alloc | apply Kd.R_drewN | apply Kd.R_drew)); exact Kd.R_mono HO_12.out (fun _ hk => hk.2)⟩, ⟨by (with_reducible repeat (first | apply Kd.R_alloc | apply Kd.R_drewN | apply Kd.R_drew)); exact HO824.out⟩, ⟨by repeat (first | (with_reducible first | exact HB.out | apply below_alloc | apply pw_below_drewN | apply below_drew1) | exact HB.out)⟩⟩
         ·rw [if_neg c19] at H
          exact absurd H (by simp)
        ·rw [if_neg c18] at H
         exact absurd H (by simp)
       ·rw [if_neg c17] at H
        have c17b0 : decide (x15_1 < (t813.length : Int)) = false := decide_eq_false c17
        clear c17
        have H' := Aside0.mk H
        clear H
        obtain ⟨Ao23, co23, eo23⟩ := Kd.R_slice HO_12.out
        subst eo23
        go_wp2
        go_loopg [14, 16] k1 (fun kq v14 v16 w' => ∃ (x14_2 : List (S34)) (x16_2 : Int), v16 = .int .i64 x16_2 ∧ Aside0 (accountingref44_Eliminate.l1 kq a1 a2 t809 x14_2 x16_2 = some (r1, r2)) ∧ Aside0 (kq ≤ k1) ∧ Aside0 (Kd.R k89 89 w' w.heap.size (fun _ => True) v811 t809) ∧ Aside0 (Kd.R k34 34 w' w.heap.size (fun _ => True) v14 x14_2) ∧ Aside0 (Below w.heap.size w w'))
        case atStart => exact ⟨(x14_1), (0), (by first | rfl | (simp; done) | (simp [*]; done)), H', ⟨Nat.le_refl _⟩, ⟨by (with_reducible repeat (first | apply Kd.R_alloc | apply Kd.R_drewN | apply Kd.R_drew)); exact HO_10.out⟩, ⟨by (with_reducible repeat (first | apply Kd.R_alloc | apply Kd.R_drewN | apply Kd.R_drew)); exact Kd.R_mono HO_14.out (fun _ hk => trivial)⟩, ⟨by repeat (first | (with_reducible first | exact HB.out | apply below_alloc | apply pw_below_drewN | apply below_drew1) | exact HB.out)⟩⟩
        case round =>
         clear H'
         try clear c1
         try clear c2
         try clear p2
         try clear c3
         try clear c4
         try clear c5
         try clear c6
         try clear p6
         try clear c7
         try clear c8
         try clear p8
         try clear q8
         try clear hx8
         try clear c10
         try clear c12
         try clear c12b0
         try clear c12b1
         try clear c17
         try clear c17b0
         try clear c18
         try clear c18b0
         try clear c19
         try clear c23
         try clear hx819_0
         try clear hx819_1
         try clear hx819_2
         try clear hx819_3
         try clear hx819_4
         try clear hx819_5
         try clear hx819_6
         try clear hx820_0
         try clear hx820_1
         try clear hx820_2
         try clear hx820_3
         try clear hx820_4
         try clear hx820_5
         try clear hx820_6
         try clear hx821_0
         try clear hx821_1
         try clear hx821_2
         try clear hx821_3
         try clear hx821_4
         try clear hx821_5
         try clear hx821_6
         try clear p2
         try clear p819
         try clear p820
         try clear p821
         try clear q819
         try clear q820
         try clear q821
         obtain ⟨x14_2, x16_2, rfl, HA, HK2, HO_10, HO_14, HB⟩ := hrel
         cases gk with
         | zero => exact absurd HA.out (by simp [accountingref44_Eliminate.l1])
         | succ k2 =>
          have H := HA.out
          clear HA
          simp only [accountingref44_Eliminate.l1] at H
          by_cases c24 : x16_2 < (t809.length : Int)
          ·rw [if_pos c24] at H
           have c24b0 : decide (x16_2 < (t809.length : Int)) = true := decide_eq_true c24
           clear c24
           by_cases c25 : 0 ≤ x16_2
           ·rw [if_pos c25] at H
            have c25b0 : decide (0 ≤ x16_2) = true := decide_eq_true c25
            clear c25
            by_cases c26 : x14_2.length < 1466015503701
            ·rw [if_pos c26] at H
             have LMc26 := Aside0.mk c26
             clear c26
             obtain ⟨y828, hy828⟩ : ∃ y_ : List (S34), y_ = (x14_2 ++ [(⟨(⟨(rd_T89 t809 x16_2).f0, a2, a1, (⟨#[]⟩ : ByteArray), (⟨#[]⟩ : ByteArray)⟩ : S32), (rd_T89 t809 x16_2).f2, (rd_T89 t809 x16_2).f2⟩ : S34)]) := ⟨_, rfl⟩
             replace H : (accountingref44_Eliminate.l1 k2 a1 a2 t809 y828 (wrap64 (x16_2 + 1))) = some (r1, r2) := by first | (rw [hy828]; with_reducible exact H) | (have H2_ := (Option.bind_some _ _).symm.trans H; rw [hy828]; with_reducible exact H2_) | (have H2_ := (Option.bind_some _ _).symm.trans H; with_reducible exact H2_) | with_reducible exact H | (rw [hy828]; exact H) | exact H
             have Ny828 := Aside0.mk hy828
             clear hy828
             have H' := Aside0.mk H
             clear H
             obtain ⟨Ao27, co27, eo27⟩ := Kd.R_slice HO_10.out
             subst eo27
             try go_wp2
             have n0_ := Aside0.mk (Kd.R_drew HO_10.out)
             have n1_ := Aside0.mk (Kd.R_drew HO_14.out)
             have n2_ := Aside0.mk (below_drew1 HB.out)
             clear HO_10
             clear HO_14
             clear HB
             have HO_10 := n0_
             have HO_14 := n1_
             have HB := n2_
             clear n0_ n1_ n2_
             have p825 : 0 ≤ (x16_2 : Int) := odt_
             have q825 : x16_2 < (t809.length : Int) := odt_
             obtain ⟨ad825, e825, hx825_0, hx825_1, hx825_2⟩ := at_T89 (Kd.R_reads' HO_10.out).2.2 x16_2 p825 q825
             cases e825
             replace p825 := eq_true p825
             replace q825 := eq_true q825
             have p826 : 0 ≤ (x16_2 : Int) := odt_
             have q826 : x16_2 < (t809.length : Int) := odt_
             obtain ⟨ad826, e826, hx826_0, hx826_1, hx826_2⟩ := at_T89 (Kd.R_reads' HO_10.out).2.2 x16_2 p826 q826
             obtain rfl : ad825 = ad826 := (by injection e826)
             replace p826 := eq_true p826
             replace q826 := eq_true q826
             have p827 : 0 ≤ (x16_2 : Int) := odt_
             have q827 : x16_2 < (t809.length : Int) := odt_
             obtain ⟨ad827, e827, hx827_0, hx827_1, hx827_2⟩ := at_T89 (Kd.R_reads' HO_10.out).2.2 x16_2 p827 q827
             obtain rfl : ad825 = ad827 := (by injection e827)
             replace p827 := eq_true p827
             replace q827 := eq_true q827
             refine start_ (n := 23) (S := fun w' => w'.cell? (ad825.add ((x16_2).toNat * 3)) = some (.string ((rd_T89 t809 x16_2).f0)) ∧ w'.cell? ⟨(ad825.add ((x16_2).toNat * 3)).block, (ad825.add ((x16_2).toNat * 3)).off + 1, none⟩ = some (.string ((rd_T89 t809 x16_2).f1)) ∧ w'.cell? ⟨(ad825.add ((x16_2).toNat * 3)).block, (ad825.add ((x16_2).toNat * 3)).off + 2, none⟩ = some (.int .i64 ((rd_T89 t809 x16_2).f2)) ∧ w'.cell? (ad825.add ((x16_2).toNat * 3)) = some (.string ((rd_T89 t809 x16_2).f0)) ∧ w'.cell? ⟨(ad825.add ((x16_2).toNat * 3)).block, (ad825.add ((x16_2).toNat * 3)).off + 1, none⟩ = some (.string ((rd_T89 t809 x16_2).f1)) ∧ w'.cell? ⟨(ad825.add ((x16_2).toNat * 3)).block, (ad825.add ((x16_2).toNat * 3)).off + 2, none⟩ = some (.int .i64 ((rd_T89 t809 x16_2).f2)) ∧ w'.cell? (ad825.add ((x16_2).toNat * 3)) = some (.string ((rd_T89 t809 x16_2).f0)) ∧ w'.cell? ⟨(ad825.add ((x16_2).toNat * 3)).block, (ad825.add ((x16_2).toNat * 3)).off + 1, none⟩ = some (.string ((rd_T89 t809 x16_2).f1)) ∧ w'.cell? ⟨(ad825.add ((x16_2).toNat * 3)).block, (ad825.add ((x16_2).toNat * 3)).off + 2, none⟩ = some (.int .i64 ((rd_T89 t809 x16_2).f2))) (ds := [20, 21]) #[false, false, false, false, false, false, false, false, false, false, false, false, false, false, false, false, false, false, false, false, false, false, false] (by kernel_rfl) rfl rfl ⟨hx825_0, hx825_1, hx825_2, hx826_0, hx826_1, hx826_2, hx827_0, hx827_1, hx827_2⟩ (fun hHeld => ?_); refine with_tabW accountingref44_Eliminate.tab19 accountingref44_Eliminate.bits19 (fun HT_ HW_ => ?_)
             generalize wr.drew = w28 at HO_10 HO_14 HB hx825_0 hx825_1 hx825_2 hx826_0 hx826_1 hx826_2 hx827_0 hx827_1 hx827_2 hHeld ⊢
             refine pu_ 0 (some 74) (btz 23 1) HT_ ?_
             refine pu_ 1 (some 75) (btz 23 3) HT_ ?_
             refine pu_ 2 (some 76) (btz 23 7) HT_ ?_
             refine pu_ 3 (some 77) (btz 23 15) HT_ ?_
             refine pu_ 4 (some 78) (btz 23 31) HT_ ?_
             refine pu_ 6 (some 80) (btz 23 95) HT_ ?_
             refine pu_ 7 (some 81) (btz 23 223) HT_ ?_
             refine pu_ 9 (some 83) (btz 23 735) HT_ ?_
             refine pu_ 10 (some 84) (btz 23 1759) HT_ ?_
             refine pu_ 11 (some 85) (btz 23 3807) HT_ ?_
             refine pu_ 12 (some 86) (btz 23 7903) HT_ ?_
             refine pu_ 14 (some 88) (btz 23 24287) HT_ ?_
             refine pu_ 15 (some 89) (btz 23 57055) HT_ ?_
             refine pu_ 16 (some 90) (btz 23 122591) HT_ ?_
             refine pu_ 17 (some 91) (btz 23 253663) HT_ ?_
             refine ta_ 5 (some 79) (btz 23 253695) HT_ HW_ hHeld rfl rfl (by rintro w' ⟨s0, s1, s2, s3, s4, s5, s6, s7, s8⟩; go_simp; with_reducible rfl) ?_
             refine pu_ 8 (some 82) (btz 23 253951) HT_ ?_
             refine ta_ 13 (some 87) (btz 23 262143) HT_ HW_ hHeld rfl rfl (by rintro w' ⟨s0, s1, s2, s3, s4, s5, s6, s7, s8⟩; go_simp; with_reducible rfl) ?_
             refine ta_ 18 (some 92) (btz 23 524287) HT_ HW_ hHeld rfl rfl (by rintro w' ⟨s0, s1, s2, s3, s4, s5, s6, s7, s8⟩; go_simp; with_reducible rfl) ?_
             refine pu_ 19 (some 93) (btz 23 1048575) HT_ ?_
             refine last_ (i := 20) (N := some 94) #[true, true, true, true, true, true, true, true, true, true, true, true, true, true, true, true, true, true, true, true, true, false, false] rfl rfl (one_of HT_.out (by kernel_rfl)) (by decide) (fun K hK => ?_)
             refine value_ (w1 := ?_) (v := ?_) (by rfl) rfl ?_ ?_
             rotate_left 2
             ·go_simp
              constructor
              ·rfl
              ·rfl
             refine hK.out _ _ ?_
             clear hK K
             refine norm_ (a' := ?_) ?_ ?_
             rotate_left
             ·show Act.put _ (some 94) _ = _
              simp only [Act.put, List.setIfInBounds_toArray, List.set_cons_zero, List.set_cons_succ, i64_w, i32_w]
              rfl
             refine last_ (i := 21) (N := some 95) #[true, true, true, true, true, true, true, true, true, true, true, true, true, true, true, true, true, true, true, true, true, true, false] rfl rfl (one_of HT_.out (by kernel_rfl)) (by decide) (fun K hK => ?_)
             refine Kd.R_append_step k34 (w0 := w) w.heap.size (by rfl) (.tmp 74) (.tmp 94) 22 34 (.agg #[(.string ⟨#[]⟩), (.string ⟨#[]⟩), (.string ⟨#[]⟩), (.string ⟨#[]⟩), (.string ⟨#[]⟩), (.int .i64 0), (.int .i64 0)]) 96 rfl Try.underlying22 info34 rfl (by decide) (by omega) u14 x14_2 (⟨(⟨(rd_T89 t809 x16_2).f0, a2, a1, (⟨#[]⟩ : ByteArray), (⟨#[]⟩ : ByteArray)⟩ : S32), (rd_T89 t809 x16_2).f2, (rd_T89 t809 x16_2).f2⟩ : S34) [.string ((rd_T89 t809 x16_2).f0), .string a2, .string a1, .string (⟨#[]⟩ : ByteArray), .string (⟨#[]⟩ : ByteArray), .int .i64 ((rd_T89 t809 x16_2).f2), .int .i64 ((rd_T89 t809 x16_2).f2)] (fun _ => True) (fun _ => False) rfl rfl ?aP (fun _ hk => hk.elim) ?aF ?aO ?aB ?aS ?aL ?_
             (case aP => exact k34_mkM _ _ _ (⟨(⟨(rd_T89 t809 x16_2).f0, a2, a1, (⟨#[]⟩ : ByteArray), (⟨#[]⟩ : ByteArray)⟩ : S32), (rd_T89 t809 x16_2).f2, (rd_T89 t809 x16_2).f2⟩ : S34))
             (case aB => exact (by repeat (first | (with_reducible first | exact HB.out | apply below_alloc | apply pw_below_drewN | apply below_drew1) | exact HB.out)))
             (case aF => exact (fun _ _ => trivial))
             (case aO => exact (by (with_reducible repeat (first | apply Kd.R_alloc | apply Kd.R_drewN | apply Kd.R_drew)); exact HO_14.out))
             (case aS => exact (below_size (by repeat (first | (with_reducible first | exact HB.out | apply below_alloc | apply pw_below_drewN | apply below_drew1) | exact HB.out))))
             (case aL => have := LMc26.out; omega)
             intro v829 w29 ho hb hg hat
             rw [← Ny828.out] at ho
             have n0_ := Aside0.mk (Kd.R_over' (by (with_reducible repeat (first | apply Kd.R_alloc | apply Kd.R_drewN | apply Kd.R_drew)); exact HO_10.out) (Kd.R_typed (by (with_reducible repeat (first | apply Kd.R_alloc | apply Kd.R_drewN | apply Kd.R_drew)); exact HO_14.out)) (by decide) hg)
             have n1_ := Aside0.mk (hb)
             have n2_ := Aside0.mk (ho)
             clear HO_10
             clear HB
             clear HO_14
             have HO_10 := n0_
             have HB := n1_
             have HO830 := n2_
             clear n0_ n1_ n2_
             clear ho hb hg hat
             refine hK.out _ _ ?_
             clear hK K
             refine norm_ (a' := ?_) ?_ ?_
             rotate_left
             ·show Act.put _ (some 95) _ = _
              simp only [Act.put, List.setIfInBounds_toArray, List.set_cons_zero, List.set_cons_succ, i64_w, i32_w]
              rfl
             refine pu_ 22 (some 14) (btz 23 8388607) HT_ ?_
             refine done_ (done_of HT_.out (by kernel_rfl)) ?_
             try go_wp2
             go_roundg k2
             case measure => have := HK1.out; have := HK2.out; omega
             case rel => exact ⟨(y828), (wrap64 (x16_2 + 1)), (by first | rfl | (simp; done) | (simp [*]; done)), H', ⟨by have := HK1.out; have := HK2.out; omega⟩, ⟨by (with_reducible repeat (first | apply Kd.R_alloc | apply Kd.R_drewN | apply Kd.R_drew)); exact HO_10.out⟩, ⟨by (with_reducible repeat (first | apply Kd.R_alloc | apply Kd.R_drewN | apply Kd.R_drew)); exact HO830.out⟩, ⟨by repeat (first | (with_reducible first | exact HB.out | apply below_alloc | apply pw_below_drewN | apply below_drew1) | exact HB.out)⟩⟩
            ·rw [if_neg c26] at H
             exact absurd H (by simp)
           ·rw [if_neg c25] at H
            exact absurd H (by simp)
          ·rw [if_neg c24] at H
           have c24b0 : decide (x16_2 < (t809.length : Int)) = false := decide_eq_false c24
           clear c24
           replace H := Option.bind_eq_some_iff.mp H
           obtain ⟨⟨t831, t832⟩, A300, H⟩ := H
           replace H : (some (t831, t832)) = some (r1, r2) := H
           have A30 := Aside0.mk A300
           clear A300
           simp only [Option.some.injEq, Prod.mk.injEq] at H
           obtain ⟨rfl, rfl⟩ := H
           obtain ⟨Ao31, co31, eo31⟩ := Kd.R_slice HO_10.out
           subst eo31
           obtain ⟨Ao32, co32, eo32⟩ := Kd.R_slice HO_14.out
           subst eo32
           go_wp2_with (first | ((with_reducible refine gate_callee (f := 20) rfl ?_); refine goesL_ (some 97) rfl rfl Try.func20 (by kernel_rfl) rfl #[.slice Ao32 x14_2.length co32] rfl (by (try simp only [List.map_toArray, List.map_cons, List.map_nil]); first | done | rfl | (simp only [List.length_drop, List.length_take]; rfl)) ?_; (with_reducible refine (accountingref19_Of.calls k2 _ _ x14_2 t831 t832 _ ?side1 ?side2 A30.out).mono ?_); (case side1 => repeat (first | exact (Kd.R_reads' HO_14.out).2.2 | (with_reducible refine Kd.C_alloc ?_ _) | (with_reducible refine Kd.C_drewN ?_ _) | (with_reducible refine Kd.C_drew ?_))); (case side2 => exact (Kd.R_reads' HO_14.out).2.1); rintro e w33 ⟨v833, rfl, ho0, hb⟩; refine ⟨_, rfl, ?_⟩; have n0_ := Aside0.mk (Kd.R_below (by (with_reducible repeat (first | apply Kd.R_alloc | apply Kd.R_drewN | apply Kd.R_drew)); exact HO_10.out) hb); have n1_ := Aside0.mk (Kd.R_elder' (by (with_reducible repeat (first | apply Kd.R_alloc | apply Kd.R_drewN | apply Kd.R_drew)); exact HO_14.out) (Kd.R_base ho0) hb); have n2_ := Aside0.mk (Kd.R_lower (Kd.R_new' ho0 (Kd.R_lt (by (with_reducible repeat (first | apply Kd.R_alloc | apply Kd.R_drewN | apply Kd.R_drew)); exact HO_14.out))) (below_size (by repeat (first | (with_reducible first | exact HB.out | apply below_alloc | apply pw_below_drewN | apply below_drew1) | exact HB.out)))); have n3_ := Aside0.mk (below_step (by repeat (first | (with_reducible first | exact HB.out | apply below_alloc | apply pw_below_drewN | apply below_drew1) | exact HB.out)) hb); clear HO_10; clear HO_14; clear HB; have HO_10 := n0_; have HO_14 := n1_; have HO834 := n2_; have HB := n3_; clear n0_ n1_ n2_ n3_; (try clear hb); (try clear hb2); (try clear hk); (try clear hi); (try clear ho0)))
           go_ret2
           exact ⟨_, by first | rfl | (simp [errW_none, errW_some] <;> rfl) | (simp [*, errW_none, errW_some] <;> rfl), by (with_reducible repeat (first | apply Kd.R_alloc | apply Kd.R_drewN | apply Kd.R_drew)); exact Kd.R_mono HO834.out (fun _ hk => trivial), by repeat (first | (with_reducible first | exact HB.out | apply below_alloc | apply pw_below_drewN | apply below_drew1) | exact HB.out)⟩
    ·rw [if_neg c12] at H
     have c12b0 : (t810 == 0) = false := beq_eq_false_iff_ne.mpr c12
     have c12b1 : (t810 != 0) = true := bne_iff_ne.mpr c12
     simp only [Option.some.injEq, Prod.mk.injEq] at H
     obtain ⟨rfl, rfl⟩ := H
     go_enter Try.func51, Try.ntmps51
     go_wp2_with (first | ((with_reducible refine gate_callee (f := 23) rfl ?_); refine goesL_ (some 18) rfl rfl Try.func23 (by kernel_rfl) rfl #[.slice A0 l0.length c0] rfl (by (try simp only [List.map_toArray, List.map_cons, List.map_nil]); first | done | rfl | (simp only [List.length_drop, List.length_take]; rfl)) ?_; (with_reducible refine (accountingref19_Right.calls _ _ l0 true _ ?side1 ?side2 A5.out).mono ?_); (case side1 => repeat (first | exact HR0.out | (with_reducible refine Kd.C_alloc ?_ _) | (with_reducible refine Kd.C_drewN ?_ _) | (with_reducible refine Kd.C_drew ?_))); (case side2 => exact HC0.out); rintro e w34 ⟨rfl, hb⟩; refine ⟨_, rfl, ?_⟩; have n0_ := Aside0.mk (below_step (by repeat (first | (with_reducible first | exact HB.out | apply below_alloc | apply pw_below_drewN | apply below_drew1) | exact HB.out)) hb); clear HB; have HB := n0_; clear n0_; (try clear hb); (try clear hb2); (try clear hk); (try clear hi)) | ((with_reducible refine gate_callee (f := 79) rfl ?_); refine goesL_ (some 21) rfl rfl Try.func79 (by kernel_rfl) rfl #[.string a1] rfl (by (try simp only [List.map_toArray, List.map_cons, List.map_nil]); first | done | rfl | (simp only [List.length_drop, List.length_take]; rfl)) ?_; (with_reducible refine (accountingref07_Code.calls k a1 true _ A7.out).mono ?_); rintro e w' ⟨rfl, ⟨nd, rfl⟩⟩; refine ⟨_, rfl, ?_⟩) | ((with_reducible refine gate_callee (f := 80) rfl ?_); refine goesL_ (some 24) rfl rfl Try.func80 (by kernel_rfl) rfl #[.string a2] rfl (by (try simp only [List.map_toArray, List.map_cons, List.map_nil]); first | done | rfl | (simp only [List.length_drop, List.length_take]; rfl)) ?_; (with_reducible refine (accountingref06_Code.calls k a2 true _ A9.out).mono ?_); rintro e w' ⟨rfl, ⟨nd, rfl⟩⟩; refine ⟨_, rfl, ?_⟩) | ((with_reducible refine gate_callee (f := 48) rfl ?_); refine goesL_ (some 29) rfl rfl Try.func48 (by kernel_rfl) rfl #[.slice A0 l0.length c0, .slice A3 l3.length c3] rfl (by (try simp only [List.map_toArray, List.map_cons, List.map_nil]); first | done | rfl | (simp only [List.length_drop, List.length_take]; rfl)) ?_; (with_reducible refine (accountingref44_Pairs.calls k _ _ l0 _ _ l3 t809 t810 _ ?side1 ?side2 ?side3 ?side4 A11.out).mono ?_); (case side1 => repeat (first | exact (Kd.C_below HR0.out (by repeat (first | (with_reducible first | exact HB.out | apply below_alloc | apply pw_below_drewN | apply below_drew1) | exact HB.out))) | (with_reducible refine Kd.C_alloc ?_ _) | (with_reducible refine Kd.C_drewN ?_ _) | (with_reducible refine Kd.C_drew ?_))); (case side2 => exact HC0.out); (case side3 => repeat (first | exact (Kd.C_below HR3.out (by repeat (first | (with_reducible first | exact HB.out | apply below_alloc | apply pw_below_drewN | apply below_drew1) | exact HB.out))) | (with_reducible refine Kd.C_alloc ?_ _) | (with_reducible refine Kd.C_drewN ?_ _) | (with_reducible refine Kd.C_drew ?_))); (case side4 => exact HC3.out); rintro e w35 ⟨v811, rfl, ho0, hb⟩; refine ⟨_, rfl, ?_⟩; have n0_ := Aside0.mk (Kd.R_lower ho0 (below_size (by repeat (first | (with_reducible first | exact HB.out | apply below_alloc | apply pw_below_drewN | apply below_drew1) | exact HB.out)))); have n1_ := Aside0.mk (below_step (by repeat (first | (with_reducible first | exact HB.out | apply below_alloc | apply pw_below_drewN | apply below_drew1) | exact HB.out)) hb); clear HB; have HO812 := n0_; have HB := n1_; clear n0_ n1_; (try clear hb); (try clear hb2); (try clear hk); (try clear hi); (try clear ho0)))
     go_ret2
     exact ⟨_, by first | rfl | (simp [errW_none, errW_some] <;> rfl) | (simp [*, errW_none, errW_some] <;> rfl), by first | exact Kd.R_nil _ _ _ _ _ | exact Kd.N_nil _ _ _ _ _ | exact Kd.V_nil _ _ _ _ _ | exact Kd.Q_nil _ _ _ _ _ | exact Kd.S_nil _ _ _ _ _, by repeat (first | (with_reducible first | exact HB.out | apply below_alloc | apply pw_below_drewN | apply below_drew1) | exact HB.out)⟩
   ·replace c10 := Bool.eq_false_iff.mpr c10
    subst c10
    have H1 : (some (([] : List (S34)), 7)) = some (r1, r2) := by rw [if_neg (show ¬ (false = true) by decide)] at H; exact H
    clear H
    have H := H1
    clear H1
    simp only [Option.some.injEq, Prod.mk.injEq] at H
    obtain ⟨rfl, rfl⟩ := H
    go_enter Try.func51, Try.ntmps51
    go_wp2_with (first | ((with_reducible refine gate_callee (f := 23) rfl ?_); refine goesL_ (some 18) rfl rfl Try.func23 (by kernel_rfl) rfl #[.slice A0 l0.length c0] rfl (by (try simp only [List.map_toArray, List.map_cons, List.map_nil]); first | done | rfl | (simp only [List.length_drop, List.length_take]; rfl)) ?_; (with_reducible refine (accountingref19_Right.calls _ _ l0 true _ ?side1 ?side2 A5.out).mono ?_); (case side1 => repeat (first | exact HR0.out | (with_reducible refine Kd.C_alloc ?_ _) | (with_reducible refine Kd.C_drewN ?_ _) | (with_reducible refine Kd.C_drew ?_))); (case side2 => exact HC0.out); rintro e w36 ⟨rfl, hb⟩; refine ⟨_, rfl, ?_⟩; have n0_ := Aside0.mk (below_step (by repeat (first | (with_reducible first | exact HB.out | apply below_alloc | apply pw_below_drewN | apply below_drew1) | exact HB.out)) hb); clear HB; have HB := n0_; clear n0_; (try clear hb); (try clear hb2); (try clear hk); (try clear hi)) | ((with_reducible refine gate_callee (f := 79) rfl ?_); refine goesL_ (some 21) rfl rfl Try.func79 (by kernel_rfl) rfl #[.string a1] rfl (by (try simp only [List.map_toArray, List.map_cons, List.map_nil]); first | done | rfl | (simp only [List.length_drop, List.length_take]; rfl)) ?_; (with_reducible refine (accountingref07_Code.calls k a1 true _ A7.out).mono ?_); rintro e w' ⟨rfl, ⟨nd, rfl⟩⟩; refine ⟨_, rfl, ?_⟩) | ((with_reducible refine gate_callee (f := 80) rfl ?_); refine goesL_ (some 24) rfl rfl Try.func80 (by kernel_rfl) rfl #[.string a2] rfl (by (try simp only [List.map_toArray, List.map_cons, List.map_nil]); first | done | rfl | (simp only [List.length_drop, List.length_take]; rfl)) ?_; (with_reducible refine (accountingref06_Code.calls k a2 false _ A9.out).mono ?_); rintro e w' ⟨rfl, ⟨nd, rfl⟩⟩; refine ⟨_, rfl, ?_⟩))
    go_ret2
    exact ⟨_, by first | rfl | (simp [errW_none, errW_some] <;> rfl) | (simp [*, errW_none, errW_some] <;> rfl), by first | exact Kd.R_nil _ _ _ _ _ | exact Kd.N_nil _ _ _ _ _ | exact Kd.V_nil _ _ _ _ _ | exact Kd.Q_nil _ _ _ _ _ | exact Kd.S_nil _ _ _ _ _, by repeat (first | (with_reducible first | exact HB.out | apply below_alloc | apply pw_below_drewN | apply below_drew1) | exact HB.out)⟩
  ·replace c8 := Bool.eq_false_iff.mpr c8
   subst c8
   have H1 : (some (([] : List (S34)), 13)) = some (r1, r2) := by rw [if_neg (show ¬ (false = true) by decide)] at H; exact H
   clear H
   have H := H1
   clear H1
   simp only [Option.some.injEq, Prod.mk.injEq] at H
   obtain ⟨rfl, rfl⟩ := H
   go_enter Try.func51, Try.ntmps51
   go_wp2_with (first | ((with_reducible refine gate_callee (f := 23) rfl ?_); refine goesL_ (some 18) rfl rfl Try.func23 (by kernel_rfl) rfl #[.slice A0 l0.length c0] rfl (by (try simp only [List.map_toArray, List.map_cons, List.map_nil]); first | done | rfl | (simp only [List.length_drop, List.length_take]; rfl)) ?_; (with_reducible refine (accountingref19_Right.calls _ _ l0 true _ ?side1 ?side2 A5.out).mono ?_); (case side1 => repeat (first | exact HR0.out | (with_reducible refine Kd.C_alloc ?_ _) | (with_reducible refine Kd.C_drewN ?_ _) | (with_reducible refine Kd.C_drew ?_))); (case side2 => exact HC0.out); rintro e w37 ⟨rfl, hb⟩; refine ⟨_, rfl, ?_⟩; have n0_ := Aside0.mk (below_step (by repeat (first | (with_reducible first | exact HB.out | apply below_alloc | apply pw_below_drewN | apply below_drew1) | exact HB.out)) hb); clear HB; have HB := n0_; clear n0_; (try clear hb); (try clear hb2); (try clear hk); (try clear hi)) | ((with_reducible refine gate_callee (f := 79) rfl ?_); refine goesL_ (some 21) rfl rfl Try.func79 (by kernel_rfl) rfl #[.string a1] rfl (by (try simp only [List.map_toArray, List.map_cons, List.map_nil]); first | done | rfl | (simp only [List.length_drop, List.length_take]; rfl)) ?_; (with_reducible refine (accountingref07_Code.calls k a1 false _ A7.out).mono ?_); rintro e w' ⟨rfl, ⟨nd, rfl⟩⟩; refine ⟨_, rfl, ?_⟩))
   go_ret2
   exact ⟨_, by first | rfl | (simp [errW_none, errW_some] <;> rfl) | (simp [*, errW_none, errW_some] <;> rfl), by first | exact Kd.R_nil _ _ _ _ _ | exact Kd.N_nil _ _ _ _ _ | exact Kd.V_nil _ _ _ _ _ | exact Kd.Q_nil _ _ _ _ _ | exact Kd.S_nil _ _ _ _ _, by repeat (first | (with_reducible first | exact HB.out | apply below_alloc | apply pw_below_drewN | apply below_drew1) | exact HB.out)⟩
 ·replace c6 := Bool.eq_false_iff.mpr c6
  subst c6
  have H1 : (some (([] : List (S34)), 2)) = some (r1, r2) := by rw [if_neg (show ¬ (false = true) by decide)] at H; exact H
  clear H
  have H := H1
  clear H1
  simp only [Option.some.injEq, Prod.mk.injEq] at H
  obtain ⟨rfl, rfl⟩ := H
  go_enter Try.func51, Try.ntmps51
  go_wp2_with (first | ((with_reducible refine gate_callee (f := 23) rfl ?_); refine goesL_ (some 18) rfl rfl Try.func23 (by kernel_rfl) rfl #[.slice A0 l0.length c0] rfl (by (try simp only [List.map_toArray, List.map_cons, List.map_nil]); first | done | rfl | (simp only [List.length_drop, List.length_take]; rfl)) ?_; (with_reducible refine (accountingref19_Right.calls _ _ l0 false _ ?side1 ?side2 A5.out).mono ?_); (case side1 => repeat (first | exact HR0.out | (with_reducible refine Kd.C_alloc ?_ _) | (with_reducible refine Kd.C_drewN ?_ _) | (with_reducible refine Kd.C_drew ?_))); (case side2 => exact HC0.out); rintro e w38 ⟨rfl, hb⟩; refine ⟨_, rfl, ?_⟩; have n0_ := Aside0.mk (below_step (by repeat (first | (with_reducible first | exact HB.out | apply below_alloc | apply pw_below_drewN | apply below_drew1) | exact HB.out)) hb); clear HB; have HB := n0_; clear n0_; (try clear hb); (try clear hb2); (try clear hk); (try clear hi)))
  go_ret2
  exact ⟨_, by first | rfl | (simp [errW_none, errW_some] <;> rfl) | (simp [*, errW_none, errW_some] <;> rfl), by first | exact Kd.R_nil _ _ _ _ _ | exact Kd.N_nil _ _ _ _ _ | exact Kd.V_nil _ _ _ _ _ | exact Kd.Q_nil _ _ _ _ _ | exact Kd.S_nil _ _ _ _ _, by repeat (first | (with_reducible first | exact HB.out | apply below_alloc | apply pw_below_drewN | apply below_drew1) | exact HB.out)⟩
def accountinglaw44_IntercoEliminates.f (k : Nat) (l0 : List (S34)) (a1 : ByteArray) (a2 : ByteArray) (l3 : List ByteArray) : Option (Bool) := (accountinglaw44_large.f l0 l3).bind fun t835 => (if t835 = true then (some true) else ((interco_Eliminate.f k l0 a1 a2 l3).bind fun bt836 => ((accountingref44_Eliminate.f k l0 a1 a2 l3).bind fun bt840 => ((accountingref19_Same.f k bt836.1 bt840.1).bind fun t844 => (if t844 = true then (if bt836.2 = bt840.2 then ((accountinglaw44_lives.f k).bind fun t845 => (some t845)) else (some false)) else (some false))))))
theorem accountinglaw44_IntercoEliminates.mono : ∀ a0 a1 a2 a3 k, LeO (accountinglaw44_IntercoEliminates.f k a0 a1 a2 a3) (accountinglaw44_IntercoEliminates.f (k + 1) a0 a1 a2 a3) := by
 intro a0 a1 a2 a3 k
 unfold accountinglaw44_IntercoEliminates.f
 repeat' first
   | (with_reducible exact accountinglaw44_lives.mono _)
   | (with_reducible exact accountingref19_Same.mono _ _ _)
   | (with_reducible exact accountingref44_Eliminate.mono _ _ _ _ _)
   | (with_reducible exact interco_Eliminate.mono _ _ _ _ _)
   | (with_reducible exact LeO.refl _)
   | (with_reducible exact LeO.none _)
   | (with_reducible refine LeO.ite ?_ ?_)
   | (with_reducible refine LeO.bind ?_ (fun _ => ?_))
   | exact accountinglaw44_lives.mono _
   | exact accountingref19_Same.mono _ _ _
   | exact accountingref44_Eliminate.mono _ _ _ _ _
   | exact interco_Eliminate.mono _ _ _ _ _
   | exact LeO.none _
   | refine LeO.ite ?_ ?_
   | refine LeO.bind ?_ (fun _ => ?_)
set_option maxHeartbeats 8000000 in
set_option maxRecDepth 100000 in
theorem accountinglaw44_IntercoEliminates.calls (k : Nat) (A0 : Option Addr) (c0 : Nat) (l0 : List (S34)) (a1 : ByteArray) (a2 : ByteArray) (A3 : Option Addr) (c3 : Nat) (l3 : List ByteArray) (r : Bool) (w : World) (hr0 : Kd.C k34 w A0 l0.length l0) (hc0 : l0.length ≤ c0) (hr3 : Kd.C Kd.string w A3 l3.length l3) (hc3 : l3.length ≤ c3) (h : accountinglaw44_IntercoEliminates.f k l0 a1 a2 l3 = some r) :
  Calls Try.prog 14 #[.slice A0 l0.length c0, .string a1, .string a2, .slice A3 l3.length c3] w fun e w' => e = .returned (.bool r) ∧ Below w.heap.size w w' := by
 have HR0 := Aside0.mk hr0
 have HC0 := Aside0.mk hc0
 clear hr0 hc0
 have HR3 := Aside0.mk hr3
 have HC3 := Aside0.mk hc3
 clear hr3 hc3
 have HB := Aside0.mk (Below.refl w.heap.size w)
 have H : ((accountinglaw44_large.f l0 l3).bind fun t835 => (if t835 = true then (some true) else ((interco_Eliminate.f k l0 a1 a2 l3).bind fun bt836 => ((accountingref44_Eliminate.f k l0 a1 a2 l3).bind fun bt840 => ((accountingref19_Same.f k bt836.1 bt840.1).bind fun t844 => (if t844 = true then (if bt836.2 = bt840.2 then ((accountinglaw44_lives.f k).bind fun t845 => (some t845)) else (some false)) else (some false))))))) = some r := h
 clear h
 replace H := Option.bind_eq_some_iff.mp H
 obtain ⟨t835, A50, H⟩ := H
 try dsimp only at H
 have A5 := Aside0.mk A50
 clear A50
 by_cases c6 : t835 = true
 ·subst c6
  have H1 : (some true) = some r := by rw [if_pos rfl] at H; exact H
  clear H
  have H := H1
  clear H1
  obtain rfl := Option.some.inj H
  go_enter Try.func14, Try.ntmps14
  go_wp2_with (first | ((with_reducible refine gate_callee (f := 43) rfl ?_); refine goesL_ (some 15) rfl rfl Try.func43 (by kernel_rfl) rfl #[.slice A0 l0.length c0, .slice A3 l3.length c3] rfl (by (try simp only [List.map_toArray, List.map_cons, List.map_nil]); first | done | rfl | (simp only [List.length_drop, List.length_take]; rfl)) ?_; (with_reducible refine (accountinglaw44_large.calls _ _ l0 _ _ l3 true _ ?side1 ?side2 ?side3 ?side4 A5.out).mono ?_); (case side1 => repeat (first | exact HR0.out | (with_reducible refine Kd.C_alloc ?_ _) | (with_reducible refine Kd.C_drewN ?_ _) | (with_reducible refine Kd.C_drew ?_))); (case side2 => exact HC0.out); (case side3 => repeat (first | exact HR3.out | (with_reducible refine Kd.C_alloc ?_ _) | (with_reducible refine Kd.C_drewN ?_ _) | (with_reducible refine Kd.C_drew ?_))); (case side4 => exact HC3.out); rintro e w' ⟨rfl, ⟨nd, rfl⟩⟩; refine ⟨_, rfl, ?_⟩))
  go_ret
  exact ⟨by first | rfl | (simp [errW_none, errW_some] <;> rfl) | (simp [*, errW_none, errW_some] <;> rfl), by repeat (first | (with_reducible first | exact HB.out | apply below_alloc | apply pw_below_drewN | apply below_drew1) | exact HB.out)⟩
 ·replace c6 := Bool.eq_false_iff.mpr c6
  subst c6
  have H1 : ((interco_Eliminate.f k l0 a1 a2 l3).bind fun bt836 => ((accountingref44_Eliminate.f k l0 a1 a2 l3).bind fun bt840 => ((accountingref19_Same.f k bt836.1 bt840.1).bind fun t844 => (if t844 = true then (if bt836.2 = bt840.2 then ((accountinglaw44_lives.f k).bind fun t845 => (some t845)) else (some false)) else (some false))))) = some r := by rw [if_neg (show ¬ (false = true) by decide)] at H; exact H
  clear H
  have H := H1
  clear H1
  replace H := Option.bind_eq_some_iff.mp H
  obtain ⟨⟨t836, t837⟩, A70, H⟩ := H
  try dsimp only at H
  have A7 := Aside0.mk A70
  clear A70
  replace H := Option.bind_eq_some_iff.mp H
  obtain ⟨⟨t840, t841⟩, A80, H⟩ := H
  try dsimp only at H
  have A8 := Aside0.mk A80
  clear A80
  replace H := Option.bind_eq_some_iff.mp H
  obtain ⟨t844, A90, H⟩ := H
  try dsimp only at H
  have A9 := Aside0.mk A90
  clear A90
  by_cases c10 : t844 = true
  ·subst c10
   have H1 : (if t837 = t841 then ((accountinglaw44_lives.f k).bind fun t845 => (some t845)) else (some false)) = some r := by rw [if_pos rfl] at H; exact H
   clear H
   have H := H1
   clear H1
   by_cases c11 : t837 = t841
   ·rw [if_pos c11] at H
    have c11b0 : (t837 == t841) = true := beq_iff_eq.mpr c11
    have c11b1 : (t837 != t841) = false := bne_eq_false_iff_eq.mpr c11
    clear c11
    replace H := Option.bind_eq_some_iff.mp H
    obtain ⟨t845, A120, H⟩ := H
    replace H : (some t845) = some r := H
    have A12 := Aside0.mk A120
    clear A120
    obtain rfl := Option.some.inj H
    go_enter Try.func14, Try.ntmps14
    go_wp2_with (first | ((with_reducible refine gate_callee (f := 43) rfl ?_); refine goesL_ (some 15) rfl rfl Try.func43 (by kernel_rfl) rfl #[.slice A0 l0.length c0, .slice A3 l3.length c3] rfl (by (try simp only [List.map_toArray, List.map_cons, List.map_nil]); first | done | rfl | (simp only [List.length_drop, List.length_take]; rfl)) ?_; (with_reducible refine (accountinglaw44_large.calls _ _ l0 _ _ l3 false _ ?side1 ?side2 ?side3 ?side4 A5.out).mono ?_); (case side1 => repeat (first | exact HR0.out | (with_reducible refine Kd.C_alloc ?_ _) | (with_reducible refine Kd.C_drewN ?_ _) | (with_reducible refine Kd.C_drew ?_))); (case side2 => exact HC0.out); (case side3 => repeat (first | exact HR3.out | (with_reducible refine Kd.C_alloc ?_ _) | (with_reducible refine Kd.C_drewN ?_ _) | (with_reducible refine Kd.C_drew ?_))); (case side4 => exact HC3.out); rintro e w' ⟨rfl, ⟨nd, rfl⟩⟩; refine ⟨_, rfl, ?_⟩) | ((with_reducible refine gate_callee (f := 50) rfl ?_); refine goesL_ (some 21) rfl rfl Try.func50 (by kernel_rfl) rfl #[.slice A0 l0.length c0, .string a1, .string a2, .slice A3 l3.length c3] rfl (by (try simp only [List.map_toArray, List.map_cons, List.map_nil]); first | done | rfl | (simp only [List.length_drop, List.length_take]; rfl)) ?_; (with_reducible refine (interco_Eliminate.calls k _ _ l0 a1 a2 _ _ l3 t836 t837 _ ?side1 ?side2 ?side3 ?side4 A7.out).mono ?_); (case side1 => repeat (first | exact HR0.out | (with_reducible refine Kd.C_alloc ?_ _) | (with_reducible refine Kd.C_drewN ?_ _) | (with_reducible refine Kd.C_drew ?_))); (case side2 => exact HC0.out); (case side3 => repeat (first | exact HR3.out | (with_reducible refine Kd.C_alloc ?_ _) | (with_reducible refine Kd.C_drewN ?_ _) | (with_reducible refine Kd.C_drew ?_))); (case side4 => exact HC3.out); rintro e w13 ⟨v838, rfl, ho0, hb⟩; refine ⟨_, rfl, ?_⟩; have n0_ := Aside0.mk (Kd.R_lower ho0 (below_size (by repeat (first | (with_reducible first | exact HB.out | apply below_alloc | apply pw_below_drewN | apply below_drew1) | exact HB.out)))); have n1_ := Aside0.mk (below_step (by repeat (first | (with_reducible first | exact HB.out | apply below_alloc | apply pw_below_drewN | apply below_drew1) | exact HB.out)) hb); clear HB; have HO839 := n0_; have HB := n1_; clear n0_ n1_; (try clear hb); (try clear hb2); (try clear hk); (try clear hi); (try clear ho0)) | ((with_reducible refine gate_callee (f := 51) rfl ?_); refine goesL_ (some 29) rfl rfl Try.func51 (by kernel_rfl) rfl #[.slice A0 l0.length c0, .string a1, .string a2, .slice A3 l3.length c3] rfl (by (try simp only [List.map_toArray, List.map_cons, List.map_nil]); first | done | rfl | (simp only [List.length_drop, List.length_take]; rfl)) ?_; (with_reducible refine (accountingref44_Eliminate.calls k _ _ l0 a1 a2 _ _ l3 t840 t841 _ ?side1 ?side2 ?side3 ?side4 A8.out).mono ?_); (case side1 => repeat (first | exact (Kd.C_below HR0.out HB.out) | exact (Kd.C_drewN (Kd.C_below HR0.out HB.out) _) | (with_reducible refine Kd.C_alloc ?_ _) | (with_reducible refine Kd.C_drewN ?_ _) | (with_reducible refine Kd.C_drew ?_))); (case side2 => exact HC0.out); (case side3 => repeat (first | exact (Kd.C_below HR3.out HB.out) | exact (Kd.C_drewN (Kd.C_below HR3.out HB.out) _) | (with_reducible refine Kd.C_alloc ?_ _) | (with_reducible refine Kd.C_drewN ?_ _) | (with_reducible refine Kd.C_drew ?_))); (case side4 => exact HC3.out); rintro e w14 ⟨v842, rfl, ho0, hb⟩; refine ⟨_, rfl, ?_⟩; have n0_ := Aside0.mk (Kd.R_elder' (by (with_reducible repeat (first | apply Kd.R_alloc | apply Kd.R_drewN | apply Kd.R_drew)); exact HO839.out) (Kd.R_base ho0) hb); have n1_ := Aside0.mk (Kd.R_lower (Kd.R_new' ho0 (Kd.R_lt (by (with_reducible repeat (first | apply Kd.R_alloc | apply Kd.R_drewN | apply Kd.R_drew)); exact HO839.out))) (below_size (by repeat (first | (with_reducible first | exact HB.out | apply below_alloc | apply pw_below_drewN | apply below_drew1) | exact HB.out)))); have n2_ := Aside0.mk (below_step (by repeat (first | (with_reducible first | exact HB.out | apply below_alloc | apply pw_below_drewN | apply below_drew1) | exact HB.out)) hb); clear HO839; clear HB; have HO839 := n0_; have HO843 := n1_; have HB := n2_; clear n0_ n1_ n2_; (try clear hb); (try clear hb2); (try clear hk); (try clear hi); (try clear ho0); obtain ⟨Ao15, co15, eo15⟩ := Kd.R_slice HO839.out; subst eo15; obtain ⟨Ao16, co16, eo16⟩ := Kd.R_slice HO843.out; subst eo16) | ((with_reducible refine gate_callee (f := 21) rfl ?_); refine goesL_ (some 34) rfl rfl Try.func21 (by kernel_rfl) rfl #[.slice Ao15 t836.length co15, .slice Ao16 t840.length co16] rfl (by (try simp only [List.map_toArray, List.map_cons, List.map_nil]); first | done | rfl | (simp only [List.length_drop, List.length_take]; rfl)) ?_; (with_reducible refine (accountingref19_Same.calls k _ _ t836 _ _ t840 true _ ?side1 ?side2 ?side3 ?side4 A9.out).mono ?_); (case side1 => repeat (first | exact (Kd.R_reads' HO839.out).2.2 | (with_reducible refine Kd.C_alloc ?_ _) | (with_reducible refine Kd.C_drewN ?_ _) | (with_reducible refine Kd.C_drew ?_))); (case side2 => exact (Kd.R_reads' HO839.out).2.1); (case side3 => repeat (first | exact (Kd.R_reads' HO843.out).2.2 | (with_reducible refine Kd.C_alloc ?_ _) | (with_reducible refine Kd.C_drewN ?_ _) | (with_reducible refine Kd.C_drew ?_))); (case side4 => exact (Kd.R_reads' HO843.out).2.1); rintro e w' ⟨rfl, ⟨nd, rfl⟩⟩; refine ⟨_, rfl, ?_⟩) | (go_at_call 46; (with_reducible refine (accountinglaw44_lives.calls k  t845 _ A12.out).mono ?_); rintro e w17 ⟨rfl, hb⟩; have n0_ := Aside0.mk (Kd.R_below (by (with_reducible repeat (first | apply Kd.R_alloc | apply Kd.R_drewN | apply Kd.R_drew)); exact HO839.out) hb); have n1_ := Aside0.mk (Kd.R_below (by (with_reducible repeat (first | apply Kd.R_alloc | apply Kd.R_drewN | apply Kd.R_drew)); exact HO843.out) hb); have n2_ := Aside0.mk (below_step (by repeat (first | (with_reducible first | exact HB.out | apply below_alloc | apply pw_below_drewN | apply below_drew1) | exact HB.out)) hb); clear HO839; clear HO843; clear HB; have HO839 := n0_; have HO843 := n1_; have HB := n2_; clear n0_ n1_ n2_; (try clear hb); (try clear hb2); (try clear hk); (try clear hi)))
    go_ret
    exact ⟨by first | rfl | (simp [errW_none, errW_some] <;> rfl) | (simp [*, errW_none, errW_some] <;> rfl), by repeat (first | (with_reducible first | exact HB.out | apply below_alloc | apply pw_below_drewN | apply below_drew1) | exact HB.out)⟩
   ·rw [if_neg c11] at H
    have c11b0 : (t837 == t841) = false := beq_eq_false_iff_ne.mpr c11
    have c11b1 : (t837 != t841) = true := bne_iff_ne.mpr c11
    obtain rfl := Option.some.inj H
    go_enter Try.func14, Try.ntmps14
    go_wp2_with (first | ((with_reducible refine gate_callee (f := 43) rfl ?_); refine goesL_ (some 15) rfl rfl Try.func43 (by kernel_rfl) rfl #[.slice A0 l0.length c0, .slice A3 l3.length c3] rfl (by (try simp only [List.map_toArray, List.map_cons, List.map_nil]); first | done | rfl | (simp only [List.length_drop, List.length_take]; rfl)) ?_; (with_reducible refine (accountinglaw44_large.calls _ _ l0 _ _ l3 false _ ?side1 ?side2 ?side3 ?side4 A5.out).mono ?_); (case side1 => repeat (first | exact HR0.out | (with_reducible refine Kd.C_alloc ?_ _) | (with_reducible refine Kd.C_drewN ?_ _) | (with_reducible refine Kd.C_drew ?_))); (case side2 => exact HC0.out); (case side3 => repeat (first | exact HR3.out | (with_reducible refine Kd.C_alloc ?_ _) | (with_reducible refine Kd.C_drewN ?_ _) | (with_reducible refine Kd.C_drew ?_))); (case side4 => exact HC3.out); rintro e w' ⟨rfl, ⟨nd, rfl⟩⟩; refine ⟨_, rfl, ?_⟩) | ((with_reducible refine gate_callee (f := 50) rfl ?_); refine goesL_ (some 21) rfl rfl Try.func50 (by kernel_rfl) rfl #[.slice A0 l0.length c0, .string a1, .string a2, .slice A3 l3.length c3] rfl (by (try simp only [List.map_toArray, List.map_cons, List.map_nil]); first | done | rfl | (simp only [List.length_drop, List.length_take]; rfl)) ?_; (with_reducible refine (interco_Eliminate.calls k _ _ l0 a1 a2 _ _ l3 t836 t837 _ ?side1 ?side2 ?side3 ?side4 A7.out).mono ?_); (case side1 => repeat (first | exact HR0.out | (with_reducible refine Kd.C_alloc ?_ _) | (with_reducible refine Kd.C_drewN ?_ _) | (with_reducible refine Kd.C_drew ?_))); (case side2 => exact HC0.out); (case side3 => repeat (first | exact HR3.out | (with_reducible refine Kd.C_alloc ?_ _) | (with_reducible refine Kd.C_drewN ?_ _) | (with_reducible refine Kd.C_drew ?_))); (case side4 => exact HC3.out); rintro e w18 ⟨v838, rfl, ho0, hb⟩; refine ⟨_, rfl, ?_⟩; have n0_ := Aside0.mk (Kd.R_lower ho0 (below_size (by repeat (first | (with_reducible first | exact HB.out | apply below_alloc | apply pw_below_drewN | apply below_drew1) | exact HB.out)))); have n1_ := Aside0.mk (below_step (by repeat (first | (with_reducible first | exact HB.out | apply below_alloc | apply pw_below_drewN | apply below_drew1) | exact HB.out)) hb); clear HB; have HO839 := n0_; have HB := n1_; clear n0_ n1_; (try clear hb); (try clear hb2); (try clear hk); (try clear hi); (try clear ho0)) | ((with_reducible refine gate_callee (f := 51) rfl ?_); refine goesL_ (some 29) rfl rfl Try.func51 (by kernel_rfl) rfl #[.slice A0 l0.length c0, .string a1, .string a2, .slice A3 l3.length c3] rfl (by (try simp only [List.map_toArray, List.map_cons, List.map_nil]); first | done | rfl | (simp only [List.length_drop, List.length_take]; rfl)) ?_; (with_reducible refine (accountingref44_Eliminate.calls k _ _ l0 a1 a2 _ _ l3 t840 t841 _ ?side1 ?side2 ?side3 ?side4 A8.out).mono ?_); (case side1 => repeat (first | exact (Kd.C_below HR0.out HB.out) | exact (Kd.C_drewN (Kd.C_below HR0.out HB.out) _) | (with_reducible refine Kd.C_alloc ?_ _) | (with_reducible refine Kd.C_drewN ?_ _) | (with_reducible refine Kd.C_drew ?_))); (case side2 => exact HC0.out); (case side3 => repeat (first | exact (Kd.C_below HR3.out HB.out) | exact (Kd.C_drewN (Kd.C_below HR3.out HB.out) _) | (with_reducible refine Kd.C_alloc ?_ _) | (with_reducible refine Kd.C_drewN ?_ _) | (with_reducible refine Kd.C_drew ?_))); (case side4 => exact HC3.out); rintro e w19 ⟨v842, rfl, ho0, hb⟩; refine ⟨_, rfl, ?_⟩; have n0_ := Aside0.mk (Kd.R_elder' (by (with_reducible repeat (first | apply Kd.R_alloc | apply Kd.R_drewN | apply Kd.R_drew)); exact HO839.out) (Kd.R_base ho0) hb); have n1_ := Aside0.mk (Kd.R_lower (Kd.R_new' ho0 (Kd.R_lt (by (with_reducible repeat (first | apply Kd.R_alloc | apply Kd.R_drewN | apply Kd.R_drew)); exact HO839.out))) (below_size (by repeat (first | (with_reducible first | exact HB.out | apply below_alloc | apply pw_below_drewN | apply below_drew1) | exact HB.out)))); have n2_ := Aside0.mk (below_step (by repeat (first | (with_reducible first | exact HB.out | apply below_alloc | apply pw_below_drewN | apply below_drew1) | exact HB.out)) hb); clear HO839; clear HB; have HO839 := n0_; have HO843 := n1_; have HB := n2_; clear n0_ n1_ n2_; (try clear hb); (try clear hb2); (try clear hk); (try clear hi); (try clear ho0); obtain ⟨Ao20, co20, eo20⟩ := Kd.R_slice HO839.out; subst eo20; obtain ⟨Ao21, co21, eo21⟩ := Kd.R_slice HO843.out; subst eo21) | ((with_reducible refine gate_callee (f := 21) rfl ?_); refine goesL_ (some 34) rfl rfl Try.func21 (by kernel_rfl) rfl #[.slice Ao20 t836.length co20, .slice Ao21 t840.length co21] rfl (by (try simp only [List.map_toArray, List.map_cons, List.map_nil]); first | done | rfl | (simp only [List.length_drop, List.length_take]; rfl)) ?_; (with_reducible refine (accountingref19_Same.calls k _ _ t836 _ _ t840 true _ ?side1 ?side2 ?side3 ?side4 A9.out).mono ?_); (case side1 => repeat (first | exact (Kd.R_reads' HO839.out).2.2 | (with_reducible refine Kd.C_alloc ?_ _) | (with_reducible refine Kd.C_drewN ?_ _) | (with_reducible refine Kd.C_drew ?_))); (case side2 => exact (Kd.R_reads' HO839.out).2.1); (case side3 => repeat (first | exact (Kd.R_reads' HO843.out).2.2 | (with_reducible refine Kd.C_alloc ?_ _) | (with_reducible refine Kd.C_drewN ?_ _) | (with_reducible refine Kd.C_drew ?_))); (case side4 => exact (Kd.R_reads' HO843.out).2.1); rintro e w' ⟨rfl, ⟨nd, rfl⟩⟩; refine ⟨_, rfl, ?_⟩))
    go_ret
    exact ⟨by first | rfl | (simp [errW_none, errW_some] <;> rfl) | (simp [*, errW_none, errW_some] <;> rfl), by repeat (first | (with_reducible first | exact HB.out | apply below_alloc | apply pw_below_drewN | apply below_drew1) | exact HB.out)⟩
  ·replace c10 := Bool.eq_false_iff.mpr c10
   subst c10
   have H1 : (some false) = some r := by rw [if_neg (show ¬ (false = true) by decide)] at H; exact H
   clear H
   have H := H1
   clear H1
   obtain rfl := Option.some.inj H
   go_enter Try.func14, Try.ntmps14
   go_wp2_with (first | ((with_reducible refine gate_callee (f := 43) rfl ?_); refine goesL_ (some 15) rfl rfl Try.func43 (by kernel_rfl) rfl #[.slice A0 l0.length c0, .slice A3 l3.length c3] rfl (by (try simp only [List.map_toArray, List.map_cons, List.map_nil]); first | done | rfl | (simp only [List.length_drop, List.length_take]; rfl)) ?_; (with_reducible refine (accountinglaw44_large.calls _ _ l0 _ _ l3 false _ ?side1 ?side2 ?side3 ?side4 A5.out).mono ?_); (case side1 => repeat (first | exact HR0.out | (with_reducible refine Kd.C_alloc ?_ _) | (with_reducible refine Kd.C_drewN ?_ _) | (with_reducible refine Kd.C_drew ?_))); (case side2 => exact HC0.out); (case side3 => repeat (first | exact HR3.out | (with_reducible refine Kd.C_alloc ?_ _) | (with_reducible refine Kd.C_drewN ?_ _) | (with_reducible refine Kd.C_drew ?_))); (case side4 => exact HC3.out); rintro e w' ⟨rfl, ⟨nd, rfl⟩⟩; refine ⟨_, rfl, ?_⟩) | ((with_reducible refine gate_callee (f := 50) rfl ?_); refine goesL_ (some 21) rfl rfl Try.func50 (by kernel_rfl) rfl #[.slice A0 l0.length c0, .string a1, .string a2, .slice A3 l3.length c3] rfl (by (try simp only [List.map_toArray, List.map_cons, List.map_nil]); first | done | rfl | (simp only [List.length_drop, List.length_take]; rfl)) ?_; (with_reducible refine (interco_Eliminate.calls k _ _ l0 a1 a2 _ _ l3 t836 t837 _ ?side1 ?side2 ?side3 ?side4 A7.out).mono ?_); (case side1 => repeat (first | exact HR0.out | (with_reducible refine Kd.C_alloc ?_ _) | (with_reducible refine Kd.C_drewN ?_ _) | (with_reducible refine Kd.C_drew ?_))); (case side2 => exact HC0.out); (case side3 => repeat (first | exact HR3.out | (with_reducible refine Kd.C_alloc ?_ _) | (with_reducible refine Kd.C_drewN ?_ _) | (with_reducible refine Kd.C_drew ?_))); (case side4 => exact HC3.out); rintro e w22 ⟨v838, rfl, ho0, hb⟩; refine ⟨_, rfl, ?_⟩; have n0_ := Aside0.mk (Kd.R_lower ho0 (below_size (by repeat (first | (with_reducible first | exact HB.out | apply below_alloc | apply pw_below_drewN | apply below_drew1) | exact HB.out)))); have n1_ := Aside0.mk (below_step (by repeat (first | (with_reducible first | exact HB.out | apply below_alloc | apply pw_below_drewN | apply below_drew1) | exact HB.out)) hb); clear HB; have HO839 := n0_; have HB := n1_; clear n0_ n1_; (try clear hb); (try clear hb2); (try clear hk); (try clear hi); (try clear ho0)) | ((with_reducible refine gate_callee (f := 51) rfl ?_); refine goesL_ (some 29) rfl rfl Try.func51 (by kernel_rfl) rfl #[.slice A0 l0.length c0, .string a1, .string a2, .slice A3 l3.length c3] rfl (by (try simp only [List.map_toArray, List.map_cons, List.map_nil]); first | done | rfl | (simp only [List.length_drop, List.length_take]; rfl)) ?_; (with_reducible refine (accountingref44_Eliminate.calls k _ _ l0 a1 a2 _ _ l3 t840 t841 _ ?side1 ?side2 ?side3 ?side4 A8.out).mono ?_); (case side1 => repeat (first | exact (Kd.C_below HR0.out HB.out) | exact (Kd.C_drewN (Kd.C_below HR0.out HB.out) _) | (with_reducible refine Kd.C_alloc ?_ _) | (with_reducible refine Kd.C_drewN ?_ _) | (with_reducible refine Kd.C_drew ?_))); (case side2 => exact HC0.out); (case side3 => repeat (first | exact (Kd.C_below HR3.out HB.out) | exact (Kd.C_drewN (Kd.C_below HR3.out HB.out) _) | (with_reducible refine Kd.C_alloc ?_ _) | (with_reducible refine Kd.C_drewN ?_ _) | (with_reducible refine Kd.C_drew ?_))); (case side4 => exact HC3.out); rintro e w23 ⟨v842, rfl, ho0, hb⟩; refine ⟨_, rfl, ?_⟩; have n0_ := Aside0.mk (Kd.R_elder' (by (with_reducible repeat (first | apply Kd.R_alloc | apply Kd.R_drewN | apply Kd.R_drew)); exact HO839.out) (Kd.R_base ho0) hb); have n1_ := Aside0.mk (Kd.R_lower (Kd.R_new' ho0 (Kd.R_lt (by (with_reducible repeat (first | apply Kd.R_alloc | apply Kd.R_drewN | apply Kd.R_drew)); exact HO839.out))) (below_size (by repeat (first | (with_reducible first | exact HB.out | apply below_alloc | apply pw_below_drewN | apply below_drew1) | exact HB.out)))); have n2_ := Aside0.mk (below_step (by repeat (first | (with_reducible first | exact HB.out | apply below_alloc | apply pw_below_drewN | apply below_drew1) | exact HB.out)) hb); clear HO839; clear HB; have HO839 := n0_; have HO843 := n1_; have HB := n2_; clear n0_ n1_ n2_; (try clear hb); (try clear hb2); (try clear hk); (try clear hi); (try clear ho0); obtain ⟨Ao24, co24, eo24⟩ := Kd.R_slice HO839.out; subst eo24; obtain ⟨Ao25, co25, eo25⟩ := Kd.R_slice HO843.out; subst eo25) | ((with_reducible refine gate_callee (f := 21) rfl ?_); refine goesL_ (some 34) rfl rfl Try.func21 (by kernel_rfl) rfl #[.slice Ao24 t836.length co24, .slice Ao25 t840.length co25] rfl (by (try simp only [List.map_toArray, List.map_cons, List.map_nil]); first | done | rfl | (simp only [List.length_drop, List.length_take]; rfl)) ?_; (with_reducible refine (accountingref19_Same.calls k _ _ t836 _ _ t840 false _ ?side1 ?side2 ?side3 ?side4 A9.out).mono ?_); (case side1 => repeat (first | exact (Kd.R_reads' HO839.out).2.2 | (with_reducible refine Kd.C_alloc ?_ _) | (with_reducible refine Kd.C_drewN ?_ _) | (with_reducible refine Kd.C_drew ?_))); (case side2 => exact (Kd.R_reads' HO839.out).2.1); (case side3 => repeat (first | exact (Kd.R_reads' HO843.out).2.2 | (with_reducible refine Kd.C_alloc ?_ _) | (with_reducible refine Kd.C_drewN ?_ _) | (with_reducible refine Kd.C_drew ?_))); (case side4 => exact (Kd.R_reads' HO843.out).2.1); rintro e w' ⟨rfl, ⟨nd, rfl⟩⟩; refine ⟨_, rfl, ?_⟩))
   go_ret
   exact ⟨by first | rfl | (simp [errW_none, errW_some] <;> rfl) | (simp [*, errW_none, errW_some] <;> rfl), by repeat (first | (with_reducible first | exact HB.out | apply below_alloc | apply pw_below_drewN | apply below_drew1) | exact HB.out)⟩
end Go.Proofs.Ytmflggbpiadkjaa.P
namespace Go.Proofs.Ytmflggbpiadkjaa.P
open Go.RowKit Go.Proofs.YtmflggbpiadkjaaW.PrintWords Go.Proofs.YtmflggbpiadkjaaW.PrintLast
open Go.Proofs.Ytmflggbpiadkjaa.Op
def accountinglaw44_IntercoEliminates.Pure : Prop := ∀ (l0 : List (S34)) (a1 : ByteArray) (a2 : ByteArray) (l3 : List ByteArray), (FitL fit34) l0 → (fun s => s.size ≤ maxLen) a1 → (fun s => s.size ≤ maxLen) a2 → (FitL (fun s => s.size ≤ maxLen)) l3 → ∃ k, accountinglaw44_IntercoEliminates.f k l0 a1 a2 l3 = some true
end Go.Proofs.Ytmflggbpiadkjaa.P
namespace Go.Proofs.Ytmflggbpiadkjaa.P
open Go.RowKit Go.Sort Go.Proofs.YtmflggbpiadkjaaW.PrintWords Go.Proofs.YtmflggbpiadkjaaW.PrintLast Go.Proofs.Ytmflggbpiadkjaa.Op
set_option linter.unusedVariables false
set_option linter.unusedSimpArgs false
def inK (m : List ByteArray) (l : List S34) : List S34 := l.filter (fun c => insB m c.f0)
def outK (m : List ByteArray) (l : List S34) : List S34 := l.filter (fun c => !insB m c.f0)
theorem in_take (m : List ByteArray) (l : List S34) {i : Nat} (h : i < l.length) : inK m (l.take (i + 1)) = if insB m l[i].f0 = true then inK m (l.take i) ++ [l[i]] else inK m (l.take i) := by
  unfold inK
  rw [List.take_add_one, List.getElem?_eq_getElem h, List.filter_append]
  show _ ++ List.filter _ [l[i]] = _
  by_cases c : insB m l[i].f0 = true
  · rw [if_pos c, List.filter_cons_of_pos (by exact c)]; rfl
  · rw [if_neg c, List.filter_cons_of_neg (by exact c)]; simp
theorem out_take (m : List ByteArray) (l : List S34) {i : Nat} (h : i < l.length) : outK m (l.take (i + 1)) = if insB m l[i].f0 = true then outK m (l.take i) else outK m (l.take i) ++ [l[i]] := by
  unfold outK
  rw [List.take_add_one, List.getElem?_eq_getElem h, List.filter_append]
  show _ ++ List.filter _ [l[i]] = _
  by_cases c : insB m l[i].f0 = true
  · rw [if_pos c, List.filter_cons_of_neg (by simp [c])]; simp
  · rw [if_neg c, List.filter_cons_of_pos (by simp [c])]; rfl
theorem in_le (m : List ByteArray) (l : List S34) : (inK m l).length ≤ l.length := List.length_filter_le _ _
theorem out_le (m : List ByteArray) (l : List S34) : (outK m l).length ≤ l.length := List.length_filter_le _ _
theorem mk34I (x : S34) : (⟨⟨x.f0.f0, x.f0.f1, x.f0.f2, x.f0.f3, x.f0.f4⟩, x.f1, x.f2⟩ : S34) = x := rfl
theorem inside_pure (m : List ByteArray) (x : S32) : interco_inside.f m x.f0 x.f1 x.f2 x.f3 x.f4 = some (insB m x) := rfl
theorem inside_l0 (m : List ByteArray) (l : List S34) (hl : l.length ≤ 1000000) : ∀ (n i : Nat), l.length - i = n → i ≤ l.length → Ev (fun k => interco_Inside.l0 k (inK m (l.take i)) (outK m (l.take i)) l (l.length : Int) (i : Int) m) (inK m l, outK m l) := by
  intro n
  induction n with
  | zero =>
    intro i hn hi
    refine Ev.step (fun k => interco_Inside.l0.eq_2 _ _ _ _ _ _ k) ?_
    rw [List.take_of_length_le (by omega)]
    simp only [if_neg (show ¬ ((i : Int) < (l.length : Int)) by omega)]
    exact Ev.now _
  | succ n ih =>
    intro i hn hi
    have hil : i < l.length := by omega
    have hw : wrap64 ((i : Int) + 1) = ((i + 1 : Nat) : Int) := by rw [w64 (by omega) (by omega)]; omega
    have h1 := in_le m (l.take i)
    have h2 := out_le m (l.take i)
    rw [List.length_take] at h1 h2
    have ih := ih (i + 1) (by omega) (by omega)
    rw [in_take m l hil, out_take m l hil] at ih
    refine Ev.step (fun k => interco_Inside.l0.eq_2 _ _ _ _ _ _ k) ?_
    simp only [if_pos (show ((i : Int) < (l.length : Int)) by omega), if_pos (show (0 : Int) ≤ (i : Int) by omega), hw, rd34_at hil, inside_pure, Option.bind_some, if_pos (show (inK m (l.take i)).length < 1466015503701 by omega), if_pos (show (outK m (l.take i)).length < 1466015503701 by omega), mk34I]
    by_cases c : insB m l[i].f0 = true
    · rw [if_pos c, if_pos c] at ih
      simp only [if_pos c]; exact ih
    · rw [if_neg c, if_neg c] at ih
      simp only [if_neg c]; exact ih
theorem inside_ev (m : List ByteArray) (l : List S34) (hl : l.length ≤ 1000000) (h : FitM l m) : Ev (fun k => interco_Inside.f k l m) (inK m l, outK m l) := by
  unfold interco_Inside.f
  simp only [if_pos h]
  exact inside_l0 m l hl _ 0 rfl (Nat.zero_le _)
theorem rdB_at {m : List ByteArray} {i : Nat} (h : i < m.length) : rdOf ByteArray.empty m (i : Int) = m[i] := by simp [rdOf, h]
theorem fitM_of {l : List S34} {m : List ByteArray} (h : (FitL fit34) l) (hm : (FitL (fun s : ByteArray => s.size ≤ maxLen)) m) (hml : m.length ≤ 1000000) : FitM l m :=
  ⟨hml, hm.2, fun c hc => ⟨(h.2 c hc).1.1, (h.2 c hc).1.2.2.2.1⟩⟩
def putP (x : S89) : List S89 → List S89
  | [] => [x]
  | y :: r => if cmpK (pk y) (pk x) < 0 then y :: putP x r else if cmpK (pk y) (pk x) = 0 then ⟨y.f0, y.f1, y.f2 + x.f2⟩ :: r else x :: y :: r
theorem putP_at (x : S89) : ∀ (P : List S89) (i : Nat), i ≤ P.length → (∀ q (h : q < P.length), q < i → cmpK (pk P[q]) (pk x) < 0) → (∀ h : i < P.length, ¬ cmpK (pk P[i]) (pk x) < 0) →
    putP x P = if h : i < P.length then (if cmpK (pk P[i]) (pk x) = 0 then P.set i ⟨P[i].f0, P[i].f1, P[i].f2 + x.f2⟩ else P.take i ++ [x] ++ P.drop i) else P.take i ++ [x] ++ P.drop i
  | [], i, hi, _, _ => by
    have : i = 0 := by simpa using hi
    subst this
    rw [dif_neg (by simp)]
    rfl
  | y :: r, 0, hi, h1, h2 => by
    have h0 := h2 (by simp)
    rw [dif_pos (by simp)]
    unfold putP
    simp only [List.getElem_cons_zero] at h0 ⊢
    rw [if_neg h0]
    rfl
  | y :: r, i + 1, hi, h1, h2 => by
    have h0 := h1 0 (by simp) (by omega)
    simp only [List.getElem_cons_zero] at h0
    unfold putP
    rw [if_pos h0, putP_at x r i (by simpa using hi) (fun q hq hqi => by
      have := h1 (q + 1) (by simp; omega) (by omega)
      simpa using this) (fun h => by
      have := h2 (by simp; omega)
      simpa using this)]
    by_cases hlt : i < r.length
    · rw [dif_pos hlt, dif_pos (show i + 1 < (y :: r).length by simp; omega)]
      simp only [List.getElem_cons_succ]
      by_cases c : cmpK (pk r[i]) (pk x) = 0
      · rw [if_pos c, if_pos c]; rfl
      · rw [if_neg c, if_neg c]; rfl
    · rw [dif_neg hlt, dif_neg (show ¬ i + 1 < (y :: r).length by simp; omega)]
      rfl
theorem less_iff (a b : ByteArray) : Op.bytesLess a.toList b.toList = true ↔ cmpB a b < 0 := by
  rw [cmpB_less]
  by_cases h : Op.bytesLess a.toList b.toList = true
  · rw [if_pos h]; simp [h]
  · rw [if_neg h]
    by_cases h2 : Op.bytesLess b.toList a.toList = true
    · rw [if_pos h2]; simp [h]
    · rw [if_neg h2]; simp [h]
theorem ba_eq (a b : ByteArray) : a.toList = b.toList ↔ cmpB a b = 0 := by
  constructor
  · intro h
    have e : a = b := ByteArray.ext (Array.ext' (by rw [← ByteArray.toList_eq a, ← ByteArray.toList_eq b]; exact h))
    rw [e]; exact cmp3_B.refl b
  · intro h; rw [cmpB_zero h]
def mkP (f : S32 → Int) (k : S32) : S89 := ⟨k.f0, k.f1, f k⟩
def prsOf (l : List S34) : List S89 := (keysK (l.map ck)).map (mkP (sumB (l.map ck)))
theorem put_map (k : K2) (n : Int) (f f' : S32 → Int) (hf : ∀ s, f' s = f s + if isK s (k2S k) = true then n else 0) : ∀ (ks : List S32), SS ks → (∀ s ∈ ks, ∃ q, s = k2S q) → (k2S k ∉ ks → f (k2S k) = 0) → putP ⟨k.1, k.2, n⟩ (ks.map (mkP f)) = (insK (k2S k) ks).map (mkP f')
  | [], _, _, h0 => by
    have e : f' (k2S k) = n := by rw [hf, if_pos (isK_iff.2 rfl), h0 (by simp)]; omega
    show [(⟨k.1, k.2, n⟩ : S89)] = [mkP f' (k2S k)]
    unfold mkP
    rw [e]; rfl
  | h :: t, hs, hq, h0 => by
    have hs' := List.pairwise_cons.1 hs
    obtain ⟨hk, rfl⟩ := hq h (by simp)
    have epk : pk (mkP f (k2S hk)) = k2S hk := rfl
    have exk : pk (⟨k.1, k.2, n⟩ : S89) = k2S k := rfl
    have sw := cmp3_K.sw (k2S hk) (k2S k)
    have same : ∀ s, s ≠ k2S k → mkP f s = mkP f' s := fun s hne => by
      unfold mkP
      rw [hf, if_neg (fun e => hne (isK_iff.1 e)), Int.add_zero]
    rw [List.map_cons]
    unfold putP insK
    rw [epk, exk]
    by_cases c1 : cmpK (k2S hk) (k2S k) < 0
    · rw [if_pos c1, if_neg (show ¬ cmpK (k2S k) (k2S hk) < 0 by omega), if_neg (show ¬ cmpK (k2S k) (k2S hk) = 0 by omega), List.map_cons, put_map k n f f' hf t hs'.2 (fun s hs => hq s (by simp [hs])) (fun hn => h0 (fun hm => by
        rcases List.mem_cons.1 hm with e | e
        · rw [e, cmpK_self] at c1; omega
        · exact hn e)), same (k2S hk) (fun e => by rw [e, cmpK_self] at c1; omega)]
    · rw [if_neg c1]
      by_cases c2 : cmpK (k2S hk) (k2S k) = 0
      · have e := cmpK_zero c2
        rw [if_pos c2, if_neg (show ¬ cmpK (k2S k) (k2S hk) < 0 by omega), if_pos (show cmpK (k2S k) (k2S hk) = 0 by omega), List.map_cons]
        congr 1
        · unfold mkP
          rw [hf, if_pos (isK_iff.2 e)]
        · exact List.map_congr_left (fun s hs => same s (fun e2 => by
            have := hs'.1 s hs
            rw [e2, e, cmpK_self] at this
            omega))
      · rw [if_neg c2, if_pos (show cmpK (k2S k) (k2S hk) < 0 by omega), List.map_cons, List.map_cons]
        have hlt : cmpK (k2S k) (k2S hk) < 0 := by omega
        have hnot : ∀ s ∈ k2S hk :: t, s ≠ k2S k := fun s hs e => by
          rcases List.mem_cons.1 hs with e2 | e2
          · rw [← e2, e, cmpK_self] at hlt; omega
          · have := cmpK_trans hlt (hs'.1 s e2)
            rw [e, cmpK_self] at this
            omega
        congr 1
        · unfold mkP
          rw [hf, if_pos (isK_iff.2 rfl), h0 (fun hm => hnot _ hm rfl), Int.zero_add]
          rfl
        · congr 1
          · exact same _ (hnot _ (by simp))
          · exact List.map_congr_left (fun s hs => same s (hnot s (by simp [hs])))
theorem prs_step (l : List S34) (c : S34) : putP ⟨(cpl c).1, (cpl c).2, c.f2⟩ (prsOf l) = prsOf (l ++ [c]) := by
  unfold prsOf
  have hf : ∀ s, sumB ((l ++ [c]).map ck) s = sumB (l.map ck) s + if isK s (k2S (cpl c)) = true then c.f2 else 0 := fun s => by
    rw [List.map_append, sumB_ps, psB_append, sumB_ps]
    show _ + psB (isK s) [ck c] = _
    rw [psB_cons, psB_nil, Int.add_zero]
    rfl
  rw [put_map (cpl c) c.f2 (sumB (l.map ck)) (sumB ((l ++ [c]).map ck)) hf _ (ss_keysK _) (fun s hs => by
    obtain ⟨x, hx, rfl⟩ := (mem_keysK s _).1 hs
    obtain ⟨y, hy, rfl⟩ := List.mem_map.1 hx
    exact ⟨cpl y, rfl⟩) sumB_none]
  congr 1
  have hp : keysK ((l ++ [c]).map ck) = keysK (ck c :: l.map ck) := keysK_perm (by rw [List.map_append]; exact List.perm_append_comm)
  rw [hp]
  rfl
theorem prs_len (l : List S34) : (prsOf l).length ≤ l.length := by
  unfold prsOf
  rw [List.length_map]
  have := keysK_le (l.map ck)
  rw [List.length_map] at this
  exact this
theorem ps_bound (P : S32 → Bool) : ∀ (l : List S34), (∀ c ∈ l, -1000000000000000 ≤ c.f2 ∧ c.f2 ≤ 1000000000000000) → -(1000000000000000 * (l.length : Int)) ≤ psB P l ∧ psB P l ≤ 1000000000000000 * (l.length : Int)
  | [], _ => by simp [psB_nil]
  | c :: r, h => by
    have ih := ps_bound P r (fun x hx => h x (by simp [hx]))
    have hc := h c (by simp)
    rw [psB_cons]
    simp only [List.length_cons]
    push_cast
    split <;> omega
theorem prs_bound (l : List S34) (hl : l.length ≤ 1000) (hb : ∀ c ∈ l, -1000000000000000 ≤ c.f2 ∧ c.f2 ≤ 1000000000000000) : ∀ p ∈ prsOf l, -1000000000000000000 ≤ p.f2 ∧ p.f2 ≤ 1000000000000000000 := by
  intro p hp
  obtain ⟨k, _, rfl⟩ := List.mem_map.1 hp
  have := ps_bound (isK k) (l.map ck) (fun c hc => by
    obtain ⟨x, hx, rfl⟩ := List.mem_map.1 hc
    exact hb x hx)
  rw [List.length_map] at this
  show -1000000000000000000 ≤ sumB (l.map ck) k ∧ sumB (l.map ck) k ≤ 1000000000000000000
  rw [sumB_ps]
  omega
theorem prK_prs (l : List S34) : prK l = if (prsOf l).all (fun p => fitB p.f2) = true then (prsOf l, 0) else ([], 4) := by
  unfold prK prsOf
  rw [List.all_map]
  rfl
def pairsK (m : List ByteArray) (l : List S34) : List S89 × Int := if rightB l = true then prK (inK m l) else ([], 2)
theorem bnd_in {m : List ByteArray} {l : List S34} (h : RightL l) : ∀ c ∈ inK m l, -1000000000000000 ≤ c.f2 ∧ c.f2 ≤ 1000000000000000 := by
  intro c hc
  have h1 := (bad_iff c).1 (h.1 c (List.mem_filter.1 hc).1)
  have h3 := h1.2.2
  unfold fitB at h3
  rw [Bool.and_eq_true, decide_eq_true_iff, decide_eq_true_iff] at h3
  exact h3
theorem fitP_in {m : List ByteArray} {l : List S34} (h : RightL l) (hl : l.length ≤ 1000) (hm : FitM l m) : FitP (inK m l) :=
  ⟨by have := in_le m l; omega, fun c hc => by have := bnd_in h c hc; unfold i64ok; omega, fun c hc => hm.2.2 c (List.mem_filter.1 hc).1⟩
def negI (c : S34) : S34 := ⟨c.f0, -c.f1, -c.f2⟩
def pcI (cur diff : ByteArray) (p : S89) : S34 := ⟨⟨p.f0, diff, cur, ⟨#[]⟩, ⟨#[]⟩⟩, p.f2, p.f2⟩
def nzP (p : S89) : Bool := decide (p.f2 ≠ 0)
def elCells (cur diff : ByteArray) (i : List S34) (p : List S89) : List S34 := i.map negI ++ p.map (pcI cur diff)
def codeB (s : ByteArray) : Bool := decide (0 < s.size) && (decide (s.size ≤ 12) && allFrom isCodeByte s 0)
def elimK (cur diff : ByteArray) (m : List ByteArray) (l : List S34) : List S34 × Int :=
  if rightB l = true then (if monB cur = true then (if codeB diff = true then (if (prK (inK m l)).2 = 0 then ofK (elCells cur diff (inK m l) (prK (inK m l)).1) else ([], (prK (inK m l)).2)) else ([], 7)) else ([], 13)) else ([], 2)
theorem nz_cells (cur diff : ByteArray) (i : List S34) (p : List S89) : ofK (elCells cur diff i (p.filter nzP)) = ofK (elCells cur diff i p) := by
  have h : ∀ (P : S32 → Bool) (p : List S89), psA P ((p.filter nzP).map (pcI cur diff)) = psA P (p.map (pcI cur diff)) ∧ psB P ((p.filter nzP).map (pcI cur diff)) = psB P (p.map (pcI cur diff)) := by
    intro P p
    induction p with
    | nil => exact ⟨rfl, rfl⟩
    | cons x r ih =>
      by_cases c : nzP x = true
      · rw [List.filter_cons_of_pos c, List.map_cons, List.map_cons, psA_cons, psB_cons, psA_cons, psB_cons, ih.1, ih.2]
        exact ⟨rfl, rfl⟩
      · rw [List.filter_cons_of_neg c, List.map_cons, psA_cons, psB_cons, ih.1, ih.2]
        have e : x.f2 = 0 := by
          unfold nzP at c
          rw [decide_eq_true_iff] at c
          omega
        show _ = (if _ then x.f2 else 0) + _ ∧ _ = (if _ then x.f2 else 0) + _
        rw [e]
        constructor <;> (split <;> omega)
  refine ofK_congr (fun k => ?_)
  unfold elCells
  rw [sumA_ps, sumB_ps, sumA_ps, sumB_ps, psA_append, psB_append, psA_append, psB_append, (h _ p).1, (h _ p).2]
  exact ⟨rfl, rfl⟩
theorem prK_fit {l : List S34} (h : (prK l).2 = 0) : ∀ p ∈ (prK l).1, fitB p.f2 = true := by
  rw [prK_prs] at h ⊢
  by_cases c : (prsOf l).all (fun p => fitB p.f2) = true
  · rw [if_pos c]
    exact fun p hp => List.all_eq_true.1 c p hp
  · rw [if_neg c] at h; cases h
theorem okS_cells {cur diff : ByteArray} {m : List ByteArray} {l : List S34} (h : RightL l) (hl : l.length ≤ 1000) {p : List S89} (hp : ∀ x ∈ p, fitB x.f2 = true) (hpl : p.length ≤ 1000) : OkS (elCells cur diff (inK m l) p) := by
  refine ⟨?_, fun x hx => ?_⟩
  · unfold elCells
    rw [List.length_append, List.length_map, List.length_map]
    have := in_le m l
    omega
  · rcases List.mem_append.1 hx with hx | hx
    · obtain ⟨c, hc, rfl⟩ := List.mem_map.1 hx
      have h1 := (bad_iff c).1 (h.1 c (List.mem_filter.1 hc).1)
      have h2 := h1.2.1
      have h3 := h1.2.2
      unfold fitB at h2 h3
      rw [Bool.and_eq_true, decide_eq_true_iff, decide_eq_true_iff] at h2 h3
      show i64ok (-c.f1) ∧ i64ok (-c.f2)
      unfold i64ok
      omega
    · obtain ⟨q, hq, rfl⟩ := List.mem_map.1 hx
      have h3 := fit_i64 (hp q hq)
      exact ⟨h3, h3⟩
theorem el_l1 (cur diff : ByteArray) (p : List S89) (i : List S34) (hp : p.length ≤ 1000000) (hi : i.length ≤ 1000000) (hok : OkS (elCells cur diff i (p.filter nzP))) : ∀ (n j : Nat), p.length - j = n → j ≤ p.length → Ev (fun k => interco_Eliminate.l1 k cur diff (elCells cur diff i ((p.take j).filter nzP)) p (p.length : Int) (j : Int)) (ofK (elCells cur diff i p)) := by
  intro n
  induction n with
  | zero =>
    intro j hn hj
    refine Ev.step (fun k => interco_Eliminate.l1.eq_2 _ _ _ _ _ _ k) ?_
    rw [List.take_of_length_le (by omega)]
    unfold sheet_Of.f
    simp only [if_neg (show ¬ ((j : Int) < (p.length : Int)) by omega), if_pos hok, Option.bind_some, nz_cells]
    exact Ev.now _
  | succ n ih =>
    intro j hn hj
    have hjl : j < p.length := by omega
    have hw : wrap64 ((j : Int) + 1) = ((j + 1 : Nat) : Int) := by rw [w64 (by omega) (by omega)]; omega
    have ih := ih (j + 1) (by omega) (by omega)
    have ht : (p.take (j + 1)).filter nzP = (p.take j).filter nzP ++ [p[j]].filter nzP := by rw [List.take_add_one, List.getElem?_eq_getElem hjl, List.filter_append]; rfl
    rw [ht] at ih
    have hlen : (elCells cur diff i ((p.take j).filter nzP)).length < 1466015503701 := by
      unfold elCells
      rw [List.length_append, List.length_map, List.length_map]
      have := List.length_filter_le nzP (p.take j)
      rw [List.length_take] at this
      omega
    refine Ev.step (fun k => interco_Eliminate.l1.eq_2 _ _ _ _ _ _ k) ?_
    simp only [if_pos (show ((j : Int) < (p.length : Int)) by omega), if_pos (show (0 : Int) ≤ (j : Int) by omega), hw, rd89_at hjl, if_pos hlen]
    by_cases c : p[j].f2 = 0
    · rw [List.filter_cons_of_neg (by unfold nzP; rw [decide_eq_true_iff]; exact fun h => h c), List.filter_nil, List.append_nil] at ih
      simp only [if_pos c]
      exact ih
    · rw [List.filter_cons_of_pos (by unfold nzP; exact decide_eq_true c), List.filter_nil] at ih
      simp only [if_neg c]
      have e : elCells cur diff i ((p.take j).filter nzP ++ [p[j]]) = elCells cur diff i ((p.take j).filter nzP) ++ [pcI cur diff p[j]] := by
        unfold elCells
        rw [List.map_append, List.append_assoc]
        rfl
      rw [e] at ih
      exact ih
theorem el_l0 (cur diff : ByteArray) (p : List S89) (i : List S34) (hp : p.length ≤ 1000000) (hi : i.length ≤ 1000000) (hb : ∀ c ∈ i, -1000000000000000 ≤ c.f1 ∧ c.f1 ≤ 1000000000000000 ∧ -1000000000000000 ≤ c.f2 ∧ c.f2 ≤ 1000000000000000) (hok : OkS (elCells cur diff i (p.filter nzP))) : ∀ (n j : Nat), i.length - j = n → j ≤ i.length → Ev (fun k => interco_Eliminate.l0 k cur diff p ((i.take j).map negI) i (i.length : Int) (j : Int)) (ofK (elCells cur diff i p)) := by
  intro n
  induction n with
  | zero =>
    intro j hn hj
    refine Ev.step (fun k => interco_Eliminate.l0.eq_2 _ _ _ _ _ _ _ k) ?_
    rw [List.take_of_length_le (by omega)]
    simp only [if_neg (show ¬ ((j : Int) < (i.length : Int)) by omega)]
    have h := el_l1 cur diff p i hp hi hok _ 0 rfl (Nat.zero_le _)
    have e : elCells cur diff i ((p.take 0).filter nzP) = i.map negI := by unfold elCells; simp
    rw [e] at h
    exact h
  | succ n ih =>
    intro j hn hj
    have hjl : j < i.length := by omega
    have hw : wrap64 ((j : Int) + 1) = ((j + 1 : Nat) : Int) := by rw [w64 (by omega) (by omega)]; omega
    have hc := hb _ (List.getElem_mem hjl)
    have hw1 : wrap64 (-i[j].f1) = -i[j].f1 := w64 (by omega) (by omega)
    have hw2 : wrap64 (-i[j].f2) = -i[j].f2 := w64 (by omega) (by omega)
    have e : (⟨⟨i[j].f0.f0, i[j].f0.f1, i[j].f0.f2, i[j].f0.f3, i[j].f0.f4⟩, -i[j].f1, -i[j].f2⟩ : S34) = negI i[j] := rfl
    have ht : (i.take j).map negI ++ [negI i[j]] = (i.take (j + 1)).map negI := by
      rw [List.take_add_one, List.getElem?_eq_getElem hjl, List.map_append]; rfl
    refine Ev.step (fun k => interco_Eliminate.l0.eq_2 _ _ _ _ _ _ _ k) ?_
    simp only [if_pos (show ((j : Int) < (i.length : Int)) by omega), if_pos (show (0 : Int) ≤ (j : Int) by omega), hw, rd34_at hjl, if_pos (show ((i.take j).map negI).length < 1466015503701 by rw [List.length_map, List.length_take]; omega), hw1, hw2, e, ht]
    exact ih (j + 1) (by omega) (by omega)
theorem bnd_in2 {m : List ByteArray} {l : List S34} (h : RightL l) : ∀ c ∈ inK m l, -1000000000000000 ≤ c.f1 ∧ c.f1 ≤ 1000000000000000 ∧ -1000000000000000 ≤ c.f2 ∧ c.f2 ≤ 1000000000000000 := by
  intro c hc
  have h1 := (bad_iff c).1 (h.1 c (List.mem_filter.1 hc).1)
  have h2 := h1.2.1
  have h3 := h1.2.2
  unfold fitB at h2 h3
  rw [Bool.and_eq_true, decide_eq_true_iff, decide_eq_true_iff] at h2 h3
  omega
theorem elim_ev (cur diff : ByteArray) (m : List ByteArray) (l : List S34) (hl : l.length ≤ 1000) (hm : FitM l m) (hc : cur.size ≤ maxLen) : Ev (fun k => interco_Eliminate.f k l cur diff m) (elimK cur diff m l) := by
  unfold interco_Eliminate.f sheet_Right.f elimK money_Code.f words_Code.f
  simp only [Option.bind_some, if_pos hc]
  by_cases hr : rightB l = true
  · simp only [if_pos hr]
    by_cases hmn : monB cur = true
    · simp only [if_pos hmn]
      have e : (decide (0 < diff.size) && (decide (diff.size ≤ 12) && allFrom isCodeByte diff 0)) = codeB diff := rfl
      simp only [e]
      by_cases hcd : codeB diff = true
      · simp only [if_pos hcd]
        have hR := (right_iff l).1 hr
        refine Ev.bind (inside_ev m l (by omega) hm) ?_
        unfold interco_pairs.f
        simp only [if_pos (fitP_in hR hl hm), Option.bind_some]
        by_cases h0 : (prK (inK m l)).2 = 0
        · simp only [if_pos h0]
          have h1 := in_le m l
          have h2 := prK_len (inK m l)
          exact el_l0 cur diff (prK (inK m l)).1 (inK m l) (by omega) (by omega) (bnd_in2 hR) (okS_cells hR hl (fun x hx => prK_fit h0 x (List.mem_filter.1 hx).1) (by have := List.length_filter_le nzP (prK (inK m l)).1; omega)) _ 0 rfl (Nat.zero_le _)
        · simp only [if_neg h0]; exact Ev.now _
      · simp only [if_neg hcd]; exact Ev.now _
    · simp only [if_neg hmn]; exact Ev.now _
  · simp only [if_neg hr]; exact Ev.now _
theorem elimK_len (cur diff : ByteArray) (m : List ByteArray) (l : List S34) (hl : l.length ≤ 1000) : (elimK cur diff m l).1.length ≤ 2000 := by
  unfold elimK
  repeat' split
  any_goals exact Nat.zero_le _
  refine Nat.le_trans (ofK_le _) ?_
  unfold elCells
  rw [List.length_append, List.length_map, List.length_map]
  have h1 := in_le m l
  have h2 := prK_len (inK m l)
  omega
theorem member_l0 (m : List ByteArray) (s : ByteArray) (hm : m.length ≤ 1000000) : ∀ (n i : Nat), m.length - i = n → i ≤ m.length → Ev (fun k => accountingref44_member.l0 k m s (i : Int)) (hasB (m.drop i) s) := by
  intro n
  induction n with
  | zero =>
    intro i hn hi
    refine Ev.step (fun k => accountingref44_member.l0.eq_2 _ _ _ k) ?_
    rw [List.drop_of_length_le (by omega)]
    simp only [if_neg (show ¬ ((i : Int) < (m.length : Int)) by omega)]
    exact Ev.now _
  | succ n ih =>
    intro i hn hi
    have hil : i < m.length := by omega
    have hw : wrap64 ((i : Int) + 1) = ((i + 1 : Nat) : Int) := by rw [w64 (by omega) (by omega)]; omega
    refine Ev.step (fun k => accountingref44_member.l0.eq_2 _ _ _ k) ?_
    simp only [if_pos (show ((i : Int) < (m.length : Int)) by omega), if_pos (show (0 : Int) ≤ (i : Int) by omega), hw, rdB_at hil]
    have e : hasB (m.drop i) s = (m[i].toList == s.toList || hasB (m.drop (i + 1)) s) := by
      rw [List.drop_eq_getElem_cons hil]; rfl
    rw [e]
    by_cases c : m[i].toList = s.toList
    · simp only [if_pos c, beq_iff_eq.2 c, Bool.true_or]; exact Ev.now _
    · simp only [if_neg c, beq_eq_false_iff_ne.2 c, Bool.false_or]
      exact ih (i + 1) (by omega) (by omega)
theorem member_ev (m : List ByteArray) (s : ByteArray) (hm : m.length ≤ 1000000) : Ev (fun k => accountingref44_member.f k m s) (hasB m s) := member_l0 m s hm _ 0 rfl (Nat.zero_le _)
theorem is_ev (m : List ByteArray) (c : S34) (hm : m.length ≤ 1000000) : Ev (fun k => accountingref44_Is.f k c.f0.f0 c.f0.f1 c.f0.f2 c.f0.f3 c.f0.f4 c.f1 c.f2 m) (insB m c.f0) := by
  unfold accountingref44_Is.f insB
  refine Ev.bind (member_ev m c.f0.f0 hm) ?_
  cases hasB m c.f0.f0 with
  | false => simp only [Bool.false_eq_true, if_false, Bool.false_and]; exact Ev.now _
  | true =>
    simp only [if_true, Bool.true_and]
    refine Ev.bind (member_ev m c.f0.f3 hm) ?_
    cases hasB m c.f0.f3 with
    | false => simp only [Bool.false_eq_true, if_false, Bool.false_and]; exact Ev.now _
    | true => simp only [if_true, Bool.true_and]; exact Ev.now _
theorem refinside_l0 (m : List ByteArray) (l : List S34) (hl : l.length ≤ 1000000) (hm : m.length ≤ 1000000) : ∀ (n i : Nat), l.length - i = n → i ≤ l.length → Ev (fun k => accountingref44_Inside.l0 k l m (inK m (l.take i)) (outK m (l.take i)) (i : Int)) (inK m l, outK m l) := by
  intro n
  induction n with
  | zero =>
    intro i hn hi
    refine Ev.step (fun k => accountingref44_Inside.l0.eq_2 _ _ _ _ _ k) ?_
    rw [List.take_of_length_le (by omega)]
    simp only [if_neg (show ¬ ((i : Int) < (l.length : Int)) by omega)]
    exact Ev.now _
  | succ n ih =>
    intro i hn hi
    have hil : i < l.length := by omega
    have hw : wrap64 ((i : Int) + 1) = ((i + 1 : Nat) : Int) := by rw [w64 (by omega) (by omega)]; omega
    have h1 := in_le m (l.take i)
    have h2 := out_le m (l.take i)
    rw [List.length_take] at h1 h2
    have ih := ih (i + 1) (by omega) (by omega)
    rw [in_take m l hil, out_take m l hil] at ih
    refine Ev.step (fun k => accountingref44_Inside.l0.eq_2 _ _ _ _ _ k) ?_
    simp only [if_pos (show ((i : Int) < (l.length : Int)) by omega), if_pos (show (0 : Int) ≤ (i : Int) by omega), hw, rd34_at hil]
    refine Ev.bind (is_ev m l[i] hm) ?_
    simp only [if_pos (show (inK m (l.take i)).length < 1466015503701 by omega), if_pos (show (outK m (l.take i)).length < 1466015503701 by omega), mk34I]
    by_cases c : insB m l[i].f0 = true
    · rw [if_pos c, if_pos c] at ih
      simp only [if_pos c]; exact ih
    · rw [if_neg c, if_neg c] at ih
      simp only [if_neg c]; exact ih
theorem refinside_ev (m : List ByteArray) (l : List S34) (hl : l.length ≤ 1000000) (hm : m.length ≤ 1000000) : Ev (fun k => accountingref44_Inside.f k l m) (inK m l, outK m l) :=
  refinside_l0 m l hl hm _ 0 rfl (Nat.zero_le _)
theorem follows_pure (x y : S89) : accountingref44_follows.f x.f0 x.f1 x.f2 y.f0 y.f1 y.f2 = some (decide (cmpK (pk y) (pk x) < 0)) := by
 unfold accountingref44_follows.f
 have e : cmpK (pk y) (pk x) = if cmpB y.f0 x.f0 = 0 then cmpB y.f1 x.f1 else cmpB y.f0 x.f0 := cmp_k2 (y.f0, y.f1) (x.f0, x.f1)
 have sw := cmp3_B.sw x.f0 y.f0
 by_cases h : Op.bytesLess y.f0.toList x.f0.toList = true
 ·have h1 := (less_iff _ _).1 h
  rw [if_pos h, e, if_neg (by omega), decide_eq_true h1]
 ·have h1 : ¬ cmpB y.f0 x.f0 < 0 := fun h2 => h ((less_iff _ _).2 h2)
  rw [if_neg h]
  by_cases h3 : x.f0.toList = y.f0.toList
  ·have h4 := (ba_eq _ _).1 h3
   rw [if_pos h3, e, if_pos (by omega)]
   congr 1
   rw [Bool.eq_iff_iff, decide_eq_true_iff]
   exact less_iff _ _
  ·have h4 : ¬ cmpB x.f0 y.f0 = 0 := fun h5 => h3 ((ba_eq _ _).2 h5)
   rw [if_neg h3, e, if_neg (by omega), decide_eq_false h1]
theorem put_j2 (P : List S89) (x : S89) (i : Nat) (hi : i ≤ P.length) (hl : P.length ≤ 1000000) : Ev (fun k => accountingref44_put.j2 k P (i : Int) false x.f0 x.f1 x.f2) (P.take i ++ [x] ++ P.drop i) := by
 refine Ev.step (fun k => accountingref44_put.j2.eq_2 _ _ _ _ _ _ k) ?_
 have h1 : (P.take i).length ≤ 1000000 := by rw [List.length_take]; omega
 have h2 : (P.drop i).length ≤ 1000000 := by rw [List.length_drop]; omega
 simp only [Bool.false_eq_true, if_false, Option.bind_some, if_pos (show (0 : Int) ≤ (i : Int) by omega), if_pos (show (i : Int) ≤ (P.length : Int) by omega), Int.toNat_natCast, List.nil_append, List.length_nil, Nat.zero_add, if_pos (show (P.take i).length < 3518437208883 by omega), List.length_append, List.length_cons, if_pos (show (P.take i).length + 1 + (P.drop i).length < 3518437208883 by omega)]
 exact Ev.now _
theorem put_l0 (P : List S89) (x : S89) (hl : P.length ≤ 1000000) (hb : ∀ p ∈ P, i64ok (p.f2 + x.f2)) : ∀ (n i : Nat), P.length - i = n → i ≤ P.length → (∀ q (h : q < P.length), q < i → cmpK (pk P[q]) (pk x) < 0) → Ev (fun k => accountingref44_put.l0 k P (i : Int) x.f0 x.f1 x.f2) (putP x P) := by
 have keq : ∀ y : S89, (y.f0.toList = x.f0.toList ∧ y.f1.toList = x.f1.toList) ↔ cmpK (pk y) (pk x) = 0 := fun y => by
  have e : cmpK (pk y) (pk x) = if cmpB y.f0 x.f0 = 0 then cmpB y.f1 x.f1 else cmpB y.f0 x.f0 := cmp_k2 (y.f0, y.f1) (x.f0, x.f1)
  rw [e, ba_eq, ba_eq]
  by_cases h : cmpB y.f0 x.f0 = 0
  ·rw [if_pos h]; exact ⟨fun h2 => h2.2, fun h2 => ⟨h, h2⟩⟩
  ·rw [if_neg h]; exact ⟨fun h2 => h2.1, fun h2 => absurd h2 h⟩
 have fin : ∀ (i : Nat), i ≤ P.length → (∀ q (h : q < P.length), q < i → cmpK (pk P[q]) (pk x) < 0) → (∀ h : i < P.length, ¬ cmpK (pk P[i]) (pk x) < 0) → Ev (fun k => accountingref44_put.j1 k P (i : Int) x.f0 x.f1 x.f2) (putP x P) := by
  intro i hi h1 h2
  rw [putP_at x P i hi h1 h2]
  refine Ev.step (fun k => accountingref44_put.j1.eq_2 _ _ _ _ _ k) ?_
  by_cases hlt : i < P.length
  ·rw [dif_pos hlt]
   simp only [if_pos (show (i : Int) < (P.length : Int) by omega), if_pos (show (0 : Int) ≤ (i : Int) by omega), rd89_at hlt]
   by_cases ha : P[i].f0.toList = x.f0.toList
   ·simp only [if_pos ha]
    by_cases hbb : P[i].f1.toList = x.f1.toList
    ·rw [if_pos ((keq P[i]).1 ⟨ha, hbb⟩)]
     simp only [beq_iff_eq.2 hbb]
     refine Ev.step (fun k => accountingref44_put.j2.eq_2 _ _ _ _ _ _ k) ?_
     have hw := hb P[i] (List.getElem_mem hlt)
     simp only [if_true, if_pos (show (i : Int) < (P.length : Int) by omega), if_pos (show (0 : Int) ≤ (i : Int) by omega), rd89_at hlt, Int.toNat_natCast, w64 hw.1 hw.2]
     exact Ev.now _
    ·rw [if_neg (fun h => hbb ((keq P[i]).2 h).2)]
     simp only [beq_eq_false_iff_ne.2 hbb]
     exact put_j2 P x i hi hl
   ·rw [if_neg (fun h => ha ((keq P[i]).2 h).1)]
    simp only [if_neg ha]
    exact put_j2 P x i hi hl
  ·rw [dif_neg hlt]
   simp only [if_neg (show ¬ (i : Int) < (P.length : Int) by omega)]
   exact put_j2 P x i hi hl
 intro n
 induction n with
 | zero =>
  intro i hn hi h1
  refine Ev.step (fun k => accountingref44_put.l0.eq_2 _ _ _ _ _ k) ?_
  simp only [if_neg (show ¬ ((i : Int) < (P.length : Int)) by omega)]
  exact fin i hi h1 (fun h => absurd h (by omega))
 | succ n ih =>
  intro i hn hi h1
  have hil : i < P.length := by omega
  have hw : wrap64 ((i : Int) + 1) = ((i + 1 : Nat) : Int) := by rw [w64 (by omega) (by omega)]; omega
  refine Ev.step (fun k => accountingref44_put.l0.eq_2 _ _ _ _ _ k) ?_
  simp only [if_pos (show ((i : Int) < (P.length : Int)) by omega), if_pos (show (0 : Int) ≤ (i : Int) by omega), hw, rd89_at hil, follows_pure, Option.bind_some, decide_eq_true_eq]
  by_cases c : cmpK (pk P[i]) (pk x) < 0
  ·simp only [if_pos c]
   refine ih (i + 1) (by omega) (by omega) (fun q hq hqi => ?_)
   rcases Nat.lt_or_ge q i with h | h
   ·exact h1 q hq h
   ·obtain rfl : q = i := by omega
    exact c
  ·simp only [if_neg c]
   exact fin i hi h1 (fun _ => c)
theorem put_ev (P : List S89) (x : S89) (hl : P.length ≤ 1000000) (hb : ∀ p ∈ P, i64ok (p.f2 + x.f2)) : Ev (fun k => accountingref44_put.f k P x.f0 x.f1 x.f2) (putP x P) :=
 put_l0 P x hl hb _ 0 rfl (Nat.zero_le _) (fun q _ h => absurd h (by omega))
theorem chk_l1 (P : List S89) (hl : P.length ≤ 1000000) : ∀ (n i : Nat), P.length - i = n → i ≤ P.length → Ev (fun k => accountingref44_Pairs.l1 k P (i : Int)) (if (P.drop i).all (fun p => fitB p.f2) = true then (P, 0) else ([], 4)) := by
 intro n
 induction n with
 | zero =>
  intro i hn hi
  refine Ev.step (fun k => accountingref44_Pairs.l1.eq_2 _ _ k) ?_
  rw [List.drop_of_length_le (by omega)]
  simp only [if_neg (show ¬ ((i : Int) < (P.length : Int)) by omega), List.all_nil, if_true]
  exact Ev.now _
 | succ n ih =>
  intro i hn hi
  have hil : i < P.length := by omega
  have hw : wrap64 ((i : Int) + 1) = ((i + 1 : Nat) : Int) := by rw [w64 (by omega) (by omega)]; omega
  refine Ev.step (fun k => accountingref44_Pairs.l1.eq_2 _ _ k) ?_
  rw [List.drop_eq_getElem_cons hil, List.all_cons]
  simp only [if_pos (show ((i : Int) < (P.length : Int)) by omega), if_pos (show (0 : Int) ≤ (i : Int) by omega), hw, rd89_at hil]
  by_cases c1 : P[i].f2 > 1000000000000000
  ·have hf : fitB P[i].f2 = false := by unfold fitB; rw [decide_eq_false (show ¬ P[i].f2 ≤ 1000000000000000 by omega), Bool.and_false]
   simp only [if_pos c1, hf, Bool.false_and, Bool.false_eq_true, if_false]
   exact Ev.now _
  ·simp only [if_neg c1]
   by_cases c2 : P[i].f2 < -1000000000000000
   ·have hf : fitB P[i].f2 = false := by unfold fitB; rw [decide_eq_false (show ¬ -1000000000000000 ≤ P[i].f2 by omega), Bool.false_and]
    simp only [if_pos c2, hf, Bool.false_and, Bool.false_eq_true, if_false]
    exact Ev.now _
   ·have hf : fitB P[i].f2 = true := by unfold fitB; rw [decide_eq_true (show -1000000000000000 ≤ P[i].f2 by omega), decide_eq_true (show P[i].f2 ≤ 1000000000000000 by omega)]; rfl
    simp only [if_neg c2, hf, Bool.true_and]
    exact ih (i + 1) (by omega) (by omega)
theorem refpairs_l0 (l : List S34) (hl : l.length ≤ 1000) (hb : ∀ c ∈ l, -1000000000000000 ≤ c.f2 ∧ c.f2 ≤ 1000000000000000) : ∀ (n i : Nat), l.length - i = n → i ≤ l.length → Ev (fun k => accountingref44_Pairs.l0 k l (prsOf (l.take i)) (i : Int)) (prK l) := by
 intro n
 induction n with
 | zero =>
  intro i hn hi
  refine Ev.step (fun k => accountingref44_Pairs.l0.eq_2 _ _ _ k) ?_
  rw [List.take_of_length_le (by omega)]
  simp only [if_neg (show ¬ ((i : Int) < (l.length : Int)) by omega)]
  rw [prK_prs]
  have := prs_len l
  exact chk_l1 (prsOf l) (by omega) _ 0 rfl (Nat.zero_le _)
 | succ n ih =>
  intro i hn hi
  have hil : i < l.length := by omega
  have hw : wrap64 ((i : Int) + 1) = ((i + 1 : Nat) : Int) := by rw [w64 (by omega) (by omega)]; omega
  have ih := ih (i + 1) (by omega) (by omega)
  have ht : l.take (i + 1) = l.take i ++ [l[i]] := by rw [List.take_add_one, List.getElem?_eq_getElem hil]; rfl
  rw [ht, ← prs_step] at ih
  have hpl := prs_len (l.take i)
  rw [List.length_take] at hpl
  have hpb := prs_bound (l.take i) (by rw [List.length_take]; omega) (fun c hc => hb c (List.mem_of_mem_take hc))
  have hci := hb _ (List.getElem_mem hil)
  have hput : Ev (fun k => accountingref44_put.f k (prsOf (l.take i)) (cpl l[i]).1 (cpl l[i]).2 l[i].f2) (putP ⟨(cpl l[i]).1, (cpl l[i]).2, l[i].f2⟩ (prsOf (l.take i))) :=
   put_ev (prsOf (l.take i)) ⟨(cpl l[i]).1, (cpl l[i]).2, l[i].f2⟩ (by omega) (fun p hp => by have := hpb p hp; unfold i64ok; show _ ≤ p.f2 + l[i].f2 ∧ p.f2 + l[i].f2 ≤ _; omega)
  refine Ev.step (fun k => accountingref44_Pairs.l0.eq_2 _ _ _ k) ?_
  simp only [if_pos (show ((i : Int) < (l.length : Int)) by omega), if_pos (show (0 : Int) ≤ (i : Int) by omega), hw, rd34_at hil]
  by_cases c : Op.bytesLess l[i].f0.f3.toList l[i].f0.f0.toList = true
  ·have c1 := (less_iff _ _).1 c
   have c2 : ¬ Op.bytesLess l[i].f0.f0.toList l[i].f0.f3.toList = true := fun h => by
    have := (less_iff _ _).1 h
    have := cmp3_B.sw l[i].f0.f0 l[i].f0.f3
    omega
   have e : cpl l[i] = (l[i].f0.f3, l[i].f0.f0) := by unfold cpl; rw [if_neg c2]
   rw [e] at hput ih
   simp only [if_pos c]
   exact Ev.bind hput ih
  ·have e : cpl l[i] = (l[i].f0.f0, l[i].f0.f3) := by
    unfold cpl
    by_cases c2 : Op.bytesLess l[i].f0.f0.toList l[i].f0.f3.toList = true
    ·rw [if_pos c2]
    ·rw [if_neg c2]
     have h1 : ¬ cmpB l[i].f0.f3 l[i].f0.f0 < 0 := fun h => c ((less_iff _ _).2 h)
     have h2 : ¬ cmpB l[i].f0.f0 l[i].f0.f3 < 0 := fun h => c2 ((less_iff _ _).2 h)
     have := cmp3_B.sw l[i].f0.f0 l[i].f0.f3
     have e := cmpB_zero (show cmpB l[i].f0.f0 l[i].f0.f3 = 0 by omega)
     rw [e]
   rw [e] at hput ih
   simp only [if_neg c]
   exact Ev.bind hput ih
theorem refpairs_ev (m : List ByteArray) (l : List S34) (hl : l.length ≤ 1000) (hm : m.length ≤ 1000000) : Ev (fun k => accountingref44_Pairs.f k l m) (pairsK m l) := by
 unfold accountingref44_Pairs.f accountingref19_Right.f pairsK
 simp only [Option.bind_some]
 by_cases hr : rightB l = true
 ·simp only [if_pos hr]
  refine Ev.bind (refinside_ev m l (by omega) hm) ?_
  have := in_le m l
  exact refpairs_l0 (inK m l) (by omega) (bnd_in ((right_iff l).1 hr)) _ 0 rfl (Nat.zero_le _)
 ·simp only [if_neg hr]; exact Ev.now _
theorem i64_low32 (n : Int) : bits .and .i64 n 4294967295 = n % 4294967296 := by
  have h : (BitVec.ofInt 64 4294967295).toNat = 2 ^ 32 - 1 := by decide
  have key : (BitVec.ofInt 64 n &&& BitVec.ofInt 64 4294967295).toNat = (n % ((2 ^ 64 : Nat) : Int)).toNat % 2 ^ 32 := by
    rw [BitVec.toNat_and, BitVec.toNat_ofInt, h, Nat.and_two_pow_sub_one_eq_mod]
  show IntKind.i64.wrap ((BitVec.ofInt 64 n &&& BitVec.ofInt 64 4294967295).toNat : Nat) = n % 4294967296
  rw [key, IntKind.wrap_i64]
  omega
theorem rsum_l0 (l : List Int) (hl : l.length ≤ 1000000) (hok : ∀ x ∈ l, i64ok x) : ∀ (n i : Nat) (a b : Int), l.length - i = n → i ≤ l.length → a * 4294967296 + b = (l.take i).sum → -(2147483648 * (i : Int)) ≤ a → a ≤ 2147483648 * (i : Int) → 0 ≤ b → b ≤ 4294967296 * (i : Int) → Ev (fun k => accountingref01_Sum.l0 k l a b (i : Int)) (if i64ok l.sum then (l.sum, true) else (0, false)) := by
  intro n
  induction n with
  | zero =>
    intro i a b hn hi he h1 h2 h3 h4
    rw [List.take_of_length_le (by omega)] at he
    have w1 : wrap64 (a + b / 4294967296) = a + b / 4294967296 := w64 (by omega) (by omega)
    refine Ev.step (fun k => accountingref01_Sum.l0.eq_2 _ _ _ _ k) ?_
    simp only [if_neg (show ¬ ((i : Int) < (l.length : Int)) by omega), w1, i64_low32]
    by_cases c1 : a + b / 4294967296 < -2147483648
    · simp only [if_pos c1, if_neg (show ¬ i64ok l.sum by unfold i64ok; omega)]
      exact Ev.now _
    · simp only [if_neg c1]
      by_cases c2 : a + b / 4294967296 > 2147483647
      · simp only [if_pos c2, if_neg (show ¬ i64ok l.sum by unfold i64ok; omega)]
        exact Ev.now _
      · simp only [if_neg c2, if_pos (show i64ok l.sum by unfold i64ok; omega)]
        have w2 : wrap64 (wrap64 ((a + b / 4294967296) * 4294967296) + b % 4294967296) = l.sum := by
          unfold wrap64
          omega
        rw [w2]
        exact Ev.now _
  | succ n ih =>
    intro i a b hn hi he h1 h2 h3 h4
    have hil : i < l.length := by omega
    have hv := hok _ (List.getElem_mem hil)
    unfold i64ok at hv
    have hw : wrap64 ((i : Int) + 1) = ((i + 1 : Nat) : Int) := by rw [w64 (by omega) (by omega)]; omega
    have w1 : wrap64 (a + l[i] / 4294967296) = a + l[i] / 4294967296 := w64 (by omega) (by omega)
    have w2 : wrap64 (b + l[i] % 4294967296) = b + l[i] % 4294967296 := w64 (by omega) (by omega)
    refine Ev.step (fun k => accountingref01_Sum.l0.eq_2 _ _ _ _ k) ?_
    simp only [if_pos (show ((i : Int) < (l.length : Int)) by omega), if_pos (show (0 : Int) ≤ (i : Int) by omega), hw, rd_at hil, i64_low32, w1, w2]
    refine ih (i + 1) _ _ (by omega) (by omega) ?_ (by push_cast; omega) (by push_cast; omega) (by omega) (by push_cast; omega)
    have ht : l.take (i + 1) = l.take i ++ [l[i]] := by rw [List.take_add_one, List.getElem?_eq_getElem hil]; rfl
    have e : (l.take (i + 1)).sum = (l.take i).sum + l[i] := by rw [ht, List.sum_append, List.sum_cons, List.sum_nil, Int.add_zero]
    rw [e]
    omega
theorem rsum_ev (l : List Int) (hl : l.length ≤ 1000000) (hok : ∀ x ∈ l, i64ok x) : Ev (fun k => accountingref01_Sum.f k l) (if i64ok l.sum then (l.sum, true) else (0, false)) :=
  rsum_l0 l hl hok _ 0 0 0 rfl (Nat.zero_le _) (by simp) (by simp) (by simp) (by simp) (by simp)
theorem fits_pure (n : Int) : accountingref19_fits.f n = some (fitB n) := by
  unfold accountingref19_fits.f fitB
  by_cases h : n ≥ -1000000000000000
  · rw [if_pos h, decide_eq_true (show -1000000000000000 ≤ n from h)]; rfl
  · rw [if_neg h, decide_eq_false (show ¬ -1000000000000000 ≤ n from h)]; rfl
end Go.Proofs.Ytmflggbpiadkjaa.P
namespace Go.Proofs.Ytmflggbpiadkjaa.P
open Go.RowKit Go.Proofs.YtmflggbpiadkjaaW.PrintWords Go.Proofs.YtmflggbpiadkjaaW.PrintLast
theorem refc (a b : ByteArray) : accountingref19_compare.f a b = some (cmpB a b) := by
  unfold accountingref19_compare.f
  rw [cmpB_less]
  by_cases h1 : Op.bytesLess a.toList b.toList = true
  · rw [if_pos h1, if_pos h1]
  · rw [if_neg h1, if_neg h1]
    by_cases h2 : Op.bytesLess b.toList a.toList = true
    · rw [if_pos h2, if_pos h2]
    · rw [if_neg h2, if_neg h2]
theorem refCmp_pure (x y : S32) (k : Nat) : accountingref19_Cmp.f (k + 6) x.f0 x.f1 x.f2 x.f3 x.f4 y.f0 y.f1 y.f2 y.f3 y.f4 = some (cmpK x y) := by
  rw [cmpK_eq]
  unfold accountingref19_Cmp.f
  simp only [accountingref19_Cmp.l0, refc, Option.bind_some, rdOf, List.length_cons, List.length_nil]
  have w : ∀ i : Int, 0 ≤ i → i ≤ 5 → wrap64 (i + 1) = i + 1 := fun i h1 h2 => by unfold wrap64; omega
  by_cases h0 : cmpB x.f0 y.f0 = 0 <;> by_cases h1 : cmpB x.f1 y.f1 = 0 <;> by_cases h2 : cmpB x.f2 y.f2 = 0 <;> by_cases h3 : cmpB x.f3 y.f3 = 0 <;> by_cases h4 : cmpB x.f4 y.f4 = 0 <;> simp [h0, h1, h2, h3, h4, wrap64]
end Go.Proofs.Ytmflggbpiadkjaa.P
namespace Go.Proofs.Ytmflggbpiadkjaa.P
open Go.RowKit Go.Sort Go.Proofs.YtmflggbpiadkjaaW.PrintWords Go.Proofs.YtmflggbpiadkjaaW.PrintLast
set_option linter.unusedVariables false
set_option linter.unusedSimpArgs false
theorem insK_at (key : S32) : ∀ (out : List S32) (q : Nat), SS out → q ≤ out.length → (∀ j (h : j < out.length), q ≤ j → 0 < cmpK out[j] key) → (∀ h : q - 1 < out.length, 0 < q → cmpK out[q - 1] key ≤ 0) →
  insK key out = if 0 < q ∧ cmpK (rd_T32 out ((q - 1 : Nat) : Int)) key = 0 then out else out.take q ++ key :: out.drop q
 | [], q, _, hq, _, _ => by
  have : q = 0 := by simpa using hq
  subst this
  simp [insK]
 | h :: t, 0, hs, hq, h1, _ => by
  have h0 := h1 0 (by simp) (Nat.le_refl _)
  simp only [List.getElem_cons_zero] at h0
  have := cmp3_K.sw h key
  unfold insK
  rw [if_pos (show cmpK key h < 0 by omega), if_neg (by omega)]
  rfl
 | h :: t, q + 1, hs, hq, h1, h2 => by
  have hs' := List.pairwise_cons.1 hs
  have hle : cmpK h key ≤ 0 := by
   have h3 := h2 (by simp at hq ⊢; omega) (by omega)
   cases q with
   | zero => simpa using h3
   | succ q =>
    have hq2 : q < t.length := by simp at hq; omega
    have e : (h :: t)[q + 1 + 1 - 1]'(by simp; omega) = t[q] := rfl
    rw [e] at h3
    have := cmp3_K.lt_le (hs'.1 t[q] (List.getElem_mem hq2)) h3
    omega
  have hsw := cmp3_K.sw h key
  unfold insK
  rw [if_neg (show ¬ cmpK key h < 0 by omega)]
  have ih := insK_at key t q hs'.2 (by simp at hq; omega) (fun j hj hqj => by
   have := h1 (j + 1) (by simp; omega) (by omega)
   simpa using this) (fun hj hq0 => by
   have := h2 (by simp; omega) (by omega)
   obtain ⟨p, rfl⟩ : ∃ p, q = p + 1 := ⟨q - 1, by omega⟩
   simpa using this)
  cases q with
  | zero =>
   have e : rd_T32 (h :: t) ((0 + 1 - 1 : Nat) : Int) = h := rfl
   rw [e]
   by_cases hz : cmpK h key = 0
   ·rw [if_pos (show cmpK key h = 0 by omega), if_pos ⟨by omega, hz⟩]
   ·rw [if_neg (show ¬ cmpK key h = 0 by omega), if_neg (fun c => hz c.2), ih, if_neg (fun c => by omega)]
    rfl
  | succ q =>
   have hq2 : q < t.length := by simp at hq; omega
   have hlt : cmpK h key < 0 := by
    have h3 := h2 (by simp; omega) (by omega)
    have e : (h :: t)[q + 1 + 1 - 1]'(by simp; omega) = t[q] := rfl
    rw [e] at h3
    exact cmp3_K.lt_le (hs'.1 t[q] (List.getElem_mem hq2)) h3
   have e : rd_T32 (h :: t) ((q + 1 + 1 - 1 : Nat) : Int) = rd_T32 t ((q + 1 - 1 : Nat) : Int) := by
    show rd_T32 (h :: t) ((q + 1 : Nat) : Int) = rd_T32 t (q : Int)
    rw [rd32_at (show q + 1 < (h :: t).length by simp; omega), rd32_at hq2]
    rfl
   rw [if_neg (show ¬ cmpK key h = 0 by omega), ih, e]
   by_cases hz : cmpK (rd_T32 t ((q + 1 - 1 : Nat) : Int)) key = 0
   ·rw [if_pos ⟨by omega, hz⟩, if_pos ⟨by omega, hz⟩]
   ·rw [if_neg (fun c => hz c.2), if_neg (fun c => hz c.2)]
    rfl
theorem mk32 (x : S32) : (⟨x.f0, x.f1, x.f2, x.f3, x.f4⟩ : S32) = x := rfl
theorem keys_l2 (l : List S34) (out : List S32) (i q : Nat) (r : List S32) (hi : i < l.length) (hl : l.length ≤ 1000000) (ho : out.length ≤ 1000000) (hq : q ≤ out.length)
  (hr : Ev (fun k => accountingref19_keys.l0 k l (out.take q ++ l[i].f0 :: out.drop q) ((i + 1 : Nat) : Int)) r) :
  ∀ (n j : Nat) (z : S32), j - q = n → q ≤ j → j ≤ out.length → Ev (fun k => accountingref19_keys.l2 k l (out.take j ++ z :: out.drop j) (i : Int) (q : Int) (j : Int)) r := by
 have hw1 : wrap64 ((i : Int) + 1) = ((i + 1 : Nat) : Int) := by rw [w64 (by omega) (by omega)]; omega
 intro n
 induction n with
 | zero =>
  intro j z hn hqj hj
  obtain rfl : q = j := by omega
  have hlen : (out.take q ++ z :: out.drop q).length = out.length + 1 := by simp; omega
  have hset : (out.take q ++ z :: out.drop q).set q l[i].f0 = out.take q ++ l[i].f0 :: out.drop q := by
   rw [List.set_append_right _ _ (by rw [List.length_take]; omega), List.length_take, Nat.min_eq_left hq, Nat.sub_self]
   rfl
  refine Ev.step (fun k => accountingref19_keys.l2.eq_2 _ _ _ _ _ k) ?_
  simp only [if_neg (show ¬ ((q : Int) > (q : Int)) by omega), if_pos (show (0 : Int) ≤ (i : Int) by omega), if_pos (show (i : Int) < (l.length : Int) by omega), if_pos (show (0 : Int) ≤ (q : Int) by omega), hlen, if_pos (show (q : Int) < ((out.length + 1 : Nat) : Int) by omega), Int.toNat_natCast, hw1, rd34_at hi, mk32, hset]
  exact hr
 | succ n ih =>
  intro j z hn hqj hj
  have hlen : (out.take j ++ z :: out.drop j).length = out.length + 1 := by simp; omega
  have hwj : wrap64 ((j : Int) - 1) = ((j - 1 : Nat) : Int) := by rw [w64 (by omega) (by omega)]; omega
  have hj1 : j - 1 < out.length := by omega
  have hrd : rd_T32 (out.take j ++ z :: out.drop j) ((j - 1 : Nat) : Int) = out[j - 1] := by
   rw [rd32_at (by rw [hlen]; omega), List.getElem_append_left (by rw [List.length_take]; omega), List.getElem_take]
  have ht : out.take j = out.take (j - 1) ++ [out[j - 1]] := by
   obtain ⟨p, rfl⟩ : ∃ p, j = p + 1 := ⟨j - 1, by omega⟩
   rw [List.take_add_one, List.getElem?_eq_getElem (by omega)]
   rfl
  have hd : out.drop (j - 1) = out[j - 1] :: out.drop j := by
   rw [List.drop_eq_getElem_cons hj1, show j - 1 + 1 = j by omega]
  have hset : (out.take j ++ z :: out.drop j).set j out[j - 1] = out.take (j - 1) ++ out[j - 1] :: out.drop (j - 1) := by
   rw [List.set_append_right _ _ (by rw [List.length_take]; omega), List.length_take, Nat.min_eq_left hj, Nat.sub_self, hd, ht, List.append_assoc]
   rfl
  refine Ev.step (fun k => accountingref19_keys.l2.eq_2 _ _ _ _ _ k) ?_
  simp only [if_pos (show ((j : Int) > (q : Int)) by omega), hwj, hlen, if_pos (show (0 : Int) ≤ ((j - 1 : Nat) : Int) by omega), if_pos (show ((j - 1 : Nat) : Int) < ((out.length + 1 : Nat) : Int) by omega), if_pos (show (0 : Int) ≤ (j : Int) by omega), if_pos (show (j : Int) < ((out.length + 1 : Nat) : Int) by omega), Int.toNat_natCast, hrd, mk32, hset]
  exact ih (j - 1) _ (by omega) (by omega) (by omega)
theorem keys_j2 (l : List S34) (out : List S32) (i q : Nat) (r : List S32) (hi : i < l.length) (hl : l.length ≤ 1000000) (ho : out.length ≤ 1000000) (hq : q ≤ out.length) (hs : SS out)
  (h1 : ∀ j (h : j < out.length), q ≤ j → 0 < cmpK out[j] l[i].f0) (h2 : ∀ h : q - 1 < out.length, 0 < q → cmpK out[q - 1] l[i].f0 ≤ 0)
  (hr : Ev (fun k => accountingref19_keys.l0 k l (insK l[i].f0 out) ((i + 1 : Nat) : Int)) r) :
  Ev (fun k => accountingref19_keys.j2 k l out (i : Int) (q : Int)) r := by
 have hw1 : wrap64 ((i : Int) + 1) = ((i + 1 : Nat) : Int) := by rw [w64 (by omega) (by omega)]; omega
 rw [insK_at l[i].f0 out q hs hq h1 h2] at hr
 have new : ¬ (0 < q ∧ cmpK (rd_T32 out ((q - 1 : Nat) : Int)) l[i].f0 = 0) → Ev (fun k => accountingref19_keys.j3 k l out (i : Int) (q : Int) false) r := by
  intro hn
  rw [if_neg hn] at hr
  refine Ev.step (fun k => accountingref19_keys.j3.eq_2 _ _ _ _ _ k) ?_
  simp only [Bool.false_eq_true, if_false, if_pos (show out.length < 1759218604441 by omega), Option.bind_some]
  have hwl : wrap64 (((out ++ [(⟨(⟨#[]⟩ : ByteArray), (⟨#[]⟩ : ByteArray), (⟨#[]⟩ : ByteArray), (⟨#[]⟩ : ByteArray), (⟨#[]⟩ : ByteArray)⟩ : S32)]).length : Int) - 1) = (out.length : Int) := by
   rw [w64 (by simp <;> omega) (by simp <;> omega)]; simp <;> omega
  simp only [hwl]
  have h0 := keys_l2 l out i q r hi hl ho hq hr _ out.length ⟨(⟨#[]⟩ : ByteArray), (⟨#[]⟩ : ByteArray), (⟨#[]⟩ : ByteArray), (⟨#[]⟩ : ByteArray), (⟨#[]⟩ : ByteArray)⟩ rfl hq (Nat.le_refl _)
  rw [List.take_length, List.drop_length] at h0
  exact h0
 refine Ev.step (fun k => accountingref19_keys.j2.eq_2 _ _ _ _ k) ?_
 by_cases hq0 : 0 < q
 ·have hwq : wrap64 ((q : Int) - 1) = ((q - 1 : Nat) : Int) := by rw [w64 (by omega) (by omega)]; omega
  simp only [if_pos (show (q : Int) > 0 by omega), hwq, if_pos (show (0 : Int) ≤ ((q - 1 : Nat) : Int) by omega), if_pos (show ((q - 1 : Nat) : Int) < (out.length : Int) by omega), if_pos (show (0 : Int) ≤ (i : Int) by omega), if_pos (show (i : Int) < (l.length : Int) by omega), key_beq, rd34_at hi]
  by_cases hz : cmpK (rd_T32 out ((q - 1 : Nat) : Int)) l[i].f0 = 0
  ·rw [if_pos ⟨hq0, hz⟩] at hr
   simp only [hz, decide_true]
   refine Ev.step (fun k => accountingref19_keys.j3.eq_2 _ _ _ _ _ k) ?_
   simp only [if_true, hw1]
   exact hr
  ·simp only [hz, decide_false]
   exact new (fun c => hz c.2)
 ·simp only [if_neg (show ¬ (q : Int) > 0 by omega)]
  exact new (fun c => hq0 c.1)
theorem keys_l1 (l : List S34) (out : List S32) (i : Nat) (r : List S32) (hi : i < l.length) (hl : l.length ≤ 1000000) (ho : out.length ≤ 1000000) (hs : SS out)
  (hr : Ev (fun k => accountingref19_keys.l0 k l (insK l[i].f0 out) ((i + 1 : Nat) : Int)) r) :
  ∀ (q : Nat), q ≤ out.length → (∀ j (h : j < out.length), q ≤ j → 0 < cmpK out[j] l[i].f0) → Ev (fun k => accountingref19_keys.l1 k l out (i : Int) (q : Int)) r := by
 intro q
 induction q with
 | zero =>
  intro hq h1
  refine Ev.step (fun k => accountingref19_keys.l1.eq_2 _ _ _ _ k) ?_
  simp only [if_neg (show ¬ ((0 : Nat) : Int) > 0 by omega)]
  exact keys_j2 l out i 0 r hi hl ho hq hs h1 (fun _ h => absurd h (by omega)) hr
 | succ q ih =>
  intro hq h1
  have hwq : wrap64 (((q + 1 : Nat) : Int) - 1) = (q : Int) := by rw [w64 (by omega) (by omega)]; omega
  refine Ev.step (fun k => accountingref19_keys.l1.eq_2 _ _ _ _ k) ?_
  simp only [if_pos (show ((q + 1 : Nat) : Int) > 0 by omega), hwq, if_pos (show (0 : Int) ≤ (q : Int) by omega), if_pos (show (q : Int) < (out.length : Int) by omega), if_pos (show (0 : Int) ≤ (i : Int) by omega), if_pos (show (i : Int) < (l.length : Int) by omega), rd34_at hi, rd32_at (show q < out.length by omega)]
  have hc : Ev (fun k => accountingref19_Cmp.f k out[q].f0 out[q].f1 out[q].f2 out[q].f3 out[q].f4 l[i].f0.f0 l[i].f0.f1 l[i].f0.f2 l[i].f0.f3 l[i].f0.f4) (cmpK out[q] l[i].f0) :=
   ⟨6, fun k hk => by obtain ⟨m, rfl⟩ : ∃ m, k = m + 6 := ⟨k - 6, by omega⟩; exact refCmp_pure _ _ m⟩
  refine Ev.bind hc ?_
  by_cases hz : cmpK out[q] l[i].f0 > 0
  ·simp only [if_pos hz]
   refine ih (by omega) (fun j hj hqj => ?_)
   rcases Nat.eq_or_lt_of_le hqj with h | h
   ·subst h; exact hz
   ·exact h1 j hj h
  ·simp only [if_neg hz]
   exact keys_j2 l out i (q + 1) r hi hl ho hq hs h1 (fun h _ => by
    show cmpK out[q] l[i].f0 ≤ 0
    omega) hr
theorem keysK_len (l : List S34) : (keysK l).length ≤ l.length := by
 induction l with
 | nil => exact Nat.le_refl _
 | cons c r ih =>
  have h : ∀ (k : S32) (ks : List S32), (insK k ks).length ≤ ks.length + 1 := by
   intro k ks
   induction ks with
   | nil => exact Nat.le_refl _
   | cons a b ih =>
    unfold insK
    by_cases h1 : cmpK k a < 0
    ·rw [if_pos h1]; simp
    ·rw [if_neg h1]
     by_cases h2 : cmpK k a = 0
     ·rw [if_pos h2]; simp
     ·rw [if_neg h2]; simp only [List.length_cons]; omega
  have := h c.f0 (keysK r)
  unfold keysK
  simp only [List.length_cons]
  omega
theorem keys_l0 (l : List S34) (hl : l.length ≤ 1000000) : ∀ (n i : Nat), l.length - i = n → i ≤ l.length → Ev (fun k => accountingref19_keys.l0 k l (keysK (l.take i)) (i : Int)) (keysK l) := by
 intro n
 induction n with
 | zero =>
  intro i hn hi
  refine Ev.step (fun k => accountingref19_keys.l0.eq_2 _ _ _ k) ?_
  rw [List.take_of_length_le (by omega)]
  simp only [if_neg (show ¬ ((i : Int) < (l.length : Int)) by omega)]
  exact Ev.now _
 | succ n ih =>
  intro i hn hi
  have hil : i < l.length := by omega
  have hk := keysK_len (l.take i)
  rw [List.length_take] at hk
  refine Ev.step (fun k => accountingref19_keys.l0.eq_2 _ _ _ k) ?_
  simp only [if_pos (show ((i : Int) < (l.length : Int)) by omega)]
  refine keys_l1 l (keysK (l.take i)) i _ hil hl (by omega) (ss_keysK _) ?_ _ (Nat.le_refl _) (fun j hj h => absurd hj (by omega))
  have e : insK l[i].f0 (keysK (l.take i)) = keysK (l.take (i + 1)) := by
   rw [List.take_add_one, List.getElem?_eq_getElem hil]
   exact (keysK_perm (show (l.take i ++ [l[i]]).Perm (l[i] :: l.take i) from List.perm_append_comm)).symm
  rw [e]
  exact ih (i + 1) (by omega) (by omega)
theorem keys_ev (l : List S34) (hl : l.length ≤ 1000000) : Ev (fun k => accountingref19_keys.f k l) (keysK l) :=
 keys_l0 l hl _ 0 rfl (Nat.zero_le _)
theorem of_l1 (l : List S34) (ks : List S32) (out : List S34) (i : Nat) (r : List S34 × Int) (hi : i < ks.length) (hk : ks.length ≤ 1000000) (hok : OkS l) (ho : out.length ≤ 1000000)
  (hr1 : (fitB (sumA l ks[i]) && fitB (sumB l ks[i])) = false → r = ([], 4))
  (hr2 : (fitB (sumA l ks[i]) && fitB (sumB l ks[i])) = true → Ev (fun k => accountingref19_Of.l0 k l (if sumA l ks[i] ≠ 0 ∨ sumB l ks[i] ≠ 0 then out ++ [⟨ks[i], sumA l ks[i], sumB l ks[i]⟩] else out) ks ((i + 1 : Nat) : Int)) r) :
  ∀ (n j : Nat), l.length - j = n → j ≤ l.length → Ev (fun k => accountingref19_Of.l1 k l out ks (i : Int) (amts ((l.take j).filter (eqK ks[i]))) (bass ((l.take j).filter (eqK ks[i]))) (j : Int)) r := by
 have hl := hok.1
 have hwi : wrap64 ((i : Int) + 1) = ((i + 1 : Nat) : Int) := by rw [w64 (by omega) (by omega)]; omega
 have len : ∀ j, ((l.take j).filter (eqK ks[i])).length ≤ 1000000 := fun j => by
  have h1 := List.length_filter_le (eqK ks[i]) (l.take j)
  rw [List.length_take] at h1
  omega
 have bad : r = ([], 4) → ∀ x y, Ev (fun k => accountingref19_Of.j2 k l out ks (i : Int) x y true) r := by
  rintro rfl x y
  refine Ev.step (fun k => accountingref19_Of.j2.eq_2 _ _ _ _ _ _ _ k) ?_
  simp only [if_true]
  exact Ev.now _
 intro n
 induction n with
 | zero =>
  intro j hn hj
  refine Ev.step (fun k => accountingref19_Of.l1.eq_2 _ _ _ _ _ _ _ k) ?_
  rw [List.take_of_length_le (by omega)]
  simp only [if_neg (show ¬ ((j : Int) < (l.length : Int)) by omega)]
  have hla : (l.filter (eqK ks[i])).length ≤ 1000000 := Nat.le_trans (List.length_filter_le _ _) hl
  refine Ev.bind (rsum_ev (amts (l.filter (eqK ks[i]))) (by unfold amts; rw [List.length_map]; exact hla) (fun x hx => by
   obtain ⟨c, hc, rfl⟩ := List.mem_map.1 hx
   exact (hok.2 c (List.mem_filter.1 hc).1).1)) ?_
  refine Ev.bind (rsum_ev (bass (l.filter (eqK ks[i]))) (by unfold bass; rw [List.length_map]; exact hla) (fun x hx => by
   obtain ⟨c, hc, rfl⟩ := List.mem_map.1 hx
   exact (hok.2 c (List.mem_filter.1 hc).1).2)) ?_
  change (fitB (amts (l.filter (eqK ks[i]))).sum && fitB (bass (l.filter (eqK ks[i]))).sum) = false → _ at hr1
  change (fitB (amts (l.filter (eqK ks[i]))).sum && fitB (bass (l.filter (eqK ks[i]))).sum) = true → Ev (fun k => accountingref19_Of.l0 k l (if (amts (l.filter (eqK ks[i]))).sum ≠ 0 ∨ (bass (l.filter (eqK ks[i]))).sum ≠ 0 then out ++ [⟨ks[i], (amts (l.filter (eqK ks[i]))).sum, (bass (l.filter (eqK ks[i]))).sum⟩] else out) ks ((i + 1 : Nat) : Int)) r at hr2
  generalize (amts (l.filter (eqK ks[i]))).sum = A at hr1 hr2 ⊢
  generalize (bass (l.filter (eqK ks[i]))).sum = B at hr1 hr2 ⊢
  have nf : ∀ {n : Int}, ¬ i64ok n → fitB n = false := fun {n} h => by
   cases hf : fitB n with
   | false => rfl
   | true => exact absurd (fit_i64 hf) h
  by_cases ha : i64ok A
  ·by_cases hb : i64ok B
   ·simp only [if_pos ha, if_pos hb, if_true, fits_pure, Option.bind_some]
    cases hfa : fitB A with
    | false =>
     simp only [Bool.false_eq_true, if_false]
     exact bad (hr1 (by rw [hfa]; rfl)) _ _
    | true =>
     cases hfb : fitB B with
     | false =>
      simp only [if_true, Bool.not_false]
      exact bad (hr1 (by rw [hfb, Bool.and_false])) _ _
     | true =>
      have hr := hr2 (by rw [hfa, hfb]; rfl)
      simp only [if_true, Bool.not_true]
      refine Ev.step (fun k => accountingref19_Of.j2.eq_2 _ _ _ _ _ _ _ k) ?_
      simp only [Bool.false_eq_true, if_false, hwi, if_pos (show (0 : Int) ≤ (i : Int) by omega), if_pos (show (i : Int) < (ks.length : Int) by omega), if_pos (show out.length < 1466015503701 by omega), rd32_at hi, mk32]
      by_cases ca : A = 0
      ·by_cases cb : B = 0
       ·simp only [if_pos ca, if_pos cb]
        rw [if_neg (by omega)] at hr
        exact hr
       ·simp only [if_pos ca, if_neg cb]
        rw [if_pos (by omega)] at hr
        exact hr
      ·simp only [if_neg ca]
       rw [if_pos (by omega)] at hr
       exact hr
   ·simp only [if_pos ha, if_neg hb, if_true, Bool.false_eq_true, if_false]
    exact bad (hr1 (by rw [nf hb, Bool.and_false])) _ _
  ·simp only [if_neg ha, Bool.false_eq_true, if_false]
   exact bad (hr1 (by rw [nf ha, Bool.false_and])) _ _
 | succ n ih =>
  intro j hn hj
  have hjl : j < l.length := by omega
  have hwj : wrap64 ((j : Int) + 1) = ((j + 1 : Nat) : Int) := by rw [w64 (by omega) (by omega)]; omega
  have ht : l.take (j + 1) = l.take j ++ [l[j]] := by rw [List.take_add_one, List.getElem?_eq_getElem hjl]; rfl
  have la := len j
  refine Ev.step (fun k => accountingref19_Of.l1.eq_2 _ _ _ _ _ _ _ k) ?_
  simp only [if_pos (show ((j : Int) < (l.length : Int)) by omega), if_pos (show (0 : Int) ≤ (j : Int) by omega), if_pos (show (0 : Int) ≤ (i : Int) by omega), if_pos (show (i : Int) < (ks.length : Int) by omega), key_beq, rd34_at hjl, rd32_at hi, hwj, decide_eq_true_eq, if_pos (show (amts ((l.take j).filter (eqK ks[i]))).length < 17592186044416 by unfold amts; rw [List.length_map]; omega), if_pos (show (bass ((l.take j).filter (eqK ks[i]))).length < 17592186044416 by unfold bass; rw [List.length_map]; omega)]
  have hsw := cmp3_K.sw l[j].f0 ks[i]
  have ih := ih (j + 1) (by omega) (by omega)
  rw [ht, List.filter_append] at ih
  by_cases hz : cmpK l[j].f0 ks[i] = 0
  ·have he : eqK ks[i] l[j] = true := by unfold eqK; exact decide_eq_true (by omega)
   simp only [if_pos hz]
   rw [List.filter_cons, if_pos he, List.filter_nil] at ih
   unfold amts bass at ih ⊢
   rw [List.map_append, List.map_append] at ih
   exact ih
  ·have he : ¬ eqK ks[i] l[j] = true := by unfold eqK; rw [decide_eq_true_iff]; omega
   simp only [if_neg hz]
   rw [List.filter_cons, if_neg he, List.filter_nil, List.append_nil] at ih
   exact ih
theorem refof_l0 (l : List S34) (ks : List S32) (hk : ks.length ≤ 1000000) (hok : OkS l) : ∀ (n i : Nat) (out : List S34), ks.length - i = n → i ≤ ks.length → out.length ≤ i → Ev (fun k => accountingref19_Of.l0 k l out ks (i : Int)) (if (cellsK l (ks.drop i) out).1 = true then ((cellsK l (ks.drop i) out).2, 0) else ([], 4)) := by
 intro n
 induction n with
 | zero =>
  intro i out hn hi ho
  refine Ev.step (fun k => accountingref19_Of.l0.eq_2 _ _ _ _ k) ?_
  rw [List.drop_of_length_le (by omega)]
  simp only [if_neg (show ¬ ((i : Int) < (ks.length : Int)) by omega), cellsK, if_true]
  exact Ev.now _
 | succ n ih =>
  intro i out hn hi ho
  have hil : i < ks.length := by omega
  refine Ev.step (fun k => accountingref19_Of.l0.eq_2 _ _ _ _ k) ?_
  simp only [if_pos (show ((i : Int) < (ks.length : Int)) by omega)]
  rw [List.drop_eq_getElem_cons hil]
  unfold cellsK
  refine of_l1 l ks out i _ hil hk hok (by omega) (fun h => ?_) (fun h => ?_) _ 0 rfl (Nat.zero_le _)
  ·rw [if_neg (by rw [h]; simp)]
  ·rw [if_pos h]
   refine ih (i + 1) _ (by omega) (by omega) ?_
   by_cases c : sumA l ks[i] ≠ 0 ∨ sumB l ks[i] ≠ 0
   ·rw [if_pos c, List.length_append]
    simp only [List.length_cons, List.length_nil]
    omega
   ·rw [if_neg c]; omega
theorem refof_ev (l : List S34) (h : OkS l) : Ev (fun k => accountingref19_Of.f k l) (ofK l) := by
 unfold accountingref19_Of.f
 refine Ev.bind (keys_ev l h.1) ?_
 have hk := keysK_len l
 have hl := h.1
 exact refof_l0 l (keysK l) (by omega) h _ 0 [] rfl (Nat.zero_le _) (Nat.le_refl _)
end Go.Proofs.Ytmflggbpiadkjaa.P
namespace Go.Proofs.Ytmflggbpiadkjaa.P
open Go.RowKit Go.Sort Go.Proofs.YtmflggbpiadkjaaW.PrintWords Go.Proofs.YtmflggbpiadkjaaW.PrintLast Go.Proofs.Ytmflggbpiadkjaa.Op
set_option linter.unusedVariables false
set_option linter.unusedSimpArgs false
theorem bt_at {s : ByteArray} {i : Nat} (h : i < s.size) : bt s (i : Int) = ((s[i].toNat : Nat) : Int) := by
 unfold bt
 simp [h]
theorem mon_ev (s : ByteArray) : Ev (fun k => accountingref07_Code.f k s) (monB s) := by
 unfold accountingref07_Code.f
 by_cases h3 : (s.size : Int) = 3
 ·simp only [if_pos h3]
  have hs : s.size = 3 := by omega
  have gen : ∀ (n i : Nat), 3 - i = n → i ≤ 3 → (∀ j, (hj : j < s.size) → j < i → upC s[j] = true) → Ev (fun k => accountingref07_Code.l0 k s (i : Int)) (monB s) := by
   intro n
   induction n with
   | zero =>
    intro i hn hi hu
    refine Ev.step (fun k => accountingref07_Code.l0.eq_2 _ _ k) ?_
    simp only [if_neg (show ¬ ((i : Int) < 3) by omega)]
    rw [mon_end (fun j hj => hu j hj (by omega)), decide_eq_true hs]
    exact Ev.now _
   | succ n ih =>
    intro i hn hi hu
    have hil : i < s.size := by omega
    have hw : wrap64 ((i : Int) + 1) = ((i + 1 : Nat) : Int) := by rw [w64 (by omega) (by omega)]; omega
    refine Ev.step (fun k => accountingref07_Code.l0.eq_2 _ _ k) ?_
    simp only [if_pos (show ((i : Int) < 3) by omega), if_pos (show (0 : Int) ≤ (i : Int) by omega), if_pos (show (i : Int) < (s.size : Int) by omega), hw, bt_at hil]
    by_cases c1 : ((s[i].toNat : Nat) : Int) < 65
    ·simp only [if_pos c1]
     rw [mon_bad hil (by unfold upC; rw [decide_eq_false (by omega), Bool.false_and])]
     exact Ev.now _
    ·simp only [if_neg c1]
     by_cases c2 : ((s[i].toNat : Nat) : Int) > 90
     ·simp only [if_pos c2]
      rw [mon_bad hil (by unfold upC; rw [decide_eq_false (show ¬ s[i].toNat ≤ 90 by omega), Bool.and_false])]
      exact Ev.now _
     ·simp only [if_neg c2]
      refine ih (i + 1) (by omega) (by omega) (fun j hj hji => ?_)
      rcases Nat.lt_or_ge j i with h | h
      ·exact hu j hj h
      ·obtain rfl : j = i := by omega
       unfold upC
       rw [decide_eq_true (show 65 ≤ s[j].toNat by omega), decide_eq_true (show s[j].toNat ≤ 90 by omega)]
       rfl
  exact gen _ 0 rfl (by omega) (fun j _ h => absurd h (by omega))
 ·simp only [if_neg h3]
  have : monB s = false := by unfold monB; rw [decide_eq_false (by omega), Bool.false_and]
  rw [this]
  exact Ev.now _
theorem letter_pure (c : Int) : accountingref06_letter.f c = some (isLetter c) := by
 unfold accountingref06_letter.f isLetter
 by_cases h1 : c ≥ 97 <;> by_cases h2 : c ≤ 122 <;> by_cases h3 : c ≥ 65 <;> by_cases h4 : c ≤ 90 <;> by_cases h5 : c = 95 <;> simp [h1, h2, h3, h4, h5] <;> omega
theorem digit_pure (c : Int) : accountingref06_digit.f c = some (isDigit c) := by
 unfold accountingref06_digit.f isDigit
 by_cases h1 : c ≥ 48
 ·rw [if_pos h1]; congr 1; exact decide_eq_decide.2 (by omega)
 ·rw [if_neg h1, decide_eq_false (by omega)]
theorem code_ev (s : ByteArray) (hs : s.size ≤ maxLen) : Ev (fun k => accountingref06_Code.f k s) (codeB s) := by
 have hsm : s.size ≤ 9223372036854775807 := by unfold maxLen at hs; omega
 have gen : ∀ (n i : Nat), s.size - i = n → i ≤ s.size → Ev (fun k => accountingref06_Code.l0 k s (i : Int)) (decide (0 < s.size) && (decide (s.size ≤ 12) && allFrom isCodeByte s i)) := by
  intro n
  induction n with
  | zero =>
   intro i hn hi
   obtain rfl : i = s.size := by omega
   refine Ev.step (fun k => accountingref06_Code.l0.eq_2 _ _ k) ?_
   simp only [if_neg (show ¬ ((s.size : Int) < (s.size : Int)) by omega), allFrom_end, Bool.and_true]
   by_cases h1 : (s.size : Int) ≥ 1
   ·simp only [if_pos h1, decide_eq_true (show 0 < s.size by omega), Bool.true_and]
    rw [show decide (s.size ≤ 12) = decide ((s.size : Int) ≤ 12) from decide_eq_decide.2 (by omega)]
    exact Ev.now _
   ·simp only [if_neg h1, decide_eq_false (show ¬ 0 < s.size by omega), Bool.false_and]
    exact Ev.now _
  | succ n ih =>
   intro i hn hi
   have hil : i < s.size := by omega
   have hw : wrap64 ((i : Int) + 1) = ((i + 1 : Nat) : Int) := by rw [w64 (by omega) (by omega)]; omega
   refine Ev.step (fun k => accountingref06_Code.l0.eq_2 _ _ k) ?_
   simp only [if_pos (show ((i : Int) < (s.size : Int)) by omega), if_pos (show (0 : Int) ≤ (i : Int) by omega), hw, letter_pure, digit_pure, Option.bind_some]
   have ih := ih (i + 1) (by omega) (by omega)
   rw [allFrom_step isCodeByte s i hil, isCodeByte_or]
   cases h1 : isLetter (bt s (i : Int)) with
   | true => simp only [if_true, Bool.true_or, Bool.true_and]; exact ih
   | false =>
    cases h2 : isDigit (bt s (i : Int)) with
    | true => simp only [Bool.false_eq_true, if_false, if_true, Bool.false_or, Bool.true_and]; exact ih
    | false =>
     simp only [Bool.false_eq_true, if_false, Bool.or_false, Bool.false_and, Bool.and_false]
     exact Ev.now _
 exact gen _ 0 rfl (Nat.zero_le _)
theorem rel_l1 (cur diff : ByteArray) (p : List S89) (i : List S34) (hp : p.length ≤ 1000000) (hi : i.length ≤ 1000000) (hok : OkS (elCells cur diff i p)) : ∀ (n j : Nat), p.length - j = n → j ≤ p.length → Ev (fun k => accountingref44_Eliminate.l1 k cur diff p (elCells cur diff i (p.take j)) (j : Int)) (ofK (elCells cur diff i p)) := by
 intro n
 induction n with
 | zero =>
  intro j hn hj
  refine Ev.step (fun k => accountingref44_Eliminate.l1.eq_2 _ _ _ _ _ k) ?_
  rw [List.take_of_length_le (by omega)]
  simp only [if_neg (show ¬ ((j : Int) < (p.length : Int)) by omega)]
  exact Ev.bind (refof_ev _ hok) (Ev.now _)
 | succ n ih =>
  intro j hn hj
  have hjl : j < p.length := by omega
  have hw : wrap64 ((j : Int) + 1) = ((j + 1 : Nat) : Int) := by rw [w64 (by omega) (by omega)]; omega
  have hlen : (elCells cur diff i (p.take j)).length < 1466015503701 := by
   unfold elCells
   rw [List.length_append, List.length_map, List.length_map, List.length_take]
   omega
  have e : elCells cur diff i (p.take j) ++ [pcI cur diff p[j]] = elCells cur diff i (p.take (j + 1)) := by
   unfold elCells
   rw [List.take_add_one, List.getElem?_eq_getElem hjl, List.map_append, List.append_assoc]
   rfl
  have e2 : (⟨⟨p[j].f0, diff, cur, ⟨#[]⟩, ⟨#[]⟩⟩, p[j].f2, p[j].f2⟩ : S34) = pcI cur diff p[j] := rfl
  refine Ev.step (fun k => accountingref44_Eliminate.l1.eq_2 _ _ _ _ _ k) ?_
  simp only [if_pos (show ((j : Int) < (p.length : Int)) by omega), if_pos (show (0 : Int) ≤ (j : Int) by omega), hw, rd89_at hjl, if_pos hlen, e2, e]
  exact ih (j + 1) (by omega) (by omega)
theorem rel_l0 (cur diff : ByteArray) (p : List S89) (i : List S34) (hp : p.length ≤ 1000000) (hi : i.length ≤ 1000000) (hb : ∀ c ∈ i, -1000000000000000 ≤ c.f1 ∧ c.f1 ≤ 1000000000000000 ∧ -1000000000000000 ≤ c.f2 ∧ c.f2 ≤ 1000000000000000) (hok : OkS (elCells cur diff i p)) : ∀ (n j : Nat), i.length - j = n → j ≤ i.length → Ev (fun k => accountingref44_Eliminate.l0 k cur diff p i ((i.take j).map negI) (j : Int)) (ofK (elCells cur diff i p)) := by
 intro n
 induction n with
 | zero =>
  intro j hn hj
  refine Ev.step (fun k => accountingref44_Eliminate.l0.eq_2 _ _ _ _ _ _ k) ?_
  rw [List.take_of_length_le (by omega)]
  simp only [if_neg (show ¬ ((j : Int) < (i.length : Int)) by omega)]
  have h := rel_l1 cur diff p i hp hi hok _ 0 rfl (Nat.zero_le _)
  have e : elCells cur diff i (p.take 0) = i.map negI := by unfold elCells; simp
  rw [e] at h
  exact h
 | succ n ih =>
  intro j hn hj
  have hjl : j < i.length := by omega
  have hw : wrap64 ((j : Int) + 1) = ((j + 1 : Nat) : Int) := by rw [w64 (by omega) (by omega)]; omega
  have hc := hb _ (List.getElem_mem hjl)
  have hw1 : wrap64 (-i[j].f1) = -i[j].f1 := w64 (by omega) (by omega)
  have hw2 : wrap64 (-i[j].f2) = -i[j].f2 := w64 (by omega) (by omega)
  have e : (⟨⟨i[j].f0.f0, i[j].f0.f1, i[j].f0.f2, i[j].f0.f3, i[j].f0.f4⟩, -i[j].f1, -i[j].f2⟩ : S34) = negI i[j] := rfl
  have ht : (i.take j).map negI ++ [negI i[j]] = (i.take (j + 1)).map negI := by
   rw [List.take_add_one, List.getElem?_eq_getElem hjl, List.map_append]; rfl
  refine Ev.step (fun k => accountingref44_Eliminate.l0.eq_2 _ _ _ _ _ _ k) ?_
  simp only [if_pos (show ((j : Int) < (i.length : Int)) by omega), if_pos (show (0 : Int) ≤ (j : Int) by omega), hw, rd34_at hjl, if_pos (show ((i.take j).map negI).length < 1466015503701 by rw [List.length_map, List.length_take]; omega), hw1, hw2, e, ht]
  exact ih (j + 1) (by omega) (by omega)
theorem refelim_ev (cur diff : ByteArray) (m : List ByteArray) (l : List S34) (hl : l.length ≤ 1000) (hm : m.length ≤ 1000000) (hd : diff.size ≤ maxLen) : Ev (fun k => accountingref44_Eliminate.f k l cur diff m) (elimK cur diff m l) := by
 unfold accountingref44_Eliminate.f accountingref19_Right.f elimK
 simp only [Option.bind_some]
 by_cases hr : rightB l = true
 ·simp only [if_pos hr]
  refine Ev.bind (mon_ev cur) ?_
  by_cases hmn : monB cur = true
  ·simp only [if_pos hmn]
   refine Ev.bind (code_ev diff hd) ?_
   by_cases hcd : codeB diff = true
   ·simp only [if_pos hcd]
    have hR := (right_iff l).1 hr
    have hp := refpairs_ev m l hl hm
    unfold pairsK at hp
    rw [if_pos hr] at hp
    refine Ev.bind hp ?_
    by_cases h0 : (prK (inK m l)).2 = 0
    ·simp only [if_pos h0]
     refine Ev.bind (refinside_ev m l (by omega) hm) ?_
     have h1 := in_le m l
     have h2 := prK_len (inK m l)
     exact rel_l0 cur diff (prK (inK m l)).1 (inK m l) (by omega) (by omega) (bnd_in2 hR) (okS_cells hR hl (prK_fit h0) (by omega)) _ 0 rfl (Nat.zero_le _)
    ·simp only [if_neg h0]; exact Ev.now _
   ·simp only [if_neg hcd]; exact Ev.now _
  ·simp only [if_neg hmn]; exact Ev.now _
 ·simp only [if_neg hr]; exact Ev.now _
theorem same_l0 (l : List S34) (hl : l.length ≤ 1000000) : ∀ (n i : Nat), l.length - i = n → i ≤ l.length → Ev (fun k => accountingref19_Same.l0 k l l (i : Int)) true := by
  intro n
  induction n with
  | zero =>
    intro i hn hi
    refine Ev.step (fun k => accountingref19_Same.l0.eq_2 _ _ _ k) ?_
    simp only [if_neg (show ¬ ((i : Int) < (l.length : Int)) by omega)]
    exact Ev.now _
  | succ n ih =>
    intro i hn hi
    have hil : i < l.length := by omega
    have hw : wrap64 ((i : Int) + 1) = ((i + 1 : Nat) : Int) := by rw [w64 (by omega) (by omega)]; omega
    refine Ev.step (fun k => accountingref19_Same.l0.eq_2 _ _ _ k) ?_
    simp only [if_pos (show ((i : Int) < (l.length : Int)) by omega), if_pos (show (0 : Int) ≤ (i : Int) by omega), hw, BEq.rfl, Bool.not_true, Bool.or_false, Bool.false_eq_true, if_false]
    exact ih (i + 1) (by omega) (by omega)
theorem same_ev (l : List S34) (hl : l.length ≤ 1000000) : Ev (fun k => accountingref19_Same.f k l l) true := by
  unfold accountingref19_Same.f
  simp only [if_true]
  exact same_l0 l hl _ 0 rfl (Nat.zero_le _)
end Go.Proofs.Ytmflggbpiadkjaa.P
namespace Go.Proofs.Ytmflggbpiadkjaa.P
open Go.RowKit Go.Proofs.YtmflggbpiadkjaaW.PrintWords Go.Proofs.YtmflggbpiadkjaaW.PrintLast
set_option maxRecDepth 100000 in
theorem livesi60 : accountinglaw44_lives.f 60 = some true := by kernel_rfl
theorem livesi_ev : Ev (fun k => accountinglaw44_lives.f k) true := Ev.of (fun k => accountinglaw44_lives.mono k) livesi60
end Go.Proofs.Ytmflggbpiadkjaa.P
namespace Go.Proofs.Ytmflggbpiadkjaa.Pure
set_option linter.unusedVariables false
set_option linter.unusedSimpArgs false
open Go.RowKit Go.Proofs.Ytmflggbpiadkjaa.P Go.Proofs.Ytmflggbpiadkjaa.Op Go.Proofs.YtmflggbpiadkjaaW.PrintWords Go.Proofs.YtmflggbpiadkjaaW.PrintLast
theorem IntercoEliminates : accountinglaw44_IntercoEliminates.Pure := by
  intro l cur diff m h hc hd hm
  refine Ev.rounds ?_
  unfold accountinglaw44_IntercoEliminates.f accountinglaw44_large.f
  by_cases hl : (l.length : Int) > 200
  · simp only [if_pos hl, Option.bind_some, if_true]; exact Ev.now _
  simp only [if_neg hl, Option.bind_some, decide_eq_true_eq]
  by_cases hl2 : (m.length : Int) > 100
  · simp only [if_pos hl2]; exact Ev.now _
  simp only [if_neg hl2]
  have h1 := elimK_len cur diff m l (by omega)
  refine Ev.bind (elim_ev cur diff m l (by omega) (fitM_of h hm (by omega)) hc) ?_
  refine Ev.bind (refelim_ev cur diff m l (by omega) (by omega) hd) ?_
  refine Ev.bind (same_ev _ (by omega)) ?_
  simp only [if_true]
  exact Ev.bind livesi_ev (Ev.now _)
end Go.Proofs.Ytmflggbpiadkjaa.Pure
