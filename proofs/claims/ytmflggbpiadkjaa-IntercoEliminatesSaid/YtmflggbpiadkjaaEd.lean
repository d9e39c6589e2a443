/- Texts of mine and of the print, joined: Px52, WSup, Px49, Px54, Px6, Px7, Px8, Px9. -/
import Derived.Test.YtmflggbpiadkjaaEa
import Derived.Test.YtmflggbpiadkjaaEb
import Derived.Test.YtmflggbpiadkjaaEc
namespace Go.Proofs.Ytmflggbpiadkjaa.P
open Go.RowKit Go.Proofs.YtmflggbpiadkjaaW.PrintWords Go.Proofs.YtmflggbpiadkjaaW.PrintLast Go.Proofs.YtmflggbpiadkjaaW.PrintMore
attribute [local go_sem] max2_int min2_int max_two min_two max_three min_three max_four min_four
set_option linter.unusedVariables false
set_option linter.unusedSimpArgs false
mutual
def interco_Eliminate.l0 : Nat → ByteArray → ByteArray → List (S89) → List (S34) → List (S34) → Int → Int → Option ((List (S34)) × Int)
 | 0, _, _, _, _, _, _, _ => none
 | k + 1, x1, x2, x12, x13, x50, x51, x52 => if x52 < x51 then (if 0 ≤ x52 then (if x52 < (x50.length : Int) then (if x13.length < 1466015503701 then (interco_Eliminate.l0 k x1 x2 x12 (x13 ++ [(⟨(⟨(rd_T34 x50 x52).f0.f0, (rd_T34 x50 x52).f0.f1, (rd_T34 x50 x52).f0.f2, (rd_T34 x50 x52).f0.f3, (rd_T34 x50 x52).f0.f4⟩ : S32), wrap64 (-((rd_T34 x50 x52).f1)), wrap64 (-((rd_T34 x50 x52).f2))⟩ : S34)]) x50 x51 (wrap64 (x52 + 1))) else (none)) else (none)) else (none)) else (interco_Eliminate.l1 k x1 x2 x13 x12 (x12.length : Int) 0)
def interco_Eliminate.l1 : Nat → ByteArray → ByteArray → List (S34) → List (S89) → Int → Int → Option ((List (S34)) × Int)
 | 0, _, _, _, _, _, _ => none
 | k + 1, x1, x2, x13, x69, x70, x71 => if x71 < x70 then (if 0 ≤ x71 then (if x71 < (x69.length : Int) then (if ((rd_T89 x69 x71).f2) = 0 then (interco_Eliminate.l1 k x1 x2 x13 x69 x70 (wrap64 (x71 + 1))) else (if x13.length < 1466015503701 then (interco_Eliminate.l1 k x1 x2 (x13 ++ [(⟨(⟨(rd_T89 x69 x71).f0, x2, x1, (⟨#[]⟩ : ByteArray), (⟨#[]⟩ : ByteArray)⟩ : S32), (rd_T89 x69 x71).f2, (rd_T89 x69 x71).f2⟩ : S34)]) x69 x70 (wrap64 (x71 + 1))) else (none))) else (none)) else (none)) else ((sheet_Of.f x13).bind fun bt601 => (some (bt601.1, bt601.2)))
end
def interco_Eliminate.f (k : Nat) (l0 : List (S34)) (a1 : ByteArray) (a2 : ByteArray) (l3 : List ByteArray) : Option ((List (S34)) × Int) := (sheet_Right.f l0).bind fun t578 => (if t578 = true then ((money_Code.f a1).bind fun t579 => (if t579 = true then ((words_Code.f a2).bind fun t580 => (if t580 = true then ((interco_Inside.f k l0 l3).bind fun bt581 => ((interco_pairs.f bt581.1).bind fun bt587 => (if bt587.2 = 0 then (interco_Eliminate.l0 k a1 a2 bt587.1 ([] : List (S34)) bt581.1 (bt581.1.length : Int) 0) else (some (([] : List (S34)), bt587.2))))) else (some (([] : List (S34)), 7)))) else (some (([] : List (S34)), 13)))) else (some (([] : List (S34)), 2)))
theorem interco_Eliminate.mono_l : ∀ k, (∀ y0 y1 y2 y3 y4 y5 y6, LeO (interco_Eliminate.l0 k y0 y1 y2 y3 y4 y5 y6) (interco_Eliminate.l0 (k + 1) y0 y1 y2 y3 y4 y5 y6)) ∧ (∀ y0 y1 y2 y3 y4 y5, LeO (interco_Eliminate.l1 k y0 y1 y2 y3 y4 y5) (interco_Eliminate.l1 (k + 1) y0 y1 y2 y3 y4 y5))
 | 0 => ⟨fun _ _ _ _ _ _ _ r h => by simp [interco_Eliminate.l0] at h, fun _ _ _ _ _ _ r h => by simp [interco_Eliminate.l1] at h⟩
 | k + 1 => by
  obtain ⟨ih0, ih1⟩ := interco_Eliminate.mono_l k
  refine ⟨?_, ?_⟩
  ·intro y0 y1 y2 y3 y4 y5 y6
   unfold interco_Eliminate.l0
   repeat' first
   | (with_reducible exact ih0 _ _ _ _ _ _ _)
   | (with_reducible exact ih1 _ _ _ _ _ _)
   | (with_reducible exact interco_Inside.mono _ _ _)
   | (with_reducible exact LeO.refl _)
   | (with_reducible exact LeO.none _)
   | (with_reducible refine LeO.ite ?_ ?_)
   | (with_reducible refine LeO.bind ?_ (fun _ => ?_))
   | exact ih0 _ _ _ _ _ _ _
   | exact ih1 _ _ _ _ _ _
   | exact interco_Inside.mono _ _ _
   | exact LeO.none _
   | refine LeO.ite ?_ ?_
   | refine LeO.bind ?_ (fun _ => ?_)
  ·intro y0 y1 y2 y3 y4 y5
   unfold interco_Eliminate.l1
   repeat' first
   | (with_reducible exact ih0 _ _ _ _ _ _ _)
   | (with_reducible exact ih1 _ _ _ _ _ _)
   | (with_reducible exact interco_Inside.mono _ _ _)
   | (with_reducible exact LeO.refl _)
   | (with_reducible exact LeO.none _)
   | (with_reducible refine LeO.ite ?_ ?_)
   | (with_reducible refine LeO.bind ?_ (fun _ => ?_))
   | exact ih0 _ _ _ _ _ _ _
   | exact ih1 _ _ _ _ _ _
   | exact interco_Inside.mono _ _ _
   | exact LeO.none _
   | refine LeO.ite ?_ ?_
   | refine LeO.bind ?_ (fun _ => ?_)
theorem interco_Eliminate.mono : ∀ a0 a1 a2 a3 k, LeO (interco_Eliminate.f k a0 a1 a2 a3) (interco_Eliminate.f (k + 1) a0 a1 a2 a3) := by
 intro a0 a1 a2 a3 k
 obtain ⟨ih0, ih1⟩ := interco_Eliminate.mono_l k
 unfold interco_Eliminate.f
 repeat' first
   | (with_reducible exact ih0 _ _ _ _ _ _ _)
   | (with_reducible exact ih1 _ _ _ _ _ _)
   | (with_reducible exact interco_Inside.mono _ _ _)
   | (with_reducible exact LeO.refl _)
   | (with_reducible exact LeO.none _)
   | (with_reducible refine LeO.ite ?_ ?_)
   | (with_reducible refine LeO.bind ?_ (fun _ => ?_))
   | exact ih0 _ _ _ _ _ _ _
   | exact ih1 _ _ _ _ _ _
   | exact interco_Inside.mono _ _ _
   | exact LeO.none _
   | refine LeO.ite ?_ ?_
   | refine LeO.bind ?_ (fun _ => ?_)
set_option maxHeartbeats 8000000 in
set_option maxRecDepth 100000 in
theorem interco_Eliminate.calls (k : Nat) (A0 : Option Addr) (c0 : Nat) (l0 : List (S34)) (a1 : ByteArray) (a2 : ByteArray) (A3 : Option Addr) (c3 : Nat) (l3 : List ByteArray) (r1 : List (S34)) (r2 : Int) (w : World) (hr0 : Kd.C k34 w A0 l0.length l0) (hc0 : l0.length ≤ c0) (hr3 : Kd.C Kd.string w A3 l3.length l3) (hc3 : l3.length ≤ c3) (h : interco_Eliminate.f k l0 a1 a2 l3 = some (r1, r2)) :
  Calls Try.prog 50 #[.slice A0 l0.length c0, .string a1, .string a2, .slice A3 l3.length c3] w fun e w' => ∃ v0_ : Value, e = .returned (.tuple #[v0_, .int .i64 r2]) ∧ Kd.R k34 34 w' w.heap.size (fun _ => True) v0_ r1 ∧ Below w.heap.size w w' := by
 have hu34 := Try.underlying34
 have hu32 := Try.underlying32
 have hu89 := Try.underlying89
 have HR0 := Aside0.mk hr0
 have HC0 := Aside0.mk hc0
 clear hr0 hc0
 have HR3 := Aside0.mk hr3
 have HC3 := Aside0.mk hc3
 clear hr3 hc3
 have HB := Aside0.mk (Below.refl w.heap.size w)
 have H : ((sheet_Right.f l0).bind fun t578 => (if t578 = true then ((money_Code.f a1).bind fun t579 => (if t579 = true then ((words_Code.f a2).bind fun t580 => (if t580 = true then ((interco_Inside.f k l0 l3).bind fun bt581 => ((interco_pairs.f bt581.1).bind fun bt587 => (if bt587.2 = 0 then (interco_Eliminate.l0 k a1 a2 bt587.1 ([] : List (S34)) bt581.1 (bt581.1.length : Int) 0) else (some (([] : List (S34)), bt587.2))))) else (some (([] : List (S34)), 7)))) else (some (([] : List (S34)), 13)))) else (some (([] : List (S34)), 2)))) = some (r1, r2) := h
 clear h
 replace H := Option.bind_eq_some_iff.mp H
 obtain ⟨t578, A50, H⟩ := H
 try dsimp only at H
 have A5 := Aside0.mk A50
 clear A50
 by_cases c6 : t578 = true
 ·subst c6
  have H1 : ((money_Code.f a1).bind fun t579 => (if t579 = true then ((words_Code.f a2).bind fun t580 => (if t580 = true then ((interco_Inside.f k l0 l3).bind fun bt581 => ((interco_pairs.f bt581.1).bind fun bt587 => (if bt587.2 = 0 then (interco_Eliminate.l0 k a1 a2 bt587.1 ([] : List (S34)) bt581.1 (bt581.1.length : Int) 0) else (some (([] : List (S34)), bt587.2))))) else (some (([] : List (S34)), 7)))) else (some (([] : List (S34)), 13)))) = some (r1, r2) := by rw [if_pos rfl] at H; exact H
  clear H
  have H := H1
  clear H1
  replace H := Option.bind_eq_some_iff.mp H
  obtain ⟨t579, A70, H⟩ := H
  try dsimp only at H
  have A7 := Aside0.mk A70
  clear A70
  by_cases c8 : t579 = true
  ·subst c8
   have H1 : ((words_Code.f a2).bind fun t580 => (if t580 = true then ((interco_Inside.f k l0 l3).bind fun bt581 => ((interco_pairs.f bt581.1).bind fun bt587 => (if bt587.2 = 0 then (interco_Eliminate.l0 k a1 a2 bt587.1 ([] : List (S34)) bt581.1 (bt581.1.length : Int) 0) else (some (([] : List (S34)), bt587.2))))) else (some (([] : List (S34)), 7)))) = some (r1, r2) := by rw [if_pos rfl] at H; exact H
   clear H
   have H := H1
   clear H1
   replace H := Option.bind_eq_some_iff.mp H
   obtain ⟨t580, A90, H⟩ := H
   try dsimp only at H
   have A9 := Aside0.mk A90
   clear A90
   by_cases c10 : t580 = true
   ·subst c10
    have H1 : ((interco_Inside.f k l0 l3).bind fun bt581 => ((interco_pairs.f bt581.1).bind fun bt587 => (if bt587.2 = 0 then (interco_Eliminate.l0 k a1 a2 bt587.1 ([] : List (S34)) bt581.1 (bt581.1.length : Int) 0) else (some (([] : List (S34)), bt587.2))))) = some (r1, r2) := by rw [if_pos rfl] at H; exact H
    clear H
    have H := H1
    clear H1
    replace H := Option.bind_eq_some_iff.mp H
    obtain ⟨⟨t581, t582⟩, A110, H⟩ := H
    try dsimp only at H
    have A11 := Aside0.mk A110
    clear A110
    replace H := Option.bind_eq_some_iff.mp H
    obtain ⟨⟨t587, t588⟩, A120, H⟩ := H
    try dsimp only at H
    have A12 := Aside0.mk A120
    clear A120
    by_cases c13 : t588 = 0
    ·rw [if_pos c13] at H
     have c13b0 : (t588 == 0) = true := beq_iff_eq.mpr c13
     have c13b1 : (t588 != 0) = false := bne_eq_false_iff_eq.mpr c13
     clear c13
     have H' := Aside0.mk H
     clear H
     have HLEN := Aside0.mk (pairs_len A12.out)
     go_enter Try.func50, Try.ntmps50
     go_wp2_with (first | ((with_reducible refine gate_callee (f := 22) rfl ?_); refine goesL_ (some 20) rfl rfl Try.func22 (by kernel_rfl) rfl #[.slice A0 l0.length c0] rfl (by (try simp only [List.map_toArray, List.map_cons, List.map_nil]); first | done | rfl | (simp only [List.length_drop, List.length_take]; rfl)) ?_; (with_reducible refine (sheet_Right.calls _ _ l0 true _ ?side1 ?side2 A5.out).mono ?_); (case side1 => repeat (first | exact HR0.out | (with_reducible refine Kd.C_alloc ?_ _) | (with_reducible refine Kd.C_drewN ?_ _) | (with_reducible refine Kd.C_drew ?_))); (case side2 => exact HC0.out); rintro e w14 ⟨rfl, hb⟩; refine ⟨_, rfl, ?_⟩; have n0_ := Aside0.mk (below_step (by repeat (first | (with_reducible first | exact HB.out | apply below_alloc | apply pw_below_drewN | apply below_drew1) | exact HB.out)) hb); clear HB; have HB := n0_; clear n0_; (try clear hb); (try clear hb2); (try clear hk); (try clear hi)) | ((with_reducible refine gate_callee (f := 77) rfl ?_); refine goesL_ (some 24) rfl rfl Try.func77 (by kernel_rfl) rfl #[.string a1] rfl (by (try simp only [List.map_toArray, List.map_cons, List.map_nil]); first | done | rfl | (simp only [List.length_drop, List.length_take]; rfl)) ?_; (with_reducible refine (money_Code.calls a1 true _ A7.out).mono ?_); rintro e w15 ⟨rfl, hb⟩; refine ⟨_, rfl, ?_⟩; have n0_ := Aside0.mk (below_step (by repeat (first | (with_reducible first | exact HB.out | apply below_alloc | apply pw_below_drewN | apply below_drew1) | exact HB.out)) hb); clear HB; have HB := n0_; clear n0_; (try clear hb); (try clear hb2); (try clear hk); (try clear hi)) | ((with_reducible refine gate_callee (f := 78) rfl ?_); refine goesL_ (some 28) rfl rfl Try.func78 (by kernel_rfl) rfl #[.string a2] rfl (by (try simp only [List.map_toArray, List.map_cons, List.map_nil]); first | done | rfl | (simp only [List.length_drop, List.length_take]; rfl)) ?_; (with_reducible refine (words_Code.calls a2 true _ A9.out).mono ?_); rintro e w' ⟨rfl, ⟨nd, rfl⟩⟩; refine ⟨_, rfl, ?_⟩) | ((with_reducible refine gate_callee (f := 44) rfl ?_); refine goesL_ (some 33) rfl rfl Try.func44 (by kernel_rfl) rfl #[.slice A0 l0.length c0, .slice A3 l3.length c3] rfl (by (try simp only [List.map_toArray, List.map_cons, List.map_nil]); first | done | rfl | (simp only [List.length_drop, List.length_take]; rfl)) ?_; (with_reducible refine (interco_Inside.calls k _ _ l0 _ _ l3 t581 t582 _ ?side1 ?side2 ?side3 ?side4 A11.out).mono ?_); (case side1 => repeat (first | exact (Kd.C_below HR0.out (by repeat (first | (with_reducible first | exact HB.out | apply below_alloc | apply pw_below_drewN | apply below_drew1) | exact HB.out))) | (with_reducible refine Kd.C_alloc ?_ _) | (with_reducible refine Kd.C_drewN ?_ _) | (with_reducible refine Kd.C_drew ?_))); (case side2 => exact HC0.out); (case side3 => repeat (first | exact (Kd.C_below HR3.out (by repeat (first | (with_reducible first | exact HB.out | apply below_alloc | apply pw_below_drewN | apply below_drew1) | exact HB.out))) | (with_reducible refine Kd.C_alloc ?_ _) | (with_reducible refine Kd.C_drewN ?_ _) | (with_reducible refine Kd.C_drew ?_))); (case side4 => exact HC3.out); rintro e w16 ⟨v583, v585, rfl, ho0, ho1, hb⟩; refine ⟨_, rfl, ?_⟩; have n0_ := Aside0.mk (Kd.R_lower ho0 (below_size (by repeat (first | (with_reducible first | exact HB.out | apply below_alloc | apply pw_below_drewN | apply below_drew1) | exact HB.out)))); have n1_ := Aside0.mk (Kd.R_lower ho1 (below_size (by repeat (first | (with_reducible first | exact HB.out | apply below_alloc | apply pw_below_drewN | apply below_drew1) | exact HB.out)))); have n2_ := Aside0.mk (below_step (by repeat (first | (with_reducible first | exact HB.out | apply below_alloc | apply pw_below_drewN | apply below_drew1) | exact HB.out)) hb); clear HB; have HO584 := n0_; have HO586 := n1_; have HB := n2_; clear n0_ n1_ n2_; (try clear hb); (try clear hb2); (try clear hk); (try clear hi); (try clear ho0); (try clear ho1); obtain ⟨Ao17, co17, eo17⟩ := Kd.R_slice HO584.out; subst eo17) | ((with_reducible refine gate_callee (f := 75) rfl ?_); refine goesL_ (some 38) rfl rfl Try.func75 (by kernel_rfl) rfl #[.slice Ao17 t581.length co17] rfl (by (try simp only [List.map_toArray, List.map_cons, List.map_nil]); first | done | rfl | (simp only [List.length_drop, List.length_take]; rfl)) ?_; (with_reducible refine (interco_pairs.calls _ _ t581 t587 t588 _ ?side1 ?side2 A12.out).mono ?_); (case side1 => repeat (first | exact (Kd.R_reads' HO584.out).2.2 | (with_reducible refine Kd.C_alloc ?_ _) | (with_reducible refine Kd.C_drewN ?_ _) | (with_reducible refine Kd.C_drew ?_))); (case side2 => exact (Kd.R_reads' HO584.out).2.1); rintro e w18 ⟨v589, rfl, ho0, hb⟩; refine ⟨_, rfl, ?_⟩; have n0_ := Aside0.mk (Kd.R_below (by (with_reducible repeat (first | apply Kd.R_alloc | apply Kd.R_drewN | apply Kd.R_drew)); exact HO584.out) hb); have n1_ := Aside0.mk (Kd.R_below (by (with_reducible repeat (first | apply Kd.R_alloc | apply Kd.R_drewN | apply Kd.R_drew)); exact HO586.out) hb); have n2_ := Aside0.mk (Kd.R_lower ho0 (below_size (by repeat (first | (with_reducible first | exact HB.out | apply below_alloc | apply pw_below_drewN | apply below_drew1) | exact HB.out)))); have n3_ := Aside0.mk (below_step (by repeat (first | (with_reducible first | exact HB.out | apply below_alloc | apply pw_below_drewN | apply below_drew1) | exact HB.out)) hb); clear HO584; clear HO586; clear HB; have HO584 := n0_; have HO586 := n1_; have HO590 := n2_; have HB := n3_; clear n0_ n1_ n2_ n3_; (try clear hb); (try clear hb2); (try clear hk); (try clear hi); (try clear ho0); obtain ⟨Ao19, co19, eo19⟩ := Kd.R_slice HO590.out; subst eo19) | ((with_reducible refine gate_dst (N := 49) rfl ?_); refine mk_event rfl rfl (.tmp 48) rfl (t581.length + t587.length) rfl ?hm ?hc w.heap.size ?hb ?_; (case hm => have hl_ := HLEN.out; first | (unfold wrap64; omega) | (simp [wrap64]; omega) | (rw [i64_w]; unfold wrap64; omega)); (case hc => have hl_ := HLEN.out; omega); (case hb => exact below_size (by repeat (first | (with_reducible first | exact HB.out | apply below_alloc | apply pw_below_drewN | apply below_drew1) | exact HB.out))); intro g49 w49 hg ho49 hb; have n0_ := Aside0.mk (Kd.R_below (Kd.R_elderB (by (with_reducible repeat (first | apply Kd.R_alloc | apply Kd.R_drewN | apply Kd.R_drew)); exact HO584.out) g49 (Nat.le_of_eq hg.symm)) hb); have n2_ := Aside0.mk (Kd.R_below (by (with_reducible repeat (first | apply Kd.R_alloc | apply Kd.R_drewN | apply Kd.R_drew)); exact HO590.out) hb); have n3_ := Aside0.mk (below_step (by repeat (first | (with_reducible first | exact HB.out | apply below_alloc | apply pw_below_drewN | apply below_drew1) | exact HB.out)) hb); have HO49 := Aside0.mk ho49; clear HO584; clear HO586; clear HO590; clear HB; have HO584 := n0_; have HO590 := n2_; have HB := n3_; clear n0_ n2_ n3_; clear ho49 hb hg))
     go_loopg [13, 52] k (fun kq v13 v52 w' => ∃ (x13_1 : List (S34)) (x52_1 : Int), v52 = .int .i64 x52_1 ∧ Aside0 (interco_Eliminate.l0 kq a1 a2 t587 x13_1 t581 (t581.length : Int) x52_1 = some (r1, r2)) ∧ Aside0 (kq ≤ k) ∧ Aside0 (Kd.R k89 89 w' w.heap.size (fun _ => True) (.slice Ao19 t587.length co19) t587) ∧ Aside0 (Kd.R k34 34 w' w.heap.size (fun k_ => some k_ ≠ ((.slice Ao17 t581.length co17) : Value).ownBlock) v13 x13_1) ∧ Aside0 (Kd.R k34 34 w' w.heap.size (fun k_ => some k_ ≠ (v13 : Value).ownBlock) (.slice Ao17 t581.length co17) t581) ∧ Aside0 (Below w.heap.size w w'))
     case atStart => exact ⟨([] : List S34), 0, rfl, H', ⟨Nat.le_refl _⟩, ⟨by (with_reducible repeat (first | apply Kd.R_alloc | apply Kd.R_drewN | apply Kd.R_drew)); exact HO590.out⟩, ⟨R_empty HO49.out (fun e_ => (HO584.out.1 _ e_.symm).2 rfl)⟩, ⟨Kd.R_mono HO584.out (fun k_ hk e_ => hk.2 (by simpa [Value.ownBlock] using e_))⟩, ⟨by repeat (first | (with_reducible first | exact HB.out | apply below_alloc | apply pw_below_drewN | apply below_drew1) | exact HB.out)⟩⟩
     case round =>
      clear H'
      try clear c1
      try clear c2
      try clear p2
      try clear c3
      try clear c4
      try clear c5
      try clear c6
      try clear c7
      try clear c8
      try clear c10
      try clear c13
      try clear c13b0
      try clear c13b1
      obtain ⟨x13_1, x52_1, rfl, HA, HK1, HO_12, HO_13, HO_50, HB⟩ := hrel
      cases gk with
      | zero => exact absurd HA.out (by simp [interco_Eliminate.l0])
      | succ k1 =>
       have H := HA.out
       clear HA
       simp only [interco_Eliminate.l0] at H
       by_cases c20 : x52_1 < (t581.length : Int)
       ·rw [if_pos c20] at H
        have c20b0 : decide (x52_1 < (t581.length : Int)) = true := decide_eq_true c20
        clear c20
        by_cases c21 : 0 ≤ x52_1
        ·rw [if_pos c21] at H
         have c21b0 : decide (0 ≤ x52_1) = true := decide_eq_true c21
         clear c21
         by_cases c22 : x52_1 < (t581.length : Int)
         ·rw [if_pos c22] at H
          have c22b0 : decide (x52_1 < (t581.length : Int)) = true := decide_eq_true c22
          clear c22
          by_cases c23 : x13_1.length < 1466015503701
          ·rw [if_pos c23] at H
           have LMc23 := Aside0.mk c23
           clear c23
           obtain ⟨y593, hy593⟩ : ∃ y_ : List (S34), y_ = (x13_1 ++ [(⟨(⟨(rd_T34 t581 x52_1).f0.f0, (rd_T34 t581 x52_1).f0.f1, (rd_T34 t581 x52_1).f0.f2, (rd_T34 t581 x52_1).f0.f3, (rd_T34 t581 x52_1).f0.f4⟩ : S32), wrap64 (-((rd_T34 t581 x52_1).f1)), wrap64 (-((rd_T34 t581 x52_1).f2))⟩ : S34)]) := ⟨_, rfl⟩
           replace H : (interco_Eliminate.l0 k1 a1 a2 t587 y593 t581 (t581.length : Int) (wrap64 (x52_1 + 1))) = some (r1, r2) := by first | (rw [hy593]; with_reducible exact H) | (have H2_ := (Option.bind_some _ _).symm.trans H; rw [hy593]; with_reducible exact H2_) | (have H2_ := (Option.bind_some _ _).symm.trans H; with_reducible exact H2_) | with_reducible exact H | (rw [hy593]; exact H) | exact H
           have Ny593 := Aside0.mk hy593
           clear hy593
           have H' := Aside0.mk H
           clear H
           have p591 : 0 ≤ (x52_1 : Int) := odt_
           have q591 : x52_1 < (t581.length : Int) := odt_
           obtain ⟨ad591, e591, hx591_0, hx591_1, hx591_2, hx591_3, hx591_4, hx591_5, hx591_6⟩ := at_T34 (Kd.R_reads' HO_50.out).2.2 x52_1 p591 q591
           cases e591
           replace p591 := eq_true p591
           replace q591 := eq_true q591
           go_wp2_with (first | ((with_reducible refine gate_dst (N := 15) rfl ?_); refine box_event ?hg (N := 15) ?hd (cs := #[.string (⟨#[]⟩ : ByteArray), .string (⟨#[]⟩ : ByteArray), .string (⟨#[]⟩ : ByteArray), .string (⟨#[]⟩ : ByteArray), .string (⟨#[]⟩ : ByteArray), .int .i64 0, .int .i64 0]) (t := 34) ?hr ?_; (case hd => rfl); (case hg => rfl); (case hr => first | (go_simp; done) | (go_simp; rfl)); intro gb592 hg w24 hbox hb; have n0_ := Aside0.mk (Kd.R_below (by (with_reducible repeat (first | apply Kd.R_alloc | apply Kd.R_drewN | apply Kd.R_drew)); exact HO_12.out) hb); have n1_ := Aside0.mk (Kd.R_below (Kd.R_elderB (by (with_reducible repeat (first | apply Kd.R_alloc | apply Kd.R_drewN | apply Kd.R_drew)); exact HO_13.out) gb592 (Nat.le_of_eq hg.symm)) hb); have n2_ := Aside0.mk (Kd.R_below (Kd.R_elderB (by (with_reducible repeat (first | apply Kd.R_alloc | apply Kd.R_drewN | apply Kd.R_drew)); exact HO_50.out) gb592 (Nat.le_of_eq hg.symm)) hb); have n3_ := Aside0.mk (below_step (by repeat (first | (with_reducible first | exact HB.out | apply below_alloc | apply pw_below_drewN | apply below_drew1) | exact HB.out)) hb); have n4_ := Aside0.mk (hbox); have n5_ := Aside0.mk ((by rw [hg]; exact (below_size (by repeat (first | (with_reducible first | exact HB.out | apply below_alloc | apply pw_below_drewN | apply below_drew1) | exact HB.out))) : w.heap.size ≤ gb592)); have n6_ := Aside0.mk ((by rw [hg]; exact (below_size (by repeat (first | (with_reducible first | exact HB.out | apply below_alloc | apply pw_below_drewN | apply below_drew1) | exact HB.out))) : w.heap.size ≤ gb592)); clear HO_12; clear HO_13; clear HO_50; clear HB; have HO_12 := n0_; have HO_13 := n1_; have HO_50 := n2_; have HB := n3_; have BK592 := n4_; have GW592 := n5_; have GE592 := n6_; clear n0_ n1_ n2_ n3_ n4_ n5_ n6_; clear hb hbox hg; have hcz25_0 : w24.cell? ⟨gb592, 0, none⟩ = some (.string (⟨#[]⟩ : ByteArray)) := (blk_cell BK592.out 0).trans rfl; have hcz25_1 : w24.cell? ⟨gb592, 1, none⟩ = some (.string (⟨#[]⟩ : ByteArray)) := (blk_cell BK592.out 1).trans rfl; have hcz25_2 : w24.cell? ⟨gb592, 2, none⟩ = some (.string (⟨#[]⟩ : ByteArray)) := (blk_cell BK592.out 2).trans rfl; have hcz25_3 : w24.cell? ⟨gb592, 3, none⟩ = some (.string (⟨#[]⟩ : ByteArray)) := (blk_cell BK592.out 3).trans rfl; have hcz25_4 : w24.cell? ⟨gb592, 4, none⟩ = some (.string (⟨#[]⟩ : ByteArray)) := (blk_cell BK592.out 4).trans rfl; have hcz25_5 : w24.cell? ⟨gb592, 5, none⟩ = some (.int .i64 0) := (blk_cell BK592.out 5).trans rfl; have hcz25_6 : w24.cell? ⟨gb592, 6, none⟩ = some (.int .i64 0) := (blk_cell BK592.out 6).trans rfl; have hfz25_0 := blk_frozen BK592.out 0; have hfz25_1 := blk_frozen BK592.out 1; have hfz25_2 := blk_frozen BK592.out 2; have hfz25_3 := blk_frozen BK592.out 3; have hfz25_4 := blk_frozen BK592.out 4; have hfz25_5 := blk_frozen BK592.out 5; have hfz25_6 := blk_frozen BK592.out 6) | ((with_reducible refine gate_builtin (b := .append) (xs := #[.tmp 56, .tmp 66]) rfl ?_); at_builtin; refine Kd.R_append k34 (w0 := w) w.heap.size rfl (.tmp 56) (.tmp 66) 22 34 (.agg #[(.string ⟨#[]⟩), (.string ⟨#[]⟩), (.string ⟨#[]⟩), (.string ⟨#[]⟩), (.string ⟨#[]⟩), (.int .i64 0), (.int .i64 0)]) 96 rfl Try.underlying22 info34 rfl (by decide) (by omega) u13 x13_1 (⟨(⟨(rd_T34 t581 x52_1).f0.f0, (rd_T34 t581 x52_1).f0.f1, (rd_T34 t581 x52_1).f0.f2, (rd_T34 t581 x52_1).f0.f3, (rd_T34 t581 x52_1).f0.f4⟩ : S32), wrap64 (-((rd_T34 t581 x52_1).f1)), wrap64 (-((rd_T34 t581 x52_1).f2))⟩ : S34) [.string ((rd_T34 t581 x52_1).f0.f0), .string ((rd_T34 t581 x52_1).f0.f1), .string ((rd_T34 t581 x52_1).f0.f2), .string ((rd_T34 t581 x52_1).f0.f3), .string ((rd_T34 t581 x52_1).f0.f4), .int .i64 (wrap64 (-((rd_T34 t581 x52_1).f1))), .int .i64 (wrap64 (-((rd_T34 t581 x52_1).f2)))] (fun k_ => some k_ ≠ (.slice (some ad591) t581.length co17 : Value).ownBlock ∧ k_ ≠ gb592) (fun _ => False) rfl (by first | (go_simp; done) | (go_simp; rfl)) ?aP (fun _ hk => hk.elim) ?aF ?aO ?aB ?aS ?aL ?_; (case aP => exact k34_mkM _ _ _ (⟨(⟨(rd_T34 t581 x52_1).f0.f0, (rd_T34 t581 x52_1).f0.f1, (rd_T34 t581 x52_1).f0.f2, (rd_T34 t581 x52_1).f0.f3, (rd_T34 t581 x52_1).f0.f4⟩ : S32), wrap64 (-((rd_T34 t581 x52_1).f1)), wrap64 (-((rd_T34 t581 x52_1).f2))⟩ : S34)); (case aB => exact (by repeat (first | (with_reducible first | exact HB.out | apply below_alloc | apply pw_below_drewN | apply below_drew1 | refine below_set ?_ GE592.out) | exact HB.out))); (case aF => exact (fun k_ hk => ⟨Kd.fresh' (Kd.R_lt (by (with_reducible repeat (first | apply Kd.R_alloc | apply Kd.R_drewN | apply Kd.R_drew)); exact (Kd.R_mono (Kd.R_far (p := ⟨gb592, 6, none⟩) (Kd.R_far (p := ⟨gb592, 5, none⟩) (Kd.R_far (p := ⟨gb592, 4, none⟩) (Kd.R_far (p := ⟨gb592, 3, none⟩) (Kd.R_far (p := ⟨gb592, 2, none⟩) (Kd.R_far (p := ⟨gb592, 1, none⟩) (Kd.R_far (p := ⟨gb592, 0, none⟩) (Kd.R_mono HO_50.out (fun k_ hk => (⟨hk, hk.2⟩ : _ ∧ k_ ≠ gb592))) (fun _ hk => hk.2) (.string ((rd_T34 t581 x52_1).f0.f0))) (fun _ hk => hk.2) (.string ((rd_T34 t581 x52_1).f0.f1))) (fun _ hk => hk.2) (.string ((rd_T34 t581 x52_1).f0.f2))) (fun _ hk => hk.2) (.string ((rd_T34 t581 x52_1).f0.f3))) (fun _ hk => hk.2) (.string ((rd_T34 t581 x52_1).f0.f4))) (fun _ hk => hk.2) (.int .i64 ((rd_T34 t581 x52_1).f1))) (fun _ hk => hk.2) (.int .i64 ((rd_T34 t581 x52_1).f2))) (fun _ h_ => h_.1)))) k_ hk, Kd.freshB (g := gb592) (o := .cells #[.string ((rd_T34 t581 x52_1).f0.f0), .string ((rd_T34 t581 x52_1).f0.f1), .string ((rd_T34 t581 x52_1).f0.f2), .string ((rd_T34 t581 x52_1).f0.f3), .string ((rd_T34 t581 x52_1).f0.f4), .int .i64 ((rd_T34 t581 x52_1).f1), .int .i64 ((rd_T34 t581 x52_1).f2)] 34 (0, 0)) (by (with_reducible repeat (first | refine blk_drewN ?_ _ | refine blk_drew ?_ | refine blk_alloc ?_ _)); refine blk_put (cs := #[.string ((rd_T34 t581 x52_1).f0.f0), .string ((rd_T34 t581 x52_1).f0.f1), .string ((rd_T34 t581 x52_1).f0.f2), .string ((rd_T34 t581 x52_1).f0.f3), .string ((rd_T34 t581 x52_1).f0.f4), .int .i64 ((rd_T34 t581 x52_1).f1), .int .i64 0]) ?_ 6 _ rfl; (with_reducible repeat (first | refine blk_drewN ?_ _ | refine blk_drew ?_ | refine blk_alloc ?_ _)); refine blk_put (cs := #[.string ((rd_T34 t581 x52_1).f0.f0), .string ((rd_T34 t581 x52_1).f0.f1), .string ((rd_T34 t581 x52_1).f0.f2), .string ((rd_T34 t581 x52_1).f0.f3), .string ((rd_T34 t581 x52_1).f0.f4), .int .i64 0, .int .i64 0]) ?_ 5 _ rfl; (with_reducible repeat (first | refine blk_drewN ?_ _ | refine blk_drew ?_ | refine blk_alloc ?_ _)); refine blk_put (cs := #[.string ((rd_T34 t581 x52_1).f0.f0), .string ((rd_T34 t581 x52_1).f0.f1), .string ((rd_T34 t581 x52_1).f0.f2), .string ((rd_T34 t581 x52_1).f0.f3), .string (⟨#[]⟩ : ByteArray), .int .i64 0, .int .i64 0]) ?_ 4 _ rfl; (with_reducible repeat (first | refine blk_drewN ?_ _ | refine blk_drew ?_ | refine blk_alloc ?_ _)); refine blk_put (cs := #[.string ((rd_T34 t581 x52_1).f0.f0), .string ((rd_T34 t581 x52_1).f0.f1), .string ((rd_T34 t581 x52_1).f0.f2), .string (⟨#[]⟩ : ByteArray), .string (⟨#[]⟩ : ByteArray), .int .i64 0, .int .i64 0]) ?_ 3 _ rfl; (with_reducible repeat (first | refine blk_drewN ?_ _ | refine blk_drew ?_ | refine blk_alloc ?_ _)); refine blk_put (cs := #[.string ((rd_T34 t581 x52_1).f0.f0), .string ((rd_T34 t581 x52_1).f0.f1), .string (⟨#[]⟩ : ByteArray), .string (⟨#[]⟩ : ByteArray), .string (⟨#[]⟩ : ByteArray), .int .i64 0, .int .i64 0]) ?_ 2 _ rfl; (with_reducible repeat (first | refine blk_drewN ?_ _ | refine blk_drew ?_ | refine blk_alloc ?_ _)); refine blk_put (cs := #[.string ((rd_T34 t581 x52_1).f0.f0), .string (⟨#[]⟩ : ByteArray), .string (⟨#[]⟩ : ByteArray), .string (⟨#[]⟩ : ByteArray), .string (⟨#[]⟩ : ByteArray), .int .i64 0, .int .i64 0]) ?_ 1 _ rfl; (with_reducible repeat (first | refine blk_drewN ?_ _ | refine blk_drew ?_ | refine blk_alloc ?_ _)); refine blk_put (cs := #[.string (⟨#[]⟩ : ByteArray), .string (⟨#[]⟩ : ByteArray), .string (⟨#[]⟩ : ByteArray), .string (⟨#[]⟩ : ByteArray), .string (⟨#[]⟩ : ByteArray), .int .i64 0, .int .i64 0]) ?_ 0 _ rfl; (with_reducible repeat (first | refine blk_drewN ?_ _ | refine blk_drew ?_ | refine blk_alloc ?_ _)); exact BK592.out) k_ hk⟩)); (case aO => exact (by (with_reducible repeat (first | apply Kd.R_alloc | apply Kd.R_drewN | apply Kd.R_drew)); exact Kd.R_mono (Kd.R_far (p := ⟨gb592, 6, none⟩) (Kd.R_far (p := ⟨gb592, 5, none⟩) (Kd.R_far (p := ⟨gb592, 4, none⟩) (Kd.R_far (p := ⟨gb592, 3, none⟩) (Kd.R_far (p := ⟨gb592, 2, none⟩) (Kd.R_far (p := ⟨gb592, 1, none⟩) (Kd.R_far (p := ⟨gb592, 0, none⟩) (Kd.R_mono HO_13.out (fun k_ hk => (⟨hk, hk.2⟩ : _ ∧ k_ ≠ gb592))) (fun _ hk => hk.2) (.string ((rd_T34 t581 x52_1).f0.f0))) (fun _ hk => hk.2) (.string ((rd_T34 t581 x52_1).f0.f1))) (fun _ hk => hk.2) (.string ((rd_T34 t581 x52_1).f0.f2))) (fun _ hk => hk.2) (.string ((rd_T34 t581 x52_1).f0.f3))) (fun _ hk => hk.2) (.string ((rd_T34 t581 x52_1).f0.f4))) (fun _ hk => hk.2) (.int .i64 ((rd_T34 t581 x52_1).f1))) (fun _ hk => hk.2) (.int .i64 ((rd_T34 t581 x52_1).f2))) (fun _ hk => ⟨hk.1.1, hk.1.2⟩))); (case aS => exact (below_size (by repeat (first | (with_reducible first | exact HB.out | apply below_alloc | apply pw_below_drewN | apply below_drew1 | refine below_set ?_ GE592.out) | exact HB.out)))); (case aL => have := LMc23.out; omega); intro v594 w26 ho hb hg hat; rw [← Ny593.out] at ho; have n0_ := Aside0.mk (Kd.R_over' (by (with_reducible repeat (first | apply Kd.R_alloc | apply Kd.R_drewN | apply Kd.R_drew)); exact (Kd.R_mono (Kd.R_far (p := ⟨gb592, 6, none⟩) (Kd.R_far (p := ⟨gb592, 5, none⟩) (Kd.R_far (p := ⟨gb592, 4, none⟩) (Kd.R_far (p := ⟨gb592, 3, none⟩) (Kd.R_far (p := ⟨gb592, 2, none⟩) (Kd.R_far (p := ⟨gb592, 1, none⟩) (Kd.R_far (p := ⟨gb592, 0, none⟩) (Kd.R_types HO_12.out BK592.out (by decide)) (fun _ hk => hk.2) (.string ((rd_T34 t581 x52_1).f0.f0))) (fun _ hk => hk.2) (.string ((rd_T34 t581 x52_1).f0.f1))) (fun _ hk => hk.2) (.string ((rd_T34 t581 x52_1).f0.f2))) (fun _ hk => hk.2) (.string ((rd_T34 t581 x52_1).f0.f3))) (fun _ hk => hk.2) (.string ((rd_T34 t581 x52_1).f0.f4))) (fun _ hk => hk.2) (.int .i64 ((rd_T34 t581 x52_1).f1))) (fun _ hk => hk.2) (.int .i64 ((rd_T34 t581 x52_1).f2))) (fun _ h_ => h_.1))) (Kd.R_typed (by (with_reducible repeat (first | apply Kd.R_alloc | apply Kd.R_drewN | apply Kd.R_drew)); exact (Kd.R_mono (Kd.R_far (p := ⟨gb592, 6, none⟩) (Kd.R_far (p := ⟨gb592, 5, none⟩) (Kd.R_far (p := ⟨gb592, 4, none⟩) (Kd.R_far (p := ⟨gb592, 3, none⟩) (Kd.R_far (p := ⟨gb592, 2, none⟩) (Kd.R_far (p := ⟨gb592, 1, none⟩) (Kd.R_far (p := ⟨gb592, 0, none⟩) (Kd.R_mono HO_13.out (fun k_ hk => (⟨hk, hk.2⟩ : _ ∧ k_ ≠ gb592))) (fun _ hk => hk.2) (.string ((rd_T34 t581 x52_1).f0.f0))) (fun _ hk => hk.2) (.string ((rd_T34 t581 x52_1).f0.f1))) (fun _ hk => hk.2) (.string ((rd_T34 t581 x52_1).f0.f2))) (fun _ hk => hk.2) (.string ((rd_T34 t581 x52_1).f0.f3))) (fun _ hk => hk.2) (.string ((rd_T34 t581 x52_1).f0.f4))) (fun _ hk => hk.2) (.int .i64 ((rd_T34 t581 x52_1).f1))) (fun _ hk => hk.2) (.int .i64 ((rd_T34 t581 x52_1).f2))) (fun _ h_ => h_.1)))) (by decide) hg); have n1_ := Aside0.mk (Kd.R_after (ok := (fun k_ => k_ ≠ gb592)) (by (with_reducible repeat (first | apply Kd.R_alloc | apply Kd.R_drewN | apply Kd.R_drew)); exact Kd.R_mono (Kd.R_far (p := ⟨gb592, 6, none⟩) (Kd.R_far (p := ⟨gb592, 5, none⟩) (Kd.R_far (p := ⟨gb592, 4, none⟩) (Kd.R_far (p := ⟨gb592, 3, none⟩) (Kd.R_far (p := ⟨gb592, 2, none⟩) (Kd.R_far (p := ⟨gb592, 1, none⟩) (Kd.R_far (p := ⟨gb592, 0, none⟩) (Kd.R_mono HO_50.out (fun k_ hk => (⟨hk, hk.2⟩ : _ ∧ k_ ≠ gb592))) (fun _ hk => hk.2) (.string ((rd_T34 t581 x52_1).f0.f0))) (fun _ hk => hk.2) (.string ((rd_T34 t581 x52_1).f0.f1))) (fun _ hk => hk.2) (.string ((rd_T34 t581 x52_1).f0.f2))) (fun _ hk => hk.2) (.string ((rd_T34 t581 x52_1).f0.f3))) (fun _ hk => hk.2) (.string ((rd_T34 t581 x52_1).f0.f4))) (fun _ hk => hk.2) (.int .i64 ((rd_T34 t581 x52_1).f1))) (fun _ hk => hk.2) (.int .i64 ((rd_T34 t581 x52_1).f2))) (fun _ hk => ⟨hk.1.2, hk.1.1⟩)) hg hat); have n2_ := Aside0.mk (blk_grown (g := gb592) (o := .cells #[.string ((rd_T34 t581 x52_1).f0.f0), .string ((rd_T34 t581 x52_1).f0.f1), .string ((rd_T34 t581 x52_1).f0.f2), .string ((rd_T34 t581 x52_1).f0.f3), .string ((rd_T34 t581 x52_1).f0.f4), .int .i64 ((rd_T34 t581 x52_1).f1), .int .i64 ((rd_T34 t581 x52_1).f2)] 34 (0, 0)) (by (with_reducible repeat (first | refine blk_drewN ?_ _ | refine blk_drew ?_ | refine blk_alloc ?_ _)); refine blk_put (cs := #[.string ((rd_T34 t581 x52_1).f0.f0), .string ((rd_T34 t581 x52_1).f0.f1), .string ((rd_T34 t581 x52_1).f0.f2), .string ((rd_T34 t581 x52_1).f0.f3), .string ((rd_T34 t581 x52_1).f0.f4), .int .i64 ((rd_T34 t581 x52_1).f1), .int .i64 0]) ?_ 6 _ rfl; (with_reducible repeat (first | refine blk_drewN ?_ _ | refine blk_drew ?_ | refine blk_alloc ?_ _)); refine blk_put (cs := #[.string ((rd_T34 t581 x52_1).f0.f0), .string ((rd_T34 t581 x52_1).f0.f1), .string ((rd_T34 t581 x52_1).f0.f2), .string ((rd_T34 t581 x52_1).f0.f3), .string ((rd_T34 t581 x52_1).f0.f4), .int .i64 0, .int .i64 0]) ?_ 5 _ rfl; (with_reducible repeat (first | refine blk_drewN ?_ _ | refine blk_drew ?_ | refine blk_alloc ?_ _)); refine blk_put (cs := #[.string ((rd_T34 t581 x52_1).f0.f0), .string ((rd_T34 t581 x52_1).f0.f1), .string ((rd_T34 t581 x52_1).f0.f2), .string ((rd_T34 t581 x52_1).f0.f3), .string (⟨#[]⟩ : ByteArray), .int .i64 0, .int .i64 0]) ?_ 4 _ rfl; (with_reducible repeat (first | refine blk_drewN ?_ _ | refine blk_drew ?_ | refine blk_alloc ?_ _)); refine blk_put (cs := #[.string ((rd_T34 t581 x52_1).f0.f0), .string ((rd_T34 t581 x52_1).f0.f1), .string ((rd_T34 t581 x52_1).f0.f2), .string (⟨#[]⟩ : ByteArray), .string (⟨#[]⟩ : ByteArray), .int .i64 0, .int .i64 0]) ?_ 3 _ rfl; (with_reducible repeat (first | refine blk_drewN ?_ _ | refine blk_drew ?_ | refine blk_alloc ?_ _)); refine blk_put (cs := #[.string ((rd_T34 t581 x52_1).f0.f0), .string ((rd_T34 t581 x52_1).f0.f1), .string (⟨#[]⟩ : ByteArray), .string (⟨#[]⟩ : ByteArray), .string (⟨#[]⟩ : ByteArray), .int .i64 0, .int .i64 0]) ?_ 2 _ rfl; (with_reducible repeat (first | refine blk_drewN ?_ _ | refine blk_drew ?_ | refine blk_alloc ?_ _)); refine blk_put (cs := #[.string ((rd_T34 t581 x52_1).f0.f0), .string (⟨#[]⟩ : ByteArray), .string (⟨#[]⟩ : ByteArray), .string (⟨#[]⟩ : ByteArray), .string (⟨#[]⟩ : ByteArray), .int .i64 0, .int .i64 0]) ?_ 1 _ rfl; (with_reducible repeat (first | refine blk_drewN ?_ _ | refine blk_drew ?_ | refine blk_alloc ?_ _)); refine blk_put (cs := #[.string (⟨#[]⟩ : ByteArray), .string (⟨#[]⟩ : ByteArray), .string (⟨#[]⟩ : ByteArray), .string (⟨#[]⟩ : ByteArray), .string (⟨#[]⟩ : ByteArray), .int .i64 0, .int .i64 0]) ?_ 0 _ rfl; (with_reducible repeat (first | refine blk_drewN ?_ _ | refine blk_drew ?_ | refine blk_alloc ?_ _)); exact BK592.out) hg (Kd.R_away HO_13.out (fun _ hk => hk.2))); have n3_ := Aside0.mk (hb); have n4_ := Aside0.mk (ho); clear HO_12; clear HO_50; clear BK592; clear HB; clear HO_13; have HO_12 := n0_; have HO_50 := n1_; have BK592 := n2_; have HB := n3_; have HO595 := n4_; clear n0_ n1_ n2_ n3_ n4_; clear ho hb hg hat))
           go_roundg k1
           case measure => have := HK1.out; omega
           case rel => exact ⟨(y593), (wrap64 (x52_1 + 1)), (by first | rfl | (simp; done) | (simp [*]; done)), H', ⟨by have := HK1.out; omega⟩, ⟨by (with_reducible repeat (first | apply Kd.R_alloc | apply Kd.R_drewN | apply Kd.R_drew)); exact HO_12.out⟩, ⟨by (with_reducible repeat (first | apply Kd.R_alloc | apply Kd.R_drewN | apply Kd.R_drew)); exact Kd.R_mono HO595.out (fun _ hk => hk.1)⟩, ⟨by (with_reducible repeat (first | apply Kd.R_alloc | apply Kd.R_drewN | apply Kd.R_drew)); exact Kd.R_mono HO_50.out (fun _ hk => hk.2)⟩, ⟨by repeat (first | (with_reducible first | exact HB.out | apply below_alloc | apply pw_below_drewN | apply below_drew1 | refine below_set ?_ GE592.out) | exact HB.out)⟩⟩
          ·rw [if_neg c23] at H
           exact absurd H (by simp)
         ·rw [if_neg c22] at H
          exact absurd H (by simp)
        ·rw [if_neg c21] at H
         exact absurd H (by simp)
       ·rw [if_neg c20] at H
        have c20b0 : decide (x52_1 < (t581.length : Int)) = false := decide_eq_false c20
        clear c20
        have H' := Aside0.mk H
        clear H
        go_wp2
        go_loopg [13, 71] k1 (fun kq v13 v71 w' => ∃ (x13_2 : List (S34)) (x71_2 : Int), v71 = .int .i64 x71_2 ∧ Aside0 (interco_Eliminate.l1 kq a1 a2 x13_2 t587 (t587.length : Int) x71_2 = some (r1, r2)) ∧ Aside0 (kq ≤ k1) ∧ Aside0 (Kd.R k34 34 w' w.heap.size (fun _ => True) v13 x13_2) ∧ Aside0 (Kd.R k89 89 w' w.heap.size (fun _ => True) (.slice Ao19 t587.length co19) t587) ∧ Aside0 (Below w.heap.size w w'))
        case atStart => exact ⟨(x13_1), (0), (by first | rfl | (simp; done) | (simp [*]; done)), H', ⟨Nat.le_refl _⟩, ⟨by (with_reducible repeat (first | apply Kd.R_alloc | apply Kd.R_drewN | apply Kd.R_drew)); exact Kd.R_mono HO_13.out (fun _ hk => trivial)⟩, ⟨by (with_reducible repeat (first | apply Kd.R_alloc | apply Kd.R_drewN | apply Kd.R_drew)); exact HO_12.out⟩, ⟨by repeat (first | (with_reducible first | exact HB.out | apply below_alloc | apply pw_below_drewN | apply below_drew1) | exact HB.out)⟩⟩
        case round =>
         clear H'
         try clear c1
         try clear c2
         try clear p2
         try clear c3
         try clear c4
         try clear c5
         try clear p5
         try clear q5
         try clear hx5
         try clear c6
         try clear p6
         try clear c7
         try clear c8
         try clear c10
         try clear c13
         try clear c13b0
         try clear c13b1
         try clear c20
         try clear c20b0
         try clear c21
         try clear c21b0
         try clear c22
         try clear c22b0
         try clear c23
         try clear hcz25_0
         try clear hcz25_1
         try clear hcz25_2
         try clear hcz25_3
         try clear hcz25_4
         try clear hcz25_5
         try clear hcz25_6
         try clear hfz25_0
         try clear hfz25_1
         try clear hfz25_2
         try clear hfz25_3
         try clear hfz25_4
         try clear hfz25_5
         try clear hfz25_6
         try clear hx591_0
         try clear hx591_1
         try clear hx591_2
         try clear hx591_3
         try clear hx591_4
         try clear hx591_5
         try clear hx591_6
         try clear p2
         try clear p591
         try clear q591
         obtain ⟨x13_2, x71_2, rfl, HA, HK2, HO_13, HO_69, HB⟩ := hrel
         cases gk with
         | zero => exact absurd HA.out (by simp [interco_Eliminate.l1])
         | succ k2 =>
          have H := HA.out
          clear HA
          simp only [interco_Eliminate.l1] at H
          by_cases c27 : x71_2 < (t587.length : Int)
          ·rw [if_pos c27] at H
           have c27b0 : decide (x71_2 < (t587.length : Int)) = true := decide_eq_true c27
           clear c27
           by_cases c28 : 0 ≤ x71_2
           ·rw [if_pos c28] at H
            have c28b0 : decide (0 ≤ x71_2) = true := decide_eq_true c28
            clear c28
            by_cases c29 : x71_2 < (t587.length : Int)
            ·rw [if_pos c29] at H
             have c29b0 : decide (x71_2 < (t587.length : Int)) = true := decide_eq_true c29
             clear c29
             by_cases c30 : ((rd_T89 t587 x71_2).f2) = 0
             ·rw [if_pos c30] at H
              have c30b0 : (((rd_T89 t587 x71_2).f2) == 0) = true := beq_iff_eq.mpr c30
              have c30b1 : (((rd_T89 t587 x71_2).f2) != 0) = false := bne_eq_false_iff_eq.mpr c30
              clear c30
              have H' := Aside0.mk H
              clear H
              have p596 : 0 ≤ (x71_2 : Int) := odt_
              have q596 : x71_2 < (t587.length : Int) := odt_
              obtain ⟨ad596, e596, hx596_0, hx596_1, hx596_2⟩ := at_T89 (Kd.R_reads' HO_69.out).2.2 x71_2 p596 q596
              cases e596
              replace p596 := eq_true p596
              replace q596 := eq_true q596
              go_wp2_with (first | ((with_reducible refine gate_dst (N := 17) rfl ?_); refine box_event ?hg (N := 17) ?hd (cs := #[.string (⟨#[]⟩ : ByteArray), .string (⟨#[]⟩ : ByteArray), .int .i64 0]) (t := 89) ?hr ?_; (case hd => rfl); (case hg => rfl); (case hr => first | (go_simp; done) | (go_simp; rfl)); intro gb597 hg w31 hbox hb; have n0_ := Aside0.mk (Kd.R_below (by (with_reducible repeat (first | apply Kd.R_alloc | apply Kd.R_drewN | apply Kd.R_drew)); exact HO_13.out) hb); have n1_ := Aside0.mk (Kd.R_below (Kd.R_elderB (by (with_reducible repeat (first | apply Kd.R_alloc | apply Kd.R_drewN | apply Kd.R_drew)); exact HO_69.out) gb597 (Nat.le_of_eq hg.symm)) hb); have n2_ := Aside0.mk (below_step (by repeat (first | (with_reducible first | exact HB.out | apply below_alloc | apply pw_below_drewN | apply below_drew1) | exact HB.out)) hb); have n3_ := Aside0.mk (hbox); have n4_ := Aside0.mk ((by rw [hg]; exact (below_size (by repeat (first | (with_reducible first | exact HB.out | apply below_alloc | apply pw_below_drewN | apply below_drew1) | exact HB.out))) : w.heap.size ≤ gb597)); have n5_ := Aside0.mk ((by rw [hg]; exact (below_size (by repeat (first | (with_reducible first | exact HB.out | apply below_alloc | apply pw_below_drewN | apply below_drew1) | exact HB.out))) : w.heap.size ≤ gb597)); clear HO_13; clear HO_69; clear HB; have HO_13 := n0_; have HO_69 := n1_; have HB := n2_; have BK597 := n3_; have GW597 := n4_; have GE597 := n5_; clear n0_ n1_ n2_ n3_ n4_ n5_; clear hb hbox hg; have hcz32_0 : w31.cell? ⟨gb597, 0, none⟩ = some (.string (⟨#[]⟩ : ByteArray)) := (blk_cell BK597.out 0).trans rfl; have hcz32_1 : w31.cell? ⟨gb597, 1, none⟩ = some (.string (⟨#[]⟩ : ByteArray)) := (blk_cell BK597.out 1).trans rfl; have hcz32_2 : w31.cell? ⟨gb597, 2, none⟩ = some (.int .i64 0) := (blk_cell BK597.out 2).trans rfl; have hfz32_0 := blk_frozen BK597.out 0; have hfz32_1 := blk_frozen BK597.out 1; have hfz32_2 := blk_frozen BK597.out 2))
              go_roundg k2
              case measure => have := HK1.out; have := HK2.out; omega
              case rel => exact ⟨(x13_2), (wrap64 (x71_2 + 1)), (by first | rfl | (simp; done) | (simp [*]; done)), H', ⟨by have := HK1.out; have := HK2.out; omega⟩, ⟨by (with_reducible repeat (first | apply Kd.R_alloc | apply Kd.R_drewN | apply Kd.R_drew)); exact Kd.R_mono (Kd.R_far (p := ⟨gb597, 2, none⟩) (Kd.R_far (p := ⟨gb597, 1, none⟩) (Kd.R_far (p := ⟨gb597, 0, none⟩) (Kd.R_types HO_13.out BK597.out (by decide)) (fun _ hk => hk.2) (.string ((rd_T89 t587 x71_2).f0))) (fun _ hk => hk.2) (.string ((rd_T89 t587 x71_2).f1))) (fun _ hk => hk.2) (.int .i64 ((rd_T89 t587 x71_2).f2))) (fun _ hk => trivial)⟩, ⟨by (with_reducible repeat (first | apply Kd.R_alloc | apply Kd.R_drewN | apply Kd.R_drew)); exact Kd.R_mono (Kd.R_far (p := ⟨gb597, 2, none⟩) (Kd.R_far (p := ⟨gb597, 1, none⟩) (Kd.R_far (p := ⟨gb597, 0, none⟩) (Kd.R_mono HO_69.out (fun k_ hk => (⟨hk, hk.2⟩ : _ ∧ k_ ≠ gb597))) (fun _ hk => hk.2) (.string ((rd_T89 t587 x71_2).f0))) (fun _ hk => hk.2) (.string ((rd_T89 t587 x71_2).f1))) (fun _ hk => hk.2) (.int .i64 ((rd_T89 t587 x71_2).f2))) (fun _ hk => trivial)⟩, ⟨by repeat (first | (with_reducible first | exact HB.out | apply below_alloc | apply pw_below_drewN | apply below_drew1 | refine below_set ?_ GE597.out) | exact HB.out)⟩⟩
             ·rw [if_neg c30] at H
              have c30b0 : (((rd_T89 t587 x71_2).f2) == 0) = false := beq_eq_false_iff_ne.mpr c30
              have c30b1 : (((rd_T89 t587 x71_2).f2) != 0) = true := bne_iff_ne.mpr c30
              by_cases c33 : x13_2.length < 1466015503701
              ·rw [if_pos c33] at H
               have LMc33 := Aside0.mk c33
               clear c33
               obtain ⟨y598, hy598⟩ : ∃ y_ : List (S34), y_ = (x13_2 ++ [(⟨(⟨(rd_T89 t587 x71_2).f0, a2, a1, (⟨#[]⟩ : ByteArray), (⟨#[]⟩ : ByteArray)⟩ : S32), (rd_T89 t587 x71_2).f2, (rd_T89 t587 x71_2).f2⟩ : S34)]) := ⟨_, rfl⟩
               replace H : (interco_Eliminate.l1 k2 a1 a2 y598 t587 (t587.length : Int) (wrap64 (x71_2 + 1))) = some (r1, r2) := by first | (rw [hy598]; with_reducible exact H) | (have H2_ := (Option.bind_some _ _).symm.trans H; rw [hy598]; with_reducible exact H2_) | (have H2_ := (Option.bind_some _ _).symm.trans H; with_reducible exact H2_) | with_reducible exact H | (rw [hy598]; exact H) | exact H
               have Ny598 := Aside0.mk hy598
               clear hy598
               have H' := Aside0.mk H
               clear H
               have p596 : 0 ≤ (x71_2 : Int) := odt_
               have q596 : x71_2 < (t587.length : Int) := odt_
               obtain ⟨ad596, e596, hx596_0, hx596_1, hx596_2⟩ := at_T89 (Kd.R_reads' HO_69.out).2.2 x71_2 p596 q596
               cases e596
               replace p596 := eq_true p596
               replace q596 := eq_true q596
               go_wp2_with (first | ((with_reducible refine gate_dst (N := 17) rfl ?_); refine box_event ?hg (N := 17) ?hd (cs := #[.string (⟨#[]⟩ : ByteArray), .string (⟨#[]⟩ : ByteArray), .int .i64 0]) (t := 89) ?hr ?_; (case hd => rfl); (case hg => rfl); (case hr => first | (go_simp; done) | (go_simp; rfl)); intro gb597 hg w34 hbox hb; have n0_ := Aside0.mk (Kd.R_below (by (with_reducible repeat (first | apply Kd.R_alloc | apply Kd.R_drewN | apply Kd.R_drew)); exact HO_13.out) hb); have n1_ := Aside0.mk (Kd.R_below (Kd.R_elderB (by (with_reducible repeat (first | apply Kd.R_alloc | apply Kd.R_drewN | apply Kd.R_drew)); exact HO_69.out) gb597 (Nat.le_of_eq hg.symm)) hb); have n2_ := Aside0.mk (below_step (by repeat (first | (with_reducible first | exact HB.out | apply below_alloc | apply pw_below_drewN | apply below_drew1) | exact HB.out)) hb); have n3_ := Aside0.mk (hbox); have n4_ := Aside0.mk ((by rw [hg]; exact (below_size (by repeat (first | (with_reducible first | exact HB.out | apply below_alloc | apply pw_below_drewN | apply below_drew1) | exact HB.out))) : w.heap.size ≤ gb597)); have n5_ := Aside0.mk ((by rw [hg]; exact (below_size (by repeat (first | (with_reducible first | exact HB.out | apply below_alloc | apply pw_below_drewN | apply below_drew1) | exact HB.out))) : w.heap.size ≤ gb597)); clear HO_13; clear HO_69; clear HB; have HO_13 := n0_; have HO_69 := n1_; have HB := n2_; have BK597 := n3_; have GW597 := n4_; have GE597 := n5_; clear n0_ n1_ n2_ n3_ n4_ n5_; clear hb hbox hg; have hcz35_0 : w34.cell? ⟨gb597, 0, none⟩ = some (.string (⟨#[]⟩ : ByteArray)) := (blk_cell BK597.out 0).trans rfl; have hcz35_1 : w34.cell? ⟨gb597, 1, none⟩ = some (.string (⟨#[]⟩ : ByteArray)) := (blk_cell BK597.out 1).trans rfl; have hcz35_2 : w34.cell? ⟨gb597, 2, none⟩ = some (.int .i64 0) := (blk_cell BK597.out 2).trans rfl; have hfz35_0 := blk_frozen BK597.out 0; have hfz35_1 := blk_frozen BK597.out 1; have hfz35_2 := blk_frozen BK597.out 2) | ((with_reducible refine gate_builtin (b := .append) (xs := #[.tmp 78, .tmp 89]) rfl ?_); at_builtin; refine Kd.R_append k34 (w0 := w) w.heap.size rfl (.tmp 78) (.tmp 89) 22 34 (.agg #[(.string ⟨#[]⟩), (.string ⟨#[]⟩), (.string ⟨#[]⟩), (.string ⟨#[]⟩), (.string ⟨#[]⟩), (.int .i64 0), (.int .i64 0)]) 96 rfl Try.underlying22 info34 rfl (by decide) (by omega) u13 x13_2 (⟨(⟨(rd_T89 t587 x71_2).f0, a2, a1, (⟨#[]⟩ : ByteArray), (⟨#[]⟩ : ByteArray)⟩ : S32), (rd_T89 t587 x71_2).f2, (rd_T89 t587 x71_2).f2⟩ : S34) [.string ((rd_T89 t587 x71_2).f0), .string a2, .string a1, .string (⟨#[]⟩ : ByteArray), .string (⟨#[]⟩ : ByteArray), .int .i64 ((rd_T89 t587 x71_2).f2), .int .i64 ((rd_T89 t587 x71_2).f2)] (fun _ => True) (fun _ => False) rfl (by first | (go_simp; done) | (go_simp; rfl)) ?aP (fun _ hk => hk.elim) ?aF ?aO ?aB ?aS ?aL ?_; (case aP => exact k34_mkM _ _ _ (⟨(⟨(rd_T89 t587 x71_2).f0, a2, a1, (⟨#[]⟩ : ByteArray), (⟨#[]⟩ : ByteArray)⟩ : S32), (rd_T89 t587 x71_2).f2, (rd_T89 t587 x71_2).f2⟩ : S34)); (case aB => exact (by repeat (first | (with_reducible first | exact HB.out | apply below_alloc | apply pw_below_drewN | apply below_drew1 | refine below_set ?_ GE597.out) | exact HB.out))); (case aF => exact (fun _ _ => trivial)); (case aO => exact (by (with_reducible repeat (first | apply Kd.R_alloc | apply Kd.R_drewN | apply Kd.R_drew)); exact Kd.R_mono (Kd.R_far (p := ⟨gb597, 2, none⟩) (Kd.R_far (p := ⟨gb597, 1, none⟩) (Kd.R_far (p := ⟨gb597, 0, none⟩) (Kd.R_types HO_13.out BK597.out (by decide)) (fun _ hk => hk.2) (.string ((rd_T89 t587 x71_2).f0))) (fun _ hk => hk.2) (.string ((rd_T89 t587 x71_2).f1))) (fun _ hk => hk.2) (.int .i64 ((rd_T89 t587 x71_2).f2))) (fun _ hk => trivial))); (case aS => exact (below_size (by repeat (first | (with_reducible first | exact HB.out | apply below_alloc | apply pw_below_drewN | apply below_drew1 | refine below_set ?_ GE597.out) | exact HB.out)))); (case aL => have := LMc33.out; omega); intro v599 w36 ho hb hg hat; rw [← Ny598.out] at ho; have n0_ := Aside0.mk (Kd.R_over' (by (with_reducible repeat (first | apply Kd.R_alloc | apply Kd.R_drewN | apply Kd.R_drew)); exact (Kd.R_mono (Kd.R_far (p := ⟨gb597, 2, none⟩) (Kd.R_far (p := ⟨gb597, 1, none⟩) (Kd.R_far (p := ⟨gb597, 0, none⟩) (Kd.R_mono HO_69.out (fun k_ hk => (⟨hk, hk.2⟩ : _ ∧ k_ ≠ gb597))) (fun _ hk => hk.2) (.string ((rd_T89 t587 x71_2).f0))) (fun _ hk => hk.2) (.string ((rd_T89 t587 x71_2).f1))) (fun _ hk => hk.2) (.int .i64 ((rd_T89 t587 x71_2).f2))) (fun _ h_ => h_.1))) (Kd.R_typed (by (with_reducible repeat (first | apply Kd.R_alloc | apply Kd.R_drewN | apply Kd.R_drew)); exact (Kd.R_mono (Kd.R_far (p := ⟨gb597, 2, none⟩) (Kd.R_far (p := ⟨gb597, 1, none⟩) (Kd.R_far (p := ⟨gb597, 0, none⟩) (Kd.R_types HO_13.out BK597.out (by decide)) (fun _ hk => hk.2) (.string ((rd_T89 t587 x71_2).f0))) (fun _ hk => hk.2) (.string ((rd_T89 t587 x71_2).f1))) (fun _ hk => hk.2) (.int .i64 ((rd_T89 t587 x71_2).f2))) (fun _ h_ => h_.1)))) (by decide) hg); have n1_ := Aside0.mk (blk_grown (g := gb597) (o := .cells #[.string ((rd_T89 t587 x71_2).f0), .string ((rd_T89 t587 x71_2).f1), .int .i64 ((rd_T89 t587 x71_2).f2)] 89 (0, 0)) (by (with_reducible repeat (first | refine blk_drewN ?_ _ | refine blk_drew ?_ | refine blk_alloc ?_ _)); refine blk_put (cs := #[.string ((rd_T89 t587 x71_2).f0), .string ((rd_T89 t587 x71_2).f1), .int .i64 0]) ?_ 2 _ rfl; (with_reducible repeat (first | refine blk_drewN ?_ _ | refine blk_drew ?_ | refine blk_alloc ?_ _)); refine blk_put (cs := #[.string ((rd_T89 t587 x71_2).f0), .string (⟨#[]⟩ : ByteArray), .int .i64 0]) ?_ 1 _ rfl; (with_reducible repeat (first | refine blk_drewN ?_ _ | refine blk_drew ?_ | refine blk_alloc ?_ _)); refine blk_put (cs := #[.string (⟨#[]⟩ : ByteArray), .string (⟨#[]⟩ : ByteArray), .int .i64 0]) ?_ 0 _ rfl; (with_reducible repeat (first | refine blk_drewN ?_ _ | refine blk_drew ?_ | refine blk_alloc ?_ _)); exact BK597.out) hg (Kd.R_ne HO_13.out BK597.out (by decide))); have n2_ := Aside0.mk (hb); have n3_ := Aside0.mk (ho); clear HO_69; clear BK597; clear HB; clear HO_13; have HO_69 := n0_; have BK597 := n1_; have HB := n2_; have HO600 := n3_; clear n0_ n1_ n2_ n3_; clear ho hb hg hat))
               go_roundg k2
               case measure => have := HK1.out; have := HK2.out; omega
               case rel => exact ⟨(y598), (wrap64 (x71_2 + 1)), (by first | rfl | (simp; done) | (simp [*]; done)), H', ⟨by have := HK1.out; have := HK2.out; omega⟩, ⟨by (with_reducible repeat (first | apply Kd.R_alloc | apply Kd.R_drewN | apply Kd.R_drew)); exact HO600.out⟩, ⟨by (with_reducible repeat (first | apply Kd.R_alloc | apply Kd.R_drewN | apply Kd.R_drew)); exact Kd.R_mono HO_69.out (fun _ hk => trivial)⟩, ⟨by repeat (first | (with_reducible first | exact HB.out | apply below_alloc | apply pw_below_drewN | apply below_drew1 | refine below_set ?_ GE597.out) | exact HB.out)⟩⟩
              ·rw [if_neg c33] at H
               exact absurd H (by simp)
            ·rw [if_neg c29] at H
             exact absurd H (by simp)
           ·rw [if_neg c28] at H
            exact absurd H (by simp)
          ·rw [if_neg c27] at H
           have c27b0 : decide (x71_2 < (t587.length : Int)) = false := decide_eq_false c27
           clear c27
           replace H := Option.bind_eq_some_iff.mp H
           obtain ⟨⟨t601, t602⟩, A370, H⟩ := H
           replace H : (some (t601, t602)) = some (r1, r2) := H
           have A37 := Aside0.mk A370
           clear A370
           simp only [Option.some.injEq, Prod.mk.injEq] at H
           obtain ⟨rfl, rfl⟩ := H
           obtain ⟨Ao38, co38, eo38⟩ := Kd.R_slice HO_13.out
           subst eo38
           go_wp2_with (first | ((with_reducible refine gate_callee (f := 19) rfl ?_); refine goesL_ (some 93) rfl rfl Try.func19 (by kernel_rfl) rfl #[.slice Ao38 x13_2.length co38] rfl (by (try simp only [List.map_toArray, List.map_cons, List.map_nil]); first | done | rfl | (simp only [List.length_drop, List.length_take]; rfl)) ?_; (with_reducible refine (sheet_Of.calls _ _ x13_2 t601 t602 _ ?side1 ?side2 A37.out).mono ?_); (case side1 => repeat (first | exact (Kd.R_reads' HO_13.out).2.2 | (with_reducible refine Kd.C_alloc ?_ _) | (with_reducible refine Kd.C_drewN ?_ _) | (with_reducible refine Kd.C_drew ?_))); (case side2 => exact (Kd.R_reads' HO_13.out).2.1); rintro e w39 ⟨v603, rfl, ho0, hb⟩; refine ⟨_, rfl, ?_⟩; have n0_ := Aside0.mk (Kd.R_elder' (by (with_reducible repeat (first | apply Kd.R_alloc | apply Kd.R_drewN | apply Kd.R_drew)); exact HO_13.out) (Kd.R_base ho0) hb); have n1_ := Aside0.mk (Kd.R_below (by (with_reducible repeat (first | apply Kd.R_alloc | apply Kd.R_drewN | apply Kd.R_drew)); exact HO_69.out) hb); have n2_ := Aside0.mk (Kd.R_lower (Kd.R_new' ho0 (Kd.R_lt (by (with_reducible repeat (first | apply Kd.R_alloc | apply Kd.R_drewN | apply Kd.R_drew)); exact HO_13.out))) (below_size (by repeat (first | (with_reducible first | exact HB.out | apply below_alloc | apply pw_below_drewN | apply below_drew1) | exact HB.out)))); have n3_ := Aside0.mk (below_step (by repeat (first | (with_reducible first | exact HB.out | apply below_alloc | apply pw_below_drewN | apply below_drew1) | exact HB.out)) hb); clear HO_13; clear HO_69; clear HB; have HO_13 := n0_; have HO_69 := n1_; have HO604 := n2_; have HB := n3_; clear n0_ n1_ n2_ n3_; (try clear hb); (try clear hb2); (try clear hk); (try clear hi); (try clear ho0)))
           go_ret2
           exact ⟨_, by first | rfl | (simp [errW_none, errW_some] <;> rfl) | (simp [*, errW_none, errW_some] <;> rfl), by (with_reducible repeat (first | apply Kd.R_alloc | apply Kd.R_drewN | apply Kd.R_drew)); exact Kd.R_mono HO604.out (fun _ hk => trivial), by repeat (first | (with_reducible first | exact HB.out | apply below_alloc | apply pw_below_drewN | apply below_drew1) | exact HB.out)⟩
    ·rw [if_neg c13] at H
     have c13b0 : (t588 == 0) = false := beq_eq_false_iff_ne.mpr c13
     have c13b1 : (t588 != 0) = true := bne_iff_ne.mpr c13
     simp only [Option.some.injEq, Prod.mk.injEq] at H
     obtain ⟨rfl, rfl⟩ := H
     go_enter Try.func50, Try.ntmps50
     go_wp2_with (first | ((with_reducible refine gate_callee (f := 22) rfl ?_); refine goesL_ (some 20) rfl rfl Try.func22 (by kernel_rfl) rfl #[.slice A0 l0.length c0] rfl (by (try simp only [List.map_toArray, List.map_cons, List.map_nil]); first | done | rfl | (simp only [List.length_drop, List.length_take]; rfl)) ?_; (with_reducible refine (sheet_Right.calls _ _ l0 true _ ?side1 ?side2 A5.out).mono ?_); (case side1 => repeat (first | exact HR0.out | (with_reducible refine Kd.C_alloc ?_ _) | (with_reducible refine Kd.C_drewN ?_ _) | (with_reducible refine Kd.C_drew ?_))); (case side2 => exact HC0.out); rintro e w40 ⟨rfl, hb⟩; refine ⟨_, rfl, ?_⟩; have n0_ := Aside0.mk (below_step (by repeat (first | (with_reducible first | exact HB.out | apply below_alloc | apply pw_below_drewN | apply below_drew1) | exact HB.out)) hb); clear HB; have HB := n0_; clear n0_; (try clear hb); (try clear hb2); (try clear hk); (try clear hi)) | ((with_reducible refine gate_callee (f := 77) rfl ?_); refine goesL_ (some 24) rfl rfl Try.func77 (by kernel_rfl) rfl #[.string a1] rfl (by (try simp only [List.map_toArray, List.map_cons, List.map_nil]); first | done | rfl | (simp only [List.length_drop, List.length_take]; rfl)) ?_; (with_reducible refine (money_Code.calls a1 true _ A7.out).mono ?_); rintro e w41 ⟨rfl, hb⟩; refine ⟨_, rfl, ?_⟩; have n0_ := Aside0.mk (below_step (by repeat (first | (with_reducible first | exact HB.out | apply below_alloc | apply pw_below_drewN | apply below_drew1) | exact HB.out)) hb); clear HB; have HB := n0_; clear n0_; (try clear hb); (try clear hb2); (try clear hk); (try clear hi)) | ((with_reducible refine gate_callee (f := 78) rfl ?_); refine goesL_ (some 28) rfl rfl Try.func78 (by kernel_rfl) rfl #[.string a2] rfl (by (try simp only [List.map_toArray, List.map_cons, List.map_nil]); first | done | rfl | (simp only [List.length_drop, List.length_take]; rfl)) ?_; (with_reducible refine (words_Code.calls a2 true _ A9.out).mono ?_); rintro e w' ⟨rfl, ⟨nd, rfl⟩⟩; refine ⟨_, rfl, ?_⟩) | ((with_reducible refine gate_callee (f := 44) rfl ?_); refine goesL_ (some 33) rfl rfl Try.func44 (by kernel_rfl) rfl #[.slice A0 l0.length c0, .slice A3 l3.length c3] rfl (by (try simp only [List.map_toArray, List.map_cons, List.map_nil]); first | done | rfl | (simp only [List.length_drop, List.length_take]; rfl)) ?_; (with_reducible refine (interco_Inside.calls k _ _ l0 _ _ l3 t581 t582 _ ?side1 ?side2 ?side3 ?side4 A11.out).mono ?_); (case side1 => repeat (first | exact (Kd.C_below HR0.out (by repeat (first | (with_reducible first | exact HB.out | apply below_alloc | apply pw_below_drewN | apply below_drew1) | exact HB.out))) | (with_reducible refine Kd.C_alloc ?_ _) | (with_reducible refine Kd.C_drewN ?_ _) | (with_reducible refine Kd.C_drew ?_))); (case side2 => exact HC0.out); (case side3 => repeat (first | exact (Kd.C_below HR3.out (by repeat (first | (with_reducible first | exact HB.out | apply below_alloc | apply pw_below_drewN | apply below_drew1) | exact HB.out))) | (with_reducible refine Kd.C_alloc ?_ _) | (with_reducible refine Kd.C_drewN ?_ _) | (with_reducible refine Kd.C_drew ?_))); (case side4 => exact HC3.out); rintro e w42 ⟨v583, v585, rfl, ho0, ho1, hb⟩; refine ⟨_, rfl, ?_⟩; have n0_ := Aside0.mk (Kd.R_lower ho0 (below_size (by repeat (first | (with_reducible first | exact HB.out | apply below_alloc | apply pw_below_drewN | apply below_drew1) | exact HB.out)))); have n1_ := Aside0.mk (Kd.R_lower ho1 (below_size (by repeat (first | (with_reducible first | exact HB.out | apply below_alloc | apply pw_below_drewN | apply below_drew1) | exact HB.out)))); have n2_ := Aside0.mk (below_step (by repeat (first | (with_reducible first | exact HB.out | apply below_alloc | apply pw_below_drewN | apply below_drew1) | exact HB.out)) hb); clear HB; have HO584 := n0_; have HO586 := n1_; have HB := n2_; clear n0_ n1_ n2_; (try clear hb); (try clear hb2); (try clear hk); (try clear hi); (try clear ho0); (try clear ho1); obtain ⟨Ao43, co43, eo43⟩ := Kd.R_slice HO584.out; subst eo43) | ((with_reducible refine gate_callee (f := 75) rfl ?_); refine goesL_ (some 38) rfl rfl Try.func75 (by kernel_rfl) rfl #[.slice Ao43 t581.length co43] rfl (by (try simp only [List.map_toArray, List.map_cons, List.map_nil]); first | done | rfl | (simp only [List.length_drop, List.length_take]; rfl)) ?_; (with_reducible refine (interco_pairs.calls _ _ t581 t587 t588 _ ?side1 ?side2 A12.out).mono ?_); (case side1 => repeat (first | exact (Kd.R_reads' HO584.out).2.2 | (with_reducible refine Kd.C_alloc ?_ _) | (with_reducible refine Kd.C_drewN ?_ _) | (with_reducible refine Kd.C_drew ?_))); (case side2 => exact (Kd.R_reads' HO584.out).2.1); rintro e w44 ⟨v589, rfl, ho0, hb⟩; refine ⟨_, rfl, ?_⟩; have n0_ := Aside0.mk (Kd.R_below (by (with_reducible repeat (first | apply Kd.R_alloc | apply Kd.R_drewN | apply Kd.R_drew)); exact HO584.out) hb); have n1_ := Aside0.mk (Kd.R_below (by (with_reducible repeat (first | apply Kd.R_alloc | apply Kd.R_drewN | apply Kd.R_drew)); exact HO586.out) hb); have n2_ := Aside0.mk (Kd.R_lower ho0 (below_size (by repeat (first | (with_reducible first | exact HB.out | apply below_alloc | apply pw_below_drewN | apply below_drew1) | exact HB.out)))); have n3_ := Aside0.mk (below_step (by repeat (first | (with_reducible first | exact HB.out | apply below_alloc | apply pw_below_drewN | apply below_drew1) | exact HB.out)) hb); clear HO584; clear HO586; clear HB; have HO584 := n0_; have HO586 := n1_; have HO590 := n2_; have HB := n3_; clear n0_ n1_ n2_ n3_; (try clear hb); (try clear hb2); (try clear hk); (try clear hi); (try clear ho0)))
     go_ret2
     exact ⟨_, by first | rfl | (simp [errW_none, errW_some] <;> rfl) | (simp [*, errW_none, errW_some] <;> rfl), by first | exact Kd.R_nil _ _ _ _ _ | exact Kd.N_nil _ _ _ _ _ | exact Kd.V_nil _ _ _ _ _ | exact Kd.Q_nil _ _ _ _ _ | exact Kd.S_nil _ _ _ _ _, by repeat (first | (with_reducible first | exact HB.out | apply below_alloc | apply pw_below_drewN | apply below_drew1) | exact HB.out)⟩
   ·replace c10 := Bool.eq_false_iff.mpr c10
    subst c10
    have H1 : (some (([] : List (S34)), 7)) = some (r1, r2) := by rw [if_neg (show ¬ (false = true) by decide)] at H; exact H
    clear H
    have H := H1
    clear H1
    simp only [Option.some.injEq, Prod.mk.injEq] at H
    obtain ⟨rfl, rfl⟩ := H
    go_enter Try.func50, Try.ntmps50
    go_wp2_with (first | ((with_reducible refine gate_callee (f := 22) rfl ?_); refine goesL_ (some 20) rfl rfl Try.func22 (by kernel_rfl) rfl #[.slice A0 l0.length c0] rfl (by (try simp only [List.map_toArray, List.map_cons, List.map_nil]); first | done | rfl | (simp only [List.length_drop, List.length_take]; rfl)) ?_; (with_reducible refine (sheet_Right.calls _ _ l0 true _ ?side1 ?side2 A5.out).mono ?_); (case side1 => repeat (first | exact HR0.out | (with_reducible refine Kd.C_alloc ?_ _) | (with_reducible refine Kd.C_drewN ?_ _) | (with_reducible refine Kd.C_drew ?_))); (case side2 => exact HC0.out); rintro e w45 ⟨rfl, hb⟩; refine ⟨_, rfl, ?_⟩; have n0_ := Aside0.mk (below_step (by repeat (first | (with_reducible first | exact HB.out | apply below_alloc | apply pw_below_drewN | apply below_drew1) | exact HB.out)) hb); clear HB; have HB := n0_; clear n0_; (try clear hb); (try clear hb2); (try clear hk); (try clear hi)) | ((with_reducible refine gate_callee (f := 77) rfl ?_); refine goesL_ (some 24) rfl rfl Try.func77 (by kernel_rfl) rfl #[.string a1] rfl (by (try simp only [List.map_toArray, List.map_cons, List.map_nil]); first | done | rfl | (simp only [List.length_drop, List.length_take]; rfl)) ?_; (with_reducible refine (money_Code.calls a1 true _ A7.out).mono ?_); rintro e w46 ⟨rfl, hb⟩; refine ⟨_, rfl, ?_⟩; have n0_ := Aside0.mk (below_step (by repeat (first | (with_reducible first | exact HB.out | apply below_alloc | apply pw_below_drewN | apply below_drew1) | exact HB.out)) hb); clear HB; have HB := n0_; clear n0_; (try clear hb); (try clear hb2); (try clear hk); (try clear hi)) | ((with_reducible refine gate_callee (f := 78) rfl ?_); refine goesL_ (some 28) rfl rfl Try.func78 (by kernel_rfl) rfl #[.string a2] rfl (by (try simp only [List.map_toArray, List.map_cons, List.map_nil]); first | done | rfl | (simp only [List.length_drop, List.length_take]; rfl)) ?_; (with_reducible refine (words_Code.calls a2 false _ A9.out).mono ?_); rintro e w' ⟨rfl, ⟨nd, rfl⟩⟩; refine ⟨_, rfl, ?_⟩))
    go_ret2
    exact ⟨_, by first | rfl | (simp [errW_none, errW_some] <;> rfl) | (simp [*, errW_none, errW_some] <;> rfl), by first | exact Kd.R_nil _ _ _ _ _ | exact Kd.N_nil _ _ _ _ _ | exact Kd.V_nil _ _ _ _ _ | exact Kd.Q_nil _ _ _ _ _ | exact Kd.S_nil _ _ _ _ _, by repeat (first | (with_reducible first | exact HB.out | apply below_alloc | apply pw_below_drewN | apply below_drew1) | exact HB.out)⟩
  ·replace c8 := Bool.eq_false_iff.mpr c8
   subst c8
   have H1 : (some (([] : List (S34)), 13)) = some (r1, r2) := by rw [if_neg (show ¬ (false = true) by decide)] at H; exact H
   clear H
   have H := H1
   clear H1
   simp only [Option.some.injEq, Prod.mk.injEq] at H
   obtain ⟨rfl, rfl⟩ := H
   go_enter Try.func50, Try.ntmps50
   go_wp2_with (first | ((with_reducible refine gate_callee (f := 22) rfl ?_); refine goesL_ (some 20) rfl rfl Try.func22 (by kernel_rfl) rfl #[.slice A0 l0.length c0] rfl (by (try simp only [List.map_toArray, List.map_cons, List.map_nil]); first | done | rfl | (simp only [List.length_drop, List.length_take]; rfl)) ?_; (with_reducible refine (sheet_Right.calls _ _ l0 true _ ?side1 ?side2 A5.out).mono ?_); (case side1 => repeat (first | exact HR0.out | (with_reducible refine Kd.C_alloc ?_ _) | (with_reducible refine Kd.C_drewN ?_ _) | (with_reducible refine Kd.C_drew ?_))); (case side2 => exact HC0.out); rintro e w47 ⟨rfl, hb⟩; refine ⟨_, rfl, ?_⟩; have n0_ := Aside0.mk (below_step (by repeat (first | (with_reducible first | exact HB.out | apply below_alloc | apply pw_below_drewN | apply below_drew1) | exact HB.out)) hb); clear HB; have HB := n0_; clear n0_; (try clear hb); (try clear hb2); (try clear hk); (try clear hi)) | ((with_reducible refine gate_callee (f := 77) rfl ?_); refine goesL_ (some 24) rfl rfl Try.func77 (by kernel_rfl) rfl #[.string a1] rfl (by (try simp only [List.map_toArray, List.map_cons, List.map_nil]); first | done | rfl | (simp only [List.length_drop, List.length_take]; rfl)) ?_; (with_reducible refine (money_Code.calls a1 false _ A7.out).mono ?_); rintro e w48 ⟨rfl, hb⟩; refine ⟨_, rfl, ?_⟩; have n0_ := Aside0.mk (below_step (by repeat (first | (with_reducible first | exact HB.out | apply below_alloc | apply pw_below_drewN | apply below_drew1) | exact HB.out)) hb); clear HB; have HB := n0_; clear n0_; (try clear hb); (try clear hb2); (try clear hk); (try clear hi)))
   go_ret2
   exact ⟨_, by first | rfl | (simp [errW_none, errW_some] <;> rfl) | (simp [*, errW_none, errW_some] <;> rfl), by first | exact Kd.R_nil _ _ _ _ _ | exact Kd.N_nil _ _ _ _ _ | exact Kd.V_nil _ _ _ _ _ | exact Kd.Q_nil _ _ _ _ _ | exact Kd.S_nil _ _ _ _ _, by repeat (first | (with_reducible first | exact HB.out | apply below_alloc | apply pw_below_drewN | apply below_drew1) | exact HB.out)⟩
 ·replace c6 := Bool.eq_false_iff.mpr c6
  subst c6
  have H1 : (some (([] : List (S34)), 2)) = some (r1, r2) := by rw [if_neg (show ¬ (false = true) by decide)] at H; exact H
  clear H
  have H := H1
  clear H1
  simp only [Option.some.injEq, Prod.mk.injEq] at H
  obtain ⟨rfl, rfl⟩ := H
  go_enter Try.func50, Try.ntmps50
  go_wp2_with (first | ((with_reducible refine gate_callee (f := 22) rfl ?_); refine goesL_ (some 20) rfl rfl Try.func22 (by kernel_rfl) rfl #[.slice A0 l0.length c0] rfl (by (try simp only [List.map_toArray, List.map_cons, List.map_nil]); first | done | rfl | (simp only [List.length_drop, List.length_take]; rfl)) ?_; (with_reducible refine (sheet_Right.calls _ _ l0 false _ ?side1 ?side2 A5.out).mono ?_); (case side1 => repeat (first | exact HR0.out | (with_reducible refine Kd.C_alloc ?_ _) | (with_reducible refine Kd.C_drewN ?_ _) | (with_reducible refine Kd.C_drew ?_))); (case side2 => exact HC0.out); rintro e w49 ⟨rfl, hb⟩; refine ⟨_, rfl, ?_⟩; have n0_ := Aside0.mk (below_step (by repeat (first | (with_reducible first | exact HB.out | apply below_alloc | apply pw_below_drewN | apply below_drew1) | exact HB.out)) hb); clear HB; have HB := n0_; clear n0_; (try clear hb); (try clear hb2); (try clear hk); (try clear hi)))
  go_ret2
  exact ⟨_, by first | rfl | (simp [errW_none, errW_some] <;> rfl) | (simp [*, errW_none, errW_some] <;> rfl), by first | exact Kd.R_nil _ _ _ _ _ | exact Kd.N_nil _ _ _ _ _ | exact Kd.V_nil _ _ _ _ _ | exact Kd.Q_nil _ _ _ _ _ | exact Kd.S_nil _ _ _ _ _, by repeat (first | (with_reducible first | exact HB.out | apply below_alloc | apply pw_below_drewN | apply below_drew1) | exact HB.out)⟩
end Go.Proofs.Ytmflggbpiadkjaa.P
namespace Go.Proofs.YtmflggbpiadkjaaW.PrintWords
open Go.RowKit
namespace Kd
section
variable {α : Type} {d : Kd α} {e base g N : Nat} {ok : Nat → Prop} {W w1 : World} {u v : Value} {xs : List α}
theorem R_old (hu : d.R e W base ok u xs) (hb : Below W.heap.size W w1) : d.R e w1 base (fun k => ok k ∧ k < W.heap.size) u xs :=
  R_mono (R_below (R_bound hu) hb) (fun _ h => ⟨h.1, h.2.2.1⟩)
theorem R_told (h : d.R e w1 base (fun k => ok k ∧ k < N) u xs) (hbase : ∀ k, v.ownBlock = some k → N ≤ k) : d.R e w1 base (fun k => (ok k ∧ some k ≠ v.ownBlock) ∧ k < N) u xs :=
  R_mono h (fun k hk => ⟨⟨hk.1, fun e => Nat.lt_irrefl _ (Nat.lt_of_lt_of_le hk.2 (hbase k e.symm))⟩, hk.2⟩)
end
section
variable {α : Type} {P : Program} {ops : Array Oper} {o : Oper} {a : Act} {Q : Exit → Act → World → Prop} {Kc : Act → World → Prop}
end
end Kd
end Go.Proofs.YtmflggbpiadkjaaW.PrintWords
namespace Go.Proofs.Ytmflggbpiadkjaa.P
open Go.RowKit Go.Proofs.YtmflggbpiadkjaaW.PrintWords Go.Proofs.YtmflggbpiadkjaaW.PrintLast Go.Proofs.YtmflggbpiadkjaaW.PrintMore
attribute [local go_sem] max2_int min2_int max_two min_two max_three min_three max_four min_four
set_option linter.unusedVariables false
set_option linter.unusedSimpArgs false
def interco_Pairs.f (k : Nat) (l0 : List (S34)) (l1 : List ByteArray) : Option ((List (S89)) × Int) := (sheet_Right.f l0).bind fun t565 => (if t565 = true then ((interco_Inside.f k l0 l1).bind fun bt566 => ((interco_pairs.f bt566.1).bind fun bt572 => (some (bt572.1, bt572.2)))) else (some (([] : List (S89)), 2)))
theorem interco_Pairs.mono : ∀ a0 a1 k, LeO (interco_Pairs.f k a0 a1) (interco_Pairs.f (k + 1) a0 a1) := by
  intro a0 a1 k
  unfold interco_Pairs.f
  repeat' first
      | (with_reducible exact interco_Inside.mono _ _ _)
      | (with_reducible exact LeO.refl _)
      | (with_reducible exact LeO.none _)
      | (with_reducible refine LeO.ite ?_ ?_)
      | (with_reducible refine LeO.bind ?_ (fun _ => ?_))
      | exact interco_Inside.mono _ _ _
      | exact LeO.none _
      | refine LeO.ite ?_ ?_
      | refine LeO.bind ?_ (fun _ => ?_)
set_option maxHeartbeats 8000000 in
set_option maxRecDepth 100000 in
theorem interco_Pairs.calls (k : Nat) (A0 : Option Addr) (c0 : Nat) (l0 : List (S34)) (A1 : Option Addr) (c1 : Nat) (l1 : List ByteArray) (r1 : List (S89)) (r2 : Int) (w : World) (hr0 : Kd.C k34 w A0 l0.length l0) (hc0 : l0.length ≤ c0) (hr1 : Kd.C Kd.string w A1 l1.length l1) (hc1 : l1.length ≤ c1) (h : interco_Pairs.f k l0 l1 = some (r1, r2)) :
    Calls Try.prog 47 #[.slice A0 l0.length c0, .slice A1 l1.length c1] w fun e w' => ∃ v0_ : Value, e = .returned (.tuple #[v0_, .int .i64 r2]) ∧ Kd.R k89 89 w' w.heap.size (fun _ => True) v0_ r1 ∧ Below w.heap.size w w' := by
  have HR0 := Aside0.mk hr0
  have HC0 := Aside0.mk hc0
  clear hr0 hc0
  have HR1 := Aside0.mk hr1
  have HC1 := Aside0.mk hc1
  clear hr1 hc1
  have HB := Aside0.mk (Below.refl w.heap.size w)
  have H : ((sheet_Right.f l0).bind fun t565 => (if t565 = true then ((interco_Inside.f k l0 l1).bind fun bt566 => ((interco_pairs.f bt566.1).bind fun bt572 => (some (bt572.1, bt572.2)))) else (some (([] : List (S89)), 2)))) = some (r1, r2) := h
  clear h
  replace H := Option.bind_eq_some_iff.mp H
  obtain ⟨t565, A30, H⟩ := H
  replace H : (if t565 = true then ((interco_Inside.f k l0 l1).bind fun bt566 => ((interco_pairs.f bt566.1).bind fun bt572 => (some (bt572.1, bt572.2)))) else (some (([] : List (S89)), 2))) = some (r1, r2) := H
  have A3 := Aside0.mk A30
  clear A30
  by_cases c4 : t565 = true
  · subst c4
    have H1 : ((interco_Inside.f k l0 l1).bind fun bt566 => ((interco_pairs.f bt566.1).bind fun bt572 => (some (bt572.1, bt572.2)))) = some (r1, r2) := by rw [if_pos rfl] at H; exact H
    clear H
    have H := H1
    clear H1
    replace H := Option.bind_eq_some_iff.mp H
    obtain ⟨⟨t566, t567⟩, A50, H⟩ := H
    replace H : ((interco_pairs.f t566).bind fun bt572 => (some (bt572.1, bt572.2))) = some (r1, r2) := H
    have A5 := Aside0.mk A50
    clear A50
    replace H := Option.bind_eq_some_iff.mp H
    obtain ⟨⟨t572, t573⟩, A60, H⟩ := H
    replace H : (some (t572, t573)) = some (r1, r2) := H
    have A6 := Aside0.mk A60
    clear A60
    simp only [Option.some.injEq, Prod.mk.injEq] at H
    obtain ⟨rfl, rfl⟩ := H
    go_enter Try.func47, Try.ntmps47
    go_wp2_with (first | ((with_reducible refine gate_callee (f := 22) rfl ?_); refine goesL_ (some 9) rfl rfl Try.func22 (by kernel_rfl) rfl #[.slice A0 l0.length c0] rfl (by (try simp only [List.map_toArray, List.map_cons, List.map_nil]); first | done | rfl | (simp only [List.length_drop, List.length_take]; rfl)) ?_; (with_reducible refine (sheet_Right.calls _ _ l0 true _ ?side1 ?side2 A3.out).mono ?_); (case side1 => repeat (first | exact HR0.out | (with_reducible refine Kd.C_alloc ?_ _) | (with_reducible refine Kd.C_drewN ?_ _) | (with_reducible refine Kd.C_drew ?_))); (case side2 => exact HC0.out); rintro e w7 ⟨rfl, hb⟩; refine ⟨_, rfl, ?_⟩; have n0_ := Aside0.mk (below_step (by repeat (first | (with_reducible first | exact HB.out | apply below_alloc | apply pw_below_drewN | apply below_drew1) | exact HB.out)) hb); clear HB; have HB := n0_; clear n0_; (try clear hb); (try clear hb2); (try clear hk); (try clear hi)) | ((with_reducible refine gate_callee (f := 44) rfl ?_); refine goesL_ (some 14) rfl rfl Try.func44 (by kernel_rfl) rfl #[.slice A0 l0.length c0, .slice A1 l1.length c1] rfl (by (try simp only [List.map_toArray, List.map_cons, List.map_nil]); first | done | rfl | (simp only [List.length_drop, List.length_take]; rfl)) ?_; (with_reducible refine (interco_Inside.calls k _ _ l0 _ _ l1 t566 t567 _ ?side1 ?side2 ?side3 ?side4 A5.out).mono ?_); (case side1 => repeat (first | exact (Kd.C_below HR0.out HB.out) | exact (Kd.C_drewN (Kd.C_below HR0.out HB.out) _) | (with_reducible refine Kd.C_alloc ?_ _) | (with_reducible refine Kd.C_drewN ?_ _) | (with_reducible refine Kd.C_drew ?_))); (case side2 => exact HC0.out); (case side3 => repeat (first | exact (Kd.C_below HR1.out HB.out) | exact (Kd.C_drewN (Kd.C_below HR1.out HB.out) _) | (with_reducible refine Kd.C_alloc ?_ _) | (with_reducible refine Kd.C_drewN ?_ _) | (with_reducible refine Kd.C_drew ?_))); (case side4 => exact HC1.out); rintro e w8 ⟨v568, v570, rfl, ho0, ho1, hb⟩; refine ⟨_, rfl, ?_⟩; have n0_ := Aside0.mk (Kd.R_lower ho0 (below_size (by repeat (first | (with_reducible first | exact HB.out | apply below_alloc | apply pw_below_drewN | apply below_drew1) | exact HB.out)))); have n1_ := Aside0.mk (Kd.R_lower ho1 (below_size (by repeat (first | (with_reducible first | exact HB.out | apply below_alloc | apply pw_below_drewN | apply below_drew1) | exact HB.out)))); have n2_ := Aside0.mk (below_step (by repeat (first | (with_reducible first | exact HB.out | apply below_alloc | apply pw_below_drewN | apply below_drew1) | exact HB.out)) hb); clear HB; have HO569 := n0_; have HO571 := n1_; have HB := n2_; clear n0_ n1_ n2_; (try clear hb); (try clear hb2); (try clear hk); (try clear hi); (try clear ho0); (try clear ho1); obtain ⟨Ao9, co9, eo9⟩ := Kd.R_slice HO569.out; subst eo9) | ((with_reducible refine gate_callee (f := 75) rfl ?_); refine goesL_ (some 18) rfl rfl Try.func75 (by kernel_rfl) rfl #[.slice Ao9 t566.length co9] rfl (by (try simp only [List.map_toArray, List.map_cons, List.map_nil]); first | done | rfl | (simp only [List.length_drop, List.length_take]; rfl)) ?_; (with_reducible refine (interco_pairs.calls _ _ t566 t572 t573 _ ?side1 ?side2 A6.out).mono ?_); (case side1 => repeat (first | exact (Kd.R_reads' HO569.out).2.2 | (with_reducible refine Kd.C_alloc ?_ _) | (with_reducible refine Kd.C_drewN ?_ _) | (with_reducible refine Kd.C_drew ?_))); (case side2 => exact (Kd.R_reads' HO569.out).2.1); rintro e w10 ⟨v574, rfl, ho0, hb⟩; refine ⟨_, rfl, ?_⟩; have n0_ := Aside0.mk (Kd.R_below (by (with_reducible repeat (first | apply Kd.R_alloc | apply Kd.R_drewN | apply Kd.R_drew)); exact HO569.out) hb); have n1_ := Aside0.mk (Kd.R_below (by (with_reducible repeat (first | apply Kd.R_alloc | apply Kd.R_drewN | apply Kd.R_drew)); exact HO571.out) hb); have n2_ := Aside0.mk (Kd.R_lower ho0 (below_size (by repeat (first | (with_reducible first | exact HB.out | apply below_alloc | apply pw_below_drewN | apply below_drew1) | exact HB.out)))); have n3_ := Aside0.mk (below_step (by repeat (first | (with_reducible first | exact HB.out | apply below_alloc | apply pw_below_drewN | apply below_drew1) | exact HB.out)) hb); clear HO569; clear HO571; clear HB; have HO569 := n0_; have HO571 := n1_; have HO575 := n2_; have HB := n3_; clear n0_ n1_ n2_ n3_; (try clear hb); (try clear hb2); (try clear hk); (try clear hi); (try clear ho0)))
    go_ret2
    exact ⟨_, by first | rfl | (simp [errW_none, errW_some] <;> rfl) | (simp [*, errW_none, errW_some] <;> rfl), by (with_reducible repeat (first | apply Kd.R_alloc | apply Kd.R_drewN | apply Kd.R_drew)); exact HO575.out, by repeat (first | (with_reducible first | exact HB.out | apply below_alloc | apply pw_below_drewN | apply below_drew1) | exact HB.out)⟩
  · replace c4 := Bool.eq_false_iff.mpr c4
    subst c4
    have H1 : (some (([] : List (S89)), 2)) = some (r1, r2) := by rw [if_neg (show ¬ (false = true) by decide)] at H; exact H
    clear H
    have H := H1
    clear H1
    simp only [Option.some.injEq, Prod.mk.injEq] at H
    obtain ⟨rfl, rfl⟩ := H
    go_enter Try.func47, Try.ntmps47
    go_wp2_with (first | ((with_reducible refine gate_callee (f := 22) rfl ?_); refine goesL_ (some 9) rfl rfl Try.func22 (by kernel_rfl) rfl #[.slice A0 l0.length c0] rfl (by (try simp only [List.map_toArray, List.map_cons, List.map_nil]); first | done | rfl | (simp only [List.length_drop, List.length_take]; rfl)) ?_; (with_reducible refine (sheet_Right.calls _ _ l0 false _ ?side1 ?side2 A3.out).mono ?_); (case side1 => repeat (first | exact HR0.out | (with_reducible refine Kd.C_alloc ?_ _) | (with_reducible refine Kd.C_drewN ?_ _) | (with_reducible refine Kd.C_drew ?_))); (case side2 => exact HC0.out); rintro e w11 ⟨rfl, hb⟩; refine ⟨_, rfl, ?_⟩; have n0_ := Aside0.mk (below_step (by repeat (first | (with_reducible first | exact HB.out | apply below_alloc | apply pw_below_drewN | apply below_drew1) | exact HB.out)) hb); clear HB; have HB := n0_; clear n0_; (try clear hb); (try clear hb2); (try clear hk); (try clear hi)))
    go_ret2
    exact ⟨_, by first | rfl | (simp [errW_none, errW_some] <;> rfl) | (simp [*, errW_none, errW_some] <;> rfl), by first | exact Kd.R_nil _ _ _ _ _ | exact Kd.N_nil _ _ _ _ _ | exact Kd.V_nil _ _ _ _ _ | exact Kd.Q_nil _ _ _ _ _ | exact Kd.S_nil _ _ _ _ _, by repeat (first | (with_reducible first | exact HB.out | apply below_alloc | apply pw_below_drewN | apply below_drew1) | exact HB.out)⟩
def accountinglaw44_lives.f (k : Nat)  : Option (Bool) := (accountinglaw44_cell.f (⟨#[97]⟩ : ByteArray) (⟨#[49, 48]⟩ : ByteArray) (⟨#[]⟩ : ByteArray) 50).bind fun bt606 => ((accountinglaw44_cell.f (⟨#[97]⟩ : ByteArray) (⟨#[49, 54]⟩ : ByteArray) (⟨#[98]⟩ : ByteArray) 100).bind fun bt613 => ((accountinglaw44_cell.f (⟨#[97]⟩ : ByteArray) (⟨#[49, 54]⟩ : ByteArray) (⟨#[99]⟩ : ByteArray) 5).bind fun bt620 => ((accountinglaw44_cell.f (⟨#[98]⟩ : ByteArray) (⟨#[50, 52]⟩ : ByteArray) (⟨#[97]⟩ : ByteArray) (-97)).bind fun bt627 => ((some (([(⟨(⟨bt606.1, bt606.2.1, bt606.2.2.1, bt606.2.2.2.1, bt606.2.2.2.2.1⟩ : S32), bt606.2.2.2.2.2.1, bt606.2.2.2.2.2.2⟩ : S34), (⟨(⟨bt613.1, bt613.2.1, bt613.2.2.1, bt613.2.2.2.1, bt613.2.2.2.2.1⟩ : S32), bt613.2.2.2.2.2.1, bt613.2.2.2.2.2.2⟩ : S34), (⟨(⟨bt620.1, bt620.2.1, bt620.2.2.1, bt620.2.2.2.1, bt620.2.2.2.2.1⟩ : S32), bt620.2.2.2.2.2.1, bt620.2.2.2.2.2.2⟩ : S34), (⟨(⟨bt627.1, bt627.2.1, bt627.2.2.1, bt627.2.2.2.1, bt627.2.2.2.2.1⟩ : S32), bt627.2.2.2.2.2.1, bt627.2.2.2.2.2.2⟩ : S34)] : List (S34)) : List (S34))).bind fun y634 => ((interco_Inside.f k y634 (([(⟨#[97]⟩ : ByteArray), (⟨#[98]⟩ : ByteArray)] : List ByteArray))).bind fun bt640 => ((interco_Pairs.f k y634 (([(⟨#[98]⟩ : ByteArray), (⟨#[97]⟩ : ByteArray)] : List ByteArray))).bind fun bt649 => ((interco_Eliminate.f k y634 (⟨#[69, 85, 82]⟩ : ByteArray) (⟨#[51, 57]⟩ : ByteArray) (([(⟨#[97]⟩ : ByteArray), (⟨#[98]⟩ : ByteArray)] : List ByteArray))).bind fun bt656 => (if (bt640.1.length : Int) = 2 then (if (bt640.2.length : Int) = 2 then ((accountingref44_Same.f k bt649.1 (([(⟨(⟨#[97]⟩ : ByteArray), (⟨#[98]⟩ : ByteArray), 3⟩ : S89)] : List (S89)))).bind fun t663 => (if t663 = true then (if bt649.2 = 0 then ((accountinglaw44_cell.f (⟨#[97]⟩ : ByteArray) (⟨#[49, 54]⟩ : ByteArray) (⟨#[98]⟩ : ByteArray) (-100)).bind fun bt664 => ((accountinglaw44_cell.f (⟨#[97]⟩ : ByteArray) (⟨#[51, 57]⟩ : ByteArray) (⟨#[]⟩ : ByteArray) 3).bind fun bt671 => ((accountinglaw44_cell.f (⟨#[98]⟩ : ByteArray) (⟨#[50, 52]⟩ : ByteArray) (⟨#[97]⟩ : ByteArray) 97).bind fun bt678 => ((accountingref19_Same.f k bt656.1 (([(⟨(⟨bt664.1, bt664.2.1, bt664.2.2.1, bt664.2.2.2.1, bt664.2.2.2.2.1⟩ : S32), bt664.2.2.2.2.2.1, bt664.2.2.2.2.2.2⟩ : S34), (⟨(⟨bt671.1, bt671.2.1, bt671.2.2.1, bt671.2.2.2.1, bt671.2.2.2.2.1⟩ : S32), bt671.2.2.2.2.2.1, bt671.2.2.2.2.2.2⟩ : S34), (⟨(⟨bt678.1, bt678.2.1, bt678.2.2.1, bt678.2.2.2.1, bt678.2.2.2.2.1⟩ : S32), bt678.2.2.2.2.2.1, bt678.2.2.2.2.2.2⟩ : S34)] : List (S34)))).bind fun t688 => (if t688 = true then (some (bt656.2 == 0)) else (some false)))))) else (some false)) else (some false))) else (some false)) else (some false)))))))))
theorem accountinglaw44_lives.mono : ∀ k, LeO (accountinglaw44_lives.f k ) (accountinglaw44_lives.f (k + 1) ) := by
 intro  k
 unfold accountinglaw44_lives.f
 repeat' first
   | (with_reducible exact accountingref19_Same.mono _ _ _)
   | (with_reducible exact accountingref44_Same.mono _ _ _)
   | (with_reducible exact interco_Eliminate.mono _ _ _ _ _)
   | (with_reducible exact interco_Inside.mono _ _ _)
   | (with_reducible exact interco_Pairs.mono _ _ _)
   | (with_reducible exact LeO.refl _)
   | (with_reducible exact LeO.none _)
   | (with_reducible refine LeO.ite ?_ ?_)
   | (with_reducible refine LeO.bind ?_ (fun _ => ?_))
   | exact accountingref19_Same.mono _ _ _
   | exact accountingref44_Same.mono _ _ _
   | exact interco_Eliminate.mono _ _ _ _ _
   | exact interco_Inside.mono _ _ _
   | exact interco_Pairs.mono _ _ _
   | exact LeO.none _
   | refine LeO.ite ?_ ?_
   | refine LeO.bind ?_ (fun _ => ?_)
set_option maxHeartbeats 8000000 in
set_option maxRecDepth 100000 in
theorem accountinglaw44_lives.calls_true (k : Nat)  (r : Bool) (w : World) (h : accountinglaw44_lives.f k  = some r) (hrt : r = true) :
  Calls Try.prog 46 #[] w fun e w' => e = .returned (.bool r) ∧ Below w.heap.size w w' := by
 have HRT := Aside0.mk hrt
 clear hrt
 have hu89 := Try.underlying89
 have HB := Aside0.mk (Below.refl w.heap.size w)
 have H : ((accountinglaw44_cell.f (⟨#[97]⟩ : ByteArray) (⟨#[49, 48]⟩ : ByteArray) (⟨#[]⟩ : ByteArray) 50).bind fun bt606 => ((accountinglaw44_cell.f (⟨#[97]⟩ : ByteArray) (⟨#[49, 54]⟩ : ByteArray) (⟨#[98]⟩ : ByteArray) 100).bind fun bt613 => ((accountinglaw44_cell.f (⟨#[97]⟩ : ByteArray) (⟨#[49, 54]⟩ : ByteArray) (⟨#[99]⟩ : ByteArray) 5).bind fun bt620 => ((accountinglaw44_cell.f (⟨#[98]⟩ : ByteArray) (⟨#[50, 52]⟩ : ByteArray) (⟨#[97]⟩ : ByteArray) (-97)).bind fun bt627 => ((some (([(⟨(⟨bt606.1, bt606.2.1, bt606.2.2.1, bt606.2.2.2.1, bt606.2.2.2.2.1⟩ : S32), bt606.2.2.2.2.2.1, bt606.2.2.2.2.2.2⟩ : S34), (⟨(⟨bt613.1, bt613.2.1, bt613.2.2.1, bt613.2.2.2.1, bt613.2.2.2.2.1⟩ : S32), bt613.2.2.2.2.2.1, bt613.2.2.2.2.2.2⟩ : S34), (⟨(⟨bt620.1, bt620.2.1, bt620.2.2.1, bt620.2.2.2.1, bt620.2.2.2.2.1⟩ : S32), bt620.2.2.2.2.2.1, bt620.2.2.2.2.2.2⟩ : S34), (⟨(⟨bt627.1, bt627.2.1, bt627.2.2.1, bt627.2.2.2.1, bt627.2.2.2.2.1⟩ : S32), bt627.2.2.2.2.2.1, bt627.2.2.2.2.2.2⟩ : S34)] : List (S34)) : List (S34))).bind fun y634 => ((interco_Inside.f k y634 (([(⟨#[97]⟩ : ByteArray), (⟨#[98]⟩ : ByteArray)] : List ByteArray))).bind fun bt640 => ((interco_Pairs.f k y634 (([(⟨#[98]⟩ : ByteArray), (⟨#[97]⟩ : ByteArray)] : List ByteArray))).bind fun bt649 => ((interco_Eliminate.f k y634 (⟨#[69, 85, 82]⟩ : ByteArray) (⟨#[51, 57]⟩ : ByteArray) (([(⟨#[97]⟩ : ByteArray), (⟨#[98]⟩ : ByteArray)] : List ByteArray))).bind fun bt656 => (if (bt640.1.length : Int) = 2 then (if (bt640.2.length : Int) = 2 then ((accountingref44_Same.f k bt649.1 (([(⟨(⟨#[97]⟩ : ByteArray), (⟨#[98]⟩ : ByteArray), 3⟩ : S89)] : List (S89)))).bind fun t663 => (if t663 = true then (if bt649.2 = 0 then ((accountinglaw44_cell.f (⟨#[97]⟩ : ByteArray) (⟨#[49, 54]⟩ : ByteArray) (⟨#[98]⟩ : ByteArray) (-100)).bind fun bt664 => ((accountinglaw44_cell.f (⟨#[97]⟩ : ByteArray) (⟨#[51, 57]⟩ : ByteArray) (⟨#[]⟩ : ByteArray) 3).bind fun bt671 => ((accountinglaw44_cell.f (⟨#[98]⟩ : ByteArray) (⟨#[50, 52]⟩ : ByteArray) (⟨#[97]⟩ : ByteArray) 97).bind fun bt678 => ((accountingref19_Same.f k bt656.1 (([(⟨(⟨bt664.1, bt664.2.1, bt664.2.2.1, bt664.2.2.2.1, bt664.2.2.2.2.1⟩ : S32), bt664.2.2.2.2.2.1, bt664.2.2.2.2.2.2⟩ : S34), (⟨(⟨bt671.1, bt671.2.1, bt671.2.2.1, bt671.2.2.2.1, bt671.2.2.2.2.1⟩ : S32), bt671.2.2.2.2.2.1, bt671.2.2.2.2.2.2⟩ : S34), (⟨(⟨bt678.1, bt678.2.1, bt678.2.2.1, bt678.2.2.2.1, bt678.2.2.2.2.1⟩ : S32), bt678.2.2.2.2.2.1, bt678.2.2.2.2.2.2⟩ : S34)] : List (S34)))).bind fun t688 => (if t688 = true then (some (bt656.2 == 0)) else (some false)))))) else (some false)) else (some false))) else (some false)) else (some false)))))))))) = some r := h
 clear h
 replace H := Option.bind_eq_some_iff.mp H
 obtain ⟨⟨t606, t607, t608, t609, t610, t611, t612⟩, A10, H⟩ := H
 try dsimp only at H
 have A1 := Aside0.mk A10
 clear A10
 replace H := Option.bind_eq_some_iff.mp H
 obtain ⟨⟨t613, t614, t615, t616, t617, t618, t619⟩, A20, H⟩ := H
 try dsimp only at H
 have A2 := Aside0.mk A20
 clear A20
 replace H := Option.bind_eq_some_iff.mp H
 obtain ⟨⟨t620, t621, t622, t623, t624, t625, t626⟩, A30, H⟩ := H
 try dsimp only at H
 have A3 := Aside0.mk A30
 clear A30
 replace H := Option.bind_eq_some_iff.mp H
 obtain ⟨⟨t627, t628, t629, t630, t631, t632, t633⟩, A40, H⟩ := H
 try dsimp only at H
 have A4 := Aside0.mk A40
 clear A40
 obtain ⟨y634, hy634⟩ : ∃ y_ : List (S34), y_ = (([(⟨(⟨t606, t607, t608, t609, t610⟩ : S32), t611, t612⟩ : S34), (⟨(⟨t613, t614, t615, t616, t617⟩ : S32), t618, t619⟩ : S34), (⟨(⟨t620, t621, t622, t623, t624⟩ : S32), t625, t626⟩ : S34), (⟨(⟨t627, t628, t629, t630, t631⟩ : S32), t632, t633⟩ : S34)] : List (S34))) := ⟨_, rfl⟩
 replace H : ((interco_Inside.f k y634 (([(⟨#[97]⟩ : ByteArray), (⟨#[98]⟩ : ByteArray)] : List ByteArray))).bind fun bt640 => ((interco_Pairs.f k y634 (([(⟨#[98]⟩ : ByteArray), (⟨#[97]⟩ : ByteArray)] : List ByteArray))).bind fun bt649 => ((interco_Eliminate.f k y634 (⟨#[69, 85, 82]⟩ : ByteArray) (⟨#[51, 57]⟩ : ByteArray) (([(⟨#[97]⟩ : ByteArray), (⟨#[98]⟩ : ByteArray)] : List ByteArray))).bind fun bt656 => (if (bt640.1.length : Int) = 2 then (if (bt640.2.length : Int) = 2 then ((accountingref44_Same.f k bt649.1 (([(⟨(⟨#[97]⟩ : ByteArray), (⟨#[98]⟩ : ByteArray), 3⟩ : S89)] : List (S89)))).bind fun t663 => (if t663 = true then (if bt649.2 = 0 then ((accountinglaw44_cell.f (⟨#[97]⟩ : ByteArray) (⟨#[49, 54]⟩ : ByteArray) (⟨#[98]⟩ : ByteArray) (-100)).bind fun bt664 => ((accountinglaw44_cell.f (⟨#[97]⟩ : ByteArray) (⟨#[51, 57]⟩ : ByteArray) (⟨#[]⟩ : ByteArray) 3).bind fun bt671 => ((accountinglaw44_cell.f (⟨#[98]⟩ : ByteArray) (⟨#[50, 52]⟩ : ByteArray) (⟨#[97]⟩ : ByteArray) 97).bind fun bt678 => ((accountingref19_Same.f k bt656.1 (([(⟨(⟨bt664.1, bt664.2.1, bt664.2.2.1, bt664.2.2.2.1, bt664.2.2.2.2.1⟩ : S32), bt664.2.2.2.2.2.1, bt664.2.2.2.2.2.2⟩ : S34), (⟨(⟨bt671.1, bt671.2.1, bt671.2.2.1, bt671.2.2.2.1, bt671.2.2.2.2.1⟩ : S32), bt671.2.2.2.2.2.1, bt671.2.2.2.2.2.2⟩ : S34), (⟨(⟨bt678.1, bt678.2.1, bt678.2.2.1, bt678.2.2.2.1, bt678.2.2.2.2.1⟩ : S32), bt678.2.2.2.2.2.1, bt678.2.2.2.2.2.2⟩ : S34)] : List (S34)))).bind fun t688 => (if t688 = true then (some (bt656.2 == 0)) else (some false)))))) else (some false)) else (some false))) else (some false)) else (some false))))) = some r := by first | (rw [hy634]; with_reducible exact H) | (have H2_ := (Option.bind_some _ _).symm.trans H; rw [hy634]; with_reducible exact H2_) | (have H2_ := (Option.bind_some _ _).symm.trans H; with_reducible exact H2_) | with_reducible exact H | (rw [hy634]; exact H) | exact H
 have Ny634 := Aside0.mk hy634
 clear hy634
 obtain ⟨y637, hy637⟩ : ∃ y_ : List ByteArray, y_ = (([(⟨#[97]⟩ : ByteArray), (⟨#[98]⟩ : ByteArray)] : List ByteArray)) := ⟨_, rfl⟩
 replace H : ((interco_Inside.f k y634 y637).bind fun bt640 => ((interco_Pairs.f k y634 (([(⟨#[98]⟩ : ByteArray), (⟨#[97]⟩ : ByteArray)] : List ByteArray))).bind fun bt649 => ((interco_Eliminate.f k y634 (⟨#[69, 85, 82]⟩ : ByteArray) (⟨#[51, 57]⟩ : ByteArray) (([(⟨#[97]⟩ : ByteArray), (⟨#[98]⟩ : ByteArray)] : List ByteArray))).bind fun bt656 => (if (bt640.1.length : Int) = 2 then (if (bt640.2.length : Int) = 2 then ((accountingref44_Same.f k bt649.1 (([(⟨(⟨#[97]⟩ : ByteArray), (⟨#[98]⟩ : ByteArray), 3⟩ : S89)] : List (S89)))).bind fun t663 => (if t663 = true then (if bt649.2 = 0 then ((accountinglaw44_cell.f (⟨#[97]⟩ : ByteArray) (⟨#[49, 54]⟩ : ByteArray) (⟨#[98]⟩ : ByteArray) (-100)).bind fun bt664 => ((accountinglaw44_cell.f (⟨#[97]⟩ : ByteArray) (⟨#[51, 57]⟩ : ByteArray) (⟨#[]⟩ : ByteArray) 3).bind fun bt671 => ((accountinglaw44_cell.f (⟨#[98]⟩ : ByteArray) (⟨#[50, 52]⟩ : ByteArray) (⟨#[97]⟩ : ByteArray) 97).bind fun bt678 => ((accountingref19_Same.f k bt656.1 (([(⟨(⟨bt664.1, bt664.2.1, bt664.2.2.1, bt664.2.2.2.1, bt664.2.2.2.2.1⟩ : S32), bt664.2.2.2.2.2.1, bt664.2.2.2.2.2.2⟩ : S34), (⟨(⟨bt671.1, bt671.2.1, bt671.2.2.1, bt671.2.2.2.1, bt671.2.2.2.2.1⟩ : S32), bt671.2.2.2.2.2.1, bt671.2.2.2.2.2.2⟩ : S34), (⟨(⟨bt678.1, bt678.2.1, bt678.2.2.1, bt678.2.2.2.1, bt678.2.2.2.2.1⟩ : S32), bt678.2.2.2.2.2.1, bt678.2.2.2.2.2.2⟩ : S34)] : List (S34)))).bind fun t688 => (if t688 = true then (some (bt656.2 == 0)) else (some false)))))) else (some false)) else (some false))) else (some false)) else (some false))))) = some r := by first | (rw [hy637]; with_reducible exact H) | (have H2_ := (Option.bind_some _ _).symm.trans H; rw [hy637]; with_reducible exact H2_) | (have H2_ := (Option.bind_some _ _).symm.trans H; with_reducible exact H2_) | with_reducible exact H | (rw [hy637]; exact H) | exact H
 have Ny637 := Aside0.mk hy637
 clear hy637
 replace H := Option.bind_eq_some_iff.mp H
 obtain ⟨⟨t640, t641⟩, A50, H⟩ := H
 try dsimp only at H
 have A5 := Aside0.mk A50
 clear A50
 obtain ⟨y646, hy646⟩ : ∃ y_ : List ByteArray, y_ = (([(⟨#[98]⟩ : ByteArray), (⟨#[97]⟩ : ByteArray)] : List ByteArray)) := ⟨_, rfl⟩
 replace H : ((interco_Pairs.f k y634 y646).bind fun bt649 => ((interco_Eliminate.f k y634 (⟨#[69, 85, 82]⟩ : ByteArray) (⟨#[51, 57]⟩ : ByteArray) (([(⟨#[97]⟩ : ByteArray), (⟨#[98]⟩ : ByteArray)] : List ByteArray))).bind fun bt656 => (if (t640.length : Int) = 2 then (if (t641.length : Int) = 2 then ((accountingref44_Same.f k bt649.1 (([(⟨(⟨#[97]⟩ : ByteArray), (⟨#[98]⟩ : ByteArray), 3⟩ : S89)] : List (S89)))).bind fun t663 => (if t663 = true then (if bt649.2 = 0 then ((accountinglaw44_cell.f (⟨#[97]⟩ : ByteArray) (⟨#[49, 54]⟩ : ByteArray) (⟨#[98]⟩ : ByteArray) (-100)).bind fun bt664 => ((accountinglaw44_cell.f (⟨#[97]⟩ : ByteArray) (⟨#[51, 57]⟩ : ByteArray) (⟨#[]⟩ : ByteArray) 3).bind fun bt671 => ((accountinglaw44_cell.f (⟨#[98]⟩ : ByteArray) (⟨#[50, 52]⟩ : ByteArray) (⟨#[97]⟩ : ByteArray) 97).bind fun bt678 => ((accountingref19_Same.f k bt656.1 (([(⟨(⟨bt664.1, bt664.2.1, bt664.2.2.1, bt664.2.2.2.1, bt664.2.2.2.2.1⟩ : S32), bt664.2.2.2.2.2.1, bt664.2.2.2.2.2.2⟩ : S34), (⟨(⟨bt671.1, bt671.2.1, bt671.2.2.1, bt671.2.2.2.1, bt671.2.2.2.2.1⟩ : S32), bt671.2.2.2.2.2.1, bt671.2.2.2.2.2.2⟩ : S34), (⟨(⟨bt678.1, bt678.2.1, bt678.2.2.1, bt678.2.2.2.1, bt678.2.2.2.2.1⟩ : S32), bt678.2.2.2.2.2.1, bt678.2.2.2.2.2.2⟩ : S34)] : List (S34)))).bind fun t688 => (if t688 = true then (some (bt656.2 == 0)) else (some false)))))) else (some false)) else (some false))) else (some false)) else (some false)))) = some r := by first | (rw [hy646]; with_reducible exact H) | (have H2_ := (Option.bind_some _ _).symm.trans H; rw [hy646]; with_reducible exact H2_) | (have H2_ := (Option.bind_some _ _).symm.trans H; with_reducible exact H2_) | with_reducible exact H | (rw [hy646]; exact H) | exact H
 have Ny646 := Aside0.mk hy646
 clear hy646
 replace H := Option.bind_eq_some_iff.mp H
 obtain ⟨⟨t649, t650⟩, A60, H⟩ := H
 try dsimp only at H
 have A6 := Aside0.mk A60
 clear A60
 obtain ⟨y653, hy653⟩ : ∃ y_ : List ByteArray, y_ = (([(⟨#[97]⟩ : ByteArray), (⟨#[98]⟩ : ByteArray)] : List ByteArray)) := ⟨_, rfl⟩
 replace H : ((interco_Eliminate.f k y634 (⟨#[69, 85, 82]⟩ : ByteArray) (⟨#[51, 57]⟩ : ByteArray) y653).bind fun bt656 => (if (t640.length : Int) = 2 then (if (t641.length : Int) = 2 then ((accountingref44_Same.f k t649 (([(⟨(⟨#[97]⟩ : ByteArray), (⟨#[98]⟩ : ByteArray), 3⟩ : S89)] : List (S89)))).bind fun t663 => (if t663 = true then (if t650 = 0 then ((accountinglaw44_cell.f (⟨#[97]⟩ : ByteArray) (⟨#[49, 54]⟩ : ByteArray) (⟨#[98]⟩ : ByteArray) (-100)).bind fun bt664 => ((accountinglaw44_cell.f (⟨#[97]⟩ : ByteArray) (⟨#[51, 57]⟩ : ByteArray) (⟨#[]⟩ : ByteArray) 3).bind fun bt671 => ((accountinglaw44_cell.f (⟨#[98]⟩ : ByteArray) (⟨#[50, 52]⟩ : ByteArray) (⟨#[97]⟩ : ByteArray) 97).bind fun bt678 => ((accountingref19_Same.f k bt656.1 (([(⟨(⟨bt664.1, bt664.2.1, bt664.2.2.1, bt664.2.2.2.1, bt664.2.2.2.2.1⟩ : S32), bt664.2.2.2.2.2.1, bt664.2.2.2.2.2.2⟩ : S34), (⟨(⟨bt671.1, bt671.2.1, bt671.2.2.1, bt671.2.2.2.1, bt671.2.2.2.2.1⟩ : S32), bt671.2.2.2.2.2.1, bt671.2.2.2.2.2.2⟩ : S34), (⟨(⟨bt678.1, bt678.2.1, bt678.2.2.1, bt678.2.2.2.1, bt678.2.2.2.2.1⟩ : S32), bt678.2.2.2.2.2.1, bt678.2.2.2.2.2.2⟩ : S34)] : List (S34)))).bind fun t688 => (if t688 = true then (some (bt656.2 == 0)) else (some false)))))) else (some false)) else (some false))) else (some false)) else (some false))) = some r := by first | (rw [hy653]; with_reducible exact H) | (have H2_ := (Option.bind_some _ _).symm.trans H; rw [hy653]; with_reducible exact H2_) | (have H2_ := (Option.bind_some _ _).symm.trans H; with_reducible exact H2_) | with_reducible exact H | (rw [hy653]; exact H) | exact H
 have Ny653 := Aside0.mk hy653
 clear hy653
 replace H := Option.bind_eq_some_iff.mp H
 obtain ⟨⟨t656, t657⟩, A70, H⟩ := H
 try dsimp only at H
 have A7 := Aside0.mk A70
 clear A70
 by_cases c8 : (t640.length : Int) = 2
 ·rw [if_pos c8] at H
  have c8b0 : ((t640.length : Int) == 2) = true := beq_iff_eq.mpr c8
  have c8b1 : ((t640.length : Int) != 2) = false := bne_eq_false_iff_eq.mpr c8
  clear c8
  by_cases c9 : (t641.length : Int) = 2
  ·rw [if_pos c9] at H
   have c9b0 : ((t641.length : Int) == 2) = true := beq_iff_eq.mpr c9
   have c9b1 : ((t641.length : Int) != 2) = false := bne_eq_false_iff_eq.mpr c9
   clear c9
   obtain ⟨y660, hy660⟩ : ∃ y_ : List (S89), y_ = (([(⟨(⟨#[97]⟩ : ByteArray), (⟨#[98]⟩ : ByteArray), 3⟩ : S89)] : List (S89))) := ⟨_, rfl⟩
   replace H : ((accountingref44_Same.f k t649 y660).bind fun t663 => (if t663 = true then (if t650 = 0 then ((accountinglaw44_cell.f (⟨#[97]⟩ : ByteArray) (⟨#[49, 54]⟩ : ByteArray) (⟨#[98]⟩ : ByteArray) (-100)).bind fun bt664 => ((accountinglaw44_cell.f (⟨#[97]⟩ : ByteArray) (⟨#[51, 57]⟩ : ByteArray) (⟨#[]⟩ : ByteArray) 3).bind fun bt671 => ((accountinglaw44_cell.f (⟨#[98]⟩ : ByteArray) (⟨#[50, 52]⟩ : ByteArray) (⟨#[97]⟩ : ByteArray) 97).bind fun bt678 => ((accountingref19_Same.f k t656 (([(⟨(⟨bt664.1, bt664.2.1, bt664.2.2.1, bt664.2.2.2.1, bt664.2.2.2.2.1⟩ : S32), bt664.2.2.2.2.2.1, bt664.2.2.2.2.2.2⟩ : S34), (⟨(⟨bt671.1, bt671.2.1, bt671.2.2.1, bt671.2.2.2.1, bt671.2.2.2.2.1⟩ : S32), bt671.2.2.2.2.2.1, bt671.2.2.2.2.2.2⟩ : S34), (⟨(⟨bt678.1, bt678.2.1, bt678.2.2.1, bt678.2.2.2.1, bt678.2.2.2.2.1⟩ : S32), bt678.2.2.2.2.2.1, bt678.2.2.2.2.2.2⟩ : S34)] : List (S34)))).bind fun t688 => (if t688 = true then (some (t657 == 0)) else (some false)))))) else (some false)) else (some false))) = some r := by first | (rw [hy660]; with_reducible exact H) | (have H2_ := (Option.bind_some _ _).symm.trans H; rw [hy660]; with_reducible exact H2_) | (have H2_ := (Option.bind_some _ _).symm.trans H; with_reducible exact H2_) | with_reducible exact H | (rw [hy660]; exact H) | exact H
   have Ny660 := Aside0.mk hy660
   clear hy660
   replace H := Option.bind_eq_some_iff.mp H
   obtain ⟨t663, A100, H⟩ := H
   try dsimp only at H
   have A10 := Aside0.mk A100
   clear A100
   by_cases c11 : t663 = true
   ·subst c11
    have H1 : (if t650 = 0 then ((accountinglaw44_cell.f (⟨#[97]⟩ : ByteArray) (⟨#[49, 54]⟩ : ByteArray) (⟨#[98]⟩ : ByteArray) (-100)).bind fun bt664 => ((accountinglaw44_cell.f (⟨#[97]⟩ : ByteArray) (⟨#[51, 57]⟩ : ByteArray) (⟨#[]⟩ : ByteArray) 3).bind fun bt671 => ((accountinglaw44_cell.f (⟨#[98]⟩ : ByteArray) (⟨#[50, 52]⟩ : ByteArray) (⟨#[97]⟩ : ByteArray) 97).bind fun bt678 => ((accountingref19_Same.f k t656 (([(⟨(⟨bt664.1, bt664.2.1, bt664.2.2.1, bt664.2.2.2.1, bt664.2.2.2.2.1⟩ : S32), bt664.2.2.2.2.2.1, bt664.2.2.2.2.2.2⟩ : S34), (⟨(⟨bt671.1, bt671.2.1, bt671.2.2.1, bt671.2.2.2.1, bt671.2.2.2.2.1⟩ : S32), bt671.2.2.2.2.2.1, bt671.2.2.2.2.2.2⟩ : S34), (⟨(⟨bt678.1, bt678.2.1, bt678.2.2.1, bt678.2.2.2.1, bt678.2.2.2.2.1⟩ : S32), bt678.2.2.2.2.2.1, bt678.2.2.2.2.2.2⟩ : S34)] : List (S34)))).bind fun t688 => (if t688 = true then (some (t657 == 0)) else (some false)))))) else (some false)) = some r := by rw [if_pos rfl] at H; exact H
    clear H
    have H := H1
    clear H1
    by_cases c12 : t650 = 0
    ·rw [if_pos c12] at H
     have c12b0 : (t650 == 0) = true := beq_iff_eq.mpr c12
     have c12b1 : (t650 != 0) = false := bne_eq_false_iff_eq.mpr c12
     clear c12
     replace H := Option.bind_eq_some_iff.mp H
     obtain ⟨⟨t664, t665, t666, t667, t668, t669, t670⟩, A130, H⟩ := H
     try dsimp only at H
     have A13 := Aside0.mk A130
     clear A130
     replace H := Option.bind_eq_some_iff.mp H
     obtain ⟨⟨t671, t672, t673, t674, t675, t676, t677⟩, A140, H⟩ := H
     try dsimp only at H
     have A14 := Aside0.mk A140
     clear A140
     replace H := Option.bind_eq_some_iff.mp H
     obtain ⟨⟨t678, t679, t680, t681, t682, t683, t684⟩, A150, H⟩ := H
     try dsimp only at H
     have A15 := Aside0.mk A150
     clear A150
     obtain ⟨y685, hy685⟩ : ∃ y_ : List (S34), y_ = (([(⟨(⟨t664, t665, t666, t667, t668⟩ : S32), t669, t670⟩ : S34), (⟨(⟨t671, t672, t673, t674, t675⟩ : S32), t676, t677⟩ : S34), (⟨(⟨t678, t679, t680, t681, t682⟩ : S32), t683, t684⟩ : S34)] : List (S34))) := ⟨_, rfl⟩
     replace H : ((accountingref19_Same.f k t656 y685).bind fun t688 => (if t688 = true then (some (t657 == 0)) else (some false))) = some r := by first | (rw [hy685]; with_reducible exact H) | (have H2_ := (Option.bind_some _ _).symm.trans H; rw [hy685]; with_reducible exact H2_) | (have H2_ := (Option.bind_some _ _).symm.trans H; with_reducible exact H2_) | with_reducible exact H | (rw [hy685]; exact H) | exact H
     have Ny685 := Aside0.mk hy685
     clear hy685
     replace H := Option.bind_eq_some_iff.mp H
     obtain ⟨t688, A160, H⟩ := H
     replace H : (if t688 = true then (some (t657 == 0)) else (some false)) = some r := H
     have A16 := Aside0.mk A160
     clear A160
     by_cases c17 : t688 = true
     ·subst c17
      have H1 : (some (t657 == 0)) = some r := by rw [if_pos rfl] at H; exact H
      clear H
      have H := H1
      clear H1
      obtain rfl := Option.some.inj H
      go_enter Try.func46, Try.ntmps46
      go_wp2_with (first | ((with_reducible refine gate_callee (f := 74) rfl ?_); refine goesL_ (some 8) rfl rfl Try.func74 (by kernel_rfl) rfl #[.string (⟨#[97]⟩ : ByteArray), .string (⟨#[49, 48]⟩ : ByteArray), .string (⟨#[]⟩ : ByteArray), .int .i64 50] rfl (by (try simp only [List.map_toArray, List.map_cons, List.map_nil]); first | done | rfl | (simp only [List.length_drop, List.length_take]; rfl)) ?_; (with_reducible refine (accountinglaw44_cell.calls (⟨#[97]⟩ : ByteArray) (⟨#[49, 48]⟩ : ByteArray) (⟨#[]⟩ : ByteArray) 50 t606 t607 t608 t609 t610 t611 t612 _ A1.out).mono ?_); rintro e w18 ⟨rfl, hb⟩; refine ⟨_, rfl, ?_⟩; have n0_ := Aside0.mk (below_step (by repeat (first | (with_reducible first | exact HB.out | apply below_alloc | apply pw_below_drewN | apply below_drew1) | exact HB.out)) hb); clear HB; have HB := n0_; clear n0_; (try clear hb); (try clear hb2); (try clear hk); (try clear hi)) | ((with_reducible refine gate_callee (f := 74) rfl ?_); refine goesL_ (some 9) rfl rfl Try.func74 (by kernel_rfl) rfl #[.string (⟨#[97]⟩ : ByteArray), .string (⟨#[49, 54]⟩ : ByteArray), .string (⟨#[98]⟩ : ByteArray), .int .i64 100] rfl (by (try simp only [List.map_toArray, List.map_cons, List.map_nil]); first | done | rfl | (simp only [List.length_drop, List.length_take]; rfl)) ?_; (with_reducible refine (accountinglaw44_cell.calls (⟨#[97]⟩ : ByteArray) (⟨#[49, 54]⟩ : ByteArray) (⟨#[98]⟩ : ByteArray) 100 t613 t614 t615 t616 t617 t618 t619 _ A2.out).mono ?_); rintro e w19 ⟨rfl, hb⟩; refine ⟨_, rfl, ?_⟩; have n0_ := Aside0.mk (below_step (by repeat (first | (with_reducible first | exact HB.out | apply below_alloc | apply pw_below_drewN | apply below_drew1) | exact HB.out)) hb); clear HB; have HB := n0_; clear n0_; (try clear hb); (try clear hb2); (try clear hk); (try clear hi)) | ((with_reducible refine gate_callee (f := 74) rfl ?_); refine goesL_ (some 10) rfl rfl Try.func74 (by kernel_rfl) rfl #[.string (⟨#[97]⟩ : ByteArray), .string (⟨#[49, 54]⟩ : ByteArray), .string (⟨#[99]⟩ : ByteArray), .int .i64 5] rfl (by (try simp only [List.map_toArray, List.map_cons, List.map_nil]); first | done | rfl | (simp only [List.length_drop, List.length_take]; rfl)) ?_; (with_reducible refine (accountinglaw44_cell.calls (⟨#[97]⟩ : ByteArray) (⟨#[49, 54]⟩ : ByteArray) (⟨#[99]⟩ : ByteArray) 5 t620 t621 t622 t623 t624 t625 t626 _ A3.out).mono ?_); rintro e w20 ⟨rfl, hb⟩; refine ⟨_, rfl, ?_⟩; have n0_ := Aside0.mk (below_step (by repeat (first | (with_reducible first | exact HB.out | apply below_alloc | apply pw_below_drewN | apply below_drew1) | exact HB.out)) hb); clear HB; have HB := n0_; clear n0_; (try clear hb); (try clear hb2); (try clear hk); (try clear hi)) | ((with_reducible refine gate_callee (f := 74) rfl ?_); refine goesL_ (some 11) rfl rfl Try.func74 (by kernel_rfl) rfl #[.string (⟨#[98]⟩ : ByteArray), .string (⟨#[50, 52]⟩ : ByteArray), .string (⟨#[97]⟩ : ByteArray), .int .i64 (-97)] rfl (by (try simp only [List.map_toArray, List.map_cons, List.map_nil]); first | done | rfl | (simp only [List.length_drop, List.length_take]; rfl)) ?_; (with_reducible refine (accountinglaw44_cell.calls (⟨#[98]⟩ : ByteArray) (⟨#[50, 52]⟩ : ByteArray) (⟨#[97]⟩ : ByteArray) (-97) t627 t628 t629 t630 t631 t632 t633 _ A4.out).mono ?_); rintro e w21 ⟨rfl, hb⟩; refine ⟨_, rfl, ?_⟩; have n0_ := Aside0.mk (below_step (by repeat (first | (with_reducible first | exact HB.out | apply below_alloc | apply pw_below_drewN | apply below_drew1) | exact HB.out)) hb); clear HB; have HB := n0_; clear n0_; (try clear hb); (try clear hb2); (try clear hk); (try clear hi)) | ((with_reducible refine gate_dst (N := 12) rfl ?_); (try (refine gate_guard (by rfl) ?_; dsimp only)); refine Kd.R_lit k34 _ 34 ?hg (N := 12) ?hd (xs := ([(⟨(⟨t606, t607, t608, t609, t610⟩ : S32), t611, t612⟩ : S34), (⟨(⟨t613, t614, t615, t616, t617⟩ : S32), t618, t619⟩ : S34), (⟨(⟨t620, t621, t622, t623, t624⟩ : S32), t625, t626⟩ : S34), (⟨(⟨t627, t628, t629, t630, t631⟩ : S32), t632, t633⟩ : S34)] : List (S34))) (inner := [.string t606, .string t607, .string t608, .string t609, .string t610, .int .i64 t611, .int .i64 t612, .string t613, .string t614, .string t615, .string t616, .string t617, .int .i64 t618, .int .i64 t619, .string t620, .string t621, .string t622, .string t623, .string t624, .int .i64 t625, .int .i64 t626, .string t627, .string t628, .string t629, .string t630, .string t631, .int .i64 t632, .int .i64 t633]) (ok := fun _ => True) (okp := fun _ => True) ?hr ?hp (fun _ hk => hk) trivial (Below.refl _ _) (Nat.le_refl _) (by simp) ?_; (case hd => rfl); (case hg => rfl); (case hr => first | (go_simp; done) | (go_simp; rfl)); (case hp => exact (Reps.c7 (show Kd.M k34 _ _ _ (⟨(⟨t606, t607, t608, t609, t610⟩ : S32), t611, t612⟩ : S34) [.string t606, .string t607, .string t608, .string t609, .string t610, .int .i64 t611, .int .i64 t612] from (k34_mkM _ _ _ (⟨(⟨t606, t607, t608, t609, t610⟩ : S32), t611, t612⟩ : S34) )) (Reps.c7 (show Kd.M k34 _ _ _ (⟨(⟨t613, t614, t615, t616, t617⟩ : S32), t618, t619⟩ : S34) [.string t613, .string t614, .string t615, .string t616, .string t617, .int .i64 t618, .int .i64 t619] from (k34_mkM _ _ _ (⟨(⟨t613, t614, t615, t616, t617⟩ : S32), t618, t619⟩ : S34) )) (Reps.c7 (show Kd.M k34 _ _ _ (⟨(⟨t620, t621, t622, t623, t624⟩ : S32), t625, t626⟩ : S34) [.string t620, .string t621, .string t622, .string t623, .string t624, .int .i64 t625, .int .i64 t626] from (k34_mkM _ _ _ (⟨(⟨t620, t621, t622, t623, t624⟩ : S32), t625, t626⟩ : S34) )) (Reps.c7 (show Kd.M k34 _ _ _ (⟨(⟨t627, t628, t629, t630, t631⟩ : S32), t632, t633⟩ : S34) [.string t627, .string t628, .string t629, .string t630, .string t631, .int .i64 t632, .int .i64 t633] from (k34_mkM _ _ _ (⟨(⟨t627, t628, t629, t630, t631⟩ : S32), t632, t633⟩ : S34) )) (Reps.none _ _)))))); intro v635 w22 ho23 hb hg_ hnew_; clear hg_ hnew_; (first | rw [← Ny634.out] at ho23 | (simp only [Int.reduceToNat] at ho23; rw [← Ny634.out] at ho23)); have n0_ := Aside0.mk (Kd.R_lower ho23 (below_size (by repeat (first | (with_reducible first | exact HB.out | apply below_alloc | apply pw_below_drewN | apply below_drew1) | exact HB.out)))); have n1_ := Aside0.mk (below_step (by repeat (first | (with_reducible first | exact HB.out | apply below_alloc | apply pw_below_drewN | apply below_drew1) | exact HB.out)) hb); clear HB; have HO636 := n0_; have HB := n1_; clear n0_ n1_; clear hb ho23) | ((with_reducible refine gate_dst (N := 15) rfl ?_); (try (refine gate_guard (by rfl) ?_; dsimp only)); refine Kd.R_lit Kd.string _ 9 ?hg (N := 15) ?hd (xs := ([(⟨#[97]⟩ : ByteArray), (⟨#[98]⟩ : ByteArray)] : List ByteArray)) (inner := [.string (⟨#[97]⟩ : ByteArray), .string (⟨#[98]⟩ : ByteArray)]) (ok := fun _ => True) (okp := fun _ => True) ?hr ?hp (fun _ hk => hk) trivial (Below.refl _ _) (Nat.le_refl _) (by simp) ?_; (case hd => rfl); (case hg => rfl); (case hr => first | (go_simp; done) | (go_simp; rfl)); (case hp => exact (Reps.one (show Kd.M Kd.string _ _ _ (⟨#[97]⟩ : ByteArray) [.string (⟨#[97]⟩ : ByteArray)] from rfl) (Reps.one (show Kd.M Kd.string _ _ _ (⟨#[98]⟩ : ByteArray) [.string (⟨#[98]⟩ : ByteArray)] from rfl) (Reps.none _ _)))); intro v638 w24 ho25 hb hg_ hnew_; clear hg_ hnew_; (first | rw [← Ny637.out] at ho25 | (simp only [Int.reduceToNat] at ho25; rw [← Ny637.out] at ho25)); have n0_ := Aside0.mk (Kd.R_below (by (with_reducible repeat (first | apply Kd.R_alloc | apply Kd.R_drewN | apply Kd.R_drew)); exact HO636.out) hb); have n1_ := Aside0.mk (Kd.R_lower ho25 (below_size (by repeat (first | (with_reducible first | exact HB.out | apply below_alloc | apply pw_below_drewN | apply below_drew1) | exact HB.out)))); have n2_ := Aside0.mk (below_step (by repeat (first | (with_reducible first | exact HB.out | apply below_alloc | apply pw_below_drewN | apply below_drew1) | exact HB.out)) hb); clear HO636; clear HB; have HO636 := n0_; have HO639 := n1_; have HB := n2_; clear n0_ n1_ n2_; clear hb ho25; obtain ⟨Ao26, co26, eo26⟩ := Kd.R_slice HO636.out; subst eo26; obtain ⟨Ao27, co27, eo27⟩ := Kd.R_slice HO639.out; subst eo27) | ((with_reducible refine gate_callee (f := 44) rfl ?_); refine goesL_ (some 16) rfl rfl Try.func44 (by kernel_rfl) rfl #[.slice Ao26 y634.length co26, .slice Ao27 y637.length co27] rfl (by (try simp only [List.map_toArray, List.map_cons, List.map_nil]); first | done | rfl | (simp only [List.length_drop, List.length_take]; rfl)) ?_; (with_reducible refine (interco_Inside.calls k _ _ y634 _ _ y637 t640 t641 _ ?side1 ?side2 ?side3 ?side4 A5.out).mono ?_); (case side1 => repeat (first | exact (Kd.R_reads' HO636.out).2.2 | (with_reducible refine Kd.C_alloc ?_ _) | (with_reducible refine Kd.C_drewN ?_ _) | (with_reducible refine Kd.C_drew ?_))); (case side2 => exact (Kd.R_reads' HO636.out).2.1); (case side3 => repeat (first | exact (Kd.R_reads' HO639.out).2.2 | (with_reducible refine Kd.C_alloc ?_ _) | (with_reducible refine Kd.C_drewN ?_ _) | (with_reducible refine Kd.C_drew ?_))); (case side4 => exact (Kd.R_reads' HO639.out).2.1); rintro e w28 ⟨v642, v644, rfl, ho0, ho1, hb⟩; refine ⟨_, rfl, ?_⟩; have n0_ := Aside0.mk (Kd.R_mono (Kd.R_told (Kd.R_told (Kd.R_old (by (with_reducible repeat (first | apply Kd.R_alloc | apply Kd.R_drewN | apply Kd.R_drew)); exact HO636.out) hb) (Kd.R_base ho0)) (Kd.R_base ho1)) (fun _ h_ => h_.1)); have n1_ := Aside0.mk (Kd.R_below (by (with_reducible repeat (first | apply Kd.R_alloc | apply Kd.R_drewN | apply Kd.R_drew)); exact HO639.out) hb); have n2_ := Aside0.mk (Kd.R_lower (Kd.R_new' ho0 (Kd.R_lt (by (with_reducible repeat (first | apply Kd.R_alloc | apply Kd.R_drewN | apply Kd.R_drew)); exact HO636.out))) (below_size (by repeat (first | (with_reducible first | exact HB.out | apply below_alloc | apply pw_below_drewN | apply below_drew1) | exact HB.out)))); have n3_ := Aside0.mk (Kd.R_lower (Kd.R_new' ho1 (Kd.R_lt (by (with_reducible repeat (first | apply Kd.R_alloc | apply Kd.R_drewN | apply Kd.R_drew)); exact HO636.out))) (below_size (by repeat (first | (with_reducible first | exact HB.out | apply below_alloc | apply pw_below_drewN | apply below_drew1) | exact HB.out)))); have n4_ := Aside0.mk (below_step (by repeat (first | (with_reducible first | exact HB.out | apply below_alloc | apply pw_below_drewN | apply below_drew1) | exact HB.out)) hb); clear HO636; clear HO639; clear HB; have HO636 := n0_; have HO639 := n1_; have HO643 := n2_; have HO645 := n3_; have HB := n4_; clear n0_ n1_ n2_ n3_ n4_; (try clear hb); (try clear hb2); (try clear hk); (try clear hi); (try clear ho0); (try clear ho1)) | ((with_reducible refine gate_dst (N := 21) rfl ?_); (try (refine gate_guard (by rfl) ?_; dsimp only)); refine Kd.R_lit Kd.string _ 9 ?hg (N := 21) ?hd (xs := ([(⟨#[98]⟩ : ByteArray), (⟨#[97]⟩ : ByteArray)] : List ByteArray)) (inner := [.string (⟨#[98]⟩ : ByteArray), .string (⟨#[97]⟩ : ByteArray)]) (ok := fun _ => True) (okp := fun _ => True) ?hr ?hp (fun _ hk => hk) trivial (Below.refl _ _) (Nat.le_refl _) (by simp) ?_; (case hd => rfl); (case hg => rfl); (case hr => first | (go_simp; done) | (go_simp; rfl)); (case hp => exact (Reps.one (show Kd.M Kd.string _ _ _ (⟨#[98]⟩ : ByteArray) [.string (⟨#[98]⟩ : ByteArray)] from rfl) (Reps.one (show Kd.M Kd.string _ _ _ (⟨#[97]⟩ : ByteArray) [.string (⟨#[97]⟩ : ByteArray)] from rfl) (Reps.none _ _)))); intro v647 w29 ho30 hb hg_ hnew_; clear hg_ hnew_; (first | rw [← Ny646.out] at ho30 | (simp only [Int.reduceToNat] at ho30; rw [← Ny646.out] at ho30)); have n0_ := Aside0.mk (Kd.R_below (by (with_reducible repeat (first | apply Kd.R_alloc | apply Kd.R_drewN | apply Kd.R_drew)); exact HO636.out) hb); have n1_ := Aside0.mk (Kd.R_elder' (by (with_reducible repeat (first | apply Kd.R_alloc | apply Kd.R_drewN | apply Kd.R_drew)); exact HO639.out) (Kd.R_base ho30) hb); have n2_ := Aside0.mk (Kd.R_below (by (with_reducible repeat (first | apply Kd.R_alloc | apply Kd.R_drewN | apply Kd.R_drew)); exact HO643.out) hb); have n3_ := Aside0.mk (Kd.R_below (by (with_reducible repeat (first | apply Kd.R_alloc | apply Kd.R_drewN | apply Kd.R_drew)); exact HO645.out) hb); have n4_ := Aside0.mk (Kd.R_lower (Kd.R_new' ho30 (Kd.R_lt (by (with_reducible repeat (first | apply Kd.R_alloc | apply Kd.R_drewN | apply Kd.R_drew)); exact HO639.out))) (below_size (by repeat (first | (with_reducible first | exact HB.out | apply below_alloc | apply pw_below_drewN | apply below_drew1) | exact HB.out)))); have n5_ := Aside0.mk (below_step (by repeat (first | (with_reducible first | exact HB.out | apply below_alloc | apply pw_below_drewN | apply below_drew1) | exact HB.out)) hb); clear HO636; clear HO639; clear HO643; clear HO645; clear HB; have HO636 := n0_; have HO639 := n1_; have HO643 := n2_; have HO645 := n3_; have HO648 := n4_; have HB := n5_; clear n0_ n1_ n2_ n3_ n4_ n5_; clear hb ho30; obtain ⟨Ao31, co31, eo31⟩ := Kd.R_slice HO648.out; subst eo31) | ((with_reducible refine gate_callee (f := 47) rfl ?_); refine goesL_ (some 22) rfl rfl Try.func47 (by kernel_rfl) rfl #[.slice Ao26 y634.length co26, .slice Ao31 y646.length co31] rfl (by (try simp only [List.map_toArray, List.map_cons, List.map_nil]); first | done | rfl | (simp only [List.length_drop, List.length_take]; rfl)) ?_; (with_reducible refine (interco_Pairs.calls k _ _ y634 _ _ y646 t649 t650 _ ?side1 ?side2 ?side3 ?side4 A6.out).mono ?_); (case side1 => repeat (first | exact (Kd.R_reads' HO636.out).2.2 | (with_reducible refine Kd.C_alloc ?_ _) | (with_reducible refine Kd.C_drewN ?_ _) | (with_reducible refine Kd.C_drew ?_))); (case side2 => exact (Kd.R_reads' HO636.out).2.1); (case side3 => repeat (first | exact (Kd.R_reads' HO648.out).2.2 | (with_reducible refine Kd.C_alloc ?_ _) | (with_reducible refine Kd.C_drewN ?_ _) | (with_reducible refine Kd.C_drew ?_))); (case side4 => exact (Kd.R_reads' HO648.out).2.1); rintro e w32 ⟨v651, rfl, ho0, hb⟩; refine ⟨_, rfl, ?_⟩; have n0_ := Aside0.mk (Kd.R_below (by (with_reducible repeat (first | apply Kd.R_alloc | apply Kd.R_drewN | apply Kd.R_drew)); exact HO636.out) hb); have n1_ := Aside0.mk (Kd.R_below (by (with_reducible repeat (first | apply Kd.R_alloc | apply Kd.R_drewN | apply Kd.R_drew)); exact HO639.out) hb); have n2_ := Aside0.mk (Kd.R_below (by (with_reducible repeat (first | apply Kd.R_alloc | apply Kd.R_drewN | apply Kd.R_drew)); exact HO643.out) hb); have n3_ := Aside0.mk (Kd.R_below (by (with_reducible repeat (first | apply Kd.R_alloc | apply Kd.R_drewN | apply Kd.R_drew)); exact HO645.out) hb); have n4_ := Aside0.mk (Kd.R_below (by (with_reducible repeat (first | apply Kd.R_alloc | apply Kd.R_drewN | apply Kd.R_drew)); exact HO648.out) hb); have n5_ := Aside0.mk (Kd.R_lower ho0 (below_size (by repeat (first | (with_reducible first | exact HB.out | apply below_alloc | apply pw_below_drewN | apply below_drew1) | exact HB.out)))); have n6_ := Aside0.mk (below_step (by repeat (first | (with_reducible first | exact HB.out | apply below_alloc | apply pw_below_drewN | apply below_drew1) | exact HB.out)) hb); clear HO636; clear HO639; clear HO643; clear HO645; clear HO648; clear HB; have HO636 := n0_; have HO639 := n1_; have HO643 := n2_; have HO645 := n3_; have HO648 := n4_; have HO652 := n5_; have HB := n6_; clear n0_ n1_ n2_ n3_ n4_ n5_ n6_; (try clear hb); (try clear hb2); (try clear hk); (try clear hi); (try clear ho0)) | ((with_reducible refine gate_dst (N := 27) rfl ?_); (try (refine gate_guard (by rfl) ?_; dsimp only)); refine Kd.R_lit Kd.string _ 9 ?hg (N := 27) ?hd (xs := ([(⟨#[97]⟩ : ByteArray), (⟨#[98]⟩ : ByteArray)] : List ByteArray)) (inner := [.string (⟨#[97]⟩ : ByteArray), .string (⟨#[98]⟩ : ByteArray)]) (ok := fun _ => True) (okp := fun _ => True) ?hr ?hp (fun _ hk => hk) trivial (Below.refl _ _) (Nat.le_refl _) (by simp) ?_; (case hd => rfl); (case hg => rfl); (case hr => first | (go_simp; done) | (go_simp; rfl)); (case hp => exact (Reps.one (show Kd.M Kd.string _ _ _ (⟨#[97]⟩ : ByteArray) [.string (⟨#[97]⟩ : ByteArray)] from rfl) (Reps.one (show Kd.M Kd.string _ _ _ (⟨#[98]⟩ : ByteArray) [.string (⟨#[98]⟩ : ByteArray)] from rfl) (Reps.none _ _)))); intro v654 w33 ho34 hb hg_ hnew_; clear hg_ hnew_; (first | rw [← Ny653.out] at ho34 | (simp only [Int.reduceToNat] at ho34; rw [← Ny653.out] at ho34)); have n0_ := Aside0.mk (Kd.R_below (by (with_reducible repeat (first | apply Kd.R_alloc | apply Kd.R_drewN | apply Kd.R_drew)); exact HO636.out) hb); have n1_ := Aside0.mk (Kd.R_elder' (by (with_reducible repeat (first | apply Kd.R_alloc | apply Kd.R_drewN | apply Kd.R_drew)); exact HO639.out) (Kd.R_base ho34) hb); have n2_ := Aside0.mk (Kd.R_below (by (with_reducible repeat (first | apply Kd.R_alloc | apply Kd.R_drewN | apply Kd.R_drew)); exact HO643.out) hb); have n3_ := Aside0.mk (Kd.R_below (by (with_reducible repeat (first | apply Kd.R_alloc | apply Kd.R_drewN | apply Kd.R_drew)); exact HO645.out) hb); have n4_ := Aside0.mk (Kd.R_elder' (by (with_reducible repeat (first | apply Kd.R_alloc | apply Kd.R_drewN | apply Kd.R_drew)); exact HO648.out) (Kd.R_base ho34) hb); have n5_ := Aside0.mk (Kd.R_below (by (with_reducible repeat (first | apply Kd.R_alloc | apply Kd.R_drewN | apply Kd.R_drew)); exact HO652.out) hb); have n6_ := Aside0.mk (Kd.R_lower (Kd.R_new' (Kd.R_new' ho34 (Kd.R_lt (by (with_reducible repeat (first | apply Kd.R_alloc | apply Kd.R_drewN | apply Kd.R_drew)); exact HO639.out))) (Kd.R_lt (by (with_reducible repeat (first | apply Kd.R_alloc | apply Kd.R_drewN | apply Kd.R_drew)); exact HO648.out))) (below_size (by repeat (first | (with_reducible first | exact HB.out | apply below_alloc | apply pw_below_drewN | apply below_drew1) | exact HB.out)))); have n7_ := Aside0.mk (below_step (by repeat (first | (with_reducible first | exact HB.out | apply below_alloc | apply pw_below_drewN | apply below_drew1) | exact HB.out)) hb); clear HO636; clear HO639; clear HO643; clear HO645; clear HO648; clear HO652; clear HB; have HO636 := n0_; have HO639 := n1_; have HO643 := n2_; have HO645 := n3_; have HO648 := n4_; have HO652 := n5_; have HO655 := n6_; have HB := n7_; clear n0_ n1_ n2_ n3_ n4_ n5_ n6_ n7_; clear hb ho34; obtain ⟨Ao35, co35, eo35⟩ := Kd.R_slice HO655.out; subst eo35) | ((with_reducible refine gate_callee (f := 50) rfl ?_); refine goesL_ (some 28) rfl rfl Try.func50 (by kernel_rfl) rfl #[.slice Ao26 y634.length co26, .string (⟨#[69, 85, 82]⟩ : ByteArray), .string (⟨#[51, 57]⟩ : ByteArray), .slice Ao35 y653.length co35] rfl (by (try simp only [List.map_toArray, List.map_cons, List.map_nil]); first | done | rfl | (simp only [List.length_drop, List.length_take]; rfl)) ?_; (with_reducible refine (interco_Eliminate.calls k _ _ y634 (⟨#[69, 85, 82]⟩ : ByteArray) (⟨#[51, 57]⟩ : ByteArray) _ _ y653 t656 t657 _ ?side1 ?side2 ?side3 ?side4 A7.out).mono ?_); (case side1 => repeat (first | exact (Kd.R_reads' HO636.out).2.2 | (with_reducible refine Kd.C_alloc ?_ _) | (with_reducible refine Kd.C_drewN ?_ _) | (with_reducible refine Kd.C_drew ?_))); (case side2 => exact (Kd.R_reads' HO636.out).2.1); (case side3 => repeat (first | exact (Kd.R_reads' HO655.out).2.2 | (with_reducible refine Kd.C_alloc ?_ _) | (with_reducible refine Kd.C_drewN ?_ _) | (with_reducible refine Kd.C_drew ?_))); (case side4 => exact (Kd.R_reads' HO655.out).2.1); rintro e w36 ⟨v658, rfl, ho0, hb⟩; refine ⟨_, rfl, ?_⟩; have n0_ := Aside0.mk (Kd.R_elder' (by (with_reducible repeat (first | apply Kd.R_alloc | apply Kd.R_drewN | apply Kd.R_drew)); exact HO636.out) (Kd.R_base ho0) hb); have n1_ := Aside0.mk (Kd.R_below (by (with_reducible repeat (first | apply Kd.R_alloc | apply Kd.R_drewN | apply Kd.R_drew)); exact HO639.out) hb); have n2_ := Aside0.mk (Kd.R_elder' (by (with_reducible repeat (first | apply Kd.R_alloc | apply Kd.R_drewN | apply Kd.R_drew)); exact HO643.out) (Kd.R_base ho0) hb); have n3_ := Aside0.mk (Kd.R_elder' (by (with_reducible repeat (first | apply Kd.R_alloc | apply Kd.R_drewN | apply Kd.R_drew)); exact HO645.out) (Kd.R_base ho0) hb); have n4_ := Aside0.mk (Kd.R_below (by (with_reducible repeat (first | apply Kd.R_alloc | apply Kd.R_drewN | apply Kd.R_drew)); exact HO648.out) hb); have n5_ := Aside0.mk (Kd.R_below (by (with_reducible repeat (first | apply Kd.R_alloc | apply Kd.R_drewN | apply Kd.R_drew)); exact HO652.out) hb); have n6_ := Aside0.mk (Kd.R_below (by (with_reducible repeat (first | apply Kd.R_alloc | apply Kd.R_drewN | apply Kd.R_drew)); exact HO655.out) hb); have n7_ := Aside0.mk (Kd.R_lower (Kd.R_new' (Kd.R_new' (Kd.R_new' ho0 (Kd.R_lt (by (with_reducible repeat (first | apply Kd.R_alloc | apply Kd.R_drewN | apply Kd.R_drew)); exact HO636.out))) (Kd.R_lt (by (with_reducible repeat (first | apply Kd.R_alloc | apply Kd.R_drewN | apply Kd.R_drew)); exact HO643.out))) (Kd.R_lt (by (with_reducible repeat (first | apply Kd.R_alloc | apply Kd.R_drewN | apply Kd.R_drew)); exact HO645.out))) (below_size (by repeat (first | (with_reducible first | exact HB.out | apply below_alloc | apply pw_below_drewN | apply below_drew1) | exact HB.out)))); have n8_ := Aside0.mk (below_step (by repeat (first | (with_reducible first | exact HB.out | apply below_alloc | apply pw_below_drewN | apply below_drew1) | exact HB.out)) hb); clear HO636; clear HO639; clear HO643; clear HO645; clear HO648; clear HO652; clear HO655; clear HB; have HO636 := n0_; have HO639 := n1_; have HO643 := n2_; have HO645 := n3_; have HO648 := n4_; have HO652 := n5_; have HO655 := n6_; have HO659 := n7_; have HB := n8_; clear n0_ n1_ n2_ n3_ n4_ n5_ n6_ n7_ n8_; (try clear hb); (try clear hb2); (try clear hk); (try clear hi); (try clear ho0); obtain ⟨Ao37, co37, eo37⟩ := Kd.R_slice HO643.out; subst eo37; obtain ⟨Ao38, co38, eo38⟩ := Kd.R_slice HO645.out; subst eo38) | ((with_reducible refine gate_dst (N := 42) rfl ?_); (try (refine gate_guard (by rfl) ?_; dsimp only)); refine Kd.R_lit k89 _ 89 ?hg (N := 42) ?hd (xs := ([(⟨(⟨#[97]⟩ : ByteArray), (⟨#[98]⟩ : ByteArray), 3⟩ : S89)] : List (S89))) (inner := [.string (⟨#[97]⟩ : ByteArray), .string (⟨#[98]⟩ : ByteArray), .int .i64 3]) (ok := fun _ => True) (okp := fun _ => True) ?hr ?hp (fun _ hk => hk) trivial (Below.refl _ _) (Nat.le_refl _) (by simp) ?_; (case hd => rfl); (case hg => rfl); (case hr => first | (go_simp; done) | (go_simp; rfl)); (case hp => exact (Reps.c3 (show Kd.M k89 _ _ _ (⟨(⟨#[97]⟩ : ByteArray), (⟨#[98]⟩ : ByteArray), 3⟩ : S89) [.string (⟨#[97]⟩ : ByteArray), .string (⟨#[98]⟩ : ByteArray), .int .i64 3] from (k89_mkM _ _ _ (⟨(⟨#[97]⟩ : ByteArray), (⟨#[98]⟩ : ByteArray), 3⟩ : S89) )) (Reps.none _ _))); intro v661 w39 ho40 hb hg_ hnew_; clear hg_ hnew_; (first | rw [← Ny660.out] at ho40 | (simp only [Int.reduceToNat] at ho40; rw [← Ny660.out] at ho40)); have n0_ := Aside0.mk (Kd.R_below (by (with_reducible repeat (first | apply Kd.R_alloc | apply Kd.R_drewN | apply Kd.R_drew)); exact HO636.out) hb); have n1_ := Aside0.mk (Kd.R_below (by (with_reducible repeat (first | apply Kd.R_alloc | apply Kd.R_drewN | apply Kd.R_drew)); exact HO639.out) hb); have n2_ := Aside0.mk (Kd.R_below (by (with_reducible repeat (first | apply Kd.R_alloc | apply Kd.R_drewN | apply Kd.R_drew)); exact HO643.out) hb); have n3_ := Aside0.mk (Kd.R_below (by (with_reducible repeat (first | apply Kd.R_alloc | apply Kd.R_drewN | apply Kd.R_drew)); exact HO645.out) hb); have n4_ := Aside0.mk (Kd.R_below (by (with_reducible repeat (first | apply Kd.R_alloc | apply Kd.R_drewN | apply Kd.R_drew)); exact HO648.out) hb); have n5_ := Aside0.mk (Kd.R_elder' (by (with_reducible repeat (first | apply Kd.R_alloc | apply Kd.R_drewN | apply Kd.R_drew)); exact HO652.out) (Kd.R_base ho40) hb); have n6_ := Aside0.mk (Kd.R_below (by (with_reducible repeat (first | apply Kd.R_alloc | apply Kd.R_drewN | apply Kd.R_drew)); exact HO655.out) hb); have n7_ := Aside0.mk (Kd.R_below (by (with_reducible repeat (first | apply Kd.R_alloc | apply Kd.R_drewN | apply Kd.R_drew)); exact HO659.out) hb); have n8_ := Aside0.mk (Kd.R_lower (Kd.R_new' ho40 (Kd.R_lt (by (with_reducible repeat (first | apply Kd.R_alloc | apply Kd.R_drewN | apply Kd.R_drew)); exact HO652.out))) (below_size (by repeat (first | (with_reducible first | exact HB.out | apply below_alloc | apply pw_below_drewN | apply below_drew1) | exact HB.out)))); have n9_ := Aside0.mk (below_step (by repeat (first | (with_reducible first | exact HB.out | apply below_alloc | apply pw_below_drewN | apply below_drew1) | exact HB.out)) hb); clear HO636; clear HO639; clear HO643; clear HO645; clear HO648; clear HO652; clear HO655; clear HO659; clear HB; have HO636 := n0_; have HO639 := n1_; have HO643 := n2_; have HO645 := n3_; have HO648 := n4_; have HO652 := n5_; have HO655 := n6_; have HO659 := n7_; have HO662 := n8_; have HB := n9_; clear n0_ n1_ n2_ n3_ n4_ n5_ n6_ n7_ n8_ n9_; clear hb ho40; obtain ⟨Ao41, co41, eo41⟩ := Kd.R_slice HO652.out; subst eo41; obtain ⟨Ao42, co42, eo42⟩ := Kd.R_slice HO662.out; subst eo42) | (go_at_call 49; (with_reducible refine (accountingref44_Same.calls k _ _ t649 _ _ y660 true _ ?side1 ?side2 ?side3 ?side4 A10.out).mono ?_); (case side1 => repeat (first | exact (Kd.R_reads' HO652.out).2.2 | (with_reducible refine Kd.C_alloc ?_ _) | (with_reducible refine Kd.C_drewN ?_ _) | (with_reducible refine Kd.C_drew ?_))); (case side2 => exact (Kd.R_reads' HO652.out).2.1); (case side3 => repeat (first | exact (Kd.R_reads' HO662.out).2.2 | (with_reducible refine Kd.C_alloc ?_ _) | (with_reducible refine Kd.C_drewN ?_ _) | (with_reducible refine Kd.C_drew ?_))); (case side4 => exact (Kd.R_reads' HO662.out).2.1); rintro e w' ⟨rfl, ⟨nd, rfl⟩⟩) | (go_at_call 74; (with_reducible refine (accountinglaw44_cell.calls (⟨#[97]⟩ : ByteArray) (⟨#[49, 54]⟩ : ByteArray) (⟨#[98]⟩ : ByteArray) (-100) t664 t665 t666 t667 t668 t669 t670 _ A13.out).mono ?_); rintro e w43 ⟨rfl, hb⟩; have n0_ := Aside0.mk (Kd.R_below (by (with_reducible repeat (first | apply Kd.R_alloc | apply Kd.R_drewN | apply Kd.R_drew)); exact HO636.out) hb); have n1_ := Aside0.mk (Kd.R_below (by (with_reducible repeat (first | apply Kd.R_alloc | apply Kd.R_drewN | apply Kd.R_drew)); exact HO639.out) hb); have n2_ := Aside0.mk (Kd.R_below (by (with_reducible repeat (first | apply Kd.R_alloc | apply Kd.R_drewN | apply Kd.R_drew)); exact HO643.out) hb); have n3_ := Aside0.mk (Kd.R_below (by (with_reducible repeat (first | apply Kd.R_alloc | apply Kd.R_drewN | apply Kd.R_drew)); exact HO645.out) hb); have n4_ := Aside0.mk (Kd.R_below (by (with_reducible repeat (first | apply Kd.R_alloc | apply Kd.R_drewN | apply Kd.R_drew)); exact HO648.out) hb); have n5_ := Aside0.mk (Kd.R_below (by (with_reducible repeat (first | apply Kd.R_alloc | apply Kd.R_drewN | apply Kd.R_drew)); exact HO652.out) hb); have n6_ := Aside0.mk (Kd.R_below (by (with_reducible repeat (first | apply Kd.R_alloc | apply Kd.R_drewN | apply Kd.R_drew)); exact HO655.out) hb); have n7_ := Aside0.mk (Kd.R_below (by (with_reducible repeat (first | apply Kd.R_alloc | apply Kd.R_drewN | apply Kd.R_drew)); exact HO659.out) hb); have n8_ := Aside0.mk (Kd.R_below (by (with_reducible repeat (first | apply Kd.R_alloc | apply Kd.R_drewN | apply Kd.R_drew)); exact HO662.out) hb); have n9_ := Aside0.mk (below_step (by repeat (first | (with_reducible first | exact HB.out | apply below_alloc | apply pw_below_drewN | apply below_drew1) | exact HB.out)) hb); clear HO636; clear HO639; clear HO643; clear HO645; clear HO648; clear HO652; clear HO655; clear HO659; clear HO662; clear HB; have HO636 := n0_; have HO639 := n1_; have HO643 := n2_; have HO645 := n3_; have HO648 := n4_; have HO652 := n5_; have HO655 := n6_; have HO659 := n7_; have HO662 := n8_; have HB := n9_; clear n0_ n1_ n2_ n3_ n4_ n5_ n6_ n7_ n8_ n9_; (try clear hb); (try clear hb2); (try clear hk); (try clear hi)) | (go_at_call 74; (with_reducible refine (accountinglaw44_cell.calls (⟨#[97]⟩ : ByteArray) (⟨#[51, 57]⟩ : ByteArray) (⟨#[]⟩ : ByteArray) 3 t671 t672 t673 t674 t675 t676 t677 _ A14.out).mono ?_); rintro e w44 ⟨rfl, hb⟩; have n0_ := Aside0.mk (Kd.R_below (by (with_reducible repeat (first | apply Kd.R_alloc | apply Kd.R_drewN | apply Kd.R_drew)); exact HO636.out) hb); have n1_ := Aside0.mk (Kd.R_below (by (with_reducible repeat (first | apply Kd.R_alloc | apply Kd.R_drewN | apply Kd.R_drew)); exact HO639.out) hb); have n2_ := Aside0.mk (Kd.R_below (by (with_reducible repeat (first | apply Kd.R_alloc | apply Kd.R_drewN | apply Kd.R_drew)); exact HO643.out) hb); have n3_ := Aside0.mk (Kd.R_below (by (with_reducible repeat (first | apply Kd.R_alloc | apply Kd.R_drewN | apply Kd.R_drew)); exact HO645.out) hb); have n4_ := Aside0.mk (Kd.R_below (by (with_reducible repeat (first | apply Kd.R_alloc | apply Kd.R_drewN | apply Kd.R_drew)); exact HO648.out) hb); have n5_ := Aside0.mk (Kd.R_below (by (with_reducible repeat (first | apply Kd.R_alloc | apply Kd.R_drewN | apply Kd.R_drew)); exact HO652.out) hb); have n6_ := Aside0.mk (Kd.R_below (by (with_reducible repeat (first | apply Kd.R_alloc | apply Kd.R_drewN | apply Kd.R_drew)); exact HO655.out) hb); have n7_ := Aside0.mk (Kd.R_below (by (with_reducible repeat (first | apply Kd.R_alloc | apply Kd.R_drewN | apply Kd.R_drew)); exact HO659.out) hb); have n8_ := Aside0.mk (Kd.R_below (by (with_reducible repeat (first | apply Kd.R_alloc | apply Kd.R_drewN | apply Kd.R_drew)); exact HO662.out) hb); have n9_ := Aside0.mk (below_step (by repeat (first | (with_reducible first | exact HB.out | apply below_alloc | apply pw_below_drewN | apply below_drew1) | exact HB.out)) hb); clear HO636; clear HO639; clear HO643; clear HO645; clear HO648; clear HO652; clear HO655; clear HO659; clear HO662; clear HB; have HO636 := n0_; have HO639 := n1_; have HO643 := n2_; have HO645 := n3_; have HO648 := n4_; have HO652 := n5_; have HO655 := n6_; have HO659 := n7_; have HO662 := n8_; have HB := n9_; clear n0_ n1_ n2_ n3_ n4_ n5_ n6_ n7_ n8_ n9_; (try clear hb); (try clear hb2); (try clear hk); (try clear hi)) | (go_at_call 74; (with_reducible refine (accountinglaw44_cell.calls (⟨#[98]⟩ : ByteArray) (⟨#[50, 52]⟩ : ByteArray) (⟨#[97]⟩ : ByteArray) 97 t678 t679 t680 t681 t682 t683 t684 _ A15.out).mono ?_); rintro e w45 ⟨rfl, hb⟩; have n0_ := Aside0.mk (Kd.R_below (by (with_reducible repeat (first | apply Kd.R_alloc | apply Kd.R_drewN | apply Kd.R_drew)); exact HO636.out) hb); have n1_ := Aside0.mk (Kd.R_below (by (with_reducible repeat (first | apply Kd.R_alloc | apply Kd.R_drewN | apply Kd.R_drew)); exact HO639.out) hb); have n2_ := Aside0.mk (Kd.R_below (by (with_reducible repeat (first | apply Kd.R_alloc | apply Kd.R_drewN | apply Kd.R_drew)); exact HO643.out) hb); have n3_ := Aside0.mk (Kd.R_below (by (with_reducible repeat (first | apply Kd.R_alloc | apply Kd.R_drewN | apply Kd.R_drew)); exact HO645.out) hb); have n4_ := Aside0.mk (Kd.R_below (by (with_reducible repeat (first | apply Kd.R_alloc | apply Kd.R_drewN | apply Kd.R_drew)); exact HO648.out) hb); have n5_ := Aside0.mk (Kd.R_below (by (with_reducible repeat (first | apply Kd.R_alloc | apply Kd.R_drewN | apply Kd.R_drew)); exact HO652.out) hb); have n6_ := Aside0.mk (Kd.R_below (by (with_reducible repeat (first | apply Kd.R_alloc | apply Kd.R_drewN | apply Kd.R_drew)); exact HO655.out) hb); have n7_ := Aside0.mk (Kd.R_below (by (with_reducible repeat (first | apply Kd.R_alloc | apply Kd.R_drewN | apply Kd.R_drew)); exact HO659.out) hb); have n8_ := Aside0.mk (Kd.R_below (by (with_reducible repeat (first | apply Kd.R_alloc | apply Kd.R_drewN | apply Kd.R_drew)); exact HO662.out) hb); have n9_ := Aside0.mk (below_step (by repeat (first | (with_reducible first | exact HB.out | apply below_alloc | apply pw_below_drewN | apply below_drew1) | exact HB.out)) hb); clear HO636; clear HO639; clear HO643; clear HO645; clear HO648; clear HO652; clear HO655; clear HO659; clear HO662; clear HB; have HO636 := n0_; have HO639 := n1_; have HO643 := n2_; have HO645 := n3_; have HO648 := n4_; have HO652 := n5_; have HO655 := n6_; have HO659 := n7_; have HO662 := n8_; have HB := n9_; clear n0_ n1_ n2_ n3_ n4_ n5_ n6_ n7_ n8_ n9_; (try clear hb); (try clear hb2); (try clear hk); (try clear hi)) | ((with_reducible refine gate_dst (N := 54) rfl ?_); (try (refine gate_guard (by rfl) ?_; dsimp only)); refine Kd.R_lit k34 _ 34 ?hg (N := 54) ?hd (xs := ([(⟨(⟨t664, t665, t666, t667, t668⟩ : S32), t669, t670⟩ : S34), (⟨(⟨t671, t672, t673, t674, t675⟩ : S32), t676, t677⟩ : S34), (⟨(⟨t678, t679, t680, t681, t682⟩ : S32), t683, t684⟩ : S34)] : List (S34))) (inner := [.string t664, .string t665, .string t666, .string t667, .string t668, .int .i64 t669, .int .i64 t670, .string t671, .string t672, .string t673, .string t674, .string t675, .int .i64 t676, .int .i64 t677, .string t678, .string t679, .string t680, .string t681, .string t682, .int .i64 t683, .int .i64 t684]) (ok := fun _ => True) (okp := fun _ => True) ?hr ?hp (fun _ hk => hk) trivial (Below.refl _ _) (Nat.le_refl _) (by simp) ?_; (case hd => rfl); (case hg => rfl); (case hr => first | (go_simp; done) | (go_simp; rfl)); (case hp => exact (Reps.c7 (show Kd.M k34 _ _ _ (⟨(⟨t664, t665, t666, t667, t668⟩ : S32), t669, t670⟩ : S34) [.string t664, .string t665, .string t666, .string t667, .string t668, .int .i64 t669, .int .i64 t670] from (k34_mkM _ _ _ (⟨(⟨t664, t665, t666, t667, t668⟩ : S32), t669, t670⟩ : S34) )) (Reps.c7 (show Kd.M k34 _ _ _ (⟨(⟨t671, t672, t673, t674, t675⟩ : S32), t676, t677⟩ : S34) [.string t671, .string t672, .string t673, .string t674, .string t675, .int .i64 t676, .int .i64 t677] from (k34_mkM _ _ _ (⟨(⟨t671, t672, t673, t674, t675⟩ : S32), t676, t677⟩ : S34) )) (Reps.c7 (show Kd.M k34 _ _ _ (⟨(⟨t678, t679, t680, t681, t682⟩ : S32), t683, t684⟩ : S34) [.string t678, .string t679, .string t680, .string t681, .string t682, .int .i64 t683, .int .i64 t684] from (k34_mkM _ _ _ (⟨(⟨t678, t679, t680, t681, t682⟩ : S32), t683, t684⟩ : S34) )) (Reps.none _ _))))); intro v686 w46 ho47 hb hg_ hnew_; clear hg_ hnew_; (first | rw [← Ny685.out] at ho47 | (simp only [Int.reduceToNat] at ho47; rw [← Ny685.out] at ho47)); have n0_ := Aside0.mk (Kd.R_elder' (by (with_reducible repeat (first | apply Kd.R_alloc | apply Kd.R_drewN | apply Kd.R_drew)); exact HO636.out) (Kd.R_base ho47) hb); have n1_ := Aside0.mk (Kd.R_below (by (with_reducible repeat (first | apply Kd.R_alloc | apply Kd.R_drewN | apply Kd.R_drew)); exact HO639.out) hb); have n2_ := Aside0.mk (Kd.R_elder' (by (with_reducible repeat (first | apply Kd.R_alloc | apply Kd.R_drewN | apply Kd.R_drew)); exact HO643.out) (Kd.R_base ho47) hb); have n3_ := Aside0.mk (Kd.R_elder' (by (with_reducible repeat (first | apply Kd.R_alloc | apply Kd.R_drewN | apply Kd.R_drew)); exact HO645.out) (Kd.R_base ho47) hb); have n4_ := Aside0.mk (Kd.R_below (by (with_reducible repeat (first | apply Kd.R_alloc | apply Kd.R_drewN | apply Kd.R_drew)); exact HO648.out) hb); have n5_ := Aside0.mk (Kd.R_below (by (with_reducible repeat (first | apply Kd.R_alloc | apply Kd.R_drewN | apply Kd.R_drew)); exact HO652.out) hb); have n6_ := Aside0.mk (Kd.R_below (by (with_reducible repeat (first | apply Kd.R_alloc | apply Kd.R_drewN | apply Kd.R_drew)); exact HO655.out) hb); have n7_ := Aside0.mk (Kd.R_elder' (by (with_reducible repeat (first | apply Kd.R_alloc | apply Kd.R_drewN | apply Kd.R_drew)); exact HO659.out) (Kd.R_base ho47) hb); have n8_ := Aside0.mk (Kd.R_below (by (with_reducible repeat (first | apply Kd.R_alloc | apply Kd.R_drewN | apply Kd.R_drew)); exact HO662.out) hb); have n9_ := Aside0.mk (Kd.R_lower (Kd.R_new' (Kd.R_new' (Kd.R_new' (Kd.R_new' ho47 (Kd.R_lt (by (with_reducible repeat (first | apply Kd.R_alloc | apply Kd.R_drewN | apply Kd.R_drew)); exact HO636.out))) (Kd.R_lt (by (with_reducible repeat (first | apply Kd.R_alloc | apply Kd.R_drewN | apply Kd.R_drew)); exact HO643.out))) (Kd.R_lt (by (with_reducible repeat (first | apply Kd.R_alloc | apply Kd.R_drewN | apply Kd.R_drew)); exact HO645.out))) (Kd.R_lt (by (with_reducible repeat (first | apply Kd.R_alloc | apply Kd.R_drewN | apply Kd.R_drew)); exact HO659.out))) (below_size (by repeat (first | (with_reducible first | exact HB.out | apply below_alloc | apply pw_below_drewN | apply below_drew1) | exact HB.out)))); have n10_ := Aside0.mk (below_step (by repeat (first | (with_reducible first | exact HB.out | apply below_alloc | apply pw_below_drewN | apply below_drew1) | exact HB.out)) hb); clear HO636; clear HO639; clear HO643; clear HO645; clear HO648; clear HO652; clear HO655; clear HO659; clear HO662; clear HB; have HO636 := n0_; have HO639 := n1_; have HO643 := n2_; have HO645 := n3_; have HO648 := n4_; have HO652 := n5_; have HO655 := n6_; have HO659 := n7_; have HO662 := n8_; have HO687 := n9_; have HB := n10_; clear n0_ n1_ n2_ n3_ n4_ n5_ n6_ n7_ n8_ n9_ n10_; clear hb ho47; obtain ⟨Ao48, co48, eo48⟩ := Kd.R_slice HO659.out; subst eo48; obtain ⟨Ao49, co49, eo49⟩ := Kd.R_slice HO687.out; subst eo49) | (go_at_call 21; (with_reducible refine (accountingref19_Same.calls k _ _ t656 _ _ y685 true _ ?side1 ?side2 ?side3 ?side4 A16.out).mono ?_); (case side1 => repeat (first | exact (Kd.R_reads' HO659.out).2.2 | (with_reducible refine Kd.C_alloc ?_ _) | (with_reducible refine Kd.C_drewN ?_ _) | (with_reducible refine Kd.C_drew ?_))); (case side2 => exact (Kd.R_reads' HO659.out).2.1); (case side3 => repeat (first | exact (Kd.R_reads' HO687.out).2.2 | (with_reducible refine Kd.C_alloc ?_ _) | (with_reducible refine Kd.C_drewN ?_ _) | (with_reducible refine Kd.C_drew ?_))); (case side4 => exact (Kd.R_reads' HO687.out).2.1); rintro e w' ⟨rfl, ⟨nd, rfl⟩⟩))
      go_ret
      exact ⟨by first | rfl | (simp [errW_none, errW_some] <;> rfl) | (simp [*, errW_none, errW_some] <;> rfl), by repeat (first | (with_reducible first | exact HB.out | apply below_alloc | apply pw_below_drewN | apply below_drew1) | exact HB.out)⟩
     ·replace c17 := Bool.eq_false_iff.mpr c17
      subst c17
      have H1 : (some false) = some r := by rw [if_neg (show ¬ (false = true) by decide)] at H; exact H
      clear H
      have H := H1
      clear H1
      exact absurd ((Option.some.inj H).trans HRT.out) (by simp)
    ·rw [if_neg c12] at H
     have c12b0 : (t650 == 0) = false := beq_eq_false_iff_ne.mpr c12
     have c12b1 : (t650 != 0) = true := bne_iff_ne.mpr c12
     exact absurd ((Option.some.inj H).trans HRT.out) (by simp)
   ·replace c11 := Bool.eq_false_iff.mpr c11
    subst c11
    have H1 : (some false) = some r := by rw [if_neg (show ¬ (false = true) by decide)] at H; exact H
    clear H
    have H := H1
    clear H1
    exact absurd ((Option.some.inj H).trans HRT.out) (by simp)
  ·rw [if_neg c9] at H
   have c9b0 : ((t641.length : Int) == 2) = false := beq_eq_false_iff_ne.mpr c9
   have c9b1 : ((t641.length : Int) != 2) = true := bne_iff_ne.mpr c9
   exact absurd ((Option.some.inj H).trans HRT.out) (by simp)
 ·rw [if_neg c8] at H
  have c8b0 : ((t640.length : Int) == 2) = false := beq_eq_false_iff_ne.mpr c8
  have c8b1 : ((t640.length : Int) != 2) = true := bne_iff_ne.mpr c8
  exact absurd ((Option.some.inj H).trans HRT.out) (by simp)
theorem accountinglaw44_lives.true_at : accountinglaw44_lives.f 100 = some true := by decide +kernel
theorem accountinglaw44_lives.tells (k : Nat) (r : Bool) (h : accountinglaw44_lives.f k = some r) : r = true := by
 have up : ∀ m j, LeO (accountinglaw44_lives.f j) (accountinglaw44_lives.f (j + m)) := fun m => by
  induction m with
  | zero => exact fun j => LeO.refl _
  | succ m ih => exact fun j r h => accountinglaw44_lives.mono _ _ (ih j r h)
 have h1 := up 100 k r h
 have h2 := up k 100 true accountinglaw44_lives.true_at
 rw [Nat.add_comm] at h2
 exact Option.some.inj (h1.symm.trans h2)
theorem accountinglaw44_lives.calls (k : Nat)  (r : Bool) (w : World) (h : accountinglaw44_lives.f k  = some r) :
  Calls Try.prog 46 #[] w fun e w' => e = .returned (.bool r) ∧ Below w.heap.size w w' := accountinglaw44_lives.calls_true k r w h (accountinglaw44_lives.tells k r h)
def accountingref19_compare.f (a0 : ByteArray) (a1 : ByteArray) : Option (Int) := if (Op.bytesLess a0.toList a1.toList) = true then (some (-1)) else (if (Op.bytesLess a1.toList a0.toList) = true then (some 1) else (some 0))
set_option maxHeartbeats 8000000 in
set_option maxRecDepth 100000 in
theorem accountingref19_compare.calls (a0 : ByteArray) (a1 : ByteArray) (r : Int) (w : World) (h : accountingref19_compare.f a0 a1 = some r) :
    Calls Try.prog 67 #[.string a0, .string a1] w fun e w' => e = .returned (.int .i64 r) ∧ Drawn0 w w' := by
  have H : (if (Op.bytesLess a0.toList a1.toList) = true then (some (-1)) else (if (Op.bytesLess a1.toList a0.toList) = true then (some 1) else (some 0))) = some r := h
  clear h
  by_cases c3 : (Op.bytesLess a0.toList a1.toList) = true
  · rw [if_pos c3] at H
    have c3b0 : (Op.bytesLess a0.toList a1.toList) = true := c3
    clear c3
    obtain rfl := Option.some.inj H
    go_enter Try.func67, Try.ntmps67
    go_wp2
    go_ret
    exact ⟨by first | rfl | (simp; done) | (simp [*]; done), by repeat (first | exact Drawn0.refl _ | apply Drawn0.step)⟩
  · rw [if_neg c3] at H
    have c3b0 : (Op.bytesLess a0.toList a1.toList) = false := by simpa using c3
    clear c3
    by_cases c4 : (Op.bytesLess a1.toList a0.toList) = true
    · rw [if_pos c4] at H
      have c4b0 : (Op.bytesLess a1.toList a0.toList) = true := c4
      clear c4
      obtain rfl := Option.some.inj H
      go_enter Try.func67, Try.ntmps67
      go_wp2
      go_ret
      exact ⟨by first | rfl | (simp; done) | (simp [*]; done), by repeat (first | exact Drawn0.refl _ | apply Drawn0.step)⟩
    · rw [if_neg c4] at H
      have c4b0 : (Op.bytesLess a1.toList a0.toList) = false := by simpa using c4
      clear c4
      obtain rfl := Option.some.inj H
      go_enter Try.func67, Try.ntmps67
      go_wp2
      go_ret
      exact ⟨by first | rfl | (simp; done) | (simp [*]; done), by repeat (first | exact Drawn0.refl _ | apply Drawn0.step)⟩
def accountingref19_Cmp.l0 : Nat → List ByteArray → List ByteArray → Int → Option (Int)
 | 0, _, _, _ => none
 | k + 1, x5, x6, x7 => if x7 < 5 then (if 0 ≤ x7 then (if x7 < (x5.length : Int) then (if x7 < (x6.length : Int) then ((accountingref19_compare.f (rdOf ByteArray.empty x5 x7) (rdOf ByteArray.empty x6 x7)).bind fun t111 => (if t111 = 0 then (accountingref19_Cmp.l0 k x5 x6 (wrap64 (x7 + 1))) else (some t111))) else (none)) else (none)) else (none)) else (some 0)
def accountingref19_Cmp.f (k : Nat) (a0_0 : ByteArray) (a0_1 : ByteArray) (a0_2 : ByteArray) (a0_3 : ByteArray) (a0_4 : ByteArray) (a1_0 : ByteArray) (a1_1 : ByteArray) (a1_2 : ByteArray) (a1_3 : ByteArray) (a1_4 : ByteArray) : Option (Int) := accountingref19_Cmp.l0 k (([a0_0, a0_1, a0_2, a0_3, a0_4] : List ByteArray)) (([a1_0, a1_1, a1_2, a1_3, a1_4] : List ByteArray)) 0
theorem accountingref19_Cmp.mono_l : ∀ k, (∀ y0 y1 y2, LeO (accountingref19_Cmp.l0 k y0 y1 y2) (accountingref19_Cmp.l0 (k + 1) y0 y1 y2))
 | 0 => fun _ _ _ r h => by simp [accountingref19_Cmp.l0] at h
 | k + 1 => by
  have ih0 := accountingref19_Cmp.mono_l k
  ·intro y0 y1 y2
   unfold accountingref19_Cmp.l0
   repeat' first
   | (with_reducible exact ih0 _ _ _)
   | (with_reducible exact LeO.refl _)
   | (with_reducible exact LeO.none _)
   | (with_reducible refine LeO.ite ?_ ?_)
   | (with_reducible refine LeO.bind ?_ (fun _ => ?_))
   | exact ih0 _ _ _
   | exact LeO.none _
   | refine LeO.ite ?_ ?_
   | refine LeO.bind ?_ (fun _ => ?_)
theorem accountingref19_Cmp.mono : ∀ a0 a1 a2 a3 a4 a5 a6 a7 a8 a9 k, LeO (accountingref19_Cmp.f k a0 a1 a2 a3 a4 a5 a6 a7 a8 a9) (accountingref19_Cmp.f (k + 1) a0 a1 a2 a3 a4 a5 a6 a7 a8 a9) := by
 intro a0 a1 a2 a3 a4 a5 a6 a7 a8 a9 k
 have ih0 := accountingref19_Cmp.mono_l k
 unfold accountingref19_Cmp.f
 repeat' first
   | (with_reducible exact ih0 _ _ _)
   | (with_reducible exact LeO.refl _)
   | (with_reducible exact LeO.none _)
   | (with_reducible refine LeO.ite ?_ ?_)
   | (with_reducible refine LeO.bind ?_ (fun _ => ?_))
   | exact ih0 _ _ _
   | exact LeO.none _
   | refine LeO.ite ?_ ?_
   | refine LeO.bind ?_ (fun _ => ?_)
set_option maxHeartbeats 8000000 in
set_option maxRecDepth 100000 in
theorem accountingref19_Cmp.calls (k : Nat) (a0_0 : ByteArray) (a0_1 : ByteArray) (a0_2 : ByteArray) (a0_3 : ByteArray) (a0_4 : ByteArray) (a1_0 : ByteArray) (a1_1 : ByteArray) (a1_2 : ByteArray) (a1_3 : ByteArray) (a1_4 : ByteArray) (r : Int) (w : World) (h : accountingref19_Cmp.f k a0_0 a0_1 a0_2 a0_3 a0_4 a1_0 a1_1 a1_2 a1_3 a1_4 = some r) :
  Calls Try.prog 30 #[.agg #[.string a0_0, .string a0_1, .string a0_2, .string a0_3, .string a0_4], .agg #[.string a1_0, .string a1_1, .string a1_2, .string a1_3, .string a1_4]] w fun e w' => e = .returned (.int .i64 r) ∧ Below w.heap.size w w' := by
 have hu32 := Try.underlying32
 have HB := Aside0.mk (Below.refl w.heap.size w)
 have H : (accountingref19_Cmp.l0 k (([a0_0, a0_1, a0_2, a0_3, a0_4] : List ByteArray)) (([a1_0, a1_1, a1_2, a1_3, a1_4] : List ByteArray)) 0) = some r := h
 clear h
 obtain ⟨y103, hy103⟩ : ∃ y_ : List ByteArray, y_ = (([a0_0, a0_1, a0_2, a0_3, a0_4] : List ByteArray)) := ⟨_, rfl⟩
 replace H : (accountingref19_Cmp.l0 k y103 (([a1_0, a1_1, a1_2, a1_3, a1_4] : List ByteArray)) 0) = some r := by first | (rw [hy103]; with_reducible exact H) | (have H2_ := (Option.bind_some _ _).symm.trans H; rw [hy103]; with_reducible exact H2_) | (have H2_ := (Option.bind_some _ _).symm.trans H; with_reducible exact H2_) | with_reducible exact H | (rw [hy103]; exact H) | exact H
 have Ny103 := Aside0.mk hy103
 clear hy103
 obtain ⟨y106, hy106⟩ : ∃ y_ : List ByteArray, y_ = (([a1_0, a1_1, a1_2, a1_3, a1_4] : List ByteArray)) := ⟨_, rfl⟩
 replace H : (accountingref19_Cmp.l0 k y103 y106 0) = some r := by first | (rw [hy106]; with_reducible exact H) | (have H2_ := (Option.bind_some _ _).symm.trans H; rw [hy106]; with_reducible exact H2_) | (have H2_ := (Option.bind_some _ _).symm.trans H; with_reducible exact H2_) | with_reducible exact H | (rw [hy106]; exact H) | exact H
 have Ny106 := Aside0.mk hy106
 clear hy106
 have H' := Aside0.mk H
 clear H
 go_enter Try.func30, Try.ntmps30
 go_wp2_with (first | ((with_reducible refine gate_dst (N := 2) rfl ?_); refine box_event ?hg (N := 2) ?hd (cs := #[.string a0_0, .string a0_1, .string a0_2, .string a0_3, .string a0_4]) (t := 32) ?hr ?_; (case hd => rfl); (case hg => rfl); (case hr => first | (go_simp; done) | (go_simp; rfl)); intro gb101 hg w3 hbox hb; have n0_ := Aside0.mk (below_step (by repeat (first | (with_reducible first | exact HB.out | apply below_alloc | apply pw_below_drewN | apply below_drew1) | exact HB.out)) hb); have n1_ := Aside0.mk (hbox); have n2_ := Aside0.mk ((by rw [hg]; exact (below_size (by repeat (first | (with_reducible first | exact HB.out | apply below_alloc | apply pw_below_drewN | apply below_drew1) | exact HB.out))) : w.heap.size ≤ gb101)); have n3_ := Aside0.mk ((by rw [hg]; exact (below_size (by repeat (first | (with_reducible first | exact HB.out | apply below_alloc | apply pw_below_drewN | apply below_drew1) | exact HB.out))) : w.heap.size ≤ gb101)); clear HB; have HB := n0_; have BK101 := n1_; have GW101 := n2_; have GE101 := n3_; clear n0_ n1_ n2_ n3_; clear hb hbox hg) | ((with_reducible refine gate_dst (N := 3) rfl ?_); refine box_event ?hg (N := 3) ?hd (cs := #[.string a1_0, .string a1_1, .string a1_2, .string a1_3, .string a1_4]) (t := 32) ?hr ?_; (case hd => rfl); (case hg => rfl); (case hr => first | (go_simp; done) | (go_simp; rfl)); intro gb102 hg w4 hbox hb; have n0_ := Aside0.mk (blk_below (g := gb101) (o := .cells #[.string a0_0, .string a0_1, .string a0_2, .string a0_3, .string a0_4] 32 (0, 0)) (by (with_reducible repeat (first | refine blk_drewN ?_ _ | refine blk_drew ?_ | refine blk_alloc ?_ _)); exact BK101.out) hb); have n1_ := Aside0.mk (below_step (by repeat (first | (with_reducible first | exact HB.out | apply below_alloc | apply pw_below_drewN | apply below_drew1 | refine below_set ?_ GE101.out) | exact HB.out)) hb); have n2_ := Aside0.mk (hbox); have n3_ := Aside0.mk ((by rw [hg]; exact (below_size (by repeat (first | (with_reducible first | exact HB.out | apply below_alloc | apply pw_below_drewN | apply below_drew1 | refine below_set ?_ GE101.out) | exact HB.out))) : w.heap.size ≤ gb102)); have n4_ := Aside0.mk ((by rw [hg]; exact (below_size (by repeat (first | (with_reducible first | exact HB.out | apply below_alloc | apply pw_below_drewN | apply below_drew1 | refine below_set ?_ GE101.out) | exact HB.out))) : w.heap.size ≤ gb102)); have n5_ := Aside0.mk ((by rw [hg]; exact Nat.ne_of_lt (blk_lt (g := gb101) (o := .cells #[.string a0_0, .string a0_1, .string a0_2, .string a0_3, .string a0_4] 32 (0, 0)) (by (with_reducible repeat (first | refine blk_drewN ?_ _ | refine blk_drew ?_ | refine blk_alloc ?_ _)); exact BK101.out)) : gb101 ≠ gb102)); have n6_ := Aside0.mk ((by rw [hg]; exact Nat.ne_of_gt (blk_lt (g := gb101) (o := .cells #[.string a0_0, .string a0_1, .string a0_2, .string a0_3, .string a0_4] 32 (0, 0)) (by (with_reducible repeat (first | refine blk_drewN ?_ _ | refine blk_drew ?_ | refine blk_alloc ?_ _)); exact BK101.out)) : gb102 ≠ gb101)); clear BK101; clear HB; have BK101 := n0_; have HB := n1_; have BK102 := n2_; have GW102 := n3_; have GE102 := n4_; have NB101_102 := n5_; have NB102_101 := n6_; clear n0_ n1_ n2_ n3_ n4_ n5_ n6_; clear hb hbox hg; have hnb5 := NB101_102.out; have hnc5 := NB102_101.out; have hcz6_0 : w4.cell? ⟨gb101, 0, none⟩ = some (.string a0_0) := (blk_cell BK101.out 0).trans rfl; have hcz6_1 : w4.cell? ⟨gb101, 1, none⟩ = some (.string a0_1) := (blk_cell BK101.out 1).trans rfl; have hcz6_2 : w4.cell? ⟨gb101, 2, none⟩ = some (.string a0_2) := (blk_cell BK101.out 2).trans rfl; have hcz6_3 : w4.cell? ⟨gb101, 3, none⟩ = some (.string a0_3) := (blk_cell BK101.out 3).trans rfl; have hcz6_4 : w4.cell? ⟨gb101, 4, none⟩ = some (.string a0_4) := (blk_cell BK101.out 4).trans rfl; have hfz6_0 := blk_frozen BK101.out 0; have hfz6_1 := blk_frozen BK101.out 1; have hfz6_2 := blk_frozen BK101.out 2; have hfz6_3 := blk_frozen BK101.out 3; have hfz6_4 := blk_frozen BK101.out 4) | ((with_reducible refine gate_dst (N := 19) rfl ?_); refine Kd.R_lit Kd.string _ 9 ?hg (N := 19) ?hd (xs := ([a0_0, a0_1, a0_2, a0_3, a0_4] : List ByteArray)) (inner := [.string a0_0, .string a0_1, .string a0_2, .string a0_3, .string a0_4]) (ok := fun _ => True) (okp := fun _ => True) ?hr ?hp (fun _ hk => hk) trivial (Below.refl _ _) (Nat.le_refl _) (by simp) ?_; (case hd => rfl); (case hg => rfl); (case hr => first | (go_simp; done) | (go_simp; rfl)); (case hp => exact (Reps.one (show Kd.M Kd.string _ _ _ a0_0 [.string a0_0] from rfl) (Reps.one (show Kd.M Kd.string _ _ _ a0_1 [.string a0_1] from rfl) (Reps.one (show Kd.M Kd.string _ _ _ a0_2 [.string a0_2] from rfl) (Reps.one (show Kd.M Kd.string _ _ _ a0_3 [.string a0_3] from rfl) (Reps.one (show Kd.M Kd.string _ _ _ a0_4 [.string a0_4] from rfl) (Reps.none _ _))))))); intro v104 w7 ho8 hb hg_ hnew_; clear hg_ hnew_; (first | rw [← Ny103.out] at ho8 | (simp only [Int.reduceToNat] at ho8; rw [← Ny103.out] at ho8)); have n0_ := Aside0.mk (Kd.R_lower ho8 (below_size (by repeat (first | (with_reducible first | exact HB.out | apply below_alloc | apply pw_below_drewN | apply below_drew1 | refine below_set ?_ GE101.out | refine below_set ?_ GE102.out) | exact HB.out)))); have n1_ := Aside0.mk (blk_below (g := gb101) (o := .cells #[.string a0_0, .string a0_1, .string a0_2, .string a0_3, .string a0_4] 32 (0, 0)) (by (with_reducible repeat (first | refine blk_drewN ?_ _ | refine blk_drew ?_ | refine blk_alloc ?_ _)); exact BK101.out) hb); have n2_ := Aside0.mk (blk_below (g := gb102) (o := .cells #[.string a1_0, .string a1_1, .string a1_2, .string a1_3, .string a1_4] 32 (0, 0)) (by (with_reducible repeat (first | refine blk_drewN ?_ _ | refine blk_drew ?_ | refine blk_alloc ?_ _)); exact BK102.out) hb); have n3_ := Aside0.mk (below_step (by repeat (first | (with_reducible first | exact HB.out | apply below_alloc | apply pw_below_drewN | apply below_drew1 | refine below_set ?_ GE101.out | refine below_set ?_ GE102.out) | exact HB.out)) hb); clear BK101; clear BK102; clear HB; have HO105 := n0_; have BK101 := n1_; have BK102 := n2_; have HB := n3_; clear n0_ n1_ n2_ n3_; clear hb ho8; have hcz9_0 : w7.cell? ⟨gb102, 0, none⟩ = some (.string a1_0) := (blk_cell BK102.out 0).trans rfl; have hcz9_1 : w7.cell? ⟨gb102, 1, none⟩ = some (.string a1_1) := (blk_cell BK102.out 1).trans rfl; have hcz9_2 : w7.cell? ⟨gb102, 2, none⟩ = some (.string a1_2) := (blk_cell BK102.out 2).trans rfl; have hcz9_3 : w7.cell? ⟨gb102, 3, none⟩ = some (.string a1_3) := (blk_cell BK102.out 3).trans rfl; have hcz9_4 : w7.cell? ⟨gb102, 4, none⟩ = some (.string a1_4) := (blk_cell BK102.out 4).trans rfl; have hfz9_0 := blk_frozen BK102.out 0; have hfz9_1 := blk_frozen BK102.out 1; have hfz9_2 := blk_frozen BK102.out 2; have hfz9_3 := blk_frozen BK102.out 3; have hfz9_4 := blk_frozen BK102.out 4) | ((with_reducible refine gate_dst (N := 30) rfl ?_); refine Kd.R_lit Kd.string _ 9 ?hg (N := 30) ?hd (xs := ([a1_0, a1_1, a1_2, a1_3, a1_4] : List ByteArray)) (inner := [.string a1_0, .string a1_1, .string a1_2, .string a1_3, .string a1_4]) (ok := fun _ => True) (okp := fun _ => True) ?hr ?hp (fun _ hk => hk) trivial (Below.refl _ _) (Nat.le_refl _) (by simp) ?_; (case hd => rfl); (case hg => rfl); (case hr => first | (go_simp; done) | (go_simp; rfl)); (case hp => exact (Reps.one (show Kd.M Kd.string _ _ _ a1_0 [.string a1_0] from rfl) (Reps.one (show Kd.M Kd.string _ _ _ a1_1 [.string a1_1] from rfl) (Reps.one (show Kd.M Kd.string _ _ _ a1_2 [.string a1_2] from rfl) (Reps.one (show Kd.M Kd.string _ _ _ a1_3 [.string a1_3] from rfl) (Reps.one (show Kd.M Kd.string _ _ _ a1_4 [.string a1_4] from rfl) (Reps.none _ _))))))); intro v107 w10 ho11 hb hg_ hnew_; clear hg_ hnew_; (first | rw [← Ny106.out] at ho11 | (simp only [Int.reduceToNat] at ho11; rw [← Ny106.out] at ho11)); have n0_ := Aside0.mk (Kd.R_elder' (by (with_reducible repeat (first | apply Kd.R_alloc | apply Kd.R_drewN | apply Kd.R_drew)); exact HO105.out) (Kd.R_base ho11) hb); have n1_ := Aside0.mk (Kd.R_lower (Kd.R_new' ho11 (Kd.R_lt (by (with_reducible repeat (first | apply Kd.R_alloc | apply Kd.R_drewN | apply Kd.R_drew)); exact HO105.out))) (below_size (by repeat (first | (with_reducible first | exact HB.out | apply below_alloc | apply pw_below_drewN | apply below_drew1 | refine below_set ?_ GE101.out | refine below_set ?_ GE102.out) | exact HB.out)))); have n2_ := Aside0.mk (blk_below (g := gb101) (o := .cells #[.string a0_0, .string a0_1, .string a0_2, .string a0_3, .string a0_4] 32 (0, 0)) (by (with_reducible repeat (first | refine blk_drewN ?_ _ | refine blk_drew ?_ | refine blk_alloc ?_ _)); exact BK101.out) hb); have n3_ := Aside0.mk (blk_below (g := gb102) (o := .cells #[.string a1_0, .string a1_1, .string a1_2, .string a1_3, .string a1_4] 32 (0, 0)) (by (with_reducible repeat (first | refine blk_drewN ?_ _ | refine blk_drew ?_ | refine blk_alloc ?_ _)); exact BK102.out) hb); have n4_ := Aside0.mk (below_step (by repeat (first | (with_reducible first | exact HB.out | apply below_alloc | apply pw_below_drewN | apply below_drew1 | refine below_set ?_ GE101.out | refine below_set ?_ GE102.out) | exact HB.out)) hb); clear HO105; clear BK101; clear BK102; clear HB; have HO105 := n0_; have HO108 := n1_; have BK101 := n2_; have BK102 := n3_; have HB := n4_; clear n0_ n1_ n2_ n3_ n4_; clear hb ho11))
 repeat (go_quiet (first | ((with_reducible refine gate_dst (N := 2) rfl ?_); refine box_event ?hg (N := 2) ?hd (cs := #[.string a0_0, .string a0_1, .string a0_2, .string a0_3, .string a0_4]) (t := 32) ?hr ?_; (case hd => rfl); (case hg => rfl); (case hr => first | (go_simp; done) | (go_simp; rfl)); intro gb101 hg w3 hbox hb; have n0_ := Aside0.mk (below_step (by repeat (first | (with_reducible first | exact HB.out | apply below_alloc | apply pw_below_drewN | apply below_drew1) | exact HB.out)) hb); have n1_ := Aside0.mk (hbox); have n2_ := Aside0.mk ((by rw [hg]; exact (below_size (by repeat (first | (with_reducible first | exact HB.out | apply below_alloc | apply pw_below_drewN | apply below_drew1) | exact HB.out))) : w.heap.size ≤ gb101)); have n3_ := Aside0.mk ((by rw [hg]; exact (below_size (by repeat (first | (with_reducible first | exact HB.out | apply below_alloc | apply pw_below_drewN | apply below_drew1) | exact HB.out))) : w.heap.size ≤ gb101)); clear HB; have HB := n0_; have BK101 := n1_; have GW101 := n2_; have GE101 := n3_; clear n0_ n1_ n2_ n3_; clear hb hbox hg) | ((with_reducible refine gate_dst (N := 3) rfl ?_); refine box_event ?hg (N := 3) ?hd (cs := #[.string a1_0, .string a1_1, .string a1_2, .string a1_3, .string a1_4]) (t := 32) ?hr ?_; (case hd => rfl); (case hg => rfl); (case hr => first | (go_simp; done) | (go_simp; rfl)); intro gb102 hg w4 hbox hb; have n0_ := Aside0.mk (blk_below (g := gb101) (o := .cells #[.string a0_0, .string a0_1, .string a0_2, .string a0_3, .string a0_4] 32 (0, 0)) (by (with_reducible repeat (first | refine blk_drewN ?_ _ | refine blk_drew ?_ | refine blk_alloc ?_ _)); exact BK101.out) hb); have n1_ := Aside0.mk (below_step (by repeat (first | (with_reducible first | exact HB.out | apply below_alloc | apply pw_below_drewN | apply below_drew1 | refine below_set ?_ GE101.out) | exact HB.out)) hb); have n2_ := Aside0.mk (hbox); have n3_ := Aside0.mk ((by rw [hg]; exact (below_size (by repeat (first | (with_reducible first | exact HB.out | apply below_alloc | apply pw_below_drewN | apply below_drew1 | refine below_set ?_ GE101.out) | exact HB.out))) : w.heap.size ≤ gb102)); have n4_ := Aside0.mk ((by rw [hg]; exact (below_size (by repeat (first | (with_reducible first | exact HB.out | apply below_alloc | apply pw_below_drewN | apply below_drew1 | refine below_set ?_ GE101.out) | exact HB.out))) : w.heap.size ≤ gb102)); have n5_ := Aside0.mk ((by rw [hg]; exact Nat.ne_of_lt (blk_lt (g := gb101) (o := .cells #[.string a0_0, .string a0_1, .string a0_2, .string a0_3, .string a0_4] 32 (0, 0)) (by (with_reducible repeat (first | refine blk_drewN ?_ _ | refine blk_drew ?_ | refine blk_alloc ?_ _)); exact BK101.out)) : gb101 ≠ gb102)); have n6_ := Aside0.mk ((by rw [hg]; exact Nat.ne_of_gt (blk_lt (g := gb101) (o := .cells #[.string a0_0, .string a0_1, .string a0_2, .string a0_3, .string a0_4] 32 (0, 0)) (by (with_reducible repeat (first | refine blk_drewN ?_ _ | refine blk_drew ?_ | refine blk_alloc ?_ _)); exact BK101.out)) : gb102 ≠ gb101)); clear BK101; clear HB; have BK101 := n0_; have HB := n1_; have BK102 := n2_; have GW102 := n3_; have GE102 := n4_; have NB101_102 := n5_; have NB102_101 := n6_; clear n0_ n1_ n2_ n3_ n4_ n5_ n6_; clear hb hbox hg; have hnb5 := NB101_102.out; have hnc5 := NB102_101.out; have hcz6_0 : w4.cell? ⟨gb101, 0, none⟩ = some (.string a0_0) := (blk_cell BK101.out 0).trans rfl; have hcz6_1 : w4.cell? ⟨gb101, 1, none⟩ = some (.string a0_1) := (blk_cell BK101.out 1).trans rfl; have hcz6_2 : w4.cell? ⟨gb101, 2, none⟩ = some (.string a0_2) := (blk_cell BK101.out 2).trans rfl; have hcz6_3 : w4.cell? ⟨gb101, 3, none⟩ = some (.string a0_3) := (blk_cell BK101.out 3).trans rfl; have hcz6_4 : w4.cell? ⟨gb101, 4, none⟩ = some (.string a0_4) := (blk_cell BK101.out 4).trans rfl; have hfz6_0 := blk_frozen BK101.out 0; have hfz6_1 := blk_frozen BK101.out 1; have hfz6_2 := blk_frozen BK101.out 2; have hfz6_3 := blk_frozen BK101.out 3; have hfz6_4 := blk_frozen BK101.out 4) | ((with_reducible refine gate_dst (N := 19) rfl ?_); refine Kd.R_lit Kd.string _ 9 ?hg (N := 19) ?hd (xs := ([a0_0, a0_1, a0_2, a0_3, a0_4] : List ByteArray)) (inner := [.string a0_0, .string a0_1, .string a0_2, .string a0_3, .string a0_4]) (ok := fun _ => True) (okp := fun _ => True) ?hr ?hp (fun _ hk => hk) trivial (Below.refl _ _) (Nat.le_refl _) (by simp) ?_; (case hd => rfl); (case hg => rfl); (case hr => first | (go_simp; done) | (go_simp; rfl)); (case hp => exact (Reps.one (show Kd.M Kd.string _ _ _ a0_0 [.string a0_0] from rfl) (Reps.one (show Kd.M Kd.string _ _ _ a0_1 [.string a0_1] from rfl) (Reps.one (show Kd.M Kd.string _ _ _ a0_2 [.string a0_2] from rfl) (Reps.one (show Kd.M Kd.string _ _ _ a0_3 [.string a0_3] from rfl) (Reps.one (show Kd.M Kd.string _ _ _ a0_4 [.string a0_4] from rfl) (Reps.none _ _))))))); intro v104 w7 ho8 hb hg_ hnew_; clear hg_ hnew_; (first | rw [← Ny103.out] at ho8 | (simp only [Int.reduceToNat] at ho8; rw [← Ny103.out] at ho8)); have n0_ := Aside0.mk (Kd.R_lower ho8 (below_size (by repeat (first | (with_reducible first | exact HB.out | apply below_alloc | apply pw_below_drewN | apply below_drew1 | refine below_set ?_ GE101.out | refine below_set ?_ GE102.out) | exact HB.out)))); have n1_ := Aside0.mk (blk_below (g := gb101) (o := .cells #[.string a0_0, .string a0_1, .string a0_2, .string a0_3, .string a0_4] 32 (0, 0)) (by (with_reducible repeat (first | refine blk_drewN ?_ _ | refine blk_drew ?_ | refine blk_alloc ?_ _)); exact BK101.out) hb); have n2_ := Aside0.mk (blk_below (g := gb102) (o := .cells #[.string a1_0, .string a1_1, .string a1_2, .string a1_3, .string a1_4] 32 (0, 0)) (by (with_reducible repeat (first | refine blk_drewN ?_ _ | refine blk_drew ?_ | refine blk_alloc ?_ _)); exact BK102.out) hb); have n3_ := Aside0.mk (below_step (by repeat (first | (with_reducible first | exact HB.out | apply below_alloc | apply pw_below_drewN | apply below_drew1 | refine below_set ?_ GE101.out | refine below_set ?_ GE102.out) | exact HB.out)) hb); clear BK101; clear BK102; clear HB; have HO105 := n0_; have BK101 := n1_; have BK102 := n2_; have HB := n3_; clear n0_ n1_ n2_ n3_; clear hb ho8; have hcz9_0 : w7.cell? ⟨gb102, 0, none⟩ = some (.string a1_0) := (blk_cell BK102.out 0).trans rfl; have hcz9_1 : w7.cell? ⟨gb102, 1, none⟩ = some (.string a1_1) := (blk_cell BK102.out 1).trans rfl; have hcz9_2 : w7.cell? ⟨gb102, 2, none⟩ = some (.string a1_2) := (blk_cell BK102.out 2).trans rfl; have hcz9_3 : w7.cell? ⟨gb102, 3, none⟩ = some (.string a1_3) := (blk_cell BK102.out 3).trans rfl; have hcz9_4 : w7.cell? ⟨gb102, 4, none⟩ = some (.string a1_4) := (blk_cell BK102.out 4).trans rfl; have hfz9_0 := blk_frozen BK102.out 0; have hfz9_1 := blk_frozen BK102.out 1; have hfz9_2 := blk_frozen BK102.out 2; have hfz9_3 := blk_frozen BK102.out 3; have hfz9_4 := blk_frozen BK102.out 4) | ((with_reducible refine gate_dst (N := 30) rfl ?_); refine Kd.R_lit Kd.string _ 9 ?hg (N := 30) ?hd (xs := ([a1_0, a1_1, a1_2, a1_3, a1_4] : List ByteArray)) (inner := [.string a1_0, .string a1_1, .string a1_2, .string a1_3, .string a1_4]) (ok := fun _ => True) (okp := fun _ => True) ?hr ?hp (fun _ hk => hk) trivial (Below.refl _ _) (Nat.le_refl _) (by simp) ?_; (case hd => rfl); (case hg => rfl); (case hr => first | (go_simp; done) | (go_simp; rfl)); (case hp => exact (Reps.one (show Kd.M Kd.string _ _ _ a1_0 [.string a1_0] from rfl) (Reps.one (show Kd.M Kd.string _ _ _ a1_1 [.string a1_1] from rfl) (Reps.one (show Kd.M Kd.string _ _ _ a1_2 [.string a1_2] from rfl) (Reps.one (show Kd.M Kd.string _ _ _ a1_3 [.string a1_3] from rfl) (Reps.one (show Kd.M Kd.string _ _ _ a1_4 [.string a1_4] from rfl) (Reps.none _ _))))))); intro v107 w10 ho11 hb hg_ hnew_; clear hg_ hnew_; (first | rw [← Ny106.out] at ho11 | (simp only [Int.reduceToNat] at ho11; rw [← Ny106.out] at ho11)); have n0_ := Aside0.mk (Kd.R_elder' (by (with_reducible repeat (first | apply Kd.R_alloc | apply Kd.R_drewN | apply Kd.R_drew)); exact HO105.out) (Kd.R_base ho11) hb); have n1_ := Aside0.mk (Kd.R_lower (Kd.R_new' ho11 (Kd.R_lt (by (with_reducible repeat (first | apply Kd.R_alloc | apply Kd.R_drewN | apply Kd.R_drew)); exact HO105.out))) (below_size (by repeat (first | (with_reducible first | exact HB.out | apply below_alloc | apply pw_below_drewN | apply below_drew1 | refine below_set ?_ GE101.out | refine below_set ?_ GE102.out) | exact HB.out)))); have n2_ := Aside0.mk (blk_below (g := gb101) (o := .cells #[.string a0_0, .string a0_1, .string a0_2, .string a0_3, .string a0_4] 32 (0, 0)) (by (with_reducible repeat (first | refine blk_drewN ?_ _ | refine blk_drew ?_ | refine blk_alloc ?_ _)); exact BK101.out) hb); have n3_ := Aside0.mk (blk_below (g := gb102) (o := .cells #[.string a1_0, .string a1_1, .string a1_2, .string a1_3, .string a1_4] 32 (0, 0)) (by (with_reducible repeat (first | refine blk_drewN ?_ _ | refine blk_drew ?_ | refine blk_alloc ?_ _)); exact BK102.out) hb); have n4_ := Aside0.mk (below_step (by repeat (first | (with_reducible first | exact HB.out | apply below_alloc | apply pw_below_drewN | apply below_drew1 | refine below_set ?_ GE101.out | refine below_set ?_ GE102.out) | exact HB.out)) hb); clear HO105; clear BK101; clear BK102; clear HB; have HO105 := n0_; have HO108 := n1_; have BK101 := n2_; have BK102 := n3_; have HB := n4_; clear n0_ n1_ n2_ n3_ n4_; clear hb ho11)); try go_wp2_with (first | ((with_reducible refine gate_dst (N := 2) rfl ?_); refine box_event ?hg (N := 2) ?hd (cs := #[.string a0_0, .string a0_1, .string a0_2, .string a0_3, .string a0_4]) (t := 32) ?hr ?_; (case hd => rfl); (case hg => rfl); (case hr => first | (go_simp; done) | (go_simp; rfl)); intro gb101 hg w3 hbox hb; have n0_ := Aside0.mk (below_step (by repeat (first | (with_reducible first | exact HB.out | apply below_alloc | apply pw_below_drewN | apply below_drew1) | exact HB.out)) hb); have n1_ := Aside0.mk (hbox); have n2_ := Aside0.mk ((by rw [hg]; exact (below_size (by repeat (first | (with_reducible first | exact HB.out | apply below_alloc | apply pw_below_drewN | apply below_drew1) | exact HB.out))) : w.heap.size ≤ gb101)); have n3_ := Aside0.mk ((by rw [hg]; exact (below_size (by repeat (first | (with_reducible first | exact HB.out | apply below_alloc | apply pw_below_drewN | apply below_drew1) | exact HB.out))) : w.heap.size ≤ gb101)); clear HB; have HB := n0_; have BK101 := n1_; have GW101 := n2_; have GE101 := n3_; clear n0_ n1_ n2_ n3_; clear hb hbox hg) | ((with_reducible refine gate_dst (N := 3) rfl ?_); refine box_event ?hg (N := 3) ?hd (cs := #[.string a1_0, .string a1_1, .string a1_2, .string a1_3, .string a1_4]) (t := 32) ?hr ?_; (case hd => rfl); (case hg => rfl); (case hr => first | (go_simp; done) | (go_simp; rfl)); intro gb102 hg w4 hbox hb; have n0_ := Aside0.mk (blk_below (g := gb101) (o := .cells #[.string a0_0, .string a0_1, .string a0_2, .string a0_3, .string a0_4] 32 (0, 0)) (by (with_reducible repeat (first | refine blk_drewN ?_ _ | refine blk_drew ?_ | refine blk_alloc ?_ _)); exact BK101.out) hb); have n1_ := Aside0.mk (below_step (by repeat (first | (with_reducible first | exact HB.out | apply below_alloc | apply pw_below_drewN | apply below_drew1 | refine below_set ?_ GE101.out) | exact HB.out)) hb); have n2_ := Aside0.mk (hbox); have n3_ := Aside0.mk ((by rw [hg]; exact (below_size (by repeat (first | (with_reducible first | exact HB.out | apply below_alloc | apply pw_below_drewN | apply below_drew1 | refine below_set ?_ GE101.out) | exact HB.out))) : w.heap.size ≤ gb102)); have n4_ := Aside0.mk ((by rw [hg]; exact (below_size (by repeat (first | (with_reducible first | exact HB.out | apply below_alloc | apply pw_below_drewN | apply below_drew1 | refine below_set ?_ GE101.out) | exact HB.out))) : w.heap.size ≤ gb102)); have n5_ := Aside0.mk ((by rw [hg]; exact Nat.ne_of_lt (blk_lt (g := gb101) (o := .cells #[.string a0_0, .string a0_1, .string a0_2, .string a0_3, .string a0_4] 32 (0, 0)) (by (with_reducible repeat (first | refine blk_drewN ?_ _ | refine blk_drew ?_ | refine blk_alloc ?_ _)); exact BK101.out)) : gb101 ≠ gb102)); have n6_ := Aside0.mk ((by rw [hg]; exact Nat.ne_of_gt (blk_lt (g := gb101) (o := .cells #[.string a0_0, .string a0_1, .string a0_2, .string a0_3, .string a0_4] 32 (0, 0)) (by (with_reducible repeat (first | refine blk_drewN ?_ _ | refine blk_drew ?_ | refine blk_alloc ?_ _)); exact BK101.out)) : gb102 ≠ gb101)); clear BK101; clear HB; have BK101 := n0_; have HB := n1_; have BK102 := n2_; have GW102 := n3_; have GE102 := n4_; have NB101_102 := n5_; have NB102_101 := n6_; clear n0_ n1_ n2_ n3_ n4_ n5_ n6_; clear hb hbox hg; have hnb5 := NB101_102.out; have hnc5 := NB102_101.out; have hcz6_0 : w4.cell? ⟨gb101, 0, none⟩ = some (.string a0_0) := (blk_cell BK101.out 0).trans rfl; have hcz6_1 : w4.cell? ⟨gb101, 1, none⟩ = some (.string a0_1) := (blk_cell BK101.out 1).trans rfl; have hcz6_2 : w4.cell? ⟨gb101, 2, none⟩ = some (.string a0_2) := (blk_cell BK101.out 2).trans rfl; have hcz6_3 : w4.cell? ⟨gb101, 3, none⟩ = some (.string a0_3) := (blk_cell BK101.out 3).trans rfl; have hcz6_4 : w4.cell? ⟨gb101, 4, none⟩ = some (.string a0_4) := (blk_cell BK101.out 4).trans rfl; have hfz6_0 := blk_frozen BK101.out 0; have hfz6_1 := blk_frozen BK101.out 1; have hfz6_2 := blk_frozen BK101.out 2; have hfz6_3 := blk_frozen BK101.out 3; have hfz6_4 := blk_frozen BK101.out 4) | ((with_reducible refine gate_dst (N := 19) rfl ?_); refine Kd.R_lit Kd.string _ 9 ?hg (N := 19) ?hd (xs := ([a0_0, a0_1, a0_2, a0_3, a0_4] : List ByteArray)) (inner := [.string a0_0, .string a0_1, .string a0_2, .string a0_3, .string a0_4]) (ok := fun _ => True) (okp := fun _ => True) ?hr ?hp (fun _ hk => hk) trivial (Below.refl _ _) (Nat.le_refl _) (by simp) ?_; (case hd => rfl); (case hg => rfl); (case hr => first | (go_simp; done) | (go_simp; rfl)); (case hp => exact (Reps.one (show Kd.M Kd.string _ _ _ a0_0 [.string a0_0] from rfl) (Reps.one (show Kd.M Kd.string _ _ _ a0_1 [.string a0_1] from rfl) (Reps.one (show Kd.M Kd.string _ _ _ a0_2 [.string a0_2] from rfl) (Reps.one (show Kd.M Kd.string _ _ _ a0_3 [.string a0_3] from rfl) (Reps.one (show Kd.M Kd.string _ _ _ a0_4 [.string a0_4] from rfl) (Reps.none _ _))))))); intro v104 w7 ho8 hb hg_ hnew_; clear hg_ hnew_; (first | rw [← Ny103.out] at ho8 | (simp only [Int.reduceToNat] at ho8; rw [← Ny103.out] at ho8)); have n0_ := Aside0.mk (Kd.R_lower ho8 (below_size (by repeat (first | (with_reducible first | exact HB.out | apply below_alloc | apply pw_below_drewN | apply below_drew1 | refine below_set ?_ GE101.out | refine below_set ?_ GE102.out) | exact HB.out)))); have n1_ := Aside0.mk (blk_below (g := gb101) (o := .cells #[.string a0_0, .string a0_1, .string a0_2, .string a0_3, .string a0_4] 32 (0, 0)) (by (with_reducible repeat (first | refine blk_drewN ?_ _ | refine blk_drew ?_ | refine blk_alloc ?_ _)); exact BK101.out) hb); have n2_ := Aside0.mk (blk_below (g := gb102) (o := .cells #[.string a1_0, .string a1_1, .string a1_2, .string a1_3, .string a1_4] 32 (0, 0)) (by (with_reducible repeat (first | refine blk_drewN ?_ _ | refine blk_drew ?_ | refine blk_alloc ?_ _)); exact BK102.out) hb); have n3_ := Aside0.mk (below_step (by repeat (first | (with_reducible first | exact HB.out | apply below_alloc | apply pw_below_drewN | apply below_drew1 | refine below_set ?_ GE101.out | refine below_set ?_ GE102.out) | exact HB.out)) hb); clear BK101; clear BK102; clear HB; have HO105 := n0_; have BK101 := n1_; have BK102 := n2_; have HB := n3_; clear n0_ n1_ n2_ n3_; clear hb ho8; have hcz9_0 : w7.cell? ⟨gb102, 0, none⟩ = some (.string a1_0) := (blk_cell BK102.out 0).trans rfl; have hcz9_1 : w7.cell? ⟨gb102, 1, none⟩ = some (.string a1_1) := (blk_cell BK102.out 1).trans rfl; have hcz9_2 : w7.cell? ⟨gb102, 2, none⟩ = some (.string a1_2) := (blk_cell BK102.out 2).trans rfl; have hcz9_3 : w7.cell? ⟨gb102, 3, none⟩ = some (.string a1_3) := (blk_cell BK102.out 3).trans rfl; have hcz9_4 : w7.cell? ⟨gb102, 4, none⟩ = some (.string a1_4) := (blk_cell BK102.out 4).trans rfl; have hfz9_0 := blk_frozen BK102.out 0; have hfz9_1 := blk_frozen BK102.out 1; have hfz9_2 := blk_frozen BK102.out 2; have hfz9_3 := blk_frozen BK102.out 3; have hfz9_4 := blk_frozen BK102.out 4) | ((with_reducible refine gate_dst (N := 30) rfl ?_); refine Kd.R_lit Kd.string _ 9 ?hg (N := 30) ?hd (xs := ([a1_0, a1_1, a1_2, a1_3, a1_4] : List ByteArray)) (inner := [.string a1_0, .string a1_1, .string a1_2, .string a1_3, .string a1_4]) (ok := fun _ => True) (okp := fun _ => True) ?hr ?hp (fun _ hk => hk) trivial (Below.refl _ _) (Nat.le_refl _) (by simp) ?_; (case hd => rfl); (case hg => rfl); (case hr => first | (go_simp; done) | (go_simp; rfl)); (case hp => exact (Reps.one (show Kd.M Kd.string _ _ _ a1_0 [.string a1_0] from rfl) (Reps.one (show Kd.M Kd.string _ _ _ a1_1 [.string a1_1] from rfl) (Reps.one (show Kd.M Kd.string _ _ _ a1_2 [.string a1_2] from rfl) (Reps.one (show Kd.M Kd.string _ _ _ a1_3 [.string a1_3] from rfl) (Reps.one (show Kd.M Kd.string _ _ _ a1_4 [.string a1_4] from rfl) (Reps.none _ _))))))); intro v107 w10 ho11 hb hg_ hnew_; clear hg_ hnew_; (first | rw [← Ny106.out] at ho11 | (simp only [Int.reduceToNat] at ho11; rw [← Ny106.out] at ho11)); have n0_ := Aside0.mk (Kd.R_elder' (by (with_reducible repeat (first | apply Kd.R_alloc | apply Kd.R_drewN | apply Kd.R_drew)); exact HO105.out) (Kd.R_base ho11) hb); have n1_ := Aside0.mk (Kd.R_lower (Kd.R_new' ho11 (Kd.R_lt (by (with_reducible repeat (first | apply Kd.R_alloc | apply Kd.R_drewN | apply Kd.R_drew)); exact HO105.out))) (below_size (by repeat (first | (with_reducible first | exact HB.out | apply below_alloc | apply pw_below_drewN | apply below_drew1 | refine below_set ?_ GE101.out | refine below_set ?_ GE102.out) | exact HB.out)))); have n2_ := Aside0.mk (blk_below (g := gb101) (o := .cells #[.string a0_0, .string a0_1, .string a0_2, .string a0_3, .string a0_4] 32 (0, 0)) (by (with_reducible repeat (first | refine blk_drewN ?_ _ | refine blk_drew ?_ | refine blk_alloc ?_ _)); exact BK101.out) hb); have n3_ := Aside0.mk (blk_below (g := gb102) (o := .cells #[.string a1_0, .string a1_1, .string a1_2, .string a1_3, .string a1_4] 32 (0, 0)) (by (with_reducible repeat (first | refine blk_drewN ?_ _ | refine blk_drew ?_ | refine blk_alloc ?_ _)); exact BK102.out) hb); have n4_ := Aside0.mk (below_step (by repeat (first | (with_reducible first | exact HB.out | apply below_alloc | apply pw_below_drewN | apply below_drew1 | refine below_set ?_ GE101.out | refine below_set ?_ GE102.out) | exact HB.out)) hb); clear HO105; clear BK101; clear BK102; clear HB; have HO105 := n0_; have HO108 := n1_; have BK101 := n2_; have BK102 := n3_; have HB := n4_; clear n0_ n1_ n2_ n3_ n4_; clear hb ho11)))
 go_loopg [7] k (fun kq v7 w' => ∃ (x7_1 : Int), v7 = .int .i64 x7_1 ∧ Aside0 (accountingref19_Cmp.l0 kq y103 y106 x7_1 = some r) ∧ Aside0 (kq ≤ k) ∧ Aside0 (Kd.R Kd.string 9 w' w.heap.size (fun k_ => some k_ ≠ (v107 : Value).ownBlock) v104 y103) ∧ Aside0 (Kd.R Kd.string 9 w' w.heap.size (fun k_ => some k_ ≠ (v104 : Value).ownBlock) v107 y106) ∧ Aside0 (w'.heap[gb101]? = some (.cells #[.string a0_0, .string a0_1, .string a0_2, .string a0_3, .string a0_4] 32 (0, 0))) ∧ Aside0 (w'.heap[gb102]? = some (.cells #[.string a1_0, .string a1_1, .string a1_2, .string a1_3, .string a1_4] 32 (0, 0))) ∧ Aside0 (Below w.heap.size w w'))
 case atStart => exact ⟨(0), (by first | rfl | (simp; done) | (simp [*]; done)), H', ⟨Nat.le_refl _⟩, ⟨by (with_reducible repeat (first | apply Kd.R_alloc | apply Kd.R_drewN | apply Kd.R_drew)); exact Kd.R_mono HO105.out (fun _ hk => hk.2)⟩, ⟨by (with_reducible repeat (first | apply Kd.R_alloc | apply Kd.R_drewN | apply Kd.R_drew)); exact Kd.R_mono HO108.out (fun _ hk => hk.2)⟩, ⟨by (with_reducible repeat (first | refine blk_drewN ?_ _ | refine blk_drew ?_ | refine blk_alloc ?_ _)); exact BK101.out⟩, ⟨by (with_reducible repeat (first | refine blk_drewN ?_ _ | refine blk_drew ?_ | refine blk_alloc ?_ _)); exact BK102.out⟩, ⟨by repeat (first | (with_reducible first | exact HB.out | apply below_alloc | apply pw_below_drewN | apply below_drew1 | refine below_set ?_ GE101.out | refine below_set ?_ GE102.out) | exact HB.out)⟩⟩
 case round =>
  clear H'
  try clear p2
  try clear c3
  try clear c5
  try clear hcz6_0
  try clear hcz6_1
  try clear hcz6_2
  try clear hcz6_3
  try clear hcz6_4
  try clear hcz9_0
  try clear hcz9_1
  try clear hcz9_2
  try clear hcz9_3
  try clear hcz9_4
  try clear hfz6_0
  try clear hfz6_1
  try clear hfz6_2
  try clear hfz6_3
  try clear hfz6_4
  try clear hfz9_0
  try clear hfz9_1
  try clear hfz9_2
  try clear hfz9_3
  try clear hfz9_4
  obtain ⟨x7_1, rfl, HA, HK1, HO_5, HO_6, BK101, BK102, HB⟩ := hrel
  cases gk with
  | zero => exact absurd HA.out (by simp [accountingref19_Cmp.l0])
  | succ k1 =>
   have H := HA.out
   clear HA
   simp only [accountingref19_Cmp.l0] at H
   by_cases c12 : x7_1 < 5
   ·rw [if_pos c12] at H
    have c12b0 : decide (x7_1 < 5) = true := decide_eq_true c12
    clear c12
    by_cases c13 : 0 ≤ x7_1
    ·rw [if_pos c13] at H
     have c13b0 : decide (0 ≤ x7_1) = true := decide_eq_true c13
     clear c13
     by_cases c14 : x7_1 < (y103.length : Int)
     ·rw [if_pos c14] at H
      have c14b0 : decide (x7_1 < (y103.length : Int)) = true := decide_eq_true c14
      clear c14
      by_cases c15 : x7_1 < (y106.length : Int)
      ·rw [if_pos c15] at H
       have c15b0 : decide (x7_1 < (y106.length : Int)) = true := decide_eq_true c15
       clear c15
       replace H := Option.bind_eq_some_iff.mp H
       obtain ⟨t111, A160, H⟩ := H
       try dsimp only at H
       have A16 := Aside0.mk A160
       clear A160
       by_cases c17 : t111 = 0
       ·rw [if_pos c17] at H
        have c17b0 : (t111 == 0) = true := beq_iff_eq.mpr c17
        have c17b1 : (t111 != 0) = false := bne_eq_false_iff_eq.mpr c17
        clear c17
        have H' := Aside0.mk H
        clear H
        obtain ⟨Ao18, co18, eo18⟩ := Kd.R_slice HO_5.out
        subst eo18
        have p109 : 0 ≤ (x7_1 : Int) := odt_
        have q109 : x7_1 < (y103.length : Int) := odt_
        obtain ⟨ad109, e109, hx109_0⟩ := Kd.at_string (Kd.R_reads' HO_5.out).2.2 x7_1 p109 q109
        cases e109
        replace p109 := eq_true p109
        replace q109 := eq_true q109
        obtain ⟨Ao19, co19, eo19⟩ := Kd.R_slice HO_6.out
        subst eo19
        have p110 : 0 ≤ (x7_1 : Int) := odt_
        have q110 : x7_1 < (y106.length : Int) := odt_
        obtain ⟨ad110, e110, hx110_0⟩ := Kd.at_string (Kd.R_reads' HO_6.out).2.2 x7_1 p110 q110
        cases e110
        replace p110 := eq_true p110
        replace q110 := eq_true q110
        go_wp2_with (first | (go_at_call 67; (with_reducible refine (accountingref19_compare.calls (rdOf ByteArray.empty y103 x7_1) (rdOf ByteArray.empty y106 x7_1) t111 _ A16.out).mono ?_); rintro e w' ⟨rfl, ⟨nd, rfl⟩⟩; (try first | exact ⟨rfl, _, World.drewN_drewN _ _ _⟩ | exact ⟨rfl, _, Eq.trans (World.drewN_drewN _ _ _) (congrArg (World.drewN _) (Nat.add_assoc _ _ _))⟩)))
        repeat (go_quiet (first | (go_at_call 67; (with_reducible refine (accountingref19_compare.calls (rdOf ByteArray.empty y103 x7_1) (rdOf ByteArray.empty y106 x7_1) t111 _ A16.out).mono ?_); rintro e w' ⟨rfl, ⟨nd, rfl⟩⟩; (try first | exact ⟨rfl, _, World.drewN_drewN _ _ _⟩ | exact ⟨rfl, _, Eq.trans (World.drewN_drewN _ _ _) (congrArg (World.drewN _) (Nat.add_assoc _ _ _))⟩))); try go_wp2_with (first | (go_at_call 67; (with_reducible refine (accountingref19_compare.calls (rdOf ByteArray.empty y103 x7_1) (rdOf ByteArray.empty y106 x7_1) t111 _ A16.out).mono ?_); rintro e w' ⟨rfl, ⟨nd, rfl⟩⟩; (try first | exact ⟨rfl, _, World.drewN_drewN _ _ _⟩ | exact ⟨rfl, _, Eq.trans (World.drewN_drewN _ _ _) (congrArg (World.drewN _) (Nat.add_assoc _ _ _))⟩))))
        go_roundg k1
        case measure => have := HK1.out; omega
        case rel => exact ⟨(wrap64 (x7_1 + 1)), (by first | rfl | (simp; done) | (simp [*]; done)), H', ⟨by have := HK1.out; omega⟩, ⟨by (with_reducible repeat (first | apply Kd.R_alloc | apply Kd.R_drewN | apply Kd.R_drew)); exact HO_5.out⟩, ⟨by (with_reducible repeat (first | apply Kd.R_alloc | apply Kd.R_drewN | apply Kd.R_drew)); exact HO_6.out⟩, ⟨by (with_reducible repeat (first | refine blk_drewN ?_ _ | refine blk_drew ?_ | refine blk_alloc ?_ _)); exact BK101.out⟩, ⟨by (with_reducible repeat (first | refine blk_drewN ?_ _ | refine blk_drew ?_ | refine blk_alloc ?_ _)); exact BK102.out⟩, ⟨by repeat (first | (with_reducible first | exact HB.out | apply below_alloc | apply pw_below_drewN | apply below_drew1 | refine below_set ?_ GE101.out | refine below_set ?_ GE102.out) | exact HB.out)⟩⟩
       ·rw [if_neg c17] at H
        have c17b0 : (t111 == 0) = false := beq_eq_false_iff_ne.mpr c17
        have c17b1 : (t111 != 0) = true := bne_iff_ne.mpr c17
        obtain rfl := Option.some.inj H
        obtain ⟨Ao20, co20, eo20⟩ := Kd.R_slice HO_5.out
        subst eo20
        have p109 : 0 ≤ (x7_1 : Int) := odt_
        have q109 : x7_1 < (y103.length : Int) := odt_
        obtain ⟨ad109, e109, hx109_0⟩ := Kd.at_string (Kd.R_reads' HO_5.out).2.2 x7_1 p109 q109
        cases e109
        replace p109 := eq_true p109
        replace q109 := eq_true q109
        obtain ⟨Ao21, co21, eo21⟩ := Kd.R_slice HO_6.out
        subst eo21
        have p110 : 0 ≤ (x7_1 : Int) := odt_
        have q110 : x7_1 < (y106.length : Int) := odt_
        obtain ⟨ad110, e110, hx110_0⟩ := Kd.at_string (Kd.R_reads' HO_6.out).2.2 x7_1 p110 q110
        cases e110
        replace p110 := eq_true p110
        replace q110 := eq_true q110
        go_wp2_with (first | (go_at_call 67; (with_reducible refine (accountingref19_compare.calls (rdOf ByteArray.empty y103 x7_1) (rdOf ByteArray.empty y106 x7_1) t111 _ A16.out).mono ?_); rintro e w' ⟨rfl, ⟨nd, rfl⟩⟩; (try first | exact ⟨rfl, _, World.drewN_drewN _ _ _⟩ | exact ⟨rfl, _, Eq.trans (World.drewN_drewN _ _ _) (congrArg (World.drewN _) (Nat.add_assoc _ _ _))⟩)))
        repeat (go_quiet (first | (go_at_call 67; (with_reducible refine (accountingref19_compare.calls (rdOf ByteArray.empty y103 x7_1) (rdOf ByteArray.empty y106 x7_1) t111 _ A16.out).mono ?_); rintro e w' ⟨rfl, ⟨nd, rfl⟩⟩; (try first | exact ⟨rfl, _, World.drewN_drewN _ _ _⟩ | exact ⟨rfl, _, Eq.trans (World.drewN_drewN _ _ _) (congrArg (World.drewN _) (Nat.add_assoc _ _ _))⟩))); try go_wp2_with (first | (go_at_call 67; (with_reducible refine (accountingref19_compare.calls (rdOf ByteArray.empty y103 x7_1) (rdOf ByteArray.empty y106 x7_1) t111 _ A16.out).mono ?_); rintro e w' ⟨rfl, ⟨nd, rfl⟩⟩; (try first | exact ⟨rfl, _, World.drewN_drewN _ _ _⟩ | exact ⟨rfl, _, Eq.trans (World.drewN_drewN _ _ _) (congrArg (World.drewN _) (Nat.add_assoc _ _ _))⟩))))
        go_ret
        exact ⟨by first | rfl | (simp [errW_none, errW_some] <;> rfl) | (simp [*, errW_none, errW_some] <;> rfl), by repeat (first | (with_reducible first | exact HB.out | apply below_alloc | apply pw_below_drewN | apply below_drew1 | refine below_set ?_ GE101.out | refine below_set ?_ GE102.out) | exact HB.out)⟩
      ·rw [if_neg c15] at H
       exact absurd H (by simp)
     ·rw [if_neg c14] at H
      exact absurd H (by simp)
    ·rw [if_neg c13] at H
     exact absurd H (by simp)
   ·rw [if_neg c12] at H
    have c12b0 : decide (x7_1 < 5) = false := decide_eq_false c12
    clear c12
    obtain rfl := Option.some.inj H
    go_wp2
    repeat (go_quiet (fail); try go_wp2)
    go_ret
    exact ⟨by first | rfl | (simp [errW_none, errW_some] <;> rfl) | (simp [*, errW_none, errW_some] <;> rfl), by repeat (first | (with_reducible first | exact HB.out | apply below_alloc | apply pw_below_drewN | apply below_drew1 | refine below_set ?_ GE101.out | refine below_set ?_ GE102.out) | exact HB.out)⟩
attribute [local go_sem high] eqA32
mutual
def accountingref19_keys.l0 : Nat → List (S34) → List (S32) → Int → Option ((List (S32)))
 | 0, _, _, _ => none
 | k + 1, x0, x3, x4 => if x4 < (x0.length : Int) then (accountingref19_keys.l1 k x0 x3 x4 (x3.length : Int)) else (some x3)
def accountingref19_keys.j2 : Nat → List (S34) → List (S32) → Int → Int → Option ((List (S32)))
 | 0, _, _, _, _ => none
 | k + 1, x0, x3, x4, x5 => if x5 > 0 then (if 0 ≤ (wrap64 (x5 - 1)) then (if (wrap64 (x5 - 1)) < (x3.length : Int) then (if 0 ≤ x4 then (if x4 < (x0.length : Int) then (accountingref19_keys.j3 k x0 x3 x4 x5 ((((rd_T32 x3 (wrap64 (x5 - 1))).f0).toList) == (((rd_T34 x0 x4).f0.f0).toList) && ((((rd_T32 x3 (wrap64 (x5 - 1))).f1).toList) == (((rd_T34 x0 x4).f0.f1).toList) && ((((rd_T32 x3 (wrap64 (x5 - 1))).f2).toList) == (((rd_T34 x0 x4).f0.f2).toList) && ((((rd_T32 x3 (wrap64 (x5 - 1))).f3).toList) == (((rd_T34 x0 x4).f0.f3).toList) && ((((rd_T32 x3 (wrap64 (x5 - 1))).f4).toList) == (((rd_T34 x0 x4).f0.f4).toList))))))) else (none)) else (none)) else (none)) else (none)) else (accountingref19_keys.j3 k x0 x3 x4 x5 false)
def accountingref19_keys.j3 : Nat → List (S34) → List (S32) → Int → Int → Bool → Option ((List (S32)))
 | 0, _, _, _, _, _ => none
 | k + 1, x0, x3, x4, x5, x47 => if x47 = true then (accountingref19_keys.l0 k x0 x3 (wrap64 (x4 + 1))) else (if x3.length < 1759218604441 then ((some (x3 ++ [(⟨(⟨#[]⟩ : ByteArray), (⟨#[]⟩ : ByteArray), (⟨#[]⟩ : ByteArray), (⟨#[]⟩ : ByteArray), (⟨#[]⟩ : ByteArray)⟩ : S32)] : List (S32))).bind fun y117 => (accountingref19_keys.l2 k x0 y117 x4 x5 (wrap64 ((y117.length : Int) - 1)))) else (none))
def accountingref19_keys.l2 : Nat → List (S34) → List (S32) → Int → Int → Int → Option ((List (S32)))
 | 0, _, _, _, _, _ => none
 | k + 1, x0, x3, x4, x5, x6 => if x6 > x5 then (if 0 ≤ (wrap64 (x6 - 1)) then (if (wrap64 (x6 - 1)) < (x3.length : Int) then (if 0 ≤ x6 then (if x6 < (x3.length : Int) then (accountingref19_keys.l2 k x0 (x3.set (x6 : Int).toNat (⟨(rd_T32 x3 (wrap64 (x6 - 1))).f0, (rd_T32 x3 (wrap64 (x6 - 1))).f1, (rd_T32 x3 (wrap64 (x6 - 1))).f2, (rd_T32 x3 (wrap64 (x6 - 1))).f3, (rd_T32 x3 (wrap64 (x6 - 1))).f4⟩ : S32)) x4 x5 (wrap64 (x6 - 1))) else (none)) else (none)) else (none)) else (none)) else (if 0 ≤ x4 then (if x4 < (x0.length : Int) then (if 0 ≤ x5 then (if x5 < (x3.length : Int) then (accountingref19_keys.l0 k x0 (x3.set (x5 : Int).toNat (⟨(rd_T34 x0 x4).f0.f0, (rd_T34 x0 x4).f0.f1, (rd_T34 x0 x4).f0.f2, (rd_T34 x0 x4).f0.f3, (rd_T34 x0 x4).f0.f4⟩ : S32)) (wrap64 (x4 + 1))) else (none)) else (none)) else (none)) else (none))
def accountingref19_keys.l1 : Nat → List (S34) → List (S32) → Int → Int → Option ((List (S32)))
 | 0, _, _, _, _ => none
 | k + 1, x0, x3, x4, x5 => if x5 > 0 then (if 0 ≤ (wrap64 (x5 - 1)) then (if (wrap64 (x5 - 1)) < (x3.length : Int) then (if 0 ≤ x4 then (if x4 < (x0.length : Int) then ((accountingref19_Cmp.f k ((rd_T32 x3 (wrap64 (x5 - 1))).f0) ((rd_T32 x3 (wrap64 (x5 - 1))).f1) ((rd_T32 x3 (wrap64 (x5 - 1))).f2) ((rd_T32 x3 (wrap64 (x5 - 1))).f3) ((rd_T32 x3 (wrap64 (x5 - 1))).f4) ((rd_T34 x0 x4).f0.f0) ((rd_T34 x0 x4).f0.f1) ((rd_T34 x0 x4).f0.f2) ((rd_T34 x0 x4).f0.f3) ((rd_T34 x0 x4).f0.f4)).bind fun t114 => (if t114 > 0 then (accountingref19_keys.l1 k x0 x3 x4 (wrap64 (x5 - 1))) else (accountingref19_keys.j2 k x0 x3 x4 x5))) else (none)) else (none)) else (none)) else (none)) else (accountingref19_keys.j2 k x0 x3 x4 x5)
end
def accountingref19_keys.f (k : Nat) (l0 : List (S34)) : Option ((List (S32))) := accountingref19_keys.l0 k l0 ([] : List (S32)) 0
theorem accountingref19_keys.mono_l : ∀ k, (∀ y0 y1 y2, LeO (accountingref19_keys.l0 k y0 y1 y2) (accountingref19_keys.l0 (k + 1) y0 y1 y2)) ∧ (∀ y0 y1 y2 y3, LeO (accountingref19_keys.j2 k y0 y1 y2 y3) (accountingref19_keys.j2 (k + 1) y0 y1 y2 y3)) ∧ (∀ y0 y1 y2 y3 y4, LeO (accountingref19_keys.j3 k y0 y1 y2 y3 y4) (accountingref19_keys.j3 (k + 1) y0 y1 y2 y3 y4)) ∧ (∀ y0 y1 y2 y3 y4, LeO (accountingref19_keys.l2 k y0 y1 y2 y3 y4) (accountingref19_keys.l2 (k + 1) y0 y1 y2 y3 y4)) ∧ (∀ y0 y1 y2 y3, LeO (accountingref19_keys.l1 k y0 y1 y2 y3) (accountingref19_keys.l1 (k + 1) y0 y1 y2 y3))
 | 0 => ⟨fun _ _ _ r h => by simp [accountingref19_keys.l0] at h, fun _ _ _ _ r h => by simp [accountingref19_keys.j2] at h, fun _ _ _ _ _ r h => by simp [accountingref19_keys.j3] at h, fun _ _ _ _ _ r h => by simp [accountingref19_keys.l2] at h, fun _ _ _ _ r h => by simp [accountingref19_keys.l1] at h⟩
 | k + 1 => by
  obtain ⟨ih0, ih1, ih2, ih3, ih4⟩ := accountingref19_keys.mono_l k
  refine ⟨?_, ?_, ?_, ?_, ?_⟩
  ·intro y0 y1 y2
   unfold accountingref19_keys.l0
   repeat' first
   | (with_reducible exact ih0 _ _ _)
   | (with_reducible exact ih1 _ _ _ _)
   | (with_reducible exact ih2 _ _ _ _ _)
   | (with_reducible exact ih3 _ _ _ _ _)
   | (with_reducible exact ih4 _ _ _ _)
   | (with_reducible exact accountingref19_Cmp.mono _ _ _ _ _ _ _ _ _ _ _)
   | (with_reducible exact LeO.refl _)
   | (with_reducible exact LeO.none _)
   | (with_reducible refine LeO.ite ?_ ?_)
   | (with_reducible refine LeO.bind ?_ (fun _ => ?_))
   | exact ih0 _ _ _
   | exact ih1 _ _ _ _
   | exact ih2 _ _ _ _ _
   | exact ih3 _ _ _ _ _
   | exact ih4 _ _ _ _
   | exact accountingref19_Cmp.mono _ _ _ _ _ _ _ _ _ _ _
   | exact LeO.none _
   | refine LeO.ite ?_ ?_
   | refine LeO.bind ?_ (fun _ => ?_)
  ·intro y0 y1 y2 y3
   unfold accountingref19_keys.j2
   repeat' first
   | (with_reducible exact ih0 _ _ _)
   | (with_reducible exact ih1 _ _ _ _)
   | (with_reducible exact ih2 _ _ _ _ _)
   | (with_reducible exact ih3 _ _ _ _ _)
   | (with_reducible exact ih4 _ _ _ _)
   | (with_reducible exact accountingref19_Cmp.mono _ _ _ _ _ _ _ _ _ _ _)
   | (with_reducible exact LeO.refl _)
   | (with_reducible exact LeO.none _)
   | (with_reducible refine LeO.ite ?_ ?_)
   | (with_reducible refine LeO.bind ?_ (fun _ => ?_))
   | exact ih0 _ _ _
   | exact ih1 _ _ _ _
   | exact ih2 _ _ _ _ _
   | exact ih3 _ _ _ _ _
   | exact ih4 _ _ _ _
   | exact accountingref19_Cmp.mono _ _ _ _ _ _ _ _ _ _ _
   | exact LeO.none _
   | refine LeO.ite ?_ ?_
   | refine LeO.bind ?_ (fun _ => ?_)
  ·intro y0 y1 y2 y3 y4
   unfold accountingref19_keys.j3
   repeat' first
   | (with_reducible exact ih0 _ _ _)
   | (with_reducible exact ih1 _ _ _ _)
   | (with_reducible exact ih2 _ _ _ _ _)
   | (with_reducible exact ih3 _ _ _ _ _)
   | (with_reducible exact ih4 _ _ _ _)
   | (with_reducible exact accountingref19_Cmp.mono _ _ _ _ _ _ _ _ _ _ _)
   | (with_reducible exact LeO.refl _)
   | (with_reducible exact LeO.none _)
   | (with_reducible refine LeO.ite ?_ ?_)
   | (with_reducible refine LeO.bind ?_ (fun _ => ?_))
   | exact ih0 _ _ _
   | exact ih1 _ _ _ _
   | exact ih2 _ _ _ _ _
   | exact ih3 _ _ _ _ _
   | exact ih4 _ _ _ _
   | exact accountingref19_Cmp.mono _ _ _ _ _ _ _ _ _ _ _
   | exact LeO.none _
   | refine LeO.ite ?_ ?_
   | refine LeO.bind ?_ (fun _ => ?_)
  ·intro y0 y1 y2 y3 y4
   unfold accountingref19_keys.l2
   repeat' first
   | (with_reducible exact ih0 _ _ _)
   | (with_reducible exact ih1 _ _ _ _)
   | (with_reducible exact ih2 _ _ _ _ _)
   | (with_reducible exact ih3 _ _ _ _ _)
   | (with_reducible exact ih4 _ _ _ _)
   | (with_reducible exact accountingref19_Cmp.mono _ _ _ _ _ _ _ _ _ _ _)
   | (with_reducible exact LeO.refl _)
   | (with_reducible exact LeO.none _)
   | (with_reducible refine LeO.ite ?_ ?_)
   | (with_reducible refine LeO.bind ?_ (fun _ => ?_))
   | exact ih0 _ _ _
   | exact ih1 _ _ _ _
   | exact ih2 _ _ _ _ _
   | exact ih3 _ _ _ _ _
   | exact ih4 _ _ _ _
   | exact accountingref19_Cmp.mono _ _ _ _ _ _ _ _ _ _ _
   | exact LeO.none _
   | refine LeO.ite ?_ ?_
   | refine LeO.bind ?_ (fun _ => ?_)
  ·intro y0 y1 y2 y3
   unfold accountingref19_keys.l1
   repeat' first
   | (with_reducible exact ih0 _ _ _)
   | (with_reducible exact ih1 _ _ _ _)
   | (with_reducible exact ih2 _ _ _ _ _)
   | (with_reducible exact ih3 _ _ _ _ _)
   | (with_reducible exact ih4 _ _ _ _)
   | (with_reducible exact accountingref19_Cmp.mono _ _ _ _ _ _ _ _ _ _ _)
   | (with_reducible exact LeO.refl _)
   | (with_reducible exact LeO.none _)
   | (with_reducible refine LeO.ite ?_ ?_)
   | (with_reducible refine LeO.bind ?_ (fun _ => ?_))
   | exact ih0 _ _ _
   | exact ih1 _ _ _ _
   | exact ih2 _ _ _ _ _
   | exact ih3 _ _ _ _ _
   | exact ih4 _ _ _ _
   | exact accountingref19_Cmp.mono _ _ _ _ _ _ _ _ _ _ _
   | exact LeO.none _
   | refine LeO.ite ?_ ?_
   | refine LeO.bind ?_ (fun _ => ?_)
theorem accountingref19_keys.mono : ∀ a0 k, LeO (accountingref19_keys.f k a0) (accountingref19_keys.f (k + 1) a0) := by
 intro a0 k
 obtain ⟨ih0, ih1, ih2, ih3, ih4⟩ := accountingref19_keys.mono_l k
 unfold accountingref19_keys.f
 repeat' first
   | (with_reducible exact ih0 _ _ _)
   | (with_reducible exact ih1 _ _ _ _)
   | (with_reducible exact ih2 _ _ _ _ _)
   | (with_reducible exact ih3 _ _ _ _ _)
   | (with_reducible exact ih4 _ _ _ _)
   | (with_reducible exact accountingref19_Cmp.mono _ _ _ _ _ _ _ _ _ _ _)
   | (with_reducible exact LeO.refl _)
   | (with_reducible exact LeO.none _)
   | (with_reducible refine LeO.ite ?_ ?_)
   | (with_reducible refine LeO.bind ?_ (fun _ => ?_))
   | exact ih0 _ _ _
   | exact ih1 _ _ _ _
   | exact ih2 _ _ _ _ _
   | exact ih3 _ _ _ _ _
   | exact ih4 _ _ _ _
   | exact accountingref19_Cmp.mono _ _ _ _ _ _ _ _ _ _ _
   | exact LeO.none _
   | refine LeO.ite ?_ ?_
   | refine LeO.bind ?_ (fun _ => ?_)
def accountingref19_keys.T6 : Bool × List (List Nat × List Nat) := (true, [([], []), ([0], [0]), ([1], [1]), ([2], [2]), ([2], [2]), ([4, 2], [2, 4]), ([3, 5, 2], [2, 3, 5]), ([6, 2], [2, 6]), ([2], [2]), ([2], [2]), ([8, 9, 2], [2, 8, 9]), ([10, 2], [2, 10]), ([11, 2], [2, 11]), ([7, 12, 2, 2], [2, 7, 12]), ([13, 2], [2, 13]), ([2, 14], [2, 14])])
def accountingref19_keys.B6 : List Nat := [0, 1, 3, 7, 7, 23, 63, 127, 7, 7, 775, 1799, 3847, 8191, 16383, 32767]
theorem accountingref19_keys.tab6 : rtab .any (opsOf Try.f57 6) = accountingref19_keys.T6 := by kernel_rfl
theorem accountingref19_keys.bits6 : waitsOk accountingref19_keys.T6.2 accountingref19_keys.B6 = true := by kernel_rfl
def accountingref19_keys.T8 : Bool × List (List Nat × List Nat) := (true, [([], []), ([0], [0]), ([1], [1]), ([2], [2]), ([2], [2]), ([4, 2], [2, 4]), ([3, 5, 2], [2, 3, 5]), ([6, 2], [2, 6]), ([2], [2]), ([2], [2]), ([8, 9, 2], [2, 8, 9]), ([10, 2], [2, 10]), ([11, 2], [2, 11]), ([7, 12, 2], [2, 7, 12]), ([2, 13], [2, 13])])
def accountingref19_keys.B8 : List Nat := [0, 1, 3, 7, 7, 23, 63, 127, 7, 7, 775, 1799, 3847, 8191, 16383]
theorem accountingref19_keys.tab8 : rtab .any (opsOf Try.f57 8) = accountingref19_keys.T8 := by kernel_rfl
theorem accountingref19_keys.bits8 : waitsOk accountingref19_keys.T8.2 accountingref19_keys.B8 = true := by kernel_rfl
set_option maxHeartbeats 8000000 in
set_option maxRecDepth 100000 in
theorem accountingref19_keys.calls (k : Nat) (A0 : Option Addr) (c0 : Nat) (l0 : List (S34)) (r : List (S32)) (w : World) (hr0 : Kd.C k34 w A0 l0.length l0) (hc0 : l0.length ≤ c0) (h : accountingref19_keys.f k l0 = some r) :
  Calls Try.prog 57 #[.slice A0 l0.length c0] w fun e w' => ∃ v0_ : Value, e = .returned (v0_) ∧ Kd.R k32 32 w' w.heap.size (fun _ => True) v0_ r ∧ Below w.heap.size w w' := by
 have hu32 := Try.underlying32
 have HR0 := Aside0.mk hr0
 have HC0 := Aside0.mk hc0
 clear hr0 hc0
 have HB := Aside0.mk (Below.refl w.heap.size w)
 have H : (accountingref19_keys.l0 k l0 ([] : List (S32)) 0) = some r := h
 clear h
 have H' := Aside0.mk H
 clear H
 go_enter Try.func57, Try.ntmps57
 go_wp2
 go_loopg [3, 4] k (fun kq v3 v4 w' => ∃ (x3_1 : List (S32)) (x4_1 : Int), v4 = .int .i64 x4_1 ∧ Aside0 (accountingref19_keys.l0 kq l0 x3_1 x4_1 = some r) ∧ Aside0 (kq ≤ k) ∧ Aside0 (Kd.R k32 32 w' w.heap.size (fun _ => True) v3 x3_1) ∧ Aside0 (Below w.heap.size w w'))
 case atStart => exact ⟨(([] : List (S32))), (0), (by first | rfl | (simp; done) | (simp [*]; done)), H', ⟨Nat.le_refl _⟩, ⟨by first | exact Kd.R_nil _ _ _ _ _ | exact Kd.N_nil _ _ _ _ _ | exact Kd.V_nil _ _ _ _ _ | exact Kd.Q_nil _ _ _ _ _ | exact Kd.S_nil _ _ _ _ _⟩, ⟨by repeat (first | (with_reducible first | exact HB.out | apply below_alloc | apply pw_below_drewN | apply below_drew1) | exact HB.out)⟩⟩
 case round =>
  clear H'
  obtain ⟨x3_1, x4_1, rfl, HA, HK1, HO_3, HB⟩ := hrel
  cases gk with
  | zero => exact absurd HA.out (by simp [accountingref19_keys.l0])
  | succ k1 =>
   have H := HA.out
   clear HA
   simp only [accountingref19_keys.l0] at H
   by_cases c2 : x4_1 < (l0.length : Int)
   ·rw [if_pos c2] at H
    have c2b0 : decide (x4_1 < (l0.length : Int)) = true := decide_eq_true c2
    clear c2
    have HC3 := Aside0.mk H
    clear H
    obtain ⟨Ao4, co4, eo4⟩ := Kd.R_slice HO_3.out
    subst eo4
    go_upto_block 2 with (fail)
    go_cut [5] (fun v5 wc => ∃ (kq : Nat) (x5_2 : Int), v5 = .int .i64 x5_2 ∧ Aside0 (accountingref19_keys.j2 kq l0 x3_1 x4_1 x5_2 = some r) ∧ Aside0 (kq ≤ k1) ∧ Aside0 (Kd.R k32 32 wc w.heap.size (fun _ => True) (.slice Ao4 x3_1.length co4) x3_1) ∧ Aside0 (Below w.heap.size w wc))
    case first =>
     have H := HC3.out
     clear HC3
     have H' := Aside0.mk H
     clear H
     go_wp2
     go_loopg [5] k1 (fun kq v5 w' => ∃ (x5_2 : Int), v5 = .int .i64 x5_2 ∧ Aside0 (accountingref19_keys.l1 kq l0 x3_1 x4_1 x5_2 = some r) ∧ Aside0 (kq ≤ k1) ∧ Aside0 (Kd.R k32 32 w' w.heap.size (fun _ => True) (.slice Ao4 x3_1.length co4) x3_1) ∧ Aside0 (Below w.heap.size w w'))
     case atStart => exact ⟨((x3_1.length : Int)), (by first | rfl | (simp; done) | (simp [*]; done)), H', ⟨Nat.le_refl _⟩, ⟨by (with_reducible repeat (first | apply Kd.R_alloc | apply Kd.R_drewN | apply Kd.R_drew)); exact HO_3.out⟩, ⟨by repeat (first | (with_reducible first | exact HB.out | apply below_alloc | apply pw_below_drewN | apply below_drew1) | exact HB.out)⟩⟩
     case round =>
      clear H'
      try clear c2
      try clear c2b0
      try clear p2
      obtain ⟨x5_2, rfl, HA, HK2, HO_3, HB⟩ := hrel
      cases gk with
      | zero => exact absurd HA.out (by simp [accountingref19_keys.l1])
      | succ k2 =>
       have H := HA.out
       clear HA
       simp only [accountingref19_keys.l1] at H
       by_cases c5 : x5_2 > 0
       ·rw [if_pos c5] at H
        have c5b0 : decide (0 < x5_2) = true := decide_eq_true c5
        clear c5
        (first | rw [c5b0] | (simp only [i64_w, i32_w]; rw [c5b0]) | skip)
        obtain ⟨ji6, hji6⟩ : ∃ j_ : Int, (wrap64 (x5_2 - 1)) = j_ := ⟨_, rfl⟩
        replace H : (if 0 ≤ (ji6) then (if (ji6) < (x3_1.length : Int) then (if 0 ≤ x4_1 then (if x4_1 < (l0.length : Int) then ((accountingref19_Cmp.f k2 ((rd_T32 x3_1 (ji6)).f0) ((rd_T32 x3_1 (ji6)).f1) ((rd_T32 x3_1 (ji6)).f2) ((rd_T32 x3_1 (ji6)).f3) ((rd_T32 x3_1 (ji6)).f4) ((rd_T34 l0 x4_1).f0.f0) ((rd_T34 l0 x4_1).f0.f1) ((rd_T34 l0 x4_1).f0.f2) ((rd_T34 l0 x4_1).f0.f3) ((rd_T34 l0 x4_1).f0.f4)).bind fun t114 => (if t114 > 0 then (accountingref19_keys.l1 k2 l0 x3_1 x4_1 ji6) else (accountingref19_keys.j2 k2 l0 x3_1 x4_1 x5_2))) else (none)) else (none)) else (none)) else (none)) = some r := by first | (rw [hji6] at H; exact H) | (simp only [hji6] at H ⊢; exact H)
        have hji6w : (IntKind.i64.wrap (x5_2 - 1)) = ji6 := (i64_w _).trans hji6
        by_cases c7 : 0 ≤ (ji6)
        ·rw [if_pos c7] at H
         have c7b0 : decide (0 ≤ (ji6)) = true := decide_eq_true c7
         clear c7
         by_cases c8 : (ji6) < (x3_1.length : Int)
         ·rw [if_pos c8] at H
          have c8b0 : decide ((ji6) < (x3_1.length : Int)) = true := decide_eq_true c8
          clear c8
          by_cases c9 : 0 ≤ x4_1
          ·rw [if_pos c9] at H
           have c9b0 : decide (0 ≤ x4_1) = true := decide_eq_true c9
           clear c9
           by_cases c10 : x4_1 < (l0.length : Int)
           ·rw [if_pos c10] at H
            have c10b0 : decide (x4_1 < (l0.length : Int)) = true := decide_eq_true c10
            clear c10
            replace H := Option.bind_eq_some_iff.mp H
            obtain ⟨t114, A110, H⟩ := H
            try dsimp only at H
            have A11 := Aside0.mk A110
            clear A110
            by_cases c12 : t114 > 0
            ·rw [if_pos c12] at H
             have c12b0 : decide (0 < t114) = true := decide_eq_true c12
             clear c12
             have H' := Aside0.mk H
             clear H
             try go_wp2
             have n0_ := Aside0.mk (Kd.R_drew HO_3.out)
             have n1_ := Aside0.mk (below_drew1 HB.out)
             clear HO_3
             clear HB
             have HO_3 := n0_
             have HB := n1_
             clear n0_ n1_
             have p112 : 0 ≤ ((ji6) : Int) := odt_
             have q112 : (ji6) < (x3_1.length : Int) := odt_
             obtain ⟨ad112, e112, hx112_0, hx112_1, hx112_2, hx112_3, hx112_4⟩ := at_T32 (Kd.R_reads' HO_3.out).2.2 (ji6) p112 q112
             cases e112
             replace p112 := eq_true p112
             replace q112 := eq_true q112
             have p113 : 0 ≤ (x4_1 : Int) := odt_
             have q113 : x4_1 < (l0.length : Int) := odt_
             obtain ⟨ad113, e113, hx113_0, hx113_1, hx113_2, hx113_3, hx113_4, hx113_5, hx113_6⟩ := at_T34 HR0.out x4_1 p113 q113
             have hw113_6 := hx113_6
             have hw113_5 := hx113_5
             have hw113_4 := hx113_4
             have hw113_3 := hx113_3
             have hw113_2 := hx113_2
             have hw113_1 := hx113_1
             have hw113_0 := hx113_0
             cases e113
             replace hx113_0 := bcl_ HB hx113_0
             replace hx113_1 := bcl_ HB hx113_1
             replace hx113_2 := bcl_ HB hx113_2
             replace hx113_3 := bcl_ HB hx113_3
             replace hx113_4 := bcl_ HB hx113_4
             replace hx113_5 := bcl_ HB hx113_5
             replace hx113_6 := bcl_ HB hx113_6
             replace p113 := eq_true p113
             replace q113 := eq_true q113
             refine start_ (n := 16) (S := fun w' => w'.cell? (ad112.add (((ji6)).toNat * 5)) = some (.string ((rd_T32 x3_1 (ji6)).f0)) ∧ w'.cell? ⟨(ad112.add (((ji6)).toNat * 5)).block, (ad112.add (((ji6)).toNat * 5)).off + 1, none⟩ = some (.string ((rd_T32 x3_1 (ji6)).f1)) ∧ w'.cell? ⟨(ad112.add (((ji6)).toNat * 5)).block, (ad112.add (((ji6)).toNat * 5)).off + 2, none⟩ = some (.string ((rd_T32 x3_1 (ji6)).f2)) ∧ w'.cell? ⟨(ad112.add (((ji6)).toNat * 5)).block, (ad112.add (((ji6)).toNat * 5)).off + 3, none⟩ = some (.string ((rd_T32 x3_1 (ji6)).f3)) ∧ w'.cell? ⟨(ad112.add (((ji6)).toNat * 5)).block, (ad112.add (((ji6)).toNat * 5)).off + 4, none⟩ = some (.string ((rd_T32 x3_1 (ji6)).f4)) ∧ w'.cell? (ad113.add ((x4_1).toNat * 7)) = some (.string ((rd_T34 l0 x4_1).f0.f0)) ∧ w'.cell? ⟨(ad113.add ((x4_1).toNat * 7)).block, (ad113.add ((x4_1).toNat * 7)).off + 1, none⟩ = some (.string ((rd_T34 l0 x4_1).f0.f1)) ∧ w'.cell? ⟨(ad113.add ((x4_1).toNat * 7)).block, (ad113.add ((x4_1).toNat * 7)).off + 2, none⟩ = some (.string ((rd_T34 l0 x4_1).f0.f2)) ∧ w'.cell? ⟨(ad113.add ((x4_1).toNat * 7)).block, (ad113.add ((x4_1).toNat * 7)).off + 3, none⟩ = some (.string ((rd_T34 l0 x4_1).f0.f3)) ∧ w'.cell? ⟨(ad113.add ((x4_1).toNat * 7)).block, (ad113.add ((x4_1).toNat * 7)).off + 4, none⟩ = some (.string ((rd_T34 l0 x4_1).f0.f4)) ∧ w'.cell? ⟨(ad113.add ((x4_1).toNat * 7)).block, (ad113.add ((x4_1).toNat * 7)).off + 5, none⟩ = some (.int .i64 ((rd_T34 l0 x4_1).f1)) ∧ w'.cell? ⟨(ad113.add ((x4_1).toNat * 7)).block, (ad113.add ((x4_1).toNat * 7)).off + 6, none⟩ = some (.int .i64 ((rd_T34 l0 x4_1).f2))) (ds := []) #[false, false, false, false, false, false, false, false, false, false, false, false, false, false, false, false] (by kernel_rfl) rfl rfl ⟨hx112_0, hx112_1, hx112_2, hx112_3, hx112_4, ((HB.out.cell (World.block_lt_of_cell? w _ hw113_0)).trans hw113_0), ((HB.out.cell (World.block_lt_of_cell? w _ hw113_1)).trans hw113_1), ((HB.out.cell (World.block_lt_of_cell? w _ hw113_2)).trans hw113_2), ((HB.out.cell (World.block_lt_of_cell? w _ hw113_3)).trans hw113_3), ((HB.out.cell (World.block_lt_of_cell? w _ hw113_4)).trans hw113_4), ((HB.out.cell (World.block_lt_of_cell? w _ hw113_5)).trans hw113_5), ((HB.out.cell (World.block_lt_of_cell? w _ hw113_6)).trans hw113_6)⟩ (fun hHeld => ?_); refine with_tabW accountingref19_keys.tab6 accountingref19_keys.bits6 (fun HT_ HW_ => ?_)
             generalize wr.drew = w13 at HO_3 HB hx112_0 hx112_1 hx112_2 hx112_3 hx112_4 hx113_0 hx113_1 hx113_2 hx113_3 hx113_4 hx113_5 hx113_6 hHeld ⊢
             refine pu_ 0 (some 15) (btz 16 1) HT_ ?_
             refine pu_ 1 (some 16) (btz 16 3) HT_ ?_
             refine pu_ 2 (some 17) (btz 16 7) HT_ ?_
             refine pu_ 3 (some 18) (btz 16 15) HT_ ?_
             refine pu_ 4 (some 19) (btz 16 31) HT_ ?_
             refine pu_ 5 (some 20) (btz 16 63) HT_ ?_
             refine pu_ 6 (some 21) (btz 16 127) HT_ ?_
             refine pu_ 8 (some 23) (btz 16 383) HT_ ?_
             refine pu_ 9 (some 24) (btz 16 895) HT_ ?_
             refine pu_ 10 (some 25) (btz 16 1919) HT_ ?_
             refine pu_ 11 (some 26) (btz 16 3967) HT_ ?_
             refine ta_ 7 (some 22) (btz 16 4095) HT_ HW_ hHeld rfl rfl (by rintro w' ⟨s0, s1, s2, s3, s4, s5, s6, s7, s8, s9, s10, s11⟩; go_simp; with_reducible rfl) ?_
             refine ta_ 12 (some 27) (btz 16 8191) HT_ HW_ hHeld rfl rfl (by rintro w' ⟨s0, s1, s2, s3, s4, s5, s6, s7, s8, s9, s10, s11⟩; go_simp; with_reducible rfl) ?_
             refine one_ (i := 13) (N := some 28) #[true, true, true, true, true, true, true, true, true, true, true, true, true, true, false, false] rfl rfl (one_of HT_.out (by kernel_rfl)) (by decide) (fun K hK => ?_)
             refine goes_ Try.func30 (by kernel_rfl) rfl #[.agg #[.string ((rd_T32 x3_1 (ji6)).f0), .string ((rd_T32 x3_1 (ji6)).f1), .string ((rd_T32 x3_1 (ji6)).f2), .string ((rd_T32 x3_1 (ji6)).f3), .string ((rd_T32 x3_1 (ji6)).f4)], .agg #[.string ((rd_T34 l0 x4_1).f0.f0), .string ((rd_T34 l0 x4_1).f0.f1), .string ((rd_T34 l0 x4_1).f0.f2), .string ((rd_T34 l0 x4_1).f0.f3), .string ((rd_T34 l0 x4_1).f0.f4)]] (by rfl) rfl rfl (by (try simp only [List.map_toArray, List.map_cons, List.map_nil]); first | done | (simp only [hji6]; rfl) | rfl | (simp only [List.length_drop, List.length_take]; rfl)) ?_
             with_reducible refine (accountingref19_Cmp.calls k2 ((rd_T32 x3_1 (ji6)).f0) ((rd_T32 x3_1 (ji6)).f1) ((rd_T32 x3_1 (ji6)).f2) ((rd_T32 x3_1 (ji6)).f3) ((rd_T32 x3_1 (ji6)).f4) ((rd_T34 l0 x4_1).f0.f0) ((rd_T34 l0 x4_1).f0.f1) ((rd_T34 l0 x4_1).f0.f2) ((rd_T34 l0 x4_1).f0.f3) ((rd_T34 l0 x4_1).f0.f4) t114 _ A11.out).mono ?_
             rintro e w14 ⟨rfl, hb⟩
             have HS0_ := (hb.cell (World.block_lt_of_cell? _ _ (hHeld.1))).trans (hHeld.1)
             have HS1_ := (hb.cell (World.block_lt_of_cell? _ _ (hHeld.2.1))).trans (hHeld.2.1)
             have HS2_ := (hb.cell (World.block_lt_of_cell? _ _ (hHeld.2.2.1))).trans (hHeld.2.2.1)
             have HS3_ := (hb.cell (World.block_lt_of_cell? _ _ (hHeld.2.2.2.1))).trans (hHeld.2.2.2.1)
             have HS4_ := (hb.cell (World.block_lt_of_cell? _ _ (hHeld.2.2.2.2.1))).trans (hHeld.2.2.2.2.1)
             refine ⟨_, rfl, ?_⟩
             have n0_ := Aside0.mk (Kd.R_below (by (with_reducible repeat (first | apply Kd.R_alloc | apply Kd.R_drewN | apply Kd.R_drew)); exact HO_3.out) hb)
             have n1_ := Aside0.mk (below_step (by repeat (first | (with_reducible first | exact HB.out | apply below_alloc | apply pw_below_drewN | apply below_drew1) | exact HB.out)) hb)
             clear HO_3
             clear HB
             have HO_3 := n0_
             have HB := n1_
             clear n0_ n1_
             (try clear hb)
             (try clear hb2)
             (try clear hk)
             (try clear hi)
             refine hK.out _ _ ⟨HS0_, HS1_, HS2_, HS3_, HS4_, ((HB.out.cell (World.block_lt_of_cell? w _ hw113_0)).trans hw113_0), ((HB.out.cell (World.block_lt_of_cell? w _ hw113_1)).trans hw113_1), ((HB.out.cell (World.block_lt_of_cell? w _ hw113_2)).trans hw113_2), ((HB.out.cell (World.block_lt_of_cell? w _ hw113_3)).trans hw113_3), ((HB.out.cell (World.block_lt_of_cell? w _ hw113_4)).trans hw113_4), ((HB.out.cell (World.block_lt_of_cell? w _ hw113_5)).trans hw113_5), ((HB.out.cell (World.block_lt_of_cell? w _ hw113_6)).trans hw113_6)⟩ (fun hHeld => ?_)
             clear hK K
             refine norm_ (a' := ?_) ?_ ?_
             rotate_left
             ·show Act.put _ (some 28) _ = _
              simp only [Act.put, List.setIfInBounds_toArray, List.set_cons_zero, List.set_cons_succ, i64_w, i32_w]
              rfl
             refine pu_ 14 (some 29) (btz 16 32767) HT_ ?_
             refine pu_ 15 (some 30) (btz 16 65535) HT_ ?_
             refine done_ (done_of HT_.out (by kernel_rfl)) ?_
             try go_wp2
             go_roundg k2
             case measure => have := HK1.out; have := HK2.out; omega
             case rel => exact ⟨(ji6), (by first | rfl | (simp; done) | (simp only [← hji6] <;> (first | rfl | simp)) | (simp [*]; done)), H', ⟨by have := HK1.out; have := HK2.out; omega⟩, ⟨by (with_reducible repeat (first | apply Kd.R_alloc | apply Kd.R_drewN | apply Kd.R_drew)); exact HO_3.out⟩, ⟨by repeat (first | (with_reducible first | exact HB.out | apply below_alloc | apply pw_below_drewN | apply below_drew1) | exact HB.out)⟩⟩
            ·rw [if_neg c12] at H
             have c12b0 : decide (0 < t114) = false := decide_eq_false c12
             clear c12
             have H' := Aside0.mk H
             clear H
             try go_wp2
             have n0_ := Aside0.mk (Kd.R_drew HO_3.out)
             have n1_ := Aside0.mk (below_drew1 HB.out)
             clear HO_3
             clear HB
             have HO_3 := n0_
             have HB := n1_
             clear n0_ n1_
             have p112 : 0 ≤ ((ji6) : Int) := odt_
             have q112 : (ji6) < (x3_1.length : Int) := odt_
             obtain ⟨ad112, e112, hx112_0, hx112_1, hx112_2, hx112_3, hx112_4⟩ := at_T32 (Kd.R_reads' HO_3.out).2.2 (ji6) p112 q112
             cases e112
             replace p112 := eq_true p112
             replace q112 := eq_true q112
             have p113 : 0 ≤ (x4_1 : Int) := odt_
             have q113 : x4_1 < (l0.length : Int) := odt_
             obtain ⟨ad113, e113, hx113_0, hx113_1, hx113_2, hx113_3, hx113_4, hx113_5, hx113_6⟩ := at_T34 HR0.out x4_1 p113 q113
             have hw113_6 := hx113_6
             have hw113_5 := hx113_5
             have hw113_4 := hx113_4
             have hw113_3 := hx113_3
             have hw113_2 := hx113_2
             have hw113_1 := hx113_1
             have hw113_0 := hx113_0
             cases e113
             replace hx113_0 := bcl_ HB hx113_0
             replace hx113_1 := bcl_ HB hx113_1
             replace hx113_2 := bcl_ HB hx113_2
             replace hx113_3 := bcl_ HB hx113_3
             replace hx113_4 := bcl_ HB hx113_4
             replace hx113_5 := bcl_ HB hx113_5
             replace hx113_6 := bcl_ HB hx113_6
             replace p113 := eq_true p113
             replace q113 := eq_true q113
             refine start_ (n := 16) (S := fun w' => w'.cell? (ad112.add (((ji6)).toNat * 5)) = some (.string ((rd_T32 x3_1 (ji6)).f0)) ∧ w'.cell? ⟨(ad112.add (((ji6)).toNat * 5)).block, (ad112.add (((ji6)).toNat * 5)).off + 1, none⟩ = some (.string ((rd_T32 x3_1 (ji6)).f1)) ∧ w'.cell? ⟨(ad112.add (((ji6)).toNat * 5)).block, (ad112.add (((ji6)).toNat * 5)).off + 2, none⟩ = some (.string ((rd_T32 x3_1 (ji6)).f2)) ∧ w'.cell? ⟨(ad112.add (((ji6)).toNat * 5)).block, (ad112.add (((ji6)).toNat * 5)).off + 3, none⟩ = some (.string ((rd_T32 x3_1 (ji6)).f3)) ∧ w'.cell? ⟨(ad112.add (((ji6)).toNat * 5)).block, (ad112.add (((ji6)).toNat * 5)).off + 4, none⟩ = some (.string ((rd_T32 x3_1 (ji6)).f4)) ∧ w'.cell? (ad113.add ((x4_1).toNat * 7)) = some (.string ((rd_T34 l0 x4_1).f0.f0)) ∧ w'.cell? ⟨(ad113.add ((x4_1).toNat * 7)).block, (ad113.add ((x4_1).toNat * 7)).off + 1, none⟩ = some (.string ((rd_T34 l0 x4_1).f0.f1)) ∧ w'.cell? ⟨(ad113.add ((x4_1).toNat * 7)).block, (ad113.add ((x4_1).toNat * 7)).off + 2, none⟩ = some (.string ((rd_T34 l0 x4_1).f0.f2)) ∧ w'.cell? ⟨(ad113.add ((x4_1).toNat * 7)).block, (ad113.add ((x4_1).toNat * 7)).off + 3, none⟩ = some (.string ((rd_T34 l0 x4_1).f0.f3)) ∧ w'.cell? ⟨(ad113.add ((x4_1).toNat * 7)).block, (ad113.add ((x4_1).toNat * 7)).off + 4, none⟩ = some (.string ((rd_T34 l0 x4_1).f0.f4)) ∧ w'.cell? ⟨(ad113.add ((x4_1).toNat * 7)).block, (ad113.add ((x4_1).toNat * 7)).off + 5, none⟩ = some (.int .i64 ((rd_T34 l0 x4_1).f1)) ∧ w'.cell? ⟨(ad113.add ((x4_1).toNat * 7)).block, (ad113.add ((x4_1).toNat * 7)).off + 6, none⟩ = some (.int .i64 ((rd_T34 l0 x4_1).f2))) (ds := []) #[false, false, false, false, false, false, false, false, false, false, false, false, false, false, false, false] (by kernel_rfl) rfl rfl ⟨hx112_0, hx112_1, hx112_2, hx112_3, hx112_4, ((HB.out.cell (World.block_lt_of_cell? w _ hw113_0)).trans hw113_0), ((HB.out.cell (World.block_lt_of_cell? w _ hw113_1)).trans hw113_1), ((HB.out.cell (World.block_lt_of_cell? w _ hw113_2)).trans hw113_2), ((HB.out.cell (World.block_lt_of_cell? w _ hw113_3)).trans hw113_3), ((HB.out.cell (World.block_lt_of_cell? w _ hw113_4)).trans hw113_4), ((HB.out.cell (World.block_lt_of_cell? w _ hw113_5)).trans hw113_5), ((HB.out.cell (World.block_lt_of_cell? w _ hw113_6)).trans hw113_6)⟩ (fun hHeld => ?_); refine with_tabW accountingref19_keys.tab6 accountingref19_keys.bits6 (fun HT_ HW_ => ?_)
             generalize wr.drew = w15 at HO_3 HB hx112_0 hx112_1 hx112_2 hx112_3 hx112_4 hx113_0 hx113_1 hx113_2 hx113_3 hx113_4 hx113_5 hx113_6 hHeld ⊢
             refine pu_ 0 (some 15) (btz 16 1) HT_ ?_
             refine pu_ 1 (some 16) (btz 16 3) HT_ ?_
             refine pu_ 2 (some 17) (btz 16 7) HT_ ?_
             refine pu_ 3 (some 18) (btz 16 15) HT_ ?_
             refine pu_ 4 (some 19) (btz 16 31) HT_ ?_
             refine pu_ 5 (some 20) (btz 16 63) HT_ ?_
             refine pu_ 6 (some 21) (btz 16 127) HT_ ?_
             refine pu_ 8 (some 23) (btz 16 383) HT_ ?_
             refine pu_ 9 (some 24) (btz 16 895) HT_ ?_
             refine pu_ 10 (some 25) (btz 16 1919) HT_ ?_
             refine pu_ 11 (some 26) (btz 16 3967) HT_ ?_
             refine ta_ 7 (some 22) (btz 16 4095) HT_ HW_ hHeld rfl rfl (by rintro w' ⟨s0, s1, s2, s3, s4, s5, s6, s7, s8, s9, s10, s11⟩; go_simp; with_reducible rfl) ?_
             refine ta_ 12 (some 27) (btz 16 8191) HT_ HW_ hHeld rfl rfl (by rintro w' ⟨s0, s1, s2, s3, s4, s5, s6, s7, s8, s9, s10, s11⟩; go_simp; with_reducible rfl) ?_
             refine one_ (i := 13) (N := some 28) #[true, true, true, true, true, true, true, true, true, true, true, true, true, true, false, false] rfl rfl (one_of HT_.out (by kernel_rfl)) (by decide) (fun K hK => ?_)
             refine goes_ Try.func30 (by kernel_rfl) rfl #[.agg #[.string ((rd_T32 x3_1 (ji6)).f0), .string ((rd_T32 x3_1 (ji6)).f1), .string ((rd_T32 x3_1 (ji6)).f2), .string ((rd_T32 x3_1 (ji6)).f3), .string ((rd_T32 x3_1 (ji6)).f4)], .agg #[.string ((rd_T34 l0 x4_1).f0.f0), .string ((rd_T34 l0 x4_1).f0.f1), .string ((rd_T34 l0 x4_1).f0.f2), .string ((rd_T34 l0 x4_1).f0.f3), .string ((rd_T34 l0 x4_1).f0.f4)]] (by rfl) rfl rfl (by (try simp only [List.map_toArray, List.map_cons, List.map_nil]); first | done | (simp only [hji6]; rfl) | rfl | (simp only [List.length_drop, List.length_take]; rfl)) ?_
             with_reducible refine (accountingref19_Cmp.calls k2 ((rd_T32 x3_1 (ji6)).f0) ((rd_T32 x3_1 (ji6)).f1) ((rd_T32 x3_1 (ji6)).f2) ((rd_T32 x3_1 (ji6)).f3) ((rd_T32 x3_1 (ji6)).f4) ((rd_T34 l0 x4_1).f0.f0) ((rd_T34 l0 x4_1).f0.f1) ((rd_T34 l0 x4_1).f0.f2) ((rd_T34 l0 x4_1).f0.f3) ((rd_T34 l0 x4_1).f0.f4) t114 _ A11.out).mono ?_
             rintro e w16 ⟨rfl, hb⟩
             have HS0_ := (hb.cell (World.block_lt_of_cell? _ _ (hHeld.1))).trans (hHeld.1)
             have HS1_ := (hb.cell (World.block_lt_of_cell? _ _ (hHeld.2.1))).trans (hHeld.2.1)
             have HS2_ := (hb.cell (World.block_lt_of_cell? _ _ (hHeld.2.2.1))).trans (hHeld.2.2.1)
             have HS3_ := (hb.cell (World.block_lt_of_cell? _ _ (hHeld.2.2.2.1))).trans (hHeld.2.2.2.1)
             have HS4_ := (hb.cell (World.block_lt_of_cell? _ _ (hHeld.2.2.2.2.1))).trans (hHeld.2.2.2.2.1)
             refine ⟨_, rfl, ?_⟩
             have n0_ := Aside0.mk (Kd.R_below (by (with_reducible repeat (first | apply Kd.R_alloc | apply Kd.R_drewN | apply Kd.R_drew)); exact HO_3.out) hb)
             have n1_ := Aside0.mk (below_step (by repeat (first | (with_reducible first | exact HB.out | apply below_alloc | apply pw_below_drewN | apply below_drew1) | exact HB.out)) hb)
             clear HO_3
             clear HB
             have HO_3 := n0_
             have HB := n1_
             clear n0_ n1_
             (try clear hb)
             (try clear hb2)
             (try clear hk)
             (try clear hi)
             refine hK.out _ _ ⟨HS0_, HS1_, HS2_, HS3_, HS4_, ((HB.out.cell (World.block_lt_of_cell? w _ hw113_0)).trans hw113_0), ((HB.out.cell (World.block_lt_of_cell? w _ hw113_1)).trans hw113_1), ((HB.out.cell (World.block_lt_of_cell? w _ hw113_2)).trans hw113_2), ((HB.out.cell (World.block_lt_of_cell? w _ hw113_3)).trans hw113_3), ((HB.out.cell (World.block_lt_of_cell? w _ hw113_4)).trans hw113_4), ((HB.out.cell (World.block_lt_of_cell? w _ hw113_5)).trans hw113_5), ((HB.out.cell (World.block_lt_of_cell? w _ hw113_6)).trans hw113_6)⟩ (fun hHeld => ?_)
             clear hK K
             refine norm_ (a' := ?_) ?_ ?_
             rotate_left
             ·show Act.put _ (some 28) _ = _
              simp only [Act.put, List.setIfInBounds_toArray, List.set_cons_zero, List.set_cons_succ, i64_w, i32_w]
              rfl
             refine pu_ 14 (some 29) (btz 16 32767) HT_ ?_
             refine pu_ 15 (some 30) (btz 16 65535) HT_ ?_
             refine done_ (done_of HT_.out (by kernel_rfl)) ?_
             try go_wp2
             go_meet
             case rel => exact ⟨_, (x5_2), (by first | rfl | (simp; done) | (simp [*]; done)), H', ⟨by have := HK1.out; have := HK2.out; first | omega | exact Nat.le_refl _⟩, ⟨by (with_reducible repeat (first | apply Kd.R_alloc | apply Kd.R_drewN | apply Kd.R_drew)); exact HO_3.out⟩, ⟨by repeat (first | (with_reducible first | exact HB.out | apply below_alloc | apply pw_below_drewN | apply below_drew1) | exact HB.out)⟩⟩
           ·rw [if_neg c10] at H
            exact absurd H (by simp)
          ·rw [if_neg c9] at H
           exact absurd H (by simp)
         ·rw [if_neg c8] at H
          exact absurd H (by simp)
        ·rw [if_neg c7] at H
         exact absurd H (by simp)
       ·rw [if_neg c5] at H
        have c5b0 : decide (0 < x5_2) = false := decide_eq_false c5
        clear c5
        (first | rw [c5b0] | (simp only [i64_w, i32_w]; rw [c5b0]) | skip)
        have H' := Aside0.mk H
        clear H
        try go_wp2
        have n0_ := Aside0.mk (Kd.R_drew HO_3.out)
        have n1_ := Aside0.mk (below_drew1 HB.out)
        clear HO_3
        clear HB
        have HO_3 := n0_
        have HB := n1_
        clear n0_ n1_
        refine start_ (n := 16) (S := fun w' => True) (ds := []) #[false, false, false, false, false, false, false, false, false, false, false, false, false, false, false, false] (by kernel_rfl) rfl rfl trivial (fun hHeld => ?_); refine with_tabW accountingref19_keys.tab6 accountingref19_keys.bits6 (fun HT_ HW_ => ?_)
        generalize wr.drew = w17 at HO_3 HB hHeld ⊢
        refine pu_ 0 (some 15) (btz 16 1) HT_ ?_
        refine pu_ 1 (some 16) (btz 16 3) HT_ ?_
        refine pu_ 2 (some 17) (btz 16 7) HT_ ?_
        refine un_ 3 (some 18) (btz 16 15) HT_ ?_
        refine un_ 4 (some 19) (btz 16 31) HT_ ?_
        refine un_ 5 (some 20) (btz 16 63) HT_ ?_
        refine un_ 6 (some 21) (btz 16 127) HT_ ?_
        refine un_ 7 (some 22) (btz 16 255) HT_ ?_
        refine un_ 8 (some 23) (btz 16 511) HT_ ?_
        refine un_ 9 (some 24) (btz 16 1023) HT_ ?_
        refine un_ 10 (some 25) (btz 16 2047) HT_ ?_
        refine un_ 11 (some 26) (btz 16 4095) HT_ ?_
        refine un_ 12 (some 27) (btz 16 8191) HT_ ?_
        refine un_ 13 (some 28) (btz 16 16383) HT_ ?_
        refine un_ 14 (some 29) (btz 16 32767) HT_ ?_
        refine pu_ 15 (some 30) (btz 16 65535) HT_ ?_
        refine done_ (done_of HT_.out (by kernel_rfl)) ?_
        try go_wp2
        go_meet
        case rel => exact ⟨_, (x5_2), (by first | rfl | (simp; done) | (simp [*]; done)), H', ⟨by have := HK1.out; have := HK2.out; first | omega | exact Nat.le_refl _⟩, ⟨by (with_reducible repeat (first | apply Kd.R_alloc | apply Kd.R_drewN | apply Kd.R_drew)); exact HO_3.out⟩, ⟨by repeat (first | (with_reducible first | exact HB.out | apply below_alloc | apply pw_below_drewN | apply below_drew1) | exact HB.out)⟩⟩
    case rest =>
     clear HC3
     try clear c1
     try clear p1
     try clear q1
     try clear hx1
     try clear c2
     try clear c2b0
     try clear p2
     try clear c3
     try clear c5
     try clear c5b0
     try clear p6
     try clear c7
     try clear c7b0
     try clear c8
     try clear c8b0
     try clear c9
     try clear c9b0
     try clear c10
     try clear c10b0
     try clear p11
     try clear q11
     try clear hx11
     try clear c12
     try clear c12b0
     try clear hx112_0
     try clear hx112_1
     try clear hx112_2
     try clear hx112_3
     try clear hx112_4
     try clear hx113_0
     try clear hx113_1
     try clear hx113_2
     try clear hx113_3
     try clear hx113_4
     try clear hx113_5
     try clear hx113_6
     try clear p112
     try clear p113
     try clear p2
     try clear q112
     try clear q113
     obtain ⟨kq, x5_2, rfl, HA, HJ2, HO_3, HB⟩ := hcut
     cases kq with
     | zero => exact absurd HA.out (by simp [accountingref19_keys.j2])
     | succ kj2 =>
      have H := HA.out
      clear HA
      simp only [accountingref19_keys.j2] at H
      have HC18 := Aside0.mk H
      clear H
      go_upto_region 8 with (fail)
      go_cut [47] (fun v47 wc => ∃ (kq : Nat) (x47_17 : Bool), v47 = .bool x47_17 ∧ Aside0 (accountingref19_keys.j3 kq l0 x3_1 x4_1 x5_2 x47_17 = some r) ∧ Aside0 (kq ≤ kj2) ∧ Aside0 (Kd.R k32 32 wc w.heap.size (fun _ => True) (.slice Ao4 x3_1.length co4) x3_1) ∧ Aside0 (Below w.heap.size w wc))
      case first =>
       have H := HC18.out
       clear HC18
       by_cases c19 : x5_2 > 0
       ·rw [if_pos c19] at H
        have c19b0 : decide (0 < x5_2) = true := decide_eq_true c19
        clear c19
        (first | rw [c19b0] | (simp only [i64_w, i32_w]; rw [c19b0]) | skip)
        obtain ⟨ji20, hji20⟩ : ∃ j_ : Int, (wrap64 (x5_2 - 1)) = j_ := ⟨_, rfl⟩
        replace H : (if 0 ≤ (ji20) then (if (ji20) < (x3_1.length : Int) then (if 0 ≤ x4_1 then (if x4_1 < (l0.length : Int) then (accountingref19_keys.j3 kj2 l0 x3_1 x4_1 x5_2 ((((rd_T32 x3_1 (ji20)).f0).toList) == (((rd_T34 l0 x4_1).f0.f0).toList) && ((((rd_T32 x3_1 (ji20)).f1).toList) == (((rd_T34 l0 x4_1).f0.f1).toList) && ((((rd_T32 x3_1 (ji20)).f2).toList) == (((rd_T34 l0 x4_1).f0.f2).toList) && ((((rd_T32 x3_1 (ji20)).f3).toList) == (((rd_T34 l0 x4_1).f0.f3).toList) && ((((rd_T32 x3_1 (ji20)).f4).toList) == (((rd_T34 l0 x4_1).f0.f4).toList))))))) else (none)) else (none)) else (none)) else (none)) = some r := by first | (rw [hji20] at H; exact H) | (simp only [hji20] at H ⊢; exact H)
        have hji20w : (IntKind.i64.wrap (x5_2 - 1)) = ji20 := (i64_w _).trans hji20
        by_cases c21 : 0 ≤ (ji20)
        ·rw [if_pos c21] at H
         have c21b0 : decide (0 ≤ (ji20)) = true := decide_eq_true c21
         clear c21
         by_cases c22 : (ji20) < (x3_1.length : Int)
         ·rw [if_pos c22] at H
          have c22b0 : decide ((ji20) < (x3_1.length : Int)) = true := decide_eq_true c22
          clear c22
          by_cases c23 : 0 ≤ x4_1
          ·rw [if_pos c23] at H
           have c23b0 : decide (0 ≤ x4_1) = true := decide_eq_true c23
           clear c23
           by_cases c24 : x4_1 < (l0.length : Int)
           ·rw [if_pos c24] at H
            have c24b0 : decide (x4_1 < (l0.length : Int)) = true := decide_eq_true c24
            clear c24
            have H' := Aside0.mk H
            clear H
            try go_wp2
            have n0_ := Aside0.mk (Kd.R_drew HO_3.out)
            have n1_ := Aside0.mk (below_drew1 HB.out)
            clear HO_3
            clear HB
            have HO_3 := n0_
            have HB := n1_
            clear n0_ n1_
            have p115 : 0 ≤ ((ji20) : Int) := odt_
            have q115 : (ji20) < (x3_1.length : Int) := odt_
            obtain ⟨ad115, e115, hx115_0, hx115_1, hx115_2, hx115_3, hx115_4⟩ := at_T32 (Kd.R_reads' HO_3.out).2.2 (ji20) p115 q115
            cases e115
            replace p115 := eq_true p115
            replace q115 := eq_true q115
            have p116 : 0 ≤ (x4_1 : Int) := odt_
            have q116 : x4_1 < (l0.length : Int) := odt_
            obtain ⟨ad116, e116, hx116_0, hx116_1, hx116_2, hx116_3, hx116_4, hx116_5, hx116_6⟩ := at_T34 HR0.out x4_1 p116 q116
            have hw116_6 := hx116_6
            have hw116_5 := hx116_5
            have hw116_4 := hx116_4
            have hw116_3 := hx116_3
            have hw116_2 := hx116_2
            have hw116_1 := hx116_1
            have hw116_0 := hx116_0
            cases e116
            replace hx116_0 := bcl_ HB hx116_0
            replace hx116_1 := bcl_ HB hx116_1
            replace hx116_2 := bcl_ HB hx116_2
            replace hx116_3 := bcl_ HB hx116_3
            replace hx116_4 := bcl_ HB hx116_4
            replace hx116_5 := bcl_ HB hx116_5
            replace hx116_6 := bcl_ HB hx116_6
            replace p116 := eq_true p116
            replace q116 := eq_true q116
            refine start_ (n := 15) (S := fun w' => w'.cell? (ad115.add (((ji20)).toNat * 5)) = some (.string ((rd_T32 x3_1 (ji20)).f0)) ∧ w'.cell? ⟨(ad115.add (((ji20)).toNat * 5)).block, (ad115.add (((ji20)).toNat * 5)).off + 1, none⟩ = some (.string ((rd_T32 x3_1 (ji20)).f1)) ∧ w'.cell? ⟨(ad115.add (((ji20)).toNat * 5)).block, (ad115.add (((ji20)).toNat * 5)).off + 2, none⟩ = some (.string ((rd_T32 x3_1 (ji20)).f2)) ∧ w'.cell? ⟨(ad115.add (((ji20)).toNat * 5)).block, (ad115.add (((ji20)).toNat * 5)).off + 3, none⟩ = some (.string ((rd_T32 x3_1 (ji20)).f3)) ∧ w'.cell? ⟨(ad115.add (((ji20)).toNat * 5)).block, (ad115.add (((ji20)).toNat * 5)).off + 4, none⟩ = some (.string ((rd_T32 x3_1 (ji20)).f4)) ∧ w'.cell? (ad116.add ((x4_1).toNat * 7)) = some (.string ((rd_T34 l0 x4_1).f0.f0)) ∧ w'.cell? ⟨(ad116.add ((x4_1).toNat * 7)).block, (ad116.add ((x4_1).toNat * 7)).off + 1, none⟩ = some (.string ((rd_T34 l0 x4_1).f0.f1)) ∧ w'.cell? ⟨(ad116.add ((x4_1).toNat * 7)).block, (ad116.add ((x4_1).toNat * 7)).off + 2, none⟩ = some (.string ((rd_T34 l0 x4_1).f0.f2)) ∧ w'.cell? ⟨(ad116.add ((x4_1).toNat * 7)).block, (ad116.add ((x4_1).toNat * 7)).off + 3, none⟩ = some (.string ((rd_T34 l0 x4_1).f0.f3)) ∧ w'.cell? ⟨(ad116.add ((x4_1).toNat * 7)).block, (ad116.add ((x4_1).toNat * 7)).off + 4, none⟩ = some (.string ((rd_T34 l0 x4_1).f0.f4)) ∧ w'.cell? ⟨(ad116.add ((x4_1).toNat * 7)).block, (ad116.add ((x4_1).toNat * 7)).off + 5, none⟩ = some (.int .i64 ((rd_T34 l0 x4_1).f1)) ∧ w'.cell? ⟨(ad116.add ((x4_1).toNat * 7)).block, (ad116.add ((x4_1).toNat * 7)).off + 6, none⟩ = some (.int .i64 ((rd_T34 l0 x4_1).f2))) (ds := []) #[false, false, false, false, false, false, false, false, false, false, false, false, false, false, false] (by kernel_rfl) rfl rfl ⟨hx115_0, hx115_1, hx115_2, hx115_3, hx115_4, ((HB.out.cell (World.block_lt_of_cell? w _ hw116_0)).trans hw116_0), ((HB.out.cell (World.block_lt_of_cell? w _ hw116_1)).trans hw116_1), ((HB.out.cell (World.block_lt_of_cell? w _ hw116_2)).trans hw116_2), ((HB.out.cell (World.block_lt_of_cell? w _ hw116_3)).trans hw116_3), ((HB.out.cell (World.block_lt_of_cell? w _ hw116_4)).trans hw116_4), ((HB.out.cell (World.block_lt_of_cell? w _ hw116_5)).trans hw116_5), ((HB.out.cell (World.block_lt_of_cell? w _ hw116_6)).trans hw116_6)⟩ (fun hHeld => ?_); refine with_tabW accountingref19_keys.tab8 accountingref19_keys.bits8 (fun HT_ HW_ => ?_)
            generalize wc.drew = w25 at HO_3 HB hx115_0 hx115_1 hx115_2 hx115_3 hx115_4 hx116_0 hx116_1 hx116_2 hx116_3 hx116_4 hx116_5 hx116_6 hHeld ⊢
            refine pu_ 0 (some 33) (btz 15 1) HT_ ?_
            refine pu_ 1 (some 34) (btz 15 3) HT_ ?_
            refine pu_ 2 (some 35) (btz 15 7) HT_ ?_
            refine pu_ 3 (some 36) (btz 15 15) HT_ ?_
            refine pu_ 4 (some 37) (btz 15 31) HT_ ?_
            refine pu_ 5 (some 38) (btz 15 63) HT_ ?_
            refine pu_ 6 (some 39) (btz 15 127) HT_ ?_
            refine pu_ 8 (some 41) (btz 15 383) HT_ ?_
            refine pu_ 9 (some 42) (btz 15 895) HT_ ?_
            refine pu_ 10 (some 43) (btz 15 1919) HT_ ?_
            refine pu_ 11 (some 44) (btz 15 3967) HT_ ?_
            refine ta_ 7 (some 40) (btz 15 4095) HT_ HW_ hHeld rfl rfl (by rintro w' ⟨s0, s1, s2, s3, s4, s5, s6, s7, s8, s9, s10, s11⟩; go_simp; with_reducible rfl) ?_
            refine ta_ 12 (some 45) (btz 15 8191) HT_ HW_ hHeld rfl rfl (by rintro w' ⟨s0, s1, s2, s3, s4, s5, s6, s7, s8, s9, s10, s11⟩; go_simp; with_reducible rfl) ?_
            refine pu_ 13 (some 46) (btz 15 16383) HT_ ?_
            refine pu_ 14 (some 47) (btz 15 32767) HT_ ?_
            refine done_ (done_of HT_.out (by kernel_rfl)) ?_
            try go_wp2
            go_meet
            case rel => exact ⟨_, (((((rd_T32 x3_1 (ji20)).f0).toList) == (((rd_T34 l0 x4_1).f0.f0).toList) && ((((rd_T32 x3_1 (ji20)).f1).toList) == (((rd_T34 l0 x4_1).f0.f1).toList) && ((((rd_T32 x3_1 (ji20)).f2).toList) == (((rd_T34 l0 x4_1).f0.f2).toList) && ((((rd_T32 x3_1 (ji20)).f3).toList) == (((rd_T34 l0 x4_1).f0.f3).toList) && ((((rd_T32 x3_1 (ji20)).f4).toList) == (((rd_T34 l0 x4_1).f0.f4).toList))))))), (by first | rfl | (simp; done) | (simp only [← hji20] <;> (first | rfl | simp)) | (simp [*]; done)), H', ⟨by have := HK1.out; have := HJ2.out; first | omega | exact Nat.le_refl _⟩, ⟨by (with_reducible repeat (first | apply Kd.R_alloc | apply Kd.R_drewN | apply Kd.R_drew)); exact HO_3.out⟩, ⟨by repeat (first | (with_reducible first | exact HB.out | apply below_alloc | apply pw_below_drewN | apply below_drew1) | exact HB.out)⟩⟩
           ·rw [if_neg c24] at H
            exact absurd H (by simp)
          ·rw [if_neg c23] at H
           exact absurd H (by simp)
         ·rw [if_neg c22] at H
          exact absurd H (by simp)
        ·rw [if_neg c21] at H
         exact absurd H (by simp)
       ·rw [if_neg c19] at H
        have c19b0 : decide (0 < x5_2) = false := decide_eq_false c19
        clear c19
        (first | rw [c19b0] | (simp only [i64_w, i32_w]; rw [c19b0]) | skip)
        have H' := Aside0.mk H
        clear H
        try go_wp2
        have n0_ := Aside0.mk (Kd.R_drew HO_3.out)
        have n1_ := Aside0.mk (below_drew1 HB.out)
        clear HO_3
        clear HB
        have HO_3 := n0_
        have HB := n1_
        clear n0_ n1_
        refine start_ (n := 15) (S := fun w' => True) (ds := []) #[false, false, false, false, false, false, false, false, false, false, false, false, false, false, false] (by kernel_rfl) rfl rfl trivial (fun hHeld => ?_); refine with_tabW accountingref19_keys.tab8 accountingref19_keys.bits8 (fun HT_ HW_ => ?_)
        generalize wc.drew = w26 at HO_3 HB hHeld ⊢
        refine pu_ 0 (some 33) (btz 15 1) HT_ ?_
        refine pu_ 1 (some 34) (btz 15 3) HT_ ?_
        refine pu_ 2 (some 35) (btz 15 7) HT_ ?_
        refine un_ 3 (some 36) (btz 15 15) HT_ ?_
        refine un_ 4 (some 37) (btz 15 31) HT_ ?_
        refine un_ 5 (some 38) (btz 15 63) HT_ ?_
        refine un_ 6 (some 39) (btz 15 127) HT_ ?_
        refine un_ 7 (some 40) (btz 15 255) HT_ ?_
        refine un_ 8 (some 41) (btz 15 511) HT_ ?_
        refine un_ 9 (some 42) (btz 15 1023) HT_ ?_
        refine un_ 10 (some 43) (btz 15 2047) HT_ ?_
        refine un_ 11 (some 44) (btz 15 4095) HT_ ?_
        refine un_ 12 (some 45) (btz 15 8191) HT_ ?_
        refine un_ 13 (some 46) (btz 15 16383) HT_ ?_
        refine pu_ 14 (some 47) (btz 15 32767) HT_ ?_
        refine done_ (done_of HT_.out (by kernel_rfl)) ?_
        try go_wp2
        go_meet
        case rel => exact ⟨_, (false), (by first | rfl | (simp; done) | (simp [*]; done)), H', ⟨by have := HK1.out; have := HJ2.out; first | omega | exact Nat.le_refl _⟩, ⟨by (with_reducible repeat (first | apply Kd.R_alloc | apply Kd.R_drewN | apply Kd.R_drew)); exact HO_3.out⟩, ⟨by repeat (first | (with_reducible first | exact HB.out | apply below_alloc | apply pw_below_drewN | apply below_drew1) | exact HB.out)⟩⟩
      case rest =>
       clear HC18
       try clear c1
       try clear p1
       try clear q1
       try clear hx1
       try clear c2
       try clear c2b0
       try clear p2
       try clear c3
       try clear c5
       try clear c5b0
       try clear p6
       try clear c7
       try clear c7b0
       try clear c8
       try clear c8b0
       try clear c9
       try clear c9b0
       try clear c10
       try clear c10b0
       try clear p11
       try clear q11
       try clear hx11
       try clear c12
       try clear c12b0
       try clear c19
       try clear c19b0
       try clear c21
       try clear c21b0
       try clear c22
       try clear c22b0
       try clear c23
       try clear c23b0
       try clear c24
       try clear c24b0
       try clear hx112_0
       try clear hx112_1
       try clear hx112_2
       try clear hx112_3
       try clear hx112_4
       try clear hx113_0
       try clear hx113_1
       try clear hx113_2
       try clear hx113_3
       try clear hx113_4
       try clear hx113_5
       try clear hx113_6
       try clear hx115_0
       try clear hx115_1
       try clear hx115_2
       try clear hx115_3
       try clear hx115_4
       try clear hx116_0
       try clear hx116_1
       try clear hx116_2
       try clear hx116_3
       try clear hx116_4
       try clear hx116_5
       try clear hx116_6
       try clear p1
       try clear p11
       try clear p112
       try clear p113
       try clear p115
       try clear p116
       try clear p2
       try clear p6
       try clear q1
       try clear q11
       try clear q112
       try clear q113
       try clear q115
       try clear q116
       obtain ⟨kq, x47_17, rfl, HA, HJ17, HO_3, HB⟩ := hcut
       cases kq with
       | zero => exact absurd HA.out (by simp [accountingref19_keys.j3])
       | succ kj17 =>
        have H := HA.out
        clear HA
        simp only [accountingref19_keys.j3] at H
        by_cases c27 : x47_17 = true
        ·subst c27
         have H1 : (accountingref19_keys.l0 kj17 l0 x3_1 (wrap64 (x4_1 + 1))) = some r := by rw [if_pos rfl] at H; exact H
         clear H
         have H := H1
         clear H1
         have H' := Aside0.mk H
         clear H
         go_wp2
         go_roundg kj17
         case measure => have := HK1.out; have := HJ2.out; have := HJ17.out; omega
         case rel => exact ⟨(x3_1), (wrap64 (x4_1 + 1)), (by first | rfl | (simp; done) | (simp [*]; done)), H', ⟨by have := HK1.out; have := HJ2.out; have := HJ17.out; omega⟩, ⟨by (with_reducible repeat (first | apply Kd.R_alloc | apply Kd.R_drewN | apply Kd.R_drew)); exact HO_3.out⟩, ⟨by repeat (first | (with_reducible first | exact HB.out | apply below_alloc | apply pw_below_drewN | apply below_drew1) | exact HB.out)⟩⟩
        ·replace c27 := Bool.eq_false_iff.mpr c27
         subst c27
         have H1 : (if x3_1.length < 1759218604441 then ((some (x3_1 ++ [(⟨(⟨#[]⟩ : ByteArray), (⟨#[]⟩ : ByteArray), (⟨#[]⟩ : ByteArray), (⟨#[]⟩ : ByteArray), (⟨#[]⟩ : ByteArray)⟩ : S32)] : List (S32))).bind fun y117 => (accountingref19_keys.l2 kj17 l0 y117 x4_1 x5_2 (wrap64 ((y117.length : Int) - 1)))) else (none)) = some r := by rw [if_neg (show ¬ (false = true) by decide)] at H; exact H
         clear H
         have H := H1
         clear H1
         by_cases c28 : x3_1.length < 1759218604441
         ·rw [if_pos c28] at H
          have LMc28 := Aside0.mk c28
          clear c28
          obtain ⟨y117, hy117⟩ : ∃ y_ : List (S32), y_ = (x3_1 ++ [(⟨(⟨#[]⟩ : ByteArray), (⟨#[]⟩ : ByteArray), (⟨#[]⟩ : ByteArray), (⟨#[]⟩ : ByteArray), (⟨#[]⟩ : ByteArray)⟩ : S32)]) := ⟨_, rfl⟩
          replace H : (accountingref19_keys.l2 kj17 l0 y117 x4_1 x5_2 (wrap64 ((y117.length : Int) - 1))) = some r := by first | (rw [hy117]; with_reducible exact H) | (have H2_ := (Option.bind_some _ _).symm.trans H; rw [hy117]; with_reducible exact H2_) | (have H2_ := (Option.bind_some _ _).symm.trans H; with_reducible exact H2_) | with_reducible exact H | (rw [hy117]; exact H) | exact H
          have Ny117 := Aside0.mk hy117
          clear hy117
          have H' := Aside0.mk H
          clear H
          go_wp2_with (first | ((with_reducible refine gate_builtin (b := .append) (xs := #[.tmp 48, .tmp 50]) rfl ?_); at_builtin; refine Kd.R_append k32 (w0 := w) w.heap.size rfl (.tmp 48) (.tmp 50) 72 32 (.agg #[(.string ⟨#[]⟩), (.string ⟨#[]⟩), (.string ⟨#[]⟩), (.string ⟨#[]⟩), (.string ⟨#[]⟩)]) 80 rfl Try.underlying72 info32 rfl (by decide) (by omega) (.slice Ao4 x3_1.length co4) x3_1 (⟨(⟨#[]⟩ : ByteArray), (⟨#[]⟩ : ByteArray), (⟨#[]⟩ : ByteArray), (⟨#[]⟩ : ByteArray), (⟨#[]⟩ : ByteArray)⟩ : S32) [.string (⟨#[]⟩ : ByteArray), .string (⟨#[]⟩ : ByteArray), .string (⟨#[]⟩ : ByteArray), .string (⟨#[]⟩ : ByteArray), .string (⟨#[]⟩ : ByteArray)] (fun _ => True) (fun _ => False) rfl rfl ?aP (fun _ hk => hk.elim) ?aF ?aO ?aB ?aS ?aL ?_; (case aP => exact k32_mkM _ _ _ (⟨(⟨#[]⟩ : ByteArray), (⟨#[]⟩ : ByteArray), (⟨#[]⟩ : ByteArray), (⟨#[]⟩ : ByteArray), (⟨#[]⟩ : ByteArray)⟩ : S32)); (case aB => exact (by repeat (first | (with_reducible first | exact HB.out | apply below_alloc | apply pw_below_drewN | apply below_drew1) | exact HB.out))); (case aF => exact (fun _ _ => trivial)); (case aO => exact (by (with_reducible repeat (first | apply Kd.R_alloc | apply Kd.R_drewN | apply Kd.R_drew)); exact HO_3.out)); (case aS => exact (below_size (by repeat (first | (with_reducible first | exact HB.out | apply below_alloc | apply pw_below_drewN | apply below_drew1) | exact HB.out)))); (case aL => have := LMc28.out; omega); intro v118 w29 ho hb hg hat; rw [← Ny117.out] at ho; have n0_ := Aside0.mk (hb); have n1_ := Aside0.mk (ho); clear HB; clear HO_3; have HB := n0_; have HO119 := n1_; clear n0_ n1_; clear ho hb hg hat; obtain ⟨Ao30, co30, eo30⟩ := Kd.R_slice HO119.out; subst eo30))
          go_loopg [6] kj17 (fun kq v6 w' => ∃ (x3_4 : List (S32)) (x6_4 : Int), v6 = .int .i64 x6_4 ∧ Aside0 (accountingref19_keys.l2 kq l0 x3_4 x4_1 x5_2 x6_4 = some r) ∧ Aside0 (kq ≤ kj17) ∧ Aside0 (Kd.R k32 32 w' w.heap.size (fun _ => True) (.slice Ao30 y117.length co30) x3_4) ∧ Aside0 (Below w.heap.size w w'))
          case atStart => exact ⟨(y117), (wrap64 ((y117.length : Int) - 1)), (by first | rfl | (simp; done) | (simp [*]; done)), H', ⟨Nat.le_refl _⟩, ⟨by (with_reducible repeat (first | apply Kd.R_alloc | apply Kd.R_drewN | apply Kd.R_drew)); exact HO119.out⟩, ⟨by repeat (first | (with_reducible first | exact HB.out | apply below_alloc | apply pw_below_drewN | apply below_drew1) | exact HB.out)⟩⟩
          case round =>
           clear H'
           try clear c1
           try clear p1
           try clear q1
           try clear hx1
           try clear c2
           try clear c2b0
           try clear p2
           try clear c3
           try clear c5
           try clear c5b0
           try clear p6
           try clear c7
           try clear c7b0
           try clear c8
           try clear c8b0
           try clear c9
           try clear c9b0
           try clear c10
           try clear c10b0
           try clear p11
           try clear q11
           try clear hx11
           try clear c12
           try clear c12b0
           try clear c19
           try clear c19b0
           try clear c21
           try clear c21b0
           try clear c22
           try clear c22b0
           try clear c23
           try clear c23b0
           try clear c24
           try clear c24b0
           try clear c27
           try clear c28
           try clear hx112_0
           try clear hx112_1
           try clear hx112_2
           try clear hx112_3
           try clear hx112_4
           try clear hx113_0
           try clear hx113_1
           try clear hx113_2
           try clear hx113_3
           try clear hx113_4
           try clear hx113_5
           try clear hx113_6
           try clear hx115_0
           try clear hx115_1
           try clear hx115_2
           try clear hx115_3
           try clear hx115_4
           try clear hx116_0
           try clear hx116_1
           try clear hx116_2
           try clear hx116_3
           try clear hx116_4
           try clear hx116_5
           try clear hx116_6
           try clear p1
           try clear p11
           try clear p112
           try clear p113
           try clear p115
           try clear p116
           try clear p2
           try clear p6
           try clear q1
           try clear q11
           try clear q112
           try clear q113
           try clear q115
           try clear q116
           obtain ⟨x3_4, x6_4, rfl, HA, HK4, HO_3, HB⟩ := hrel
           have hl3_4 := (Kd.R_reads' HO_3.out).1
           rw [hl3_4] at HO_3
           (try simp only [hl3_4])
           cases gk with
           | zero => exact absurd HA.out (by simp [accountingref19_keys.l2])
           | succ k4 =>
            have H := HA.out
            clear HA
            simp only [accountingref19_keys.l2] at H
            by_cases c31 : x6_4 > x5_2
            ·rw [if_pos c31] at H
             have c31b0 : decide (x5_2 < x6_4) = true := decide_eq_true c31
             clear c31
             obtain ⟨ji32, hji32⟩ : ∃ j_ : Int, (wrap64 (x6_4 - 1)) = j_ := ⟨_, rfl⟩
             replace H : (if 0 ≤ (ji32) then (if (ji32) < (x3_4.length : Int) then (if 0 ≤ x6_4 then (if x6_4 < (x3_4.length : Int) then (accountingref19_keys.l2 k4 l0 (x3_4.set (x6_4 : Int).toNat (⟨(rd_T32 x3_4 (ji32)).f0, (rd_T32 x3_4 (ji32)).f1, (rd_T32 x3_4 (ji32)).f2, (rd_T32 x3_4 (ji32)).f3, (rd_T32 x3_4 (ji32)).f4⟩ : S32)) x4_1 x5_2 ji32) else (none)) else (none)) else (none)) else (none)) = some r := by first | (rw [hji32] at H; exact H) | (simp only [hji32] at H ⊢; exact H)
             have hji32w : (IntKind.i64.wrap (x6_4 - 1)) = ji32 := (i64_w _).trans hji32
             by_cases c33 : 0 ≤ (ji32)
             ·rw [if_pos c33] at H
              have c33b0 : decide (0 ≤ (ji32)) = true := decide_eq_true c33
              clear c33
              by_cases c34 : (ji32) < (x3_4.length : Int)
              ·rw [if_pos c34] at H
               have c34b0 : decide ((ji32) < (x3_4.length : Int)) = true := decide_eq_true c34
               clear c34
               by_cases c35 : 0 ≤ x6_4
               ·rw [if_pos c35] at H
                have c35b0 : decide (0 ≤ x6_4) = true := decide_eq_true c35
                clear c35
                by_cases c36 : x6_4 < (x3_4.length : Int)
                ·rw [if_pos c36] at H
                 have c36b0 : decide (x6_4 < (x3_4.length : Int)) = true := decide_eq_true c36
                 clear c36
                 obtain ⟨y121, hy121⟩ : ∃ y_ : List (S32), y_ = (x3_4.set (x6_4 : Int).toNat (⟨(rd_T32 x3_4 (ji32)).f0, (rd_T32 x3_4 (ji32)).f1, (rd_T32 x3_4 (ji32)).f2, (rd_T32 x3_4 (ji32)).f3, (rd_T32 x3_4 (ji32)).f4⟩ : S32)) := ⟨_, rfl⟩
                 replace H : (accountingref19_keys.l2 k4 l0 y121 x4_1 x5_2 ji32) = some r := by first | (rw [hy121]; with_reducible exact H) | (have H2_ := (Option.bind_some _ _).symm.trans H; rw [hy121]; with_reducible exact H2_) | (have H2_ := (Option.bind_some _ _).symm.trans H; with_reducible exact H2_) | with_reducible exact H | (rw [hy121]; exact H) | exact H
                 have Ny121 := Aside0.mk hy121
                 clear hy121
                 have H' := Aside0.mk H
                 clear H
                 have p120 : 0 ≤ ((ji32) : Int) := odt_
                 have q120 : (ji32) < (x3_4.length : Int) := odt_
                 obtain ⟨ad120, e120, hx120_0, hx120_1, hx120_2, hx120_3, hx120_4⟩ := at_T32 (Kd.R_reads' HO_3.out).2.2 (ji32) p120 q120
                 cases e120
                 replace p120 := eq_true p120
                 replace q120 := eq_true q120
                 have p37 : 0 ≤ (x6_4 : Int) := odt_
                 have q37 : (x6_4 : Int) < ((x3_4.length : Int) : Int) := odt_
                 obtain ⟨go37, co37, eo37, gb37, gl37, cl37, HG37⟩ := Kd.R_form HO_3.out (by omega)
                 (first | cases eo37 | (injection eo37 with ea_ en_ ec_; (first | subst ea_ | (injection ea_ with ea_; subst ea_)); subst ec_; clear en_))
                 have GB37 := Aside0.mk gb37
                 have GG37 := Aside0.mk HG37
                 clear gb37 gl37 HG37
                 (first | simp only [add_plain] at hx120_0 | skip)
                 (first | simp only [add_plain] at hx120_1 | skip)
                 (first | simp only [add_plain] at hx120_2 | skip)
                 (first | simp only [add_plain] at hx120_3 | skip)
                 (first | simp only [add_plain] at hx120_4 | skip)
                 obtain ⟨ce37, hcl37, hM37, hcc37, hfr37⟩ := Kd.R_elem HO_3.out z32 (x6_4 : Int) p37 q37
                 obtain rfl := k32_openM hM37
                 have hx37_0 : wr.cell? ⟨go37, (x6_4 : Int).toNat * 5, none⟩ = some (.string ((rd_T32 x3_4 x6_4).f0)) := hcc37 0 _ rfl
                 have hx37_1 : wr.cell? ⟨go37, (x6_4 : Int).toNat * 5 + 1, none⟩ = some (.string ((rd_T32 x3_4 x6_4).f1)) := hcc37 1 _ rfl
                 have hx37_2 : wr.cell? ⟨go37, (x6_4 : Int).toNat * 5 + 2, none⟩ = some (.string ((rd_T32 x3_4 x6_4).f2)) := hcc37 2 _ rfl
                 have hx37_3 : wr.cell? ⟨go37, (x6_4 : Int).toNat * 5 + 3, none⟩ = some (.string ((rd_T32 x3_4 x6_4).f3)) := hcc37 3 _ rfl
                 have hx37_4 : wr.cell? ⟨go37, (x6_4 : Int).toNat * 5 + 4, none⟩ = some (.string ((rd_T32 x3_4 x6_4).f4)) := hcc37 4 _ rfl
                 have hf37_0 : wr.frozen? ⟨go37, (x6_4 : Int).toNat * 5, none⟩ = false := hfr37 0
                 have hf37_1 : wr.frozen? ⟨go37, (x6_4 : Int).toNat * 5 + 1, none⟩ = false := hfr37 1
                 have hf37_2 : wr.frozen? ⟨go37, (x6_4 : Int).toNat * 5 + 2, none⟩ = false := hfr37 2
                 have hf37_3 : wr.frozen? ⟨go37, (x6_4 : Int).toNat * 5 + 3, none⟩ = false := hfr37 3
                 have hf37_4 : wr.frozen? ⟨go37, (x6_4 : Int).toNat * 5 + 4, none⟩ = false := hfr37 4
                 clear hcl37 hcc37 hfr37 hM37
                 replace p37 := eq_true p37
                 replace q37 := eq_true q37
                 have HX38 := Aside0.mk (show Kd.R k32 32 wr w.heap.size (fun _ => True) (.slice (some ⟨go37, 0, none⟩) x3_4.length co30) x3_4 from (by (with_reducible repeat (first | apply Kd.R_alloc | apply Kd.R_drewN | apply Kd.R_drew)); exact HO_3.out))
                 obtain ⟨ce38, hcl38, hM38, hcc38, hfr38⟩ := Kd.R_elem HX38.out z32 (x6_4 : Int) (odt_) (by have h_ : (x6_4 : Int) < ((x3_4.length : Int) : Int) := odt_; first | exact h_ | (have e_ := (Kd.R_reads' HO_3.out).1; omega) | simpa using h_)
                 obtain rfl := k32_openM hM38
                 have HP38 := Kd.R_seg HX38.out (x6_4 : Int) (odt_) (by have h_ : (x6_4 : Int) < ((x3_4.length : Int) : Int) := odt_; first | exact h_ | (have e_ := (Kd.R_reads' HO_3.out).1; omega) | simpa using h_) (seg := [.string ((rd_T32 x3_4 (ji32)).f0), .string ((rd_T32 x3_4 (ji32)).f1), .string ((rd_T32 x3_4 (ji32)).f2), .string ((rd_T32 x3_4 (ji32)).f3), .string ((rd_T32 x3_4 (ji32)).f4)]) (j := 0) hcl38 hcc38 (show 5 ≤ 5 from by decide) (x' := (⟨(rd_T32 x3_4 (ji32)).f0, (rd_T32 x3_4 (ji32)).f1, (rd_T32 x3_4 (ji32)).f2, (rd_T32 x3_4 (ji32)).f3, (rd_T32 x3_4 (ji32)).f4⟩ : S32)) (k32_mkM _ _ _ (⟨(rd_T32 x3_4 (ji32)).f0, (rd_T32 x3_4 (ji32)).f1, (rd_T32 x3_4 (ji32)).f2, (rd_T32 x3_4 (ji32)).f3, (rd_T32 x3_4 (ji32)).f4⟩ : S32) ) (fun _ hk => hk)
                 have hx38_0 := hcc38 0 _ rfl
                 (try simp only [show (k32).sz = 5 from rfl, Nat.mul_one, Nat.add_zero] at hx38_0)
                 have hf38_0 := hfr38 0
                 (try simp only [show (k32).sz = 5 from rfl, Nat.mul_one, Nat.add_zero] at hf38_0)
                 have hx38_1 := hcc38 1 _ rfl
                 (try simp only [show (k32).sz = 5 from rfl, Nat.mul_one, Nat.add_zero] at hx38_1)
                 have hf38_1 := hfr38 1
                 (try simp only [show (k32).sz = 5 from rfl, Nat.mul_one, Nat.add_zero] at hf38_1)
                 have hx38_2 := hcc38 2 _ rfl
                 (try simp only [show (k32).sz = 5 from rfl, Nat.mul_one, Nat.add_zero] at hx38_2)
                 have hf38_2 := hfr38 2
                 (try simp only [show (k32).sz = 5 from rfl, Nat.mul_one, Nat.add_zero] at hf38_2)
                 have hx38_3 := hcc38 3 _ rfl
                 (try simp only [show (k32).sz = 5 from rfl, Nat.mul_one, Nat.add_zero] at hx38_3)
                 have hf38_3 := hfr38 3
                 (try simp only [show (k32).sz = 5 from rfl, Nat.mul_one, Nat.add_zero] at hf38_3)
                 have hx38_4 := hcc38 4 _ rfl
                 (try simp only [show (k32).sz = 5 from rfl, Nat.mul_one, Nat.add_zero] at hx38_4)
                 have hf38_4 := hfr38 4
                 (try simp only [show (k32).sz = 5 from rfl, Nat.mul_one, Nat.add_zero] at hf38_4)
                 clear hcl38 hcc38 hfr38 hM38
                 go_wp2_with (first | ((with_reducible refine gate_store (t := 32) (p := 67) rfl ?_); refine store_event (t := 32) (p := 67) (v := ?vo_w39) (w1 := (((((wr.setCell ⟨go37, (x6_4 : Int).toNat * 5, none⟩ (.string ((rd_T32 x3_4 (ji32)).f0))).setCell ⟨go37, (x6_4 : Int).toNat * 5 + 1, none⟩ (.string ((rd_T32 x3_4 (ji32)).f1))).setCell ⟨go37, (x6_4 : Int).toNat * 5 + 2, none⟩ (.string ((rd_T32 x3_4 (ji32)).f2))).setCell ⟨go37, (x6_4 : Int).toNat * 5 + 3, none⟩ (.string ((rd_T32 x3_4 (ji32)).f3))).setCell ⟨go37, (x6_4 : Int).toNat * 5 + 4, none⟩ (.string ((rd_T32 x3_4 (ji32)).f4)))) ?hg ?ho ?hn ?hr ?_; (case ho => rfl); (case hg => rfl); (case hn => rfl); (case hr => first | (go_simp; done) | (go_simp; rfl)); intro w39 hw; have hg : wr.grownBy w39 (some go37) := (by rw [hw]; exact HP38.2); have hp_ : Kd.R k32 32 w39 w.heap.size (fun _ => True) (.slice (some ⟨go37, 0, none⟩) x3_4.length co30) y121 := (by rw [hw, Ny121.out]; exact HP38.1); clear HP38; have n0_ := Aside0.mk (hp_); have n1_ := Aside0.mk ((by rw [hw]; exact below_set (below_set (below_set (below_set (below_set (HB.out) GB37.out) GB37.out) GB37.out) GB37.out) GB37.out : Below w.heap.size w w39)); clear HO_3; clear HB; have HO_3 := n0_; have HB := n1_; clear n0_ n1_; clear hg hw hp_))
                 (try simp only [← hl3_4])
                 go_roundg k4
                 case measure => have := HK1.out; have := HJ2.out; have := HJ17.out; have := HK4.out; omega
                 case rel => exact ⟨(y121), (ji32), (by first | rfl | (simp; done) | (simp only [← hji32] <;> (first | rfl | simp)) | (simp [*]; done)), H', ⟨by have := HK1.out; have := HJ2.out; have := HJ17.out; have := HK4.out; omega⟩, ⟨by (try simp only [hl3_4]); (with_reducible repeat (first | apply Kd.R_alloc | apply Kd.R_drewN | apply Kd.R_drew)); exact HO_3.out⟩, ⟨by repeat (first | (with_reducible first | exact HB.out | apply below_alloc | apply pw_below_drewN | apply below_drew1) | exact HB.out)⟩⟩
                ·rw [if_neg c36] at H
                 exact absurd H (by simp)
               ·rw [if_neg c35] at H
                exact absurd H (by simp)
              ·rw [if_neg c34] at H
               exact absurd H (by simp)
             ·rw [if_neg c33] at H
              exact absurd H (by simp)
            ·rw [if_neg c31] at H
             have c31b0 : decide (x5_2 < x6_4) = false := decide_eq_false c31
             clear c31
             by_cases c40 : 0 ≤ x4_1
             ·rw [if_pos c40] at H
              have c40b0 : decide (0 ≤ x4_1) = true := decide_eq_true c40
              clear c40
              by_cases c41 : x4_1 < (l0.length : Int)
              ·rw [if_pos c41] at H
               have c41b0 : decide (x4_1 < (l0.length : Int)) = true := decide_eq_true c41
               clear c41
               by_cases c42 : 0 ≤ x5_2
               ·rw [if_pos c42] at H
                have c42b0 : decide (0 ≤ x5_2) = true := decide_eq_true c42
                clear c42
                by_cases c43 : x5_2 < (x3_4.length : Int)
                ·rw [if_pos c43] at H
                 have c43b0 : decide (x5_2 < (x3_4.length : Int)) = true := decide_eq_true c43
                 clear c43
                 obtain ⟨y123, hy123⟩ : ∃ y_ : List (S32), y_ = (x3_4.set (x5_2 : Int).toNat (⟨(rd_T34 l0 x4_1).f0.f0, (rd_T34 l0 x4_1).f0.f1, (rd_T34 l0 x4_1).f0.f2, (rd_T34 l0 x4_1).f0.f3, (rd_T34 l0 x4_1).f0.f4⟩ : S32)) := ⟨_, rfl⟩
                 replace H : (accountingref19_keys.l0 k4 l0 y123 (wrap64 (x4_1 + 1))) = some r := by first | (rw [hy123]; with_reducible exact H) | (have H2_ := (Option.bind_some _ _).symm.trans H; rw [hy123]; with_reducible exact H2_) | (have H2_ := (Option.bind_some _ _).symm.trans H; with_reducible exact H2_) | with_reducible exact H | (rw [hy123]; exact H) | exact H
                 have Ny123 := Aside0.mk hy123
                 clear hy123
                 have H' := Aside0.mk H
                 clear H
                 have p122 : 0 ≤ (x4_1 : Int) := odt_
                 have q122 : x4_1 < (l0.length : Int) := odt_
                 obtain ⟨ad122, e122, hx122_0, hx122_1, hx122_2, hx122_3, hx122_4, hx122_5, hx122_6⟩ := at_T34 HR0.out x4_1 p122 q122
                 cases e122
                 replace hx122_0 := bcl_ HB hx122_0
                 replace hx122_1 := bcl_ HB hx122_1
                 replace hx122_2 := bcl_ HB hx122_2
                 replace hx122_3 := bcl_ HB hx122_3
                 replace hx122_4 := bcl_ HB hx122_4
                 replace hx122_5 := bcl_ HB hx122_5
                 replace hx122_6 := bcl_ HB hx122_6
                 replace p122 := eq_true p122
                 replace q122 := eq_true q122
                 have p44 : 0 ≤ (x5_2 : Int) := odt_
                 have q44 : (x5_2 : Int) < ((x3_4.length : Int) : Int) := odt_
                 obtain ⟨go44, co44, eo44, gb44, gl44, cl44, HG44⟩ := Kd.R_form HO_3.out (by omega)
                 (first | cases eo44 | (injection eo44 with ea_ en_ ec_; (first | subst ea_ | (injection ea_ with ea_; subst ea_)); subst ec_; clear en_))
                 have GB44 := Aside0.mk gb44
                 have GG44 := Aside0.mk HG44
                 clear gb44 gl44 HG44
                 obtain ⟨ce44, hcl44, hM44, hcc44, hfr44⟩ := Kd.R_elem HO_3.out z32 (x5_2 : Int) p44 q44
                 obtain rfl := k32_openM hM44
                 have hx44_0 : wr.cell? ⟨go44, (x5_2 : Int).toNat * 5, none⟩ = some (.string ((rd_T32 x3_4 x5_2).f0)) := hcc44 0 _ rfl
                 have hx44_1 : wr.cell? ⟨go44, (x5_2 : Int).toNat * 5 + 1, none⟩ = some (.string ((rd_T32 x3_4 x5_2).f1)) := hcc44 1 _ rfl
                 have hx44_2 : wr.cell? ⟨go44, (x5_2 : Int).toNat * 5 + 2, none⟩ = some (.string ((rd_T32 x3_4 x5_2).f2)) := hcc44 2 _ rfl
                 have hx44_3 : wr.cell? ⟨go44, (x5_2 : Int).toNat * 5 + 3, none⟩ = some (.string ((rd_T32 x3_4 x5_2).f3)) := hcc44 3 _ rfl
                 have hx44_4 : wr.cell? ⟨go44, (x5_2 : Int).toNat * 5 + 4, none⟩ = some (.string ((rd_T32 x3_4 x5_2).f4)) := hcc44 4 _ rfl
                 have hf44_0 : wr.frozen? ⟨go44, (x5_2 : Int).toNat * 5, none⟩ = false := hfr44 0
                 have hf44_1 : wr.frozen? ⟨go44, (x5_2 : Int).toNat * 5 + 1, none⟩ = false := hfr44 1
                 have hf44_2 : wr.frozen? ⟨go44, (x5_2 : Int).toNat * 5 + 2, none⟩ = false := hfr44 2
                 have hf44_3 : wr.frozen? ⟨go44, (x5_2 : Int).toNat * 5 + 3, none⟩ = false := hfr44 3
                 have hf44_4 : wr.frozen? ⟨go44, (x5_2 : Int).toNat * 5 + 4, none⟩ = false := hfr44 4
                 clear hcl44 hcc44 hfr44 hM44
                 replace p44 := eq_true p44
                 replace q44 := eq_true q44
                 have HX45 := Aside0.mk (show Kd.R k32 32 wr w.heap.size (fun _ => True) (.slice (some ⟨go44, 0, none⟩) x3_4.length co30) x3_4 from (by (with_reducible repeat (first | apply Kd.R_alloc | apply Kd.R_drewN | apply Kd.R_drew)); exact HO_3.out))
                 obtain ⟨ce45, hcl45, hM45, hcc45, hfr45⟩ := Kd.R_elem HX45.out z32 (x5_2 : Int) (odt_) (by have h_ : (x5_2 : Int) < ((x3_4.length : Int) : Int) := odt_; first | exact h_ | (have e_ := (Kd.R_reads' HO_3.out).1; omega) | simpa using h_)
                 obtain rfl := k32_openM hM45
                 have HP45 := Kd.R_seg HX45.out (x5_2 : Int) (odt_) (by have h_ : (x5_2 : Int) < ((x3_4.length : Int) : Int) := odt_; first | exact h_ | (have e_ := (Kd.R_reads' HO_3.out).1; omega) | simpa using h_) (seg := [.string ((rd_T34 l0 x4_1).f0.f0), .string ((rd_T34 l0 x4_1).f0.f1), .string ((rd_T34 l0 x4_1).f0.f2), .string ((rd_T34 l0 x4_1).f0.f3), .string ((rd_T34 l0 x4_1).f0.f4)]) (j := 0) hcl45 hcc45 (show 5 ≤ 5 from by decide) (x' := (⟨(rd_T34 l0 x4_1).f0.f0, (rd_T34 l0 x4_1).f0.f1, (rd_T34 l0 x4_1).f0.f2, (rd_T34 l0 x4_1).f0.f3, (rd_T34 l0 x4_1).f0.f4⟩ : S32)) (k32_mkM _ _ _ (⟨(rd_T34 l0 x4_1).f0.f0, (rd_T34 l0 x4_1).f0.f1, (rd_T34 l0 x4_1).f0.f2, (rd_T34 l0 x4_1).f0.f3, (rd_T34 l0 x4_1).f0.f4⟩ : S32) ) (fun _ hk => hk)
                 have hx45_0 := hcc45 0 _ rfl
                 (try simp only [show (k32).sz = 5 from rfl, Nat.mul_one, Nat.add_zero] at hx45_0)
                 have hf45_0 := hfr45 0
                 (try simp only [show (k32).sz = 5 from rfl, Nat.mul_one, Nat.add_zero] at hf45_0)
                 have hx45_1 := hcc45 1 _ rfl
                 (try simp only [show (k32).sz = 5 from rfl, Nat.mul_one, Nat.add_zero] at hx45_1)
                 have hf45_1 := hfr45 1
                 (try simp only [show (k32).sz = 5 from rfl, Nat.mul_one, Nat.add_zero] at hf45_1)
                 have hx45_2 := hcc45 2 _ rfl
                 (try simp only [show (k32).sz = 5 from rfl, Nat.mul_one, Nat.add_zero] at hx45_2)
                 have hf45_2 := hfr45 2
                 (try simp only [show (k32).sz = 5 from rfl, Nat.mul_one, Nat.add_zero] at hf45_2)
                 have hx45_3 := hcc45 3 _ rfl
                 (try simp only [show (k32).sz = 5 from rfl, Nat.mul_one, Nat.add_zero] at hx45_3)
                 have hf45_3 := hfr45 3
                 (try simp only [show (k32).sz = 5 from rfl, Nat.mul_one, Nat.add_zero] at hf45_3)
                 have hx45_4 := hcc45 4 _ rfl
                 (try simp only [show (k32).sz = 5 from rfl, Nat.mul_one, Nat.add_zero] at hx45_4)
                 have hf45_4 := hfr45 4
                 (try simp only [show (k32).sz = 5 from rfl, Nat.mul_one, Nat.add_zero] at hf45_4)
                 clear hcl45 hcc45 hfr45 hM45
                 go_wp2_with (first | ((with_reducible refine gate_store (t := 32) (p := 75) rfl ?_); refine store_event (t := 32) (p := 75) (v := ?vo_w46) (w1 := (((((wr.setCell ⟨go44, (x5_2 : Int).toNat * 5, none⟩ (.string ((rd_T34 l0 x4_1).f0.f0))).setCell ⟨go44, (x5_2 : Int).toNat * 5 + 1, none⟩ (.string ((rd_T34 l0 x4_1).f0.f1))).setCell ⟨go44, (x5_2 : Int).toNat * 5 + 2, none⟩ (.string ((rd_T34 l0 x4_1).f0.f2))).setCell ⟨go44, (x5_2 : Int).toNat * 5 + 3, none⟩ (.string ((rd_T34 l0 x4_1).f0.f3))).setCell ⟨go44, (x5_2 : Int).toNat * 5 + 4, none⟩ (.string ((rd_T34 l0 x4_1).f0.f4)))) ?hg ?ho ?hn ?hr ?_; (case ho => rfl); (case hg => rfl); (case hn => rfl); (case hr => first | (go_simp; done) | (go_simp; rfl)); intro w46 hw; have hg : wr.grownBy w46 (some go44) := (by rw [hw]; exact HP45.2); have hp_ : Kd.R k32 32 w46 w.heap.size (fun _ => True) (.slice (some ⟨go44, 0, none⟩) x3_4.length co30) y123 := (by rw [hw, Ny123.out]; exact HP45.1); clear HP45; have n0_ := Aside0.mk (hp_); have n1_ := Aside0.mk ((by rw [hw]; exact below_set (below_set (below_set (below_set (below_set (HB.out) GB44.out) GB44.out) GB44.out) GB44.out) GB44.out : Below w.heap.size w w46)); clear HO_3; clear HB; have HO_3 := n0_; have HB := n1_; clear n0_ n1_; clear hg hw hp_))
                 (try simp only [← hl3_4])
                 go_roundg k4
                 case measure => have := HK1.out; have := HJ2.out; have := HJ17.out; have := HK4.out; omega
                 case rel => exact ⟨(y123), (wrap64 (x4_1 + 1)), (by first | rfl | (simp; done) | (simp [*]; done)), H', ⟨by have := HK1.out; have := HJ2.out; have := HJ17.out; have := HK4.out; omega⟩, ⟨by (try simp only [hl3_4]); (with_reducible repeat (first | apply Kd.R_alloc | apply Kd.R_drewN | apply Kd.R_drew)); exact HO_3.out⟩, ⟨by repeat (first | (with_reducible first | exact HB.out | apply below_alloc | apply pw_below_drewN | apply below_drew1) | exact HB.out)⟩⟩
                ·rw [if_neg c43] at H
                 exact absurd H (by simp)
               ·rw [if_neg c42] at H
                exact absurd H (by simp)
              ·rw [if_neg c41] at H
               exact absurd H (by simp)
             ·rw [if_neg c40] at H
              exact absurd H (by simp)
         ·rw [if_neg c28] at H
          exact absurd H (by simp)
   ·rw [if_neg c2] at H
    have c2b0 : decide (x4_1 < (l0.length : Int)) = false := decide_eq_false c2
    clear c2
    obtain rfl := Option.some.inj H
    go_wp2
    go_ret
    exact ⟨_, by first | rfl | (simp [errW_none, errW_some] <;> rfl) | (simp [*, errW_none, errW_some] <;> rfl), by (with_reducible repeat (first | apply Kd.R_alloc | apply Kd.R_drewN | apply Kd.R_drew)); exact HO_3.out, by repeat (first | (with_reducible first | exact HB.out | apply below_alloc | apply pw_below_drewN | apply below_drew1) | exact HB.out)⟩
end Go.Proofs.Ytmflggbpiadkjaa.P
namespace Go.Proofs.Ytmflggbpiadkjaa.P
open Go.RowKit Go.Proofs.YtmflggbpiadkjaaW.PrintWords Go.Proofs.YtmflggbpiadkjaaW.PrintLast Go.Proofs.YtmflggbpiadkjaaW.PrintMore
attribute [local go_sem] max2_int min2_int max_two min_two max_three min_three max_four min_four
set_option linter.unusedVariables false
set_option linter.unusedSimpArgs false
def accountingref01_Sum.l0 : Nat → List Int → Int → Int → Int → Option (Int × Bool)
  | 0, _, _, _, _ => none
  | k + 1, x0, x4, x5, x6 => if x6 < (x0.length : Int) then (if 0 ≤ x6 then (accountingref01_Sum.l0 k x0 (wrap64 (x4 + ((rd x0 x6) / 4294967296))) (wrap64 (x5 + (Go.bits .and .i64 (rd x0 x6) 4294967295))) (wrap64 (x6 + 1))) else (none)) else (if (wrap64 (x4 + (x5 / 4294967296))) < (-2147483648) then (some (0, false)) else (if (wrap64 (x4 + (x5 / 4294967296))) > 2147483647 then (some (0, false)) else (some (wrap64 ((wrap64 ((wrap64 (x4 + (x5 / 4294967296))) * 4294967296)) + (Go.bits .and .i64 x5 4294967295)), true))))
def accountingref01_Sum.f (k : Nat) (l0 : List Int) : Option (Int × Bool) := accountingref01_Sum.l0 k l0 0 0 0
theorem accountingref01_Sum.mono_l : ∀ k, (∀ y0 y1 y2 y3, LeO (accountingref01_Sum.l0 k y0 y1 y2 y3) (accountingref01_Sum.l0 (k + 1) y0 y1 y2 y3))
  | 0 => fun _ _ _ _ r h => by simp [accountingref01_Sum.l0] at h
  | k + 1 => by
    have ih0 := accountingref01_Sum.mono_l k
    · intro y0 y1 y2 y3
      unfold accountingref01_Sum.l0
      repeat' first
      | (with_reducible exact ih0 _ _ _ _)
      | (with_reducible exact LeO.refl _)
      | (with_reducible exact LeO.none _)
      | (with_reducible refine LeO.ite ?_ ?_)
      | (with_reducible refine LeO.bind ?_ (fun _ => ?_))
      | exact ih0 _ _ _ _
      | exact LeO.none _
      | refine LeO.ite ?_ ?_
      | refine LeO.bind ?_ (fun _ => ?_)
theorem accountingref01_Sum.mono : ∀ a0 k, LeO (accountingref01_Sum.f k a0) (accountingref01_Sum.f (k + 1) a0) := by
  intro a0 k
  have ih0 := accountingref01_Sum.mono_l k
  unfold accountingref01_Sum.f
  repeat' first
      | (with_reducible exact ih0 _ _ _ _)
      | (with_reducible exact LeO.refl _)
      | (with_reducible exact LeO.none _)
      | (with_reducible refine LeO.ite ?_ ?_)
      | (with_reducible refine LeO.bind ?_ (fun _ => ?_))
      | exact ih0 _ _ _ _
      | exact LeO.none _
      | refine LeO.ite ?_ ?_
      | refine LeO.bind ?_ (fun _ => ?_)
set_option maxHeartbeats 8000000 in
set_option maxRecDepth 100000 in
theorem accountingref01_Sum.calls (k : Nat) (A0 : Option Addr) (c0 : Nat) (l0 : List Int) (r1 : Int) (r2 : Bool) (w : World) (hr0 : Kd.C (Kd.int .i64) w A0 l0.length l0) (hc0 : l0.length ≤ c0) (h : accountingref01_Sum.f k l0 = some (r1, r2)) :
    Calls Try.prog 58 #[.slice A0 l0.length c0] w fun e w' => e = .returned (.tuple #[.int .i64 r1, .bool r2]) ∧ Drawn0 w w' := by
  have HR0 := Aside0.mk hr0
  have HC0 := Aside0.mk hc0
  clear hr0 hc0
  have H : (accountingref01_Sum.l0 k l0 0 0 0) = some (r1, r2) := h
  clear h
  have H' := Aside0.mk H
  clear H
  go_enter Try.func58, Try.ntmps58
  go_wp2
  go_loopg [4, 5, 6] k (fun kq v4 v5 v6 w' => ∃ (x4_1 : Int) (x5_1 : Int) (x6_1 : Int), v4 = .int .i64 x4_1 ∧ v5 = .int .i64 x5_1 ∧ v6 = .int .i64 x6_1 ∧ Aside0 (accountingref01_Sum.l0 kq l0 x4_1 x5_1 x6_1 = some (r1, r2)) ∧ Aside0 (kq ≤ k) ∧ Drawn0 w w')
  case atStart => exact ⟨(0), (0), (0), (by first | rfl | (simp; done) | (simp [*]; done)), (by first | rfl | (simp; done) | (simp [*]; done)), (by first | rfl | (simp; done) | (simp [*]; done)), H', ⟨Nat.le_refl _⟩, by repeat (first | exact Drawn0.refl _ | apply Drawn0.step)⟩
  case round =>
    clear H'
    obtain ⟨x4_1, x5_1, x6_1, rfl, rfl, rfl, HA, HK1, ⟨m1, rfl⟩⟩ := hrel
    cases gk with
    | zero => exact absurd HA.out (by simp [accountingref01_Sum.l0])
    | succ k1 =>
      have H := HA.out
      clear HA
      simp only [accountingref01_Sum.l0] at H
      by_cases c2 : x6_1 < (l0.length : Int)
      · rw [if_pos c2] at H
        have c2b0 : decide (x6_1 < (l0.length : Int)) = true := decide_eq_true c2
        clear c2
        by_cases c3 : 0 ≤ x6_1
        · rw [if_pos c3] at H
          have c3b0 : decide (0 ≤ x6_1) = true := decide_eq_true c3
          clear c3
          have H' := Aside0.mk H
          clear H
          have p124 : 0 ≤ (x6_1 : Int) := of_decide_eq_true (by first | (with_reducible assumption) | assumption)
          have q124 : x6_1 < (l0.length : Int) := of_decide_eq_true (by first | (with_reducible assumption) | assumption)
          obtain ⟨ad124, e124, hx124_0⟩ := Kd.at_int HR0.out x6_1 p124 q124
          cases e124
          replace p124 := eq_true p124
          replace q124 := eq_true q124
          have p125 : 0 ≤ (x6_1 : Int) := of_decide_eq_true (by first | (with_reducible assumption) | assumption)
          have q125 : x6_1 < (l0.length : Int) := of_decide_eq_true (by first | (with_reducible assumption) | assumption)
          obtain ⟨ad125, e125, hx125_0⟩ := Kd.at_int HR0.out x6_1 p125 q125
          obtain rfl : ad124 = ad125 := (by injection e125)
          replace p125 := eq_true p125
          replace q125 := eq_true q125
          go_wp2
          go_roundg k1
          case measure => have := HK1.out; omega
          case rel => exact ⟨(wrap64 (x4_1 + ((rd l0 x6_1) / 4294967296))), (wrap64 (x5_1 + (Go.bits .and .i64 (rd l0 x6_1) 4294967295))), (wrap64 (x6_1 + 1)), (by first | rfl | (simp; done) | (simp [*]; done)), (by first | rfl | (simp; done) | (simp [*]; done)), (by first | rfl | (simp; done) | (simp [*]; done)), H', ⟨by have := HK1.out; omega⟩, by repeat (first | exact Drawn0.refl _ | apply Drawn0.step)⟩
        · rw [if_neg c3] at H
          exact absurd H (by simp)
      · rw [if_neg c2] at H
        have c2b0 : decide (x6_1 < (l0.length : Int)) = false := decide_eq_false c2
        clear c2
        by_cases c4 : (wrap64 (x4_1 + (x5_1 / 4294967296))) < (-2147483648)
        · rw [if_pos c4] at H
          have c4b0 : decide ((wrap64 (x4_1 + (x5_1 / 4294967296))) < (-2147483648)) = true := decide_eq_true c4
          clear c4
          simp only [Option.some.injEq, Prod.mk.injEq] at H
          obtain ⟨rfl, rfl⟩ := H
          go_wp2
          go_ret2
          exact ⟨by first | rfl | (simp; done) | (simp [*]; done), by repeat (first | exact Drawn0.refl _ | apply Drawn0.step)⟩
        · rw [if_neg c4] at H
          have c4b0 : decide ((wrap64 (x4_1 + (x5_1 / 4294967296))) < (-2147483648)) = false := decide_eq_false c4
          clear c4
          by_cases c5 : (wrap64 (x4_1 + (x5_1 / 4294967296))) > 2147483647
          · rw [if_pos c5] at H
            have c5b0 : decide (2147483647 < (wrap64 (x4_1 + (x5_1 / 4294967296)))) = true := decide_eq_true c5
            clear c5
            simp only [Option.some.injEq, Prod.mk.injEq] at H
            obtain ⟨rfl, rfl⟩ := H
            go_wp2
            go_ret2
            exact ⟨by first | rfl | (simp; done) | (simp [*]; done), by repeat (first | exact Drawn0.refl _ | apply Drawn0.step)⟩
          · rw [if_neg c5] at H
            have c5b0 : decide (2147483647 < (wrap64 (x4_1 + (x5_1 / 4294967296)))) = false := decide_eq_false c5
            clear c5
            simp only [Option.some.injEq, Prod.mk.injEq] at H
            obtain ⟨rfl, rfl⟩ := H
            go_wp2
            go_ret2
            exact ⟨by first | rfl | (simp; done) | (simp [*]; done), by repeat (first | exact Drawn0.refl _ | apply Drawn0.step)⟩
def accountingref19_fits.f (a0 : Int) : Option (Bool) := if a0 ≥ (-1000000000000000) then (some (decide (a0 ≤ 1000000000000000))) else (some false)
set_option maxHeartbeats 8000000 in
set_option maxRecDepth 100000 in
theorem accountingref19_fits.calls (a0 : Int) (r : Bool) (w : World) (h : accountingref19_fits.f a0 = some r) :
    Calls Try.prog 59 #[.int .i64 a0] w fun e w' => e = .returned (.bool r) ∧ Drawn0 w w' := by
  have H : (if a0 ≥ (-1000000000000000) then (some (decide (a0 ≤ 1000000000000000))) else (some false)) = some r := h
  clear h
  by_cases c2 : a0 ≥ (-1000000000000000)
  · rw [if_pos c2] at H
    have c2b0 : decide ((-1000000000000000) ≤ a0) = true := decide_eq_true c2
    clear c2
    obtain rfl := Option.some.inj H
    go_enter Try.func59, Try.ntmps59
    go_wp2
    go_ret
    exact ⟨by first | rfl | (simp; done) | (simp [*]; done), by repeat (first | exact Drawn0.refl _ | apply Drawn0.step)⟩
  · rw [if_neg c2] at H
    have c2b0 : decide ((-1000000000000000) ≤ a0) = false := decide_eq_false c2
    clear c2
    obtain rfl := Option.some.inj H
    go_enter Try.func59, Try.ntmps59
    go_wp2
    go_ret
    exact ⟨by first | rfl | (simp; done) | (simp [*]; done), by repeat (first | exact Drawn0.refl _ | apply Drawn0.step)⟩
end Go.Proofs.Ytmflggbpiadkjaa.P
