/- Texts of mine and of the print, joined: Px55, SpecFd, SpecLs, Px59, SpecN, Px54, Px56, Px57, SpecB, Px4, Px25, SpecSm, HandShs, HandLedgerBalances. -/
import Derived.Test.YtppcjoaghlecmaaDoorLa
import Derived.Test.YtppcjoaghlecmaaDoorLd
import Derived.Test.YtppcjoaghlecmaaDoorLc
import Derived.Test.YtppcjoaghlecmaaDoorLe
namespace Go.Proofs.YtppcjoaghlecmaaDoor.P
open Go.RowKit Go.Proofs.YtppcjoaghlecmaaDoorW.PrintWords Go.Proofs.YtppcjoaghlecmaaDoorW.PrintLast Go.Proofs.YtppcjoaghlecmaaDoorW.PrintMore
attribute [local go_sem] max2_int min2_int max_two min_two max_three min_three max_four min_four
set_option linter.unusedVariables false
set_option linter.unusedSimpArgs false
mutual
def sheet_Fold.j0 : Nat → List (S112) → Int → Bool → Option ((List (S112)) × Int)
 | 0, _, _, _ => none
 | k + 1, x0, x1, x18 => if x18 = true then (some (([] : List (S112)), 2)) else ((slices_Clone.f x0).bind fun t372 => (sheet_Fold.l0 k x1 t372 (t372.length : Int) 0))
def sheet_Fold.l0 : Nat → Int → List (S112) → Int → Int → Option ((List (S112)) × Int)
 | 0, _, _, _, _ => none
 | k + 1, x1, x6, x22, x23 => if x23 < x22 then (if 0 ≤ x23 then (if x23 < (x6.length : Int) then ((sheet_kept.f ((rd_T112 x6 x23).f0.f0) ((rd_T112 x6 x23).f0.f1) ((rd_T112 x6 x23).f0.f2) ((rd_T112 x6 x23).f0.f3) ((rd_T112 x6 x23).f0.f4) x1).bind fun bt376 => (sheet_Fold.l0 k x1 (x6.set (x23 : Int).toNat (⟨(⟨bt376.1, bt376.2.1, bt376.2.2.1, bt376.2.2.2.1, bt376.2.2.2.2⟩ : S40), (rd_T112 x6 x23).f1, (rd_T112 x6 x23).f2⟩ : S112)) x22 (wrap64 (x23 + 1)))) else (none)) else (none)) else ((sheet_Of.f x6).bind fun bt382 => (some (bt382.1, bt382.2)))
end
def sheet_Fold.f (k : Nat) (l0 : List (S112)) (a1 : Int) : Option ((List (S112)) × Int) := (sheet_Right.f l0).bind fun t371 => (if t371 = true then (if a1 < 0 then (sheet_Fold.j0 k l0 a1 true) else (sheet_Fold.j0 k l0 a1 (decide (a1 > 31)))) else (sheet_Fold.j0 k l0 a1 true))
theorem sheet_Fold.mono_l : ∀ k, (∀ y0 y1 y2, LeO (sheet_Fold.j0 k y0 y1 y2) (sheet_Fold.j0 (k + 1) y0 y1 y2)) ∧ (∀ y0 y1 y2 y3, LeO (sheet_Fold.l0 k y0 y1 y2 y3) (sheet_Fold.l0 (k + 1) y0 y1 y2 y3))
 | 0 => ⟨fun _ _ _ r h => by simp [sheet_Fold.j0] at h, fun _ _ _ _ r h => by simp [sheet_Fold.l0] at h⟩
 | k + 1 => by
  obtain ⟨ih0, ih1⟩ := sheet_Fold.mono_l k
  refine ⟨?_, ?_⟩
  ·intro y0 y1 y2
   unfold sheet_Fold.j0
   repeat' first
   | (with_reducible exact ih0 _ _ _)
   | (with_reducible exact ih1 _ _ _ _)
   | (with_reducible exact LeO.refl _)
   | (with_reducible exact LeO.none _)
   | (with_reducible refine LeO.ite ?_ ?_)
   | (with_reducible refine LeO.bind ?_ (fun _ => ?_))
   | exact ih0 _ _ _
   | exact ih1 _ _ _ _
   | exact LeO.none _
   | refine LeO.ite ?_ ?_
   | refine LeO.bind ?_ (fun _ => ?_)
  ·intro y0 y1 y2 y3
   unfold sheet_Fold.l0
   repeat' first
   | (with_reducible exact ih0 _ _ _)
   | (with_reducible exact ih1 _ _ _ _)
   | (with_reducible exact LeO.refl _)
   | (with_reducible exact LeO.none _)
   | (with_reducible refine LeO.ite ?_ ?_)
   | (with_reducible refine LeO.bind ?_ (fun _ => ?_))
   | exact ih0 _ _ _
   | exact ih1 _ _ _ _
   | exact LeO.none _
   | refine LeO.ite ?_ ?_
   | refine LeO.bind ?_ (fun _ => ?_)
theorem sheet_Fold.mono : ∀ a0 a1 k, LeO (sheet_Fold.f k a0 a1) (sheet_Fold.f (k + 1) a0 a1) := by
 intro a0 a1 k
 obtain ⟨ih0, ih1⟩ := sheet_Fold.mono_l k
 unfold sheet_Fold.f
 repeat' first
   | (with_reducible exact ih0 _ _ _)
   | (with_reducible exact ih1 _ _ _ _)
   | (with_reducible exact LeO.refl _)
   | (with_reducible exact LeO.none _)
   | (with_reducible refine LeO.ite ?_ ?_)
   | (with_reducible refine LeO.bind ?_ (fun _ => ?_))
   | exact ih0 _ _ _
   | exact ih1 _ _ _ _
   | exact LeO.none _
   | refine LeO.ite ?_ ?_
   | refine LeO.bind ?_ (fun _ => ?_)
set_option maxHeartbeats 8000000 in
set_option maxRecDepth 100000 in
theorem sheet_Fold.calls (k : Nat) (A0 : Option Addr) (c0 : Nat) (l0 : List (S112)) (a1 : Int) (r1 : List (S112)) (r2 : Int) (w : World) (hr0 : Kd.C k112 w A0 l0.length l0) (hc0 : l0.length ≤ c0) (h : sheet_Fold.f k l0 a1 = some (r1, r2)) :
  Calls Tryd.prog 32 #[.slice A0 l0.length c0, .int .i64 a1] w fun e w' => ∃ v0_ : Value, e = .returned (.tuple #[v0_, .int .i64 r2]) ∧ Kd.R k112 112 w' w.heap.size (fun _ => True) v0_ r1 ∧ Below w.heap.size w w' := by
 have hu40 := Tryd.underlying40
 have HR0 := Aside0.mk hr0
 have HC0 := Aside0.mk hc0
 clear hr0 hc0
 have HB := Aside0.mk (Below.refl w.heap.size w)
 have H : ((sheet_Right.f l0).bind fun t371 => (if t371 = true then (if a1 < 0 then (sheet_Fold.j0 k l0 a1 true) else (sheet_Fold.j0 k l0 a1 (decide (a1 > 31)))) else (sheet_Fold.j0 k l0 a1 true))) = some (r1, r2) := h
 clear h
 have HC3 := Aside0.mk H
 clear H
 go_enter Tryd.func32, Tryd.ntmps32
 go_upto_region 1 with (fail)
 go_cut [18] (fun v18 wc => ∃ (kq : Nat) (x18_2 : Bool), v18 = .bool x18_2 ∧ Aside0 (sheet_Fold.j0 kq l0 a1 x18_2 = some (r1, r2)) ∧ Aside0 (kq ≤ k) ∧ Aside0 (Below w.heap.size w wc))
 case first =>
  have H := HC3.out
  clear HC3
  replace H := Option.bind_eq_some_iff.mp H
  obtain ⟨t371, A40, H⟩ := H
  try dsimp only at H
  have A4 := Aside0.mk A40
  clear A40
  by_cases c5 : t371 = true
  ·subst c5
   have H1 : (if a1 < 0 then (sheet_Fold.j0 k l0 a1 true) else (sheet_Fold.j0 k l0 a1 (decide (a1 > 31)))) = some (r1, r2) := by rw [if_pos rfl] at H; exact H
   clear H
   have H := H1
   clear H1
   by_cases c6 : a1 < 0
   ·rw [if_pos c6] at H
    have c6b0 : decide (a1 < 0) = true := decide_eq_true c6
    clear c6
    (first | rw [c6b0] | (simp only [i64_w, i32_w]; rw [c6b0]) | skip)
    have H' := Aside0.mk H
    clear H
    go_wp2_with (first | ((with_reducible refine gate_callee (f := 34) rfl ?_); refine goesL_ (some 9) rfl rfl Tryd.func34 (by kernel_rfl) rfl #[.slice A0 l0.length c0] rfl (by (try simp only [List.map_toArray, List.map_cons, List.map_nil]); first | done | rfl | (simp only [List.length_drop, List.length_take]; rfl)) ?_; (with_reducible refine (sheet_Right.calls _ _ l0 true _ ?side1 ?side2 A4.out).mono ?_); (case side1 => repeat (first | exact (Kd.C_below HR0.out HB.out) | exact (Kd.C_drewN (Kd.C_below HR0.out HB.out) _) | (with_reducible refine Kd.C_alloc ?_ _) | (with_reducible refine Kd.C_drewN ?_ _) | (with_reducible refine Kd.C_drew ?_))); (case side2 => exact HC0.out); rintro e w7 ⟨rfl, hb⟩; refine ⟨_, rfl, ?_⟩; have n0_ := Aside0.mk (below_step (by repeat (first | (with_reducible first | exact HB.out | apply below_alloc | apply pw_below_drewN | apply below_drew1) | exact HB.out)) hb); clear HB; have HB := n0_; clear n0_; (try clear hb); (try clear hb2); (try clear hk); (try clear hi)))
    go_meet
    case rel => exact ⟨_, (true), (by first | rfl | (simp; done) | (simp [*]; done)), H', ⟨by first | omega | exact Nat.le_refl _⟩, ⟨by repeat (first | (with_reducible first | exact HB.out | apply below_alloc | apply pw_below_drewN | apply below_drew1) | exact HB.out)⟩⟩
   ·rw [if_neg c6] at H
    have c6b0 : decide (a1 < 0) = false := decide_eq_false c6
    clear c6
    (first | rw [c6b0] | (simp only [i64_w, i32_w]; rw [c6b0]) | skip)
    have H' := Aside0.mk H
    clear H
    go_wp2_with (first | ((with_reducible refine gate_callee (f := 34) rfl ?_); refine goesL_ (some 9) rfl rfl Tryd.func34 (by kernel_rfl) rfl #[.slice A0 l0.length c0] rfl (by (try simp only [List.map_toArray, List.map_cons, List.map_nil]); first | done | rfl | (simp only [List.length_drop, List.length_take]; rfl)) ?_; (with_reducible refine (sheet_Right.calls _ _ l0 true _ ?side1 ?side2 A4.out).mono ?_); (case side1 => repeat (first | exact (Kd.C_below HR0.out HB.out) | exact (Kd.C_drewN (Kd.C_below HR0.out HB.out) _) | (with_reducible refine Kd.C_alloc ?_ _) | (with_reducible refine Kd.C_drewN ?_ _) | (with_reducible refine Kd.C_drew ?_))); (case side2 => exact HC0.out); rintro e w8 ⟨rfl, hb⟩; refine ⟨_, rfl, ?_⟩; have n0_ := Aside0.mk (below_step (by repeat (first | (with_reducible first | exact HB.out | apply below_alloc | apply pw_below_drewN | apply below_drew1) | exact HB.out)) hb); clear HB; have HB := n0_; clear n0_; (try clear hb); (try clear hb2); (try clear hk); (try clear hi)))
    go_meet
    case rel => exact ⟨_, (decide (a1 > 31)), (by first | rfl | (simp; done) | (simp [*]; done)), H', ⟨by first | omega | exact Nat.le_refl _⟩, ⟨by repeat (first | (with_reducible first | exact HB.out | apply below_alloc | apply pw_below_drewN | apply below_drew1) | exact HB.out)⟩⟩
  ·replace c5 := Bool.eq_false_iff.mpr c5
   subst c5
   have H1 : (sheet_Fold.j0 k l0 a1 true) = some (r1, r2) := by rw [if_neg (show ¬ (false = true) by decide)] at H; exact H
   clear H
   have H := H1
   clear H1
   have H' := Aside0.mk H
   clear H
   go_wp2_with (first | ((with_reducible refine gate_callee (f := 34) rfl ?_); refine goesL_ (some 9) rfl rfl Tryd.func34 (by kernel_rfl) rfl #[.slice A0 l0.length c0] rfl (by (try simp only [List.map_toArray, List.map_cons, List.map_nil]); first | done | rfl | (simp only [List.length_drop, List.length_take]; rfl)) ?_; (with_reducible refine (sheet_Right.calls _ _ l0 false _ ?side1 ?side2 A4.out).mono ?_); (case side1 => repeat (first | exact (Kd.C_below HR0.out HB.out) | exact (Kd.C_drewN (Kd.C_below HR0.out HB.out) _) | (with_reducible refine Kd.C_alloc ?_ _) | (with_reducible refine Kd.C_drewN ?_ _) | (with_reducible refine Kd.C_drew ?_))); (case side2 => exact HC0.out); rintro e w9 ⟨rfl, hb⟩; refine ⟨_, rfl, ?_⟩; have n0_ := Aside0.mk (below_step (by repeat (first | (with_reducible first | exact HB.out | apply below_alloc | apply pw_below_drewN | apply below_drew1) | exact HB.out)) hb); clear HB; have HB := n0_; clear n0_; (try clear hb); (try clear hb2); (try clear hk); (try clear hi)))
   go_meet
   case rel => exact ⟨_, (true), (by first | rfl | (simp; done) | (simp [*]; done)), H', ⟨by first | omega | exact Nat.le_refl _⟩, ⟨by repeat (first | (with_reducible first | exact HB.out | apply below_alloc | apply pw_below_drewN | apply below_drew1) | exact HB.out)⟩⟩
 case rest =>
  clear HC3
  try clear p2
  try clear c3
  try clear c5
  try clear c6
  try clear c6b0
  obtain ⟨kq, x18_2, rfl, HA, HJ2, HB⟩ := hcut
  cases kq with
  | zero => exact absurd HA.out (by simp [sheet_Fold.j0])
  | succ kj2 =>
   have H := HA.out
   clear HA
   simp only [sheet_Fold.j0] at H
   by_cases c10 : x18_2 = true
   ·subst c10
    have H1 : (some (([] : List (S112)), 2)) = some (r1, r2) := by rw [if_pos rfl] at H; exact H
    clear H
    have H := H1
    clear H1
    simp only [Option.some.injEq, Prod.mk.injEq] at H
    obtain ⟨rfl, rfl⟩ := H
    go_wp2
    go_ret2
    exact ⟨_, by first | rfl | (simp [errW_none, errW_some] <;> rfl) | (simp [*, errW_none, errW_some] <;> rfl), by first | exact Kd.R_nil _ _ _ _ _ | exact Kd.N_nil _ _ _ _ _ | exact Kd.V_nil _ _ _ _ _ | exact Kd.Q_nil _ _ _ _ _ | exact Kd.S_nil _ _ _ _ _, by repeat (first | (with_reducible first | exact HB.out | apply below_alloc | apply pw_below_drewN | apply below_drew1) | exact HB.out)⟩
   ·replace c10 := Bool.eq_false_iff.mpr c10
    subst c10
    have H1 : ((slices_Clone.f l0).bind fun t372 => (sheet_Fold.l0 kj2 a1 t372 (t372.length : Int) 0)) = some (r1, r2) := by rw [if_neg (show ¬ (false = true) by decide)] at H; exact H
    clear H
    have H := H1
    clear H1
    replace H := Option.bind_eq_some_iff.mp H
    obtain ⟨t372, A110, H⟩ := H
    replace H : (sheet_Fold.l0 kj2 a1 t372 (t372.length : Int) 0) = some (r1, r2) := H
    have A11 := Aside0.mk A110
    clear A110
    have H' := Aside0.mk H
    clear H
    go_wp2_with (first | ((with_reducible refine gate_callee (f := 63) rfl ?_); refine goesL_ (some 20) rfl rfl Tryd.func63 (by kernel_rfl) rfl #[.slice A0 l0.length c0] rfl (by (try simp only [List.map_toArray, List.map_cons, List.map_nil]); first | done | rfl | (simp only [List.length_drop, List.length_take]; rfl)) ?_; (with_reducible refine (slices_Clone.calls _ _ l0 t372 _ ?side1 ?side2 A11.out).mono ?_); (case side1 => repeat (first | exact (Kd.C_below HR0.out HB.out) | exact (Kd.C_drewN (Kd.C_below HR0.out HB.out) _) | (with_reducible refine Kd.C_alloc ?_ _) | (with_reducible refine Kd.C_drewN ?_ _) | (with_reducible refine Kd.C_drew ?_))); (case side2 => exact HC0.out); rintro e w12 ⟨v373, rfl, ho0, hb⟩; refine ⟨_, rfl, ?_⟩; have n0_ := Aside0.mk (Kd.R_lower ho0 (below_size (by repeat (first | (with_reducible first | exact HB.out | apply below_alloc | apply pw_below_drewN | apply below_drew1) | exact HB.out)))); have n1_ := Aside0.mk (below_step (by repeat (first | (with_reducible first | exact HB.out | apply below_alloc | apply pw_below_drewN | apply below_drew1) | exact HB.out)) hb); clear HB; have HO374 := n0_; have HB := n1_; clear n0_ n1_; (try clear hb); (try clear hb2); (try clear hk); (try clear hi); (try clear ho0); obtain ⟨Ao13, co13, eo13⟩ := Kd.R_slice HO374.out; subst eo13))
    go_loopg [23] kj2 (fun kq v23 w' => ∃ (x6_2 : List (S112)) (x23_2 : Int), v23 = .int .i64 x23_2 ∧ Aside0 (sheet_Fold.l0 kq a1 x6_2 (t372.length : Int) x23_2 = some (r1, r2)) ∧ Aside0 (kq ≤ kj2) ∧ Aside0 (Kd.R k112 112 w' w.heap.size (fun _ => True) (.slice Ao13 t372.length co13) x6_2) ∧ Aside0 (Below w.heap.size w w'))
    case atStart => exact ⟨(t372), (0), (by first | rfl | (simp; done) | (simp [*]; done)), H', ⟨Nat.le_refl _⟩, ⟨by (with_reducible repeat (first | apply Kd.R_alloc | apply Kd.R_drewN | apply Kd.R_drew)); exact HO374.out⟩, ⟨by repeat (first | (with_reducible first | exact HB.out | apply below_alloc | apply pw_below_drewN | apply below_drew1) | exact HB.out)⟩⟩
    case round =>
     clear H'
     try clear c1
     try clear p2
     try clear c3
     try clear c5
     try clear c6
     try clear c6b0
     try clear c10
     try clear p2
     obtain ⟨x6_2, x23_2, rfl, HA, HK2, HO_6, HB⟩ := hrel
     have hl6_2 := (Kd.R_reads' HO_6.out).1
     rw [hl6_2] at HO_6
     (try simp only [hl6_2])
     cases gk with
     | zero => exact absurd HA.out (by simp [sheet_Fold.l0])
     | succ k2 =>
      have H := HA.out
      clear HA
      simp only [sheet_Fold.l0] at H
      by_cases c14 : x23_2 < (t372.length : Int)
      ·rw [if_pos c14] at H
       have c14b0 : decide (x23_2 < (t372.length : Int)) = true := decide_eq_true c14
       clear c14
       by_cases c15 : 0 ≤ x23_2
       ·rw [if_pos c15] at H
        have c15b0 : decide (0 ≤ x23_2) = true := decide_eq_true c15
        clear c15
        by_cases c16 : x23_2 < (x6_2.length : Int)
        ·rw [if_pos c16] at H
         have c16b0 : decide (x23_2 < (x6_2.length : Int)) = true := decide_eq_true c16
         clear c16
         replace H := Option.bind_eq_some_iff.mp H
         obtain ⟨⟨t376, t377, t378, t379, t380⟩, A170, H⟩ := H
         try dsimp only at H
         have A17 := Aside0.mk A170
         clear A170
         obtain ⟨y381, hy381⟩ : ∃ y_ : List (S112), y_ = (x6_2.set (x23_2 : Int).toNat (⟨(⟨t376, t377, t378, t379, t380⟩ : S40), (rd_T112 x6_2 x23_2).f1, (rd_T112 x6_2 x23_2).f2⟩ : S112)) := ⟨_, rfl⟩
         replace H : (sheet_Fold.l0 k2 a1 y381 (t372.length : Int) (wrap64 (x23_2 + 1))) = some (r1, r2) := by first | (rw [hy381]; with_reducible exact H) | (have H2_ := (Option.bind_some _ _).symm.trans H; rw [hy381]; with_reducible exact H2_) | (have H2_ := (Option.bind_some _ _).symm.trans H; with_reducible exact H2_) | with_reducible exact H | (rw [hy381]; exact H) | exact H
         have Ny381 := Aside0.mk hy381
         clear hy381
         have H' := Aside0.mk H
         clear H
         have p375 : 0 ≤ (x23_2 : Int) := of_decide_eq_true (by first | (with_reducible assumption) | assumption)
         have q375 : x23_2 < (x6_2.length : Int) := of_decide_eq_true (by first | (with_reducible assumption) | assumption)
         obtain ⟨ad375, e375, hx375_0, hx375_1, hx375_2, hx375_3, hx375_4, hx375_5, hx375_6⟩ := at_T112 (Kd.R_reads' HO_6.out).2.2 x23_2 p375 q375
         cases e375
         replace p375 := eq_true p375
         replace q375 := eq_true q375
         go_wp2_with (first | ((with_reducible refine gate_callee (f := 64) rfl ?_); refine goesL_ (some 34) rfl rfl Tryd.func64 (by kernel_rfl) rfl #[.agg #[.string ((rd_T112 x6_2 x23_2).f0.f0), .string ((rd_T112 x6_2 x23_2).f0.f1), .string ((rd_T112 x6_2 x23_2).f0.f2), .string ((rd_T112 x6_2 x23_2).f0.f3), .string ((rd_T112 x6_2 x23_2).f0.f4)], .int .i64 a1] rfl (by (try simp only [List.map_toArray, List.map_cons, List.map_nil]); first | done | rfl | (simp only [List.length_drop, List.length_take]; rfl)) ?_; (with_reducible refine (sheet_kept.calls ((rd_T112 x6_2 x23_2).f0.f0) ((rd_T112 x6_2 x23_2).f0.f1) ((rd_T112 x6_2 x23_2).f0.f2) ((rd_T112 x6_2 x23_2).f0.f3) ((rd_T112 x6_2 x23_2).f0.f4) a1 t376 t377 t378 t379 t380 _ A17.out).mono ?_); rintro e w19 ⟨rfl, hb⟩; refine ⟨_, rfl, ?_⟩; have n0_ := Aside0.mk (Kd.R_below (by (with_reducible repeat (first | apply Kd.R_alloc | apply Kd.R_drewN | apply Kd.R_drew)); exact HO_6.out) hb); have n1_ := Aside0.mk (below_step (by repeat (first | (with_reducible first | exact HB.out | apply below_alloc | apply pw_below_drewN | apply below_drew1) | exact HB.out)) hb); clear HO_6; clear HB; have HO_6 := n0_; have HB := n1_; clear n0_ n1_; (try clear hb); (try clear hb2); (try clear hk); (try clear hi); have p18 : 0 ≤ (x23_2 : Int) := of_decide_eq_true (by first | (with_reducible assumption) | assumption); have q18 : (x23_2 : Int) < ((x6_2.length : Int) : Int) := of_decide_eq_true (by first | (with_reducible assumption) | assumption); obtain ⟨go18, co18, eo18, gb18, gl18, cl18, HG18⟩ := Kd.R_form HO_6.out (by omega); (first | cases eo18 | (injection eo18 with ea_ en_ ec_; (first | subst ea_ | (injection ea_ with ea_; subst ea_)); subst ec_; clear en_)); have GB18 := Aside0.mk gb18; have GG18 := Aside0.mk HG18; clear gb18 gl18 HG18; (first | simp only [add_plain] at hx375_0 | skip); (first | simp only [add_plain] at hx375_1 | skip); (first | simp only [add_plain] at hx375_2 | skip); (first | simp only [add_plain] at hx375_3 | skip); (first | simp only [add_plain] at hx375_4 | skip); (first | simp only [add_plain] at hx375_5 | skip); (first | simp only [add_plain] at hx375_6 | skip); obtain ⟨ce18, hcl18, hM18, hcc18, hfr18⟩ := Kd.R_elem HO_6.out z112 (x23_2 : Int) p18 q18; obtain rfl := k112_openM hM18; have hx18_0 : w19.cell? ⟨go18, (x23_2 : Int).toNat * 7, none⟩ = some (.string ((rd_T112 x6_2 x23_2).f0.f0)) := hcc18 0 _ rfl; have hx18_1 : w19.cell? ⟨go18, (x23_2 : Int).toNat * 7 + 1, none⟩ = some (.string ((rd_T112 x6_2 x23_2).f0.f1)) := hcc18 1 _ rfl; have hx18_2 : w19.cell? ⟨go18, (x23_2 : Int).toNat * 7 + 2, none⟩ = some (.string ((rd_T112 x6_2 x23_2).f0.f2)) := hcc18 2 _ rfl; have hx18_3 : w19.cell? ⟨go18, (x23_2 : Int).toNat * 7 + 3, none⟩ = some (.string ((rd_T112 x6_2 x23_2).f0.f3)) := hcc18 3 _ rfl; have hx18_4 : w19.cell? ⟨go18, (x23_2 : Int).toNat * 7 + 4, none⟩ = some (.string ((rd_T112 x6_2 x23_2).f0.f4)) := hcc18 4 _ rfl; have hx18_5 : w19.cell? ⟨go18, (x23_2 : Int).toNat * 7 + 5, none⟩ = some (.int .i64 ((rd_T112 x6_2 x23_2).f1)) := hcc18 5 _ rfl; have hx18_6 : w19.cell? ⟨go18, (x23_2 : Int).toNat * 7 + 6, none⟩ = some (.int .i64 ((rd_T112 x6_2 x23_2).f2)) := hcc18 6 _ rfl; have hf18_0 : w19.frozen? ⟨go18, (x23_2 : Int).toNat * 7, none⟩ = false := hfr18 0; have hf18_1 : w19.frozen? ⟨go18, (x23_2 : Int).toNat * 7 + 1, none⟩ = false := hfr18 1; have hf18_2 : w19.frozen? ⟨go18, (x23_2 : Int).toNat * 7 + 2, none⟩ = false := hfr18 2; have hf18_3 : w19.frozen? ⟨go18, (x23_2 : Int).toNat * 7 + 3, none⟩ = false := hfr18 3; have hf18_4 : w19.frozen? ⟨go18, (x23_2 : Int).toNat * 7 + 4, none⟩ = false := hfr18 4; have hf18_5 : w19.frozen? ⟨go18, (x23_2 : Int).toNat * 7 + 5, none⟩ = false := hfr18 5; have hf18_6 : w19.frozen? ⟨go18, (x23_2 : Int).toNat * 7 + 6, none⟩ = false := hfr18 6; clear hcl18 hcc18 hfr18 hM18; replace p18 := eq_true p18; replace q18 := eq_true q18; have HX20 := Aside0.mk (show Kd.R k112 112 w19 w.heap.size (fun _ => True) (.slice (some ⟨go18, 0, none⟩) x6_2.length co13) x6_2 from (by (with_reducible repeat (first | apply Kd.R_alloc | apply Kd.R_drewN | apply Kd.R_drew)); exact HO_6.out)); obtain ⟨ce20, hcl20, hM20, hcc20, hfr20⟩ := Kd.R_elem HX20.out z112 (x23_2 : Int) (of_decide_eq_true (by first | (with_reducible assumption) | assumption)) (by have h_ : (x23_2 : Int) < ((x6_2.length : Int) : Int) := of_decide_eq_true (by first | (with_reducible assumption) | assumption); first | exact h_ | (have e_ := (Kd.R_reads' HO_6.out).1; omega) | simpa using h_); obtain rfl := k112_openM hM20; have HP20 := Kd.R_seg HX20.out (x23_2 : Int) (of_decide_eq_true (by first | (with_reducible assumption) | assumption)) (by have h_ : (x23_2 : Int) < ((x6_2.length : Int) : Int) := of_decide_eq_true (by first | (with_reducible assumption) | assumption); first | exact h_ | (have e_ := (Kd.R_reads' HO_6.out).1; omega) | simpa using h_) (seg := [.string t376, .string t377, .string t378, .string t379, .string t380]) (j := 0) hcl20 hcc20 (show 5 ≤ 7 from by decide) (x' := (⟨(⟨t376, t377, t378, t379, t380⟩ : S40), (rd_T112 x6_2 x23_2).f1, (rd_T112 x6_2 x23_2).f2⟩ : S112)) (k112_mkM _ _ _ (⟨(⟨t376, t377, t378, t379, t380⟩ : S40), (rd_T112 x6_2 x23_2).f1, (rd_T112 x6_2 x23_2).f2⟩ : S112) ) (fun _ hk => hk); have hx20_0 := hcc20 0 _ rfl; (try simp only [show (k112).sz = 7 from rfl, Nat.mul_one, Nat.add_zero] at hx20_0); have hf20_0 := hfr20 0; (try simp only [show (k112).sz = 7 from rfl, Nat.mul_one, Nat.add_zero] at hf20_0); have hx20_1 := hcc20 1 _ rfl; (try simp only [show (k112).sz = 7 from rfl, Nat.mul_one, Nat.add_zero] at hx20_1); have hf20_1 := hfr20 1; (try simp only [show (k112).sz = 7 from rfl, Nat.mul_one, Nat.add_zero] at hf20_1); have hx20_2 := hcc20 2 _ rfl; (try simp only [show (k112).sz = 7 from rfl, Nat.mul_one, Nat.add_zero] at hx20_2); have hf20_2 := hfr20 2; (try simp only [show (k112).sz = 7 from rfl, Nat.mul_one, Nat.add_zero] at hf20_2); have hx20_3 := hcc20 3 _ rfl; (try simp only [show (k112).sz = 7 from rfl, Nat.mul_one, Nat.add_zero] at hx20_3); have hf20_3 := hfr20 3; (try simp only [show (k112).sz = 7 from rfl, Nat.mul_one, Nat.add_zero] at hf20_3); have hx20_4 := hcc20 4 _ rfl; (try simp only [show (k112).sz = 7 from rfl, Nat.mul_one, Nat.add_zero] at hx20_4); have hf20_4 := hfr20 4; (try simp only [show (k112).sz = 7 from rfl, Nat.mul_one, Nat.add_zero] at hf20_4); clear hcl20 hcc20 hfr20 hM20) | ((with_reducible refine gate_store (t := 40) (p := 36) rfl ?_); refine store_event (t := 40) (p := 36) (v := ?vo_w21) (w1 := (((((w19.setCell ⟨go18, (x23_2 : Int).toNat * 7, none⟩ (.string t376)).setCell ⟨go18, (x23_2 : Int).toNat * 7 + 1, none⟩ (.string t377)).setCell ⟨go18, (x23_2 : Int).toNat * 7 + 2, none⟩ (.string t378)).setCell ⟨go18, (x23_2 : Int).toNat * 7 + 3, none⟩ (.string t379)).setCell ⟨go18, (x23_2 : Int).toNat * 7 + 4, none⟩ (.string t380))) ?hg ?ho ?hn ?hr ?_; (case ho => rfl); (case hg => rfl); (case hn => rfl); (case hr => first | (go_simp; done) | (go_simp; rfl)); intro w21 hw; have hg : w19.grownBy w21 (some go18) := (by rw [hw]; exact HP20.2); have hp_ : Kd.R k112 112 w21 w.heap.size (fun _ => True) (.slice (some ⟨go18, 0, none⟩) x6_2.length co13) y381 := (by rw [hw, Ny381.out]; exact HP20.1); clear HP20; have n0_ := Aside0.mk (hp_); have n1_ := Aside0.mk ((by rw [hw]; exact below_set (below_set (below_set (below_set (below_set (HB.out) GB18.out) GB18.out) GB18.out) GB18.out) GB18.out : Below w.heap.size w w21)); clear HO_6; clear HB; have HO_6 := n0_; have HB := n1_; clear n0_ n1_; clear hg hw hp_))
         (try simp only [← hl6_2])
         go_roundg k2
         case measure => have := HJ2.out; have := HK2.out; omega
         case rel => exact ⟨(y381), (wrap64 (x23_2 + 1)), (by first | rfl | (simp; done) | (simp [*]; done)), H', ⟨by have := HJ2.out; have := HK2.out; omega⟩, ⟨by (try simp only [hl6_2]); (with_reducible repeat (first | apply Kd.R_alloc | apply Kd.R_drewN | apply Kd.R_drew)); exact HO_6.out⟩, ⟨by repeat (first | (with_reducible first | exact HB.out | apply below_alloc | apply pw_below_drewN | apply below_drew1) | exact HB.out)⟩⟩
        ·rw [if_neg c16] at H
         exact absurd H (by simp)
       ·rw [if_neg c15] at H
        exact absurd H (by simp)
      ·rw [if_neg c14] at H
       have c14b0 : decide (x23_2 < (t372.length : Int)) = false := decide_eq_false c14
       have c14b1 := c14b0
       rw [hl6_2] at c14b1
       clear c14
       replace H := Option.bind_eq_some_iff.mp H
       obtain ⟨⟨t382, t383⟩, A220, H⟩ := H
       replace H : (some (t382, t383)) = some (r1, r2) := H
       have A22 := Aside0.mk A220
       clear A220
       simp only [Option.some.injEq, Prod.mk.injEq] at H
       obtain ⟨rfl, rfl⟩ := H
       go_wp2_with (first | ((with_reducible refine gate_callee (f := 31) rfl ?_); refine goesL_ (some 39) rfl rfl Tryd.func31 (by kernel_rfl) rfl #[.slice Ao13 x6_2.length co13] rfl (by (try simp only [List.map_toArray, List.map_cons, List.map_nil]); first | done | rfl | (simp only [List.length_drop, List.length_take]; rfl)) ?_; (with_reducible refine (sheet_Of.calls _ _ x6_2 t382 t383 _ ?side1 ?side2 A22.out).mono ?_); (case side1 => repeat (first | exact (Kd.R_reads' HO_6.out).2.2 | (with_reducible refine Kd.C_alloc ?_ _) | (with_reducible refine Kd.C_drewN ?_ _) | (with_reducible refine Kd.C_drew ?_))); (case side2 => exact (Kd.R_reads' HO_6.out).2.1); rintro e w23 ⟨v384, rfl, ho0, hb⟩; refine ⟨_, rfl, ?_⟩; have n0_ := Aside0.mk (Kd.R_elder' (by (with_reducible repeat (first | apply Kd.R_alloc | apply Kd.R_drewN | apply Kd.R_drew)); exact HO_6.out) (Kd.R_base ho0) hb); have n1_ := Aside0.mk (Kd.R_lower (Kd.R_new' ho0 (Kd.R_lt (by (with_reducible repeat (first | apply Kd.R_alloc | apply Kd.R_drewN | apply Kd.R_drew)); exact HO_6.out))) (below_size (by repeat (first | (with_reducible first | exact HB.out | apply below_alloc | apply pw_below_drewN | apply below_drew1) | exact HB.out)))); have n2_ := Aside0.mk (below_step (by repeat (first | (with_reducible first | exact HB.out | apply below_alloc | apply pw_below_drewN | apply below_drew1) | exact HB.out)) hb); clear HO_6; clear HB; have HO_6 := n0_; have HO385 := n1_; have HB := n2_; clear n0_ n1_ n2_; (try clear hb); (try clear hb2); (try clear hk); (try clear hi); (try clear ho0)))
       go_ret2
       exact ⟨_, by first | rfl | (simp [errW_none, errW_some] <;> rfl) | (simp [*, errW_none, errW_some] <;> rfl), by (with_reducible repeat (first | apply Kd.R_alloc | apply Kd.R_drewN | apply Kd.R_drew)); exact Kd.R_mono HO385.out (fun _ hk => trivial), by repeat (first | (with_reducible first | exact HB.out | apply below_alloc | apply pw_below_drewN | apply below_drew1) | exact HB.out)⟩
end Go.Proofs.YtppcjoaghlecmaaDoor.P
namespace Go.Proofs.YtppcjoaghlecmaaDoor.P
open Go.RowKit Go.Proofs.YtppcjoaghlecmaaDoorW.PrintWords Go.Proofs.YtppcjoaghlecmaaDoorW.PrintLast
set_option linter.unusedVariables false
set_option linter.unusedSimpArgs false
def keyM (mask : Int) (k : S40) : S40 := keptK k mask
def rkM (mask : Int) (c : S112) : S112 := rekey (keyM mask) c
def foldK (l : List S112) (mask : Int) : List S112 × Int := if rightB l = true ∧ 0 ≤ mask ∧ mask ≤ 31 then ofK (l.map (rkM mask)) else ([], 2)
theorem kept_pure (x : S40) (mask : Int) (h0 : 0 ≤ mask) (h1 : mask ≤ 31) : sheet_kept.f x.f0 x.f1 x.f2 x.f3 x.f4 mask = some ((keyM mask x).f0, (keyM mask x).f1, (keyM mask x).f2, (keyM mask x).f3, (keyM mask x).f4) := by
 unfold sheet_kept.f
 rw [if_pos ⟨h0, h1⟩]
 rfl
theorem okS_rk {l : List S112} (h : OkS l) (mask : Int) : OkS (l.map (rkM mask)) := by
 refine ⟨by rw [List.length_map]; exact h.1, fun x hx => ?_⟩
 obtain ⟨c, hc, rfl⟩ := List.mem_map.1 hx
 exact h.2 c hc
theorem map_step {α : Type} (f : α → α) (l : List α) {i : Nat} (h : i < l.length) : ((l.take i).map f ++ l.drop i).set i (f l[i]) = (l.take (i + 1)).map f ++ l.drop (i + 1) := by
 have hlen : ((l.take i).map f).length = i := by rw [List.length_map, List.length_take]; omega
 rw [List.set_append_right _ _ (by omega), hlen, Nat.sub_self, List.drop_eq_getElem_cons h, List.take_add_one, List.getElem?_eq_getElem h, List.map_append, List.append_assoc]
 rfl
theorem map_rd (f : S112 → S112) (l : List S112) {i : Nat} (h : i < l.length) : rd_T112 ((l.take i).map f ++ l.drop i) (i : Int) = l[i] := by
 have hlen : ((l.take i).map f).length = i := by rw [List.length_map, List.length_take]; omega
 rw [rd112_at (by rw [List.length_append, hlen, List.length_drop]; omega), List.getElem_append_right (by omega), List.getElem_drop]
 simp only [hlen, Nat.sub_self, Nat.add_zero]
theorem map_len {α : Type} (f : α → α) (l : List α) {i : Nat} (h : i ≤ l.length) : ((l.take i).map f ++ l.drop i).length = l.length := by
 rw [List.length_append, List.length_map, List.length_take, List.length_drop]; omega
theorem fold_l0 (l : List S112) (mask : Int) (h0 : 0 ≤ mask) (h1 : mask ≤ 31) (hok : OkS l) : ∀ (n i : Nat), l.length - i = n → i ≤ l.length → Ev (fun k => sheet_Fold.l0 k mask ((l.take i).map (rkM mask) ++ l.drop i) (l.length : Int) (i : Int)) (ofK (l.map (rkM mask))) := by
 have hl := hok.1
 intro n
 induction n with
 | zero =>
  intro i hn hi
  refine Ev.step (fun k => sheet_Fold.l0.eq_2 _ _ _ _ k) ?_
  rw [List.take_of_length_le (by omega), List.drop_of_length_le (by omega), List.append_nil]
  unfold sheet_Of.f
  simp only [if_neg (show ¬ ((i : Int) < (l.length : Int)) by omega), if_pos (okS_rk hok mask), Option.bind_some]
  exact Ev.now _
 | succ n ih =>
  intro i hn hi
  have hil : i < l.length := by omega
  have hw : wrap64 ((i : Int) + 1) = ((i + 1 : Nat) : Int) := by rw [w64 (by omega) (by omega)]; omega
  have hs := map_step (rkM mask) l hil
  have e : (⟨⟨(keyM mask l[i].f0).f0, (keyM mask l[i].f0).f1, (keyM mask l[i].f0).f2, (keyM mask l[i].f0).f3, (keyM mask l[i].f0).f4⟩, l[i].f1, l[i].f2⟩ : S112) = rkM mask l[i] := rfl
  refine Ev.step (fun k => sheet_Fold.l0.eq_2 _ _ _ _ k) ?_
  simp only [if_pos (show ((i : Int) < (l.length : Int)) by omega), if_pos (show (0 : Int) ≤ (i : Int) by omega), hw, map_len (rkM mask) l (Nat.le_of_lt hil), map_rd (rkM mask) l hil, kept_pure _ _ h0 h1, Option.bind_some, Int.toNat_natCast, e, hs]
  exact ih (i + 1) (by omega) (by omega)
theorem fold_ev (l : List S112) (mask : Int) (hok : OkS l) : Ev (fun k => sheet_Fold.f k l mask) (foldK l mask) := by
 have hl := hok.1
 unfold sheet_Fold.f sheet_Right.f foldK
 simp only [Option.bind_some]
 have bad : Ev (fun k => sheet_Fold.j0 k l mask true) (([] : List S112), (2 : Int)) := by
  refine Ev.step (fun k => sheet_Fold.j0.eq_2 _ _ _ k) ?_
  simp only [if_true]
  exact Ev.now _
 by_cases hr : rightB l = true
 ·simp only [if_pos hr]
  by_cases c0 : mask < 0
  ·simp only [if_pos c0, if_neg (show ¬ (rightB l = true ∧ 0 ≤ mask ∧ mask ≤ 31) from fun h => by omega)]
   exact bad
  ·simp only [if_neg c0]
   by_cases c1 : mask > 31
   ·simp only [decide_eq_true c1, if_neg (show ¬ (rightB l = true ∧ 0 ≤ mask ∧ mask ≤ 31) from fun h => by omega)]
    exact bad
   ·simp only [decide_eq_false c1, if_pos (show rightB l = true ∧ 0 ≤ mask ∧ mask ≤ 31 from ⟨hr, by omega, by omega⟩)]
    refine Ev.step (fun k => sheet_Fold.j0.eq_2 _ _ _ k) ?_
    unfold slices_Clone.f
    simp only [Bool.false_eq_true, if_false, if_pos hl, Option.bind_some]
    exact fold_l0 l mask (by omega) (by omega) hok _ 0 rfl (Nat.zero_le _)
 ·simp only [if_neg hr, if_neg (show ¬ (rightB l = true ∧ 0 ≤ mask ∧ mask ≤ 31) from fun h => hr h.1)]
  exact bad
end Go.Proofs.YtppcjoaghlecmaaDoor.P
namespace Go.Proofs.YtppcjoaghlecmaaDoor.P
open Go.RowKit Go.Proofs.YtppcjoaghlecmaaDoorW.PrintWords Go.Proofs.YtppcjoaghlecmaaDoorW.PrintLast Go.Proofs.YtppcjoaghlecmaaDoorW.PrintMore
set_option linter.unusedVariables false
set_option linter.unusedSimpArgs false
def lnsE (E : List S29) : Nat := (E.map (fun x => x.f8.length)).sum
theorem lns_app (a b : List S29) : lnsE (a ++ b) = lnsE a + lnsE b := by simp [lnsE]
theorem postE_lns (E : List S29) (x : S29) : lnsE (postE E x) ≤ lnsE E + x.f8.length := by
 unfold postE
 split
 ·rw [lns_app]; simp [lnsE]
 ·omega
theorem foldE_lns : ∀ (l E : List S29), lnsE (l.foldl postE E) ≤ lnsE E + lnsE l
 | [], E => by simp [lnsE]
 | x :: r, E => by
  have h1 := foldE_lns r (postE E x)
  have h2 := postE_lns E x
  have h3 : lnsE (x :: r) = x.f8.length + lnsE r := by simp [lnsE]
  simp only [List.foldl_cons]
  omega
theorem play_lns (l : List S29) : lnsE (playE l) ≤ lnsE l := by
 have := foldE_lns l []
 simpa [playE, lnsE] using this
theorem selC_cons (x : S29) (r : List S29) (q : Qy) : selC (x :: r) q = (if selB q x = true then rawL x else []) ++ selC r q := by
 unfold selC
 by_cases h : selB q x = true
 ·rw [if_pos h]; simp [h]
 ·rw [if_neg h]; simp [h]
theorem selC_app (a b : List S29) (q : Qy) : selC (a ++ b) q = selC a q ++ selC b q := by
 unfold selC
 simp
theorem selC_len (q : Qy) : ∀ (E : List S29), (selC E q).length ≤ lnsE E
 | [] => by simp [selC]
 | x :: r => by
  have h1 := selC_len q r
  have h2 := raw_len x
  have h3 : lnsE (x :: r) = x.f8.length + lnsE r := by simp [lnsE]
  rw [selC_cons, List.length_append]
  split
  ·omega
  ·simp; omega
def InB (l : List S112) : Prop := ∀ c ∈ l, (-1000000000000 ≤ c.f1 ∧ c.f1 ≤ 1000000000000) ∧ -1000000000000 ≤ c.f2 ∧ c.f2 ≤ 1000000000000
theorem raw_in {x : S29} (h : (chkE x).2 = 0) : InB (rawL x) := fun c hc => by
 unfold rawL at hc
 obtain ⟨y, hy, rfl⟩ := List.mem_map.1 hc
 exact line_bnd ((chk_two h).2.1 y hy)
theorem selC_in {E : List S29} (hg : GoodE E) (q : Qy) : InB (selC E q) := fun c hc => by
 unfold selC at hc
 obtain ⟨l, hl, hc⟩ := List.mem_flatten.1 hc
 obtain ⟨x, hx, rfl⟩ := List.mem_map.1 hl
 exact raw_in (hg x (List.mem_filter.1 hx).1) c hc
theorem ps_bnd (P : S40 → Bool) {l : List S112} (h : InB l) : (-(1000000000000 * (l.length : Int)) ≤ psA P l ∧ psA P l ≤ 1000000000000 * (l.length : Int)) ∧ -(1000000000000 * (l.length : Int)) ≤ psB P l ∧ psB P l ≤ 1000000000000 * (l.length : Int) := by
 have hle : (l.filter (fun c => P c.f0)).length ≤ l.length := List.length_filter_le _ _
 have h1 := sum_small (amts (l.filter (fun c => P c.f0))) (fun x hx => by
  obtain ⟨c, hc, rfl⟩ := List.mem_map.1 hx
  exact (h c (List.mem_filter.1 hc).1).1)
 have h2 := sum_small (bass (l.filter (fun c => P c.f0))) (fun x hx => by
  obtain ⟨c, hc, rfl⟩ := List.mem_map.1 hx
  exact (h c (List.mem_filter.1 hc).1).2)
 unfold amts at h1
 unfold bass at h2
 rw [List.length_map] at h1 h2
 unfold psA psB amts bass
 omega
theorem in_fit {l : List S112} (h : InB l) (hl : l.length ≤ 1000) (k : S40) : fitK l k = true := by
 have := ps_bnd (isK k) h
 unfold fitK fitB
 rw [sumA_ps, sumB_ps]
 simp only [Bool.and_eq_true, decide_eq_true_eq]
 omega
theorem in_ok {l : List S112} (h : InB l) (hl : l.length ≤ 1000) : (ofK l).2 = 0 := by
 rw [ofK_ok (in_fit h hl)]
theorem sheet_ok {E : List S29} (hg : GoodE E) (hn : lnsE E ≤ 400) (q : Qy) : (sheetE E q).2 = 0 := in_ok (selC_in hg q) (by have := selC_len q E; omega)
theorem sheet_len {E : List S29} (hg : GoodE E) (hl : E.length ≤ 1000) (q : Qy) : (sheetE E q).1.length ≤ 1000000 := ofK_len (okS_sel hg hl q)
theorem ps_sheet {E : List S29} (hg : GoodE E) (hn : lnsE E ≤ 400) (q : Qy) (P : S40 → Bool) : psA P (sheetE E q).1 = psA P (selC E q) ∧ psB P (sheetE E q).1 = psB P (selC E q) := ps_ofK (sheet_ok hg hn q) P
theorem ps_raw (P : S40 → Bool) (e : ByteArray) : ∀ (l : List S109), psA P (l.map (cellL e)) = ((l.filter (fun y => P (keyL e y))).map S109.f2).sum ∧ psB P (l.map (cellL e)) = ((l.filter (fun y => P (keyL e y))).map S109.f3).sum
 | [] => ⟨rfl, rfl⟩
 | y :: r => by
  have ih := ps_raw P e r
  rw [List.map_cons, psA_cons, psB_cons, ih.1, ih.2]
  by_cases h : P (keyL e y) = true
  ·have h' : P (cellL e y).f0 = true := h
   rw [if_pos h', if_pos h', List.filter_cons_of_pos (p := fun y => P (keyL e y)) h]
   simp only [List.map_cons, List.sum_cons]
   exact ⟨rfl, rfl⟩
  ·have h' : ¬ P (cellL e y).f0 = true := h
   rw [if_neg h', if_neg h', List.filter_cons_of_neg (p := fun y => P (keyL e y)) h]
   simp
def curKey (s : ByteArray) : S40 := ⟨nilB, nilB, s, nilB, nilB⟩
theorem bal_cur {x : S29} (h : (chkE x).2 = 0) (k : S40) : psA (fun y => isK k (curKey y.f2)) (rawL x) = 0 ∧ psB (fun y => isK k (curKey y.f2)) (rawL x) = 0 := by
 have hb := (chk_two h).2.2.1
 rw [balB_eq, List.all_eq_true] at hb
 have hp := ps_raw (fun y => isK k (curKey y.f2)) x.f1 x.f8
 unfold rawL
 rw [hp.1, hp.2]
 by_cases hk : k = curKey k.f2
 ·have e : (x.f8.filter (fun y => isK k (curKey (keyL x.f1 y).f2))) = ofCur x.f8 k.f2 := by
   unfold ofCur
   refine List.filter_congr (fun y hy => ?_)
   rw [Bool.eq_iff_iff, isK_iff, decide_eq_true_iff]
   show k = curKey y.f1 ↔ _
   constructor
   ·intro h2
    have := congrArg S40.f2 h2
    exact this.symm
   ·intro h2
    rw [h2]
    exact hk
  rw [e]
  by_cases hn : ofCur x.f8 k.f2 = []
  ·rw [hn]
   exact ⟨rfl, rfl⟩
  ·obtain ⟨y, hy⟩ := List.exists_mem_of_ne_nil _ hn
   have hy2 := List.mem_filter.1 hy
   have := hb y hy2.1
   rw [decide_eq_true_iff] at this
   rw [show y.f1 = k.f2 from by simpa using hy2.2] at this
   exact this
 ·have e : (x.f8.filter (fun y => isK k (curKey (keyL x.f1 y).f2))) = [] := by
   rw [List.filter_eq_nil_iff]
   intro y hy h2
   rw [isK_iff] at h2
   refine hk ?_
   have h3 := congrArg S40.f2 h2
   rw [h3] 
   exact h2
  rw [e]
  exact ⟨rfl, rfl⟩
theorem sel_zero {P : S40 → Bool} {E : List S29} (h : ∀ x ∈ E, psA P (rawL x) = 0 ∧ psB P (rawL x) = 0) (q : Qy) : psA P (selC E q) = 0 ∧ psB P (selC E q) = 0 := by
 induction E with
 | nil => exact ⟨rfl, rfl⟩
 | cons x r ih =>
  have h1 := ih (fun y hy => h y (by simp [hy]))
  have h2 := h x (by simp)
  rw [selC_cons, psA_append, psB_append, h1.1, h1.2]
  split
  ·rw [h2.1, h2.2]; exact ⟨rfl, rfl⟩
  ·exact ⟨rfl, rfl⟩
theorem keyM_cur (k : S40) : keyM 4 k = curKey k.f2 := by kernel_rfl
theorem fold_zero {E : List S29} (hg : GoodE E) (hn : lnsE E ≤ 400) (q : Qy) : foldK (sheetE E q).1 4 = ([], 0) := by
 unfold foldK
 rw [if_pos ⟨rightB_ofK _, by omega, by omega⟩]
 have : ofK ((sheetE E q).1.map (rkM 4)) = ofK [] := by
  refine ofK_congr (fun k => ?_)
  have hr := ps_rekey (keyM 4) (isK k) (sheetE E q).1
  have hs := ps_sheet hg hn q (fun x => isK k (keyM 4 x))
  have hz := sel_zero (P := fun x => isK k (keyM 4 x)) (E := E) (fun x hx => by
   have := bal_cur (hg x hx) k
   simp only [keyM_cur]
   exact this) q
  rw [sumA_ps, sumB_ps, sumA_ps, sumB_ps]
  show psA (isK k) ((sheetE E q).1.map (rekey (keyM 4))) = 0 ∧ psB (isK k) ((sheetE E q).1.map (rekey (keyM 4))) = 0
  rw [hr.1, hr.2, hs.1, hs.2, hz.1, hz.2]
  exact ⟨rfl, rfl⟩
 rw [this]
 rfl
theorem base_zero {E : List S29} (hg : GoodE E) (hn : lnsE E ≤ 400) (q : Qy) : (bass (sheetE E q).1).sum = 0 := by
 have hf := fold_zero hg hn q
 unfold foldK at hf
 rw [if_pos ⟨rightB_ofK _, by omega, by omega⟩] at hf
 have h2 := ps_ofK (l := (sheetE E q).1.map (rkM 4)) (by rw [hf]) (fun _ => true)
 rw [hf] at h2
 have h3 := (ps_rekey (keyM 4) (fun _ => true) (sheetE E q).1).2
 rw [bass_ps, ← h3]
 exact h2.2.symm
end Go.Proofs.YtppcjoaghlecmaaDoor.P
namespace Go.Proofs.YtppcjoaghlecmaaDoor.P
open Go.RowKit Go.Proofs.YtppcjoaghlecmaaDoorW.PrintWords Go.Proofs.YtppcjoaghlecmaaDoorW.PrintLast Go.Proofs.YtppcjoaghlecmaaDoorW.PrintMore
attribute [local go_sem] max2_int min2_int max_two min_two max_three min_three max_four min_four
set_option linter.unusedVariables false
set_option linter.unusedSimpArgs false
def sheet_Add.j0 : Nat → List (S112) → List (S112) → Bool → Option ((List (S112)) × Int)
 | 0, _, _, _ => none
 | k + 1, x0, x1, x13 => if x13 = true then (some (([] : List (S112)), 2)) else ((slices_Concat.f (([x0, x1] : List (List (S112))))).bind fun t402 => ((sheet_Of.f t402).bind fun bt405 => (some (bt405.1, bt405.2))))
def sheet_Add.f (k : Nat) (l0 : List (S112)) (l1 : List (S112)) : Option ((List (S112)) × Int) := (sheet_Right.f l0).bind fun t397 => (if t397 = true then ((sheet_Right.f l1).bind fun t398 => (sheet_Add.j0 k l0 l1 (!t398))) else (sheet_Add.j0 k l0 l1 true))
theorem sheet_Add.mono_l : ∀ k, (∀ y0 y1 y2, LeO (sheet_Add.j0 k y0 y1 y2) (sheet_Add.j0 (k + 1) y0 y1 y2))
 | 0 => fun _ _ _ r h => by simp [sheet_Add.j0] at h
 | k + 1 => by
  have ih0 := sheet_Add.mono_l k
  ·intro y0 y1 y2
   unfold sheet_Add.j0
   repeat' first
   | (with_reducible exact ih0 _ _ _)
   | (with_reducible exact LeO.refl _)
   | (with_reducible exact LeO.none _)
   | (with_reducible refine LeO.ite ?_ ?_)
   | (with_reducible refine LeO.bind ?_ (fun _ => ?_))
   | exact ih0 _ _ _
   | exact LeO.none _
   | refine LeO.ite ?_ ?_
   | refine LeO.bind ?_ (fun _ => ?_)
theorem sheet_Add.mono : ∀ a0 a1 k, LeO (sheet_Add.f k a0 a1) (sheet_Add.f (k + 1) a0 a1) := by
 intro a0 a1 k
 have ih0 := sheet_Add.mono_l k
 unfold sheet_Add.f
 repeat' first
   | (with_reducible exact ih0 _ _ _)
   | (with_reducible exact LeO.refl _)
   | (with_reducible exact LeO.none _)
   | (with_reducible refine LeO.ite ?_ ?_)
   | (with_reducible refine LeO.bind ?_ (fun _ => ?_))
   | exact ih0 _ _ _
   | exact LeO.none _
   | refine LeO.ite ?_ ?_
   | refine LeO.bind ?_ (fun _ => ?_)
set_option maxHeartbeats 8000000 in
set_option maxRecDepth 100000 in
theorem sheet_Add.calls (k : Nat) (P0_ : Nat → Prop) (A0 : Option Addr) (c0 : Nat) (l0 : List (S112)) (P1_ : Nat → Prop) (A1 : Option Addr) (c1 : Nat) (l1 : List (S112)) (r1 : List (S112)) (r2 : Int) (w : World) (hs0 : Kd.V k112 112 w w.heap.size (fun k_ => P0_ k_) (.slice A0 l0.length c0) l0) (hs1 : Kd.V k112 112 w w.heap.size (fun k_ => P1_ k_) (.slice A1 l1.length c1) l1) (h : sheet_Add.f k l0 l1 = some (r1, r2)) :
  Calls Tryd.prog 35 #[.slice A0 l0.length c0, .slice A1 l1.length c1] w fun e w' => ∃ v0_ : Value, e = .returned (.tuple #[v0_, .int .i64 r2]) ∧ Kd.R k112 112 w' w.heap.size (fun k_ => (w.heap.size ≤ k_)) v0_ r1 ∧ Below w.heap.size w w' := by
 have HO0 := Aside0.mk (show Kd.V k112 112 w w.heap.size (fun k_ => ((P0_ k_ ∨ P1_ k_) ∨ w.heap.size ≤ k_)) (.slice A0 l0.length c0) l0 from Kd.V_mono hs0 (fun k_ hk => .inl (.inl hk)))
 have HO1 := Aside0.mk (show Kd.V k112 112 w w.heap.size (fun k_ => ((P0_ k_ ∨ P1_ k_) ∨ w.heap.size ≤ k_)) (.slice A1 l1.length c1) l1 from Kd.V_mono hs1 (fun k_ hk => .inl (.inr hk)))
 have HB := Aside0.mk (Below.refl w.heap.size w)
 have H : ((sheet_Right.f l0).bind fun t397 => (if t397 = true then ((sheet_Right.f l1).bind fun t398 => (sheet_Add.j0 k l0 l1 (!t398))) else (sheet_Add.j0 k l0 l1 true))) = some (r1, r2) := h
 clear h
 have HC3 := Aside0.mk H
 clear H
 go_enter Tryd.func35, Tryd.ntmps35
 go_upto_region 1 with (fail)
 go_cut [13] (fun v13 wc => ∃ (kq : Nat) (x13_2 : Bool), v13 = .bool x13_2 ∧ Aside0 (sheet_Add.j0 kq l0 l1 x13_2 = some (r1, r2)) ∧ Aside0 (kq ≤ k) ∧ Aside0 (Kd.V k112 112 wc w.heap.size (fun k_ => ((P0_ k_ ∨ P1_ k_) ∨ w.heap.size ≤ k_)) (.slice A0 l0.length c0) l0) ∧ Aside0 (Kd.V k112 112 wc w.heap.size (fun k_ => ((P0_ k_ ∨ P1_ k_) ∨ w.heap.size ≤ k_)) (.slice A1 l1.length c1) l1) ∧ Aside0 (Below w.heap.size w wc))
 case first =>
  have H := HC3.out
  clear HC3
  replace H := Option.bind_eq_some_iff.mp H
  obtain ⟨t397, A40, H⟩ := H
  try dsimp only at H
  have A4 := Aside0.mk A40
  clear A40
  by_cases c5 : t397 = true
  ·subst c5
   have H1 : ((sheet_Right.f l1).bind fun t398 => (sheet_Add.j0 k l0 l1 (!t398))) = some (r1, r2) := by rw [if_pos rfl] at H; exact H
   clear H
   have H := H1
   clear H1
   replace H := Option.bind_eq_some_iff.mp H
   obtain ⟨t398, A60, H⟩ := H
   replace H : (sheet_Add.j0 k l0 l1 (!t398)) = some (r1, r2) := H
   have A6 := Aside0.mk A60
   clear A60
   have H' := Aside0.mk H
   clear H
   go_wp2_with (first | ((with_reducible refine gate_callee (f := 34) rfl ?_); refine goesL_ (some 7) rfl rfl Tryd.func34 (by kernel_rfl) rfl #[.slice A0 l0.length c0] rfl (by (try simp only [List.map_toArray, List.map_cons, List.map_nil]); first | done | rfl | (simp only [List.length_drop, List.length_take]; rfl)) ?_; (with_reducible refine (sheet_Right.calls _ _ l0 true _ ?side1 ?side2 A4.out).mono ?_); (case side1 => repeat (first | exact (Kd.V_reads' HO0.out).2.2 | (with_reducible refine Kd.C_alloc ?_ _) | (with_reducible refine Kd.C_drewN ?_ _) | (with_reducible refine Kd.C_drew ?_))); (case side2 => exact (Kd.V_reads' HO0.out).2.1); rintro e w7 ⟨rfl, hb⟩; refine ⟨_, rfl, ?_⟩; have n0_ := Aside0.mk (Kd.V_below (by (with_reducible repeat (first | apply Kd.V_alloc | apply Kd.V_drewN | apply Kd.V_drew)); exact HO0.out) hb); have n1_ := Aside0.mk (Kd.V_below (by (with_reducible repeat (first | apply Kd.V_alloc | apply Kd.V_drewN | apply Kd.V_drew)); exact HO1.out) hb); have n2_ := Aside0.mk (below_step (by repeat (first | (with_reducible first | exact HB.out | apply below_alloc | apply pw_below_drewN | apply below_drew1) | exact HB.out)) hb); clear HO0; clear HO1; clear HB; have HO0 := n0_; have HO1 := n1_; have HB := n2_; clear n0_ n1_ n2_; (try clear hb); (try clear hb2); (try clear hk); (try clear hi)) | (go_at_call 34; (with_reducible refine (sheet_Right.calls _ _ l1 t398 _ ?side1 ?side2 A6.out).mono ?_); (case side1 => repeat (first | exact (Kd.V_reads' HO1.out).2.2 | (with_reducible refine Kd.C_alloc ?_ _) | (with_reducible refine Kd.C_drewN ?_ _) | (with_reducible refine Kd.C_drew ?_))); (case side2 => exact (Kd.V_reads' HO1.out).2.1); rintro e w8 ⟨rfl, hb⟩; have n0_ := Aside0.mk (Kd.V_below (by (with_reducible repeat (first | apply Kd.V_alloc | apply Kd.V_drewN | apply Kd.V_drew)); exact HO0.out) hb); have n1_ := Aside0.mk (Kd.V_below (by (with_reducible repeat (first | apply Kd.V_alloc | apply Kd.V_drewN | apply Kd.V_drew)); exact HO1.out) hb); have n2_ := Aside0.mk (below_step (by repeat (first | (with_reducible first | exact HB.out | apply below_alloc | apply pw_below_drewN | apply below_drew1) | exact HB.out)) hb); clear HO0; clear HO1; clear HB; have HO0 := n0_; have HO1 := n1_; have HB := n2_; clear n0_ n1_ n2_; (try clear hb); (try clear hb2); (try clear hk); (try clear hi)))
   go_meet
   case rel => exact ⟨_, (!t398), (by first | rfl | (simp; done) | (simp [*]; done)), H', ⟨by first | omega | exact Nat.le_refl _⟩, ⟨by (with_reducible repeat (first | apply Kd.V_alloc | apply Kd.V_drewN | apply Kd.V_drew)); exact HO0.out⟩, ⟨by (with_reducible repeat (first | apply Kd.V_alloc | apply Kd.V_drewN | apply Kd.V_drew)); exact HO1.out⟩, ⟨by repeat (first | (with_reducible first | exact HB.out | apply below_alloc | apply pw_below_drewN | apply below_drew1) | exact HB.out)⟩⟩
  ·replace c5 := Bool.eq_false_iff.mpr c5
   subst c5
   have H1 : (sheet_Add.j0 k l0 l1 true) = some (r1, r2) := by rw [if_neg (show ¬ (false = true) by decide)] at H; exact H
   clear H
   have H := H1
   clear H1
   have H' := Aside0.mk H
   clear H
   go_wp2_with (first | ((with_reducible refine gate_callee (f := 34) rfl ?_); refine goesL_ (some 7) rfl rfl Tryd.func34 (by kernel_rfl) rfl #[.slice A0 l0.length c0] rfl (by (try simp only [List.map_toArray, List.map_cons, List.map_nil]); first | done | rfl | (simp only [List.length_drop, List.length_take]; rfl)) ?_; (with_reducible refine (sheet_Right.calls _ _ l0 false _ ?side1 ?side2 A4.out).mono ?_); (case side1 => repeat (first | exact (Kd.V_reads' HO0.out).2.2 | (with_reducible refine Kd.C_alloc ?_ _) | (with_reducible refine Kd.C_drewN ?_ _) | (with_reducible refine Kd.C_drew ?_))); (case side2 => exact (Kd.V_reads' HO0.out).2.1); rintro e w9 ⟨rfl, hb⟩; refine ⟨_, rfl, ?_⟩; have n0_ := Aside0.mk (Kd.V_below (by (with_reducible repeat (first | apply Kd.V_alloc | apply Kd.V_drewN | apply Kd.V_drew)); exact HO0.out) hb); have n1_ := Aside0.mk (Kd.V_below (by (with_reducible repeat (first | apply Kd.V_alloc | apply Kd.V_drewN | apply Kd.V_drew)); exact HO1.out) hb); have n2_ := Aside0.mk (below_step (by repeat (first | (with_reducible first | exact HB.out | apply below_alloc | apply pw_below_drewN | apply below_drew1) | exact HB.out)) hb); clear HO0; clear HO1; clear HB; have HO0 := n0_; have HO1 := n1_; have HB := n2_; clear n0_ n1_ n2_; (try clear hb); (try clear hb2); (try clear hk); (try clear hi)))
   go_meet
   case rel => exact ⟨_, (true), (by first | rfl | (simp; done) | (simp [*]; done)), H', ⟨by first | omega | exact Nat.le_refl _⟩, ⟨by (with_reducible repeat (first | apply Kd.V_alloc | apply Kd.V_drewN | apply Kd.V_drew)); exact HO0.out⟩, ⟨by (with_reducible repeat (first | apply Kd.V_alloc | apply Kd.V_drewN | apply Kd.V_drew)); exact HO1.out⟩, ⟨by repeat (first | (with_reducible first | exact HB.out | apply below_alloc | apply pw_below_drewN | apply below_drew1) | exact HB.out)⟩⟩
 case rest =>
  clear HC3
  try clear c1
  try clear p2
  try clear c3
  try clear c5
  obtain ⟨kq, x13_2, rfl, HA, HJ2, HO_0, HO_1, HB⟩ := hcut
  cases kq with
  | zero => exact absurd HA.out (by simp [sheet_Add.j0])
  | succ kj2 =>
   have H := HA.out
   clear HA
   simp only [sheet_Add.j0] at H
   by_cases c10 : x13_2 = true
   ·subst c10
    have H1 : (some (([] : List (S112)), 2)) = some (r1, r2) := by rw [if_pos rfl] at H; exact H
    clear H
    have H := H1
    clear H1
    simp only [Option.some.injEq, Prod.mk.injEq] at H
    obtain ⟨rfl, rfl⟩ := H
    go_wp2
    go_ret2
    exact ⟨_, by first | rfl | (simp [errW_none, errW_some] <;> rfl) | (simp [*, errW_none, errW_some] <;> rfl), by first | exact Kd.R_nil _ _ _ _ _ | exact Kd.N_nil _ _ _ _ _ | exact Kd.V_nil _ _ _ _ _ | exact Kd.Q_nil _ _ _ _ _ | exact Kd.S_nil _ _ _ _ _, by repeat (first | (with_reducible first | exact HB.out | apply below_alloc | apply pw_below_drewN | apply below_drew1) | exact HB.out)⟩
   ·replace c10 := Bool.eq_false_iff.mpr c10
    subst c10
    have H1 : ((slices_Concat.f (([l0, l1] : List (List (S112))))).bind fun t402 => ((sheet_Of.f t402).bind fun bt405 => (some (bt405.1, bt405.2)))) = some (r1, r2) := by rw [if_neg (show ¬ (false = true) by decide)] at H; exact H
    clear H
    have H := H1
    clear H1
    obtain ⟨y399, hy399⟩ : ∃ y_ : List (List (S112)), y_ = (([l0, l1] : List (List (S112)))) := ⟨_, rfl⟩
    replace H : ((slices_Concat.f y399).bind fun t402 => ((sheet_Of.f t402).bind fun bt405 => (some (bt405.1, bt405.2)))) = some (r1, r2) := by first | (rw [hy399]; with_reducible exact H) | (have H2_ := (Option.bind_some _ _).symm.trans H; rw [hy399]; with_reducible exact H2_) | (have H2_ := (Option.bind_some _ _).symm.trans H; with_reducible exact H2_) | with_reducible exact H | (rw [hy399]; exact H) | exact H
    have Ny399 := Aside0.mk hy399
    clear hy399
    replace H := Option.bind_eq_some_iff.mp H
    obtain ⟨t402, A110, H⟩ := H
    replace H : ((sheet_Of.f t402).bind fun bt405 => (some (bt405.1, bt405.2))) = some (r1, r2) := H
    have A11 := Aside0.mk A110
    clear A110
    replace H := Option.bind_eq_some_iff.mp H
    obtain ⟨⟨t405, t406⟩, A120, H⟩ := H
    replace H : (some (t405, t406)) = some (r1, r2) := H
    have A12 := Aside0.mk A120
    clear A120
    simp only [Option.some.injEq, Prod.mk.injEq] at H
    obtain ⟨rfl, rfl⟩ := H
    go_wp2_with (first | ((with_reducible refine gate_dst (N := 16) rfl ?_); refine Kd.N_lit (Kd.slice 112 k112) _ 32 ?hg (N' := 16) ?hd (xs := ([l0, l1] : List (List (S112)))) (inner := [.slice A0 l0.length c0, .slice A1 l1.length c1]) (ok := (fun k_ => ((P0_ k_ ∨ P1_ k_) ∨ w.heap.size ≤ k_))) (okp := (fun k_ => ((P0_ k_ ∨ P1_ k_) ∨ w.heap.size ≤ k_))) ?hr ?hp (fun _ hk => hk) ((show ∀ k_, wc.heap.size ≤ k_ → (fun k_ => ((P0_ k_ ∨ P1_ k_) ∨ w.heap.size ≤ k_)) k_ from fun k_ hk => (.inr (Nat.le_trans (below_size (by repeat (first | (with_reducible first | exact HB.out | apply below_alloc | apply pw_below_drewN | apply below_drew1) | exact HB.out))) hk))) _ (Nat.le_refl _)) (Below.refl _ _) (Nat.le_refl _) (by simp) ?_; (case hd => rfl); (case hg => rfl); (case hr => first | (go_simp; done) | (go_simp; rfl)); (case hp => exact (Reps.one (show Kd.FK (Kd.slice 112 k112) _ _ l0 [.slice A0 l0.length c0] from (Kd.FK_slice_mk (Kd.V_reads' (Kd.V_mono (ok' := (fun k_ => ((P0_ k_ ∨ P1_ k_) ∨ w.heap.size ≤ k_))) (HO_0.out) (fun k_ hk => hk))).2.1 (Kd.V_F (Kd.V_mono (ok' := (fun k_ => ((P0_ k_ ∨ P1_ k_) ∨ w.heap.size ≤ k_))) (HO_0.out) (fun k_ hk => hk))))) (Reps.one (show Kd.FK (Kd.slice 112 k112) _ _ l1 [.slice A1 l1.length c1] from (Kd.FK_slice_mk (Kd.V_reads' (Kd.V_mono (ok' := (fun k_ => ((P0_ k_ ∨ P1_ k_) ∨ w.heap.size ≤ k_))) (HO_1.out) (fun k_ hk => hk))).2.1 (Kd.V_F (Kd.V_mono (ok' := (fun k_ => ((P0_ k_ ∨ P1_ k_) ∨ w.heap.size ≤ k_))) (HO_1.out) (fun k_ hk => hk))))) (Reps.none _ _)))); intro v400 w13 ho14 hb hg_ hnew_; clear hg_ hnew_; (first | rw [← Ny399.out] at ho14 | (simp only [Int.reduceToNat] at ho14; rw [← Ny399.out] at ho14)); have n0_ := Aside0.mk (Kd.V_elder' (by (with_reducible repeat (first | apply Kd.V_alloc | apply Kd.V_drewN | apply Kd.V_drew)); exact HO_0.out) (Kd.N_base ho14) hb); have n1_ := Aside0.mk (Kd.V_elder' (by (with_reducible repeat (first | apply Kd.V_alloc | apply Kd.V_drewN | apply Kd.V_drew)); exact HO_1.out) (Kd.N_base ho14) hb); have n2_ := Aside0.mk (Kd.N_lower ho14 (below_size (by repeat (first | (with_reducible first | exact HB.out | apply below_alloc | apply pw_below_drewN | apply below_drew1) | exact HB.out)))); have n3_ := Aside0.mk (below_step (by repeat (first | (with_reducible first | exact HB.out | apply below_alloc | apply pw_below_drewN | apply below_drew1) | exact HB.out)) hb); clear HO_0; clear HO_1; clear HB; have HO_0 := n0_; have HO_1 := n1_; have HO401 := n2_; have HB := n3_; clear n0_ n1_ n2_ n3_; clear hb ho14; obtain ⟨Ao15, co15, eo15⟩ := Kd.N_slice HO401.out; subst eo15) | ((with_reducible refine gate_callee (f := 66) rfl ?_); refine goesL_ (some 17) rfl rfl Tryd.func66 (by kernel_rfl) rfl #[.slice Ao15 y399.length co15] rfl (by (try simp only [List.map_toArray, List.map_cons, List.map_nil]); first | done | rfl | (simp only [List.length_drop, List.length_take]; rfl)) ?_; (with_reducible refine (slices_Concat.calls _ _ y399 t402 _ ?side1 ?side2 A11.out).mono ?_); (case side1 => repeat (first | exact (Kd.N_reads' HO401.out).2.2 | (with_reducible refine Kd.C_alloc ?_ _) | (with_reducible refine Kd.C_drewN ?_ _) | (with_reducible refine Kd.C_drew ?_))); (case side2 => exact (Kd.N_reads' HO401.out).2.1); rintro e w16 ⟨v403, rfl, ho0, hb⟩; refine ⟨_, rfl, ?_⟩; have n0_ := Aside0.mk (Kd.V_elder' (by (with_reducible repeat (first | apply Kd.V_alloc | apply Kd.V_drewN | apply Kd.V_drew)); exact HO_0.out) (Kd.R_base ho0) hb); have n1_ := Aside0.mk (Kd.V_elder' (by (with_reducible repeat (first | apply Kd.V_alloc | apply Kd.V_drewN | apply Kd.V_drew)); exact HO_1.out) (Kd.R_base ho0) hb); have n2_ := Aside0.mk (Kd.N_elder' (by (with_reducible repeat (first | apply Kd.N_alloc | apply Kd.N_drewN | apply Kd.N_drew)); exact HO401.out) (Kd.R_base ho0) hb); have n3_ := Aside0.mk (Kd.R_lower (Kd.R_newM (M := fun k_ => (w.heap.size ≤ k_)) ho0 (below_size (by repeat (first | (with_reducible first | exact HB.out | apply below_alloc | apply pw_below_drewN | apply below_drew1) | exact HB.out))) (fun k_ h_ => h_)) (below_size (by repeat (first | (with_reducible first | exact HB.out | apply below_alloc | apply pw_below_drewN | apply below_drew1) | exact HB.out)))); have n4_ := Aside0.mk (below_step (by repeat (first | (with_reducible first | exact HB.out | apply below_alloc | apply pw_below_drewN | apply below_drew1) | exact HB.out)) hb); clear HO_0; clear HO_1; clear HO401; clear HB; have HO_0 := n0_; have HO_1 := n1_; have HO401 := n2_; have HO404 := n3_; have HB := n4_; clear n0_ n1_ n2_ n3_ n4_; (try clear hb); (try clear hb2); (try clear hk); (try clear hi); (try clear ho0); obtain ⟨Ao17, co17, eo17⟩ := Kd.R_slice HO404.out; subst eo17) | ((with_reducible refine gate_callee (f := 31) rfl ?_); refine goesL_ (some 18) rfl rfl Tryd.func31 (by kernel_rfl) rfl #[.slice Ao17 t402.length co17] rfl (by (try simp only [List.map_toArray, List.map_cons, List.map_nil]); first | done | rfl | (simp only [List.length_drop, List.length_take]; rfl)) ?_; (with_reducible refine (sheet_Of.calls _ _ t402 t405 t406 _ ?side1 ?side2 A12.out).mono ?_); (case side1 => repeat (first | exact (Kd.R_reads' HO404.out).2.2 | (with_reducible refine Kd.C_alloc ?_ _) | (with_reducible refine Kd.C_drewN ?_ _) | (with_reducible refine Kd.C_drew ?_))); (case side2 => exact (Kd.R_reads' HO404.out).2.1); rintro e w18 ⟨v407, rfl, ho0, hb⟩; refine ⟨_, rfl, ?_⟩; have n0_ := Aside0.mk (Kd.V_elder' (by (with_reducible repeat (first | apply Kd.V_alloc | apply Kd.V_drewN | apply Kd.V_drew)); exact HO_0.out) (Kd.R_base ho0) hb); have n1_ := Aside0.mk (Kd.V_elder' (by (with_reducible repeat (first | apply Kd.V_alloc | apply Kd.V_drewN | apply Kd.V_drew)); exact HO_1.out) (Kd.R_base ho0) hb); have n2_ := Aside0.mk (Kd.N_elder' (by (with_reducible repeat (first | apply Kd.N_alloc | apply Kd.N_drewN | apply Kd.N_drew)); exact HO401.out) (Kd.R_base ho0) hb); have n3_ := Aside0.mk (Kd.R_elder' (by (with_reducible repeat (first | apply Kd.R_alloc | apply Kd.R_drewN | apply Kd.R_drew)); exact HO404.out) (Kd.R_base ho0) hb); have n4_ := Aside0.mk (Kd.R_lower (Kd.R_new' (Kd.R_newM (M := fun k_ => (w.heap.size ≤ k_)) ho0 (below_size (by repeat (first | (with_reducible first | exact HB.out | apply below_alloc | apply pw_below_drewN | apply below_drew1) | exact HB.out))) (fun k_ h_ => h_)) (Kd.R_lt (by (with_reducible repeat (first | apply Kd.R_alloc | apply Kd.R_drewN | apply Kd.R_drew)); exact HO404.out))) (below_size (by repeat (first | (with_reducible first | exact HB.out | apply below_alloc | apply pw_below_drewN | apply below_drew1) | exact HB.out)))); have n5_ := Aside0.mk (below_step (by repeat (first | (with_reducible first | exact HB.out | apply below_alloc | apply pw_below_drewN | apply below_drew1) | exact HB.out)) hb); clear HO_0; clear HO_1; clear HO401; clear HO404; clear HB; have HO_0 := n0_; have HO_1 := n1_; have HO401 := n2_; have HO404 := n3_; have HO408 := n4_; have HB := n5_; clear n0_ n1_ n2_ n3_ n4_ n5_; (try clear hb); (try clear hb2); (try clear hk); (try clear hi); (try clear ho0)))
    go_ret2
    exact ⟨_, by first | rfl | (simp [errW_none, errW_some] <;> rfl) | (simp [*, errW_none, errW_some] <;> rfl), by (with_reducible repeat (first | apply Kd.R_alloc | apply Kd.R_drewN | apply Kd.R_drew)); exact Kd.R_mono HO408.out (fun _ hk => hk.1.1), by repeat (first | (with_reducible first | exact HB.out | apply below_alloc | apply pw_below_drewN | apply below_drew1) | exact HB.out)⟩
end Go.Proofs.YtppcjoaghlecmaaDoor.P
namespace Go.Proofs.YtppcjoaghlecmaaDoor.P
open Go.RowKit Go.Sort Go.Proofs.YtppcjoaghlecmaaDoorW.PrintWords Go.Proofs.YtppcjoaghlecmaaDoorW.PrintLast Go.Proofs.YtppcjoaghlecmaaDoor.Op
set_option linter.unusedVariables false
set_option linter.unusedSimpArgs false
theorem fit_bnd {l : List S112} (h : RightL l) : ∀ c ∈ l, -1000000000000000 ≤ c.f1 ∧ c.f1 ≤ 1000000000000000 ∧ -1000000000000000 ≤ c.f2 ∧ c.f2 ≤ 1000000000000000 := by
 intro c hc
 have h1 := (bad_iff c).1 (h.1 c hc)
 have h2 := h1.2.1
 have h3 := h1.2.2
 unfold fitB at h2 h3
 rw [Bool.and_eq_true, decide_eq_true_iff, decide_eq_true_iff] at h2 h3
 omega
def addK (a b : List S112) : List S112 × Int := if rightB a = true ∧ rightB b = true then ofK (a ++ b) else ([], 2)
theorem okS_app {a b : List S112} (ha : RightL a) (hb : RightL b) (hl : a.length + b.length ≤ 1000000) : OkS (a ++ b) := by
 refine ⟨by rw [List.length_append]; exact hl, fun x hx => ?_⟩
 rcases List.mem_append.1 hx with h | h
 ·have := fit_bnd ha x h; unfold i64ok; omega
 ·have := fit_bnd hb x h; unfold i64ok; omega
theorem add_ev (a b : List S112) (hl : a.length + b.length ≤ 1000000) : Ev (fun k => sheet_Add.f k a b) (addK a b) := by
 unfold sheet_Add.f sheet_Right.f addK
 simp only [Option.bind_some]
 have bad : Ev (fun k => sheet_Add.j0 k a b true) (([] : List S112), (2 : Int)) := by
  refine Ev.step (fun k => sheet_Add.j0.eq_2 _ _ _ k) ?_
  simp only [if_true]
  exact Ev.now _
 by_cases ha : rightB a = true
 ·simp only [if_pos ha]
  by_cases hb : rightB b = true
  ·simp only [hb, Bool.not_true, if_pos (show rightB a = true ∧ True from ⟨ha, trivial⟩)]
   have hc : [a, b].flatten = a ++ b := by simp
   refine Ev.step (fun k => sheet_Add.j0.eq_2 _ _ _ k) ?_
   unfold slices_Concat.f sheet_Of.f
   simp only [Bool.false_eq_true, if_false, hc, if_pos (show ([a, b].length ≤ 1000 ∧ (a ++ b).length ≤ 1000000) from ⟨by simp, by rw [List.length_append]; exact hl⟩), Option.bind_some, if_pos (okS_app ((right_iff a).1 ha) ((right_iff b).1 hb) hl)]
   exact Ev.now _
  ·have hb' : rightB b = false := by simpa using hb
   simp only [hb', Bool.not_false, if_neg (show ¬ (rightB a = true ∧ false = true) from fun h => absurd h.2 (by decide))]
   exact bad
 ·simp only [if_neg ha, if_neg (show ¬ (rightB a = true ∧ rightB b = true) from fun h => ha h.1)]
  exact bad
end Go.Proofs.YtppcjoaghlecmaaDoor.P
namespace Go.Proofs.YtppcjoaghlecmaaDoor.P
open Go.RowKit Go.Proofs.YtppcjoaghlecmaaDoorW.PrintWords Go.Proofs.YtppcjoaghlecmaaDoorW.PrintLast Go.Proofs.YtppcjoaghlecmaaDoorW.PrintMore
attribute [local go_sem] max2_int min2_int max_two min_two max_three min_three max_four min_four
set_option linter.unusedVariables false
set_option linter.unusedSimpArgs false
def sheet_far.f (a0 : Int) : Option (Bool) := if a0 > 1000000000000000 then (some true) else (some (decide (a0 < (-1000000000000000))))
set_option maxHeartbeats 8000000 in
set_option maxRecDepth 100000 in
theorem sheet_far.calls (a0 : Int) (r : Bool) (w : World) (h : sheet_far.f a0 = some r) :
  Calls Tryd.prog 65 #[.int .i64 a0] w fun e w' => e = .returned (.bool r) ∧ Drawn0 w w' := by
 have H : (if a0 > 1000000000000000 then (some true) else (some (decide (a0 < (-1000000000000000))))) = some r := h
 clear h
 by_cases c2 : a0 > 1000000000000000
 ·rw [if_pos c2] at H
  have c2b0 : decide (1000000000000000 < a0) = true := decide_eq_true c2
  clear c2
  obtain rfl := Option.some.inj H
  go_enter Tryd.func65, Tryd.ntmps65
  go_wp2
  go_ret
  exact ⟨by first | rfl | (simp; done) | (simp [*]; done), by repeat (first | exact Drawn0.refl _ | apply Drawn0.step)⟩
 ·rw [if_neg c2] at H
  have c2b0 : decide (1000000000000000 < a0) = false := decide_eq_false c2
  clear c2
  obtain rfl := Option.some.inj H
  go_enter Tryd.func65, Tryd.ntmps65
  go_wp2
  go_ret
  exact ⟨by first | rfl | (simp; done) | (simp [*]; done), by repeat (first | exact Drawn0.refl _ | apply Drawn0.step)⟩
def sheet_total.f (l0 : List Int) : Option (Int × Bool) := (num_Sum.f l0).bind fun bt386 => (if bt386.2 = true then ((sheet_far.f bt386.1).bind fun t388 => (some (bt386.1, !t388))) else (some (bt386.1, false)))
set_option maxHeartbeats 8000000 in
set_option maxRecDepth 100000 in
theorem sheet_total.calls (A0 : Option Addr) (c0 : Nat) (l0 : List Int) (r1 : Int) (r2 : Bool) (w : World) (hr0 : Kd.C (Kd.int .i64) w A0 l0.length l0) (hc0 : l0.length ≤ c0) (h : sheet_total.f l0 = some (r1, r2)) :
  Calls Tryd.prog 59 #[.slice A0 l0.length c0] w fun e w' => e = .returned (.tuple #[.int .i64 r1, .bool r2]) ∧ Drawn0 w w' := by
 have HR0 := Aside0.mk hr0
 have HC0 := Aside0.mk hc0
 clear hr0 hc0
 have H : ((num_Sum.f l0).bind fun bt386 => (if bt386.2 = true then ((sheet_far.f bt386.1).bind fun t388 => (some (bt386.1, !t388))) else (some (bt386.1, false)))) = some (r1, r2) := h
 clear h
 replace H := Option.bind_eq_some_iff.mp H
 obtain ⟨⟨t386, t387⟩, A20, H⟩ := H
 try dsimp only at H
 have A2 := Aside0.mk A20
 clear A20
 by_cases c3 : t387 = true
 ·subst c3
  have H1 : ((sheet_far.f t386).bind fun t388 => (some (t386, !t388))) = some (r1, r2) := by rw [if_pos rfl] at H; exact H
  clear H
  have H := H1
  clear H1
  replace H := Option.bind_eq_some_iff.mp H
  obtain ⟨t388, A40, H⟩ := H
  replace H : (some (t386, !t388)) = some (r1, r2) := H
  have A4 := Aside0.mk A40
  clear A40
  simp only [Option.some.injEq, Prod.mk.injEq] at H
  obtain ⟨rfl, rfl⟩ := H
  go_enter Tryd.func59, Tryd.ntmps59
  go_wp2_with (first | ((with_reducible refine gate_callee (f := 107) rfl ?_); refine goesL_ (some 6) rfl rfl Tryd.func107 (by kernel_rfl) rfl #[.slice A0 l0.length c0] rfl (by (try simp only [List.map_toArray, List.map_cons, List.map_nil]); first | done | rfl | (simp only [List.length_drop, List.length_take]; rfl)) ?_; (with_reducible refine (num_Sum.calls _ _ l0 t386 true _ ?side1 ?side2 A2.out).mono ?_); (case side1 => repeat (first | exact HR0.out | (with_reducible refine Kd.C_alloc ?_ _) | (with_reducible refine Kd.C_drewN ?_ _) | (with_reducible refine Kd.C_drew ?_))); (case side2 => exact HC0.out); rintro e w' ⟨rfl, ⟨nd, rfl⟩⟩; refine ⟨_, rfl, ?_⟩) | (go_at_call 65; (with_reducible refine (sheet_far.calls t386 t388 _ A4.out).mono ?_); rintro e w' ⟨rfl, ⟨nd, rfl⟩⟩))
  go_ret2
  exact ⟨by first | rfl | (simp; done) | (simp [*]; done), by repeat (first | exact Drawn0.refl _ | apply Drawn0.step)⟩
 ·replace c3 := Bool.eq_false_iff.mpr c3
  subst c3
  have H1 : (some (t386, false)) = some (r1, r2) := by rw [if_neg (show ¬ (false = true) by decide)] at H; exact H
  clear H
  have H := H1
  clear H1
  simp only [Option.some.injEq, Prod.mk.injEq] at H
  obtain ⟨rfl, rfl⟩ := H
  go_enter Tryd.func59, Tryd.ntmps59
  go_wp2_with (first | ((with_reducible refine gate_callee (f := 107) rfl ?_); refine goesL_ (some 6) rfl rfl Tryd.func107 (by kernel_rfl) rfl #[.slice A0 l0.length c0] rfl (by (try simp only [List.map_toArray, List.map_cons, List.map_nil]); first | done | rfl | (simp only [List.length_drop, List.length_take]; rfl)) ?_; (with_reducible refine (num_Sum.calls _ _ l0 t386 false _ ?side1 ?side2 A2.out).mono ?_); (case side1 => repeat (first | exact HR0.out | (with_reducible refine Kd.C_alloc ?_ _) | (with_reducible refine Kd.C_drewN ?_ _) | (with_reducible refine Kd.C_drew ?_))); (case side2 => exact HC0.out); rintro e w' ⟨rfl, ⟨nd, rfl⟩⟩; refine ⟨_, rfl, ?_⟩))
  go_ret2
  exact ⟨by first | rfl | (simp; done) | (simp [*]; done), by repeat (first | exact Drawn0.refl _ | apply Drawn0.step)⟩
def sheet_Base.l0 : Nat → List Int → List (S112) → Int → Int → Option (Int × Int)
 | 0, _, _, _, _ => none
 | k + 1, x4, x11, x12, x13 => if x13 < x12 then (if 0 ≤ x13 then (if x13 < (x11.length : Int) then (if x13 < (x4.length : Int) then (sheet_Base.l0 k (x4.set (x13 : Int).toNat ((rd_T112 x11 x13).f2)) x11 x12 (wrap64 (x13 + 1))) else (none)) else (none)) else (none)) else ((sheet_total.f x4).bind fun bt395 => (if bt395.2 = true then (some (bt395.1, 0)) else (some (0, 4))))
def sheet_Base.f (k : Nat) (l0 : List (S112)) : Option (Int × Int) := if 0 ≤ (l0.length : Int) then (if ((l0.length : Int) : Int).toNat ≤ 35184372088832 then (sheet_Base.l0 k (List.replicate ((l0.length : Int) : Int).toNat 0) l0 (l0.length : Int) 0) else (none)) else (none)
theorem sheet_Base.mono_l : ∀ k, (∀ y0 y1 y2 y3, LeO (sheet_Base.l0 k y0 y1 y2 y3) (sheet_Base.l0 (k + 1) y0 y1 y2 y3))
 | 0 => fun _ _ _ _ r h => by simp [sheet_Base.l0] at h
 | k + 1 => by
  have ih0 := sheet_Base.mono_l k
  ·intro y0 y1 y2 y3
   unfold sheet_Base.l0
   repeat' first
   | (with_reducible exact ih0 _ _ _ _)
   | (with_reducible exact LeO.refl _)
   | (with_reducible exact LeO.none _)
   | (with_reducible refine LeO.ite ?_ ?_)
   | (with_reducible refine LeO.bind ?_ (fun _ => ?_))
   | exact ih0 _ _ _ _
   | exact LeO.none _
   | refine LeO.ite ?_ ?_
   | refine LeO.bind ?_ (fun _ => ?_)
theorem sheet_Base.mono : ∀ a0 k, LeO (sheet_Base.f k a0) (sheet_Base.f (k + 1) a0) := by
 intro a0 k
 have ih0 := sheet_Base.mono_l k
 unfold sheet_Base.f
 repeat' first
   | (with_reducible exact ih0 _ _ _ _)
   | (with_reducible exact LeO.refl _)
   | (with_reducible exact LeO.none _)
   | (with_reducible refine LeO.ite ?_ ?_)
   | (with_reducible refine LeO.bind ?_ (fun _ => ?_))
   | exact ih0 _ _ _ _
   | exact LeO.none _
   | refine LeO.ite ?_ ?_
   | refine LeO.bind ?_ (fun _ => ?_)
set_option maxHeartbeats 8000000 in
set_option maxRecDepth 100000 in
theorem sheet_Base.calls (k : Nat) (A0 : Option Addr) (c0 : Nat) (l0 : List (S112)) (r1 : Int) (r2 : Int) (w : World) (hr0 : Kd.C k112 w A0 l0.length l0) (hc0 : l0.length ≤ c0) (h : sheet_Base.f k l0 = some (r1, r2)) :
  Calls Tryd.prog 33 #[.slice A0 l0.length c0] w fun e w' => e = .returned (.tuple #[.int .i64 r1, .int .i64 r2]) ∧ Below w.heap.size w w' := by
 have hu112 := Tryd.underlying112
 have HR0 := Aside0.mk hr0
 have HC0 := Aside0.mk hc0
 clear hr0 hc0
 have HB := Aside0.mk (Below.refl w.heap.size w)
 have H : (if 0 ≤ (l0.length : Int) then (if ((l0.length : Int) : Int).toNat ≤ 35184372088832 then (sheet_Base.l0 k (List.replicate ((l0.length : Int) : Int).toNat 0) l0 (l0.length : Int) 0) else (none)) else (none)) = some (r1, r2) := h
 clear h
 by_cases c2 : 0 ≤ (l0.length : Int)
 ·rw [if_pos c2] at H
  have c2b0 := eq_true c2
  have c2b1 : decide (0 ≤ (l0.length : Int)) = true := decide_eq_true c2
  clear c2
  by_cases c3 : ((l0.length : Int) : Int).toNat ≤ 35184372088832
  ·rw [if_pos c3] at H
   have c3b0 := eq_true c3
   have c3b1 : decide (((l0.length : Int) : Int).toNat ≤ 35184372088832) = true := decide_eq_true c3
   clear c3
   obtain ⟨y389, hy389⟩ : ∃ y_ : List Int, y_ = (List.replicate ((l0.length : Int) : Int).toNat 0) := ⟨_, rfl⟩
   replace H : (sheet_Base.l0 k y389 l0 (l0.length : Int) 0) = some (r1, r2) := by first | (rw [hy389]; with_reducible exact H) | (have H2_ := (Option.bind_some _ _).symm.trans H; rw [hy389]; with_reducible exact H2_) | (have H2_ := (Option.bind_some _ _).symm.trans H; with_reducible exact H2_) | with_reducible exact H | (rw [hy389]; exact H) | exact H
   have Ny389 := Aside0.mk hy389
   clear hy389
   have H' := Aside0.mk H
   clear H
   go_enter Tryd.func33, Tryd.ntmps33
   go_wp2_with (first | ((with_reducible refine gate_dst (N := 10) rfl ?_); refine Kd.R_make (Kd.int .i64) _ 3 rfl (N := 10) rfl 43 _ _ rfl (l0.length : Int) rfl rfl Tryd.underlying43 (.int .i64 0) 8 info3 rfl (by decide) (by omega) 0 (ok := fun _ => True) (okp := fun _ => True) rfl (fun _ hk => hk) trivial (of_decide_eq_true (by first | (with_reducible assumption) | assumption)) (Nat.le_trans (Nat.mul_le_mul_right _ (of_decide_eq_true (by first | (with_reducible assumption) | assumption) : (l0.length : Int).toNat ≤ 35184372088832)) (by omega)) (Below.refl _ _) (Nat.le_refl _) ?_; intro v390 w4 ho5 hb hg_ hnew_; clear hg_ hnew_; (first | rw [← Ny389.out] at ho5 | (simp only [Int.reduceToNat] at ho5; rw [← Ny389.out] at ho5)); have n0_ := Aside0.mk (Kd.R_lower ho5 (below_size (by repeat (first | (with_reducible first | exact HB.out | apply below_alloc | apply pw_below_drewN | apply below_drew1) | exact HB.out)))); have n1_ := Aside0.mk (below_step (by repeat (first | (with_reducible first | exact HB.out | apply below_alloc | apply pw_below_drewN | apply below_drew1) | exact HB.out)) hb); clear HB; have HO391 := n0_; have HB := n1_; clear n0_ n1_; clear hb ho5))
   go_loopg [13] k (fun kq v13 w' => ∃ (x4_1 : List Int) (x13_1 : Int), v13 = .int .i64 x13_1 ∧ Aside0 (sheet_Base.l0 kq x4_1 l0 (l0.length : Int) x13_1 = some (r1, r2)) ∧ Aside0 (kq ≤ k) ∧ Aside0 (Kd.R (Kd.int .i64) 3 w' w.heap.size (fun _ => True) v390 x4_1) ∧ Aside0 (Below w.heap.size w w'))
   case atStart => exact ⟨(y389), (0), (by first | rfl | (simp; done) | (simp [*]; done)), H', ⟨Nat.le_refl _⟩, ⟨by (with_reducible repeat (first | apply Kd.R_alloc | apply Kd.R_drewN | apply Kd.R_drew)); exact HO391.out⟩, ⟨by repeat (first | (with_reducible first | exact HB.out | apply below_alloc | apply pw_below_drewN | apply below_drew1) | exact HB.out)⟩⟩
   case round =>
    clear H'
    try clear c2
    try clear c2b0
    try clear c2b1
    try clear p2
    try clear c3
    try clear c3b0
    try clear c3b1
    obtain ⟨x4_1, x13_1, rfl, HA, HK1, HO_4, HB⟩ := hrel
    cases gk with
    | zero => exact absurd HA.out (by simp [sheet_Base.l0])
    | succ k1 =>
     have H := HA.out
     clear HA
     simp only [sheet_Base.l0] at H
     by_cases c6 : x13_1 < (l0.length : Int)
     ·rw [if_pos c6] at H
      have c6b0 : decide (x13_1 < (l0.length : Int)) = true := decide_eq_true c6
      clear c6
      by_cases c7 : 0 ≤ x13_1
      ·rw [if_pos c7] at H
       have c7b0 : decide (0 ≤ x13_1) = true := decide_eq_true c7
       clear c7
       by_cases c8 : x13_1 < (l0.length : Int)
       ·rw [if_pos c8] at H
        have c8b0 : decide (x13_1 < (l0.length : Int)) = true := decide_eq_true c8
        clear c8
        by_cases c9 : x13_1 < (x4_1.length : Int)
        ·rw [if_pos c9] at H
         have c9b0 : decide (x13_1 < (x4_1.length : Int)) = true := decide_eq_true c9
         clear c9
         obtain ⟨y394, hy394⟩ : ∃ y_ : List Int, y_ = (x4_1.set (x13_1 : Int).toNat ((rd_T112 l0 x13_1).f2)) := ⟨_, rfl⟩
         replace H : (sheet_Base.l0 k1 y394 l0 (l0.length : Int) (wrap64 (x13_1 + 1))) = some (r1, r2) := by first | (rw [hy394]; with_reducible exact H) | (have H2_ := (Option.bind_some _ _).symm.trans H; rw [hy394]; with_reducible exact H2_) | (have H2_ := (Option.bind_some _ _).symm.trans H; with_reducible exact H2_) | with_reducible exact H | (rw [hy394]; exact H) | exact H
         have Ny394 := Aside0.mk hy394
         clear hy394
         have H' := Aside0.mk H
         clear H
         have p392 : 0 ≤ (x13_1 : Int) := of_decide_eq_true (by first | (with_reducible assumption) | assumption)
         have q392 : x13_1 < (l0.length : Int) := of_decide_eq_true (by first | (with_reducible assumption) | assumption)
         obtain ⟨ad392, e392, hx392_0, hx392_1, hx392_2, hx392_3, hx392_4, hx392_5, hx392_6⟩ := at_T112 HR0.out x13_1 p392 q392
         cases e392
         replace hx392_0 := (HB.out.cell (World.block_lt_of_cell? w _ hx392_0)).trans hx392_0
         replace hx392_1 := (HB.out.cell (World.block_lt_of_cell? w _ hx392_1)).trans hx392_1
         replace hx392_2 := (HB.out.cell (World.block_lt_of_cell? w _ hx392_2)).trans hx392_2
         replace hx392_3 := (HB.out.cell (World.block_lt_of_cell? w _ hx392_3)).trans hx392_3
         replace hx392_4 := (HB.out.cell (World.block_lt_of_cell? w _ hx392_4)).trans hx392_4
         replace hx392_5 := (HB.out.cell (World.block_lt_of_cell? w _ hx392_5)).trans hx392_5
         replace hx392_6 := (HB.out.cell (World.block_lt_of_cell? w _ hx392_6)).trans hx392_6
         replace p392 := eq_true p392
         replace q392 := eq_true q392
         go_wp2_with (first | ((with_reducible refine gate_dst (N := 6) rfl ?_); refine box_event ?hg (N := 6) ?hd (cs := #[.string (⟨#[]⟩ : ByteArray), .string (⟨#[]⟩ : ByteArray), .string (⟨#[]⟩ : ByteArray), .string (⟨#[]⟩ : ByteArray), .string (⟨#[]⟩ : ByteArray), .int .i64 0, .int .i64 0]) (t := 112) ?hr ?_; (case hd => rfl); (case hg => rfl); (case hr => first | (go_simp; done) | (go_simp; rfl)); intro gb393 hg w11 hbox hb; have n0_ := Aside0.mk (Kd.R_below (by (with_reducible repeat (first | apply Kd.R_alloc | apply Kd.R_drewN | apply Kd.R_drew)); exact HO_4.out) hb); have n1_ := Aside0.mk (below_step (by repeat (first | (with_reducible first | exact HB.out | apply below_alloc | apply pw_below_drewN | apply below_drew1) | exact HB.out)) hb); have n2_ := Aside0.mk (hbox); have n3_ := Aside0.mk ((by rw [hg]; exact (below_size (by repeat (first | (with_reducible first | exact HB.out | apply below_alloc | apply pw_below_drewN | apply below_drew1) | exact HB.out))) : w.heap.size ≤ gb393)); have n4_ := Aside0.mk ((by rw [hg]; exact (below_size (by repeat (first | (with_reducible first | exact HB.out | apply below_alloc | apply pw_below_drewN | apply below_drew1) | exact HB.out))) : w.heap.size ≤ gb393)); clear HO_4; clear HB; have HO_4 := n0_; have HB := n1_; have BK393 := n2_; have GW393 := n3_; have GE393 := n4_; clear n0_ n1_ n2_ n3_ n4_; clear hb hbox hg; have hcz12_0 : w11.cell? ⟨gb393, 0, none⟩ = some (.string (⟨#[]⟩ : ByteArray)) := (blk_cell BK393.out 0).trans rfl; have hcz12_1 : w11.cell? ⟨gb393, 1, none⟩ = some (.string (⟨#[]⟩ : ByteArray)) := (blk_cell BK393.out 1).trans rfl; have hcz12_2 : w11.cell? ⟨gb393, 2, none⟩ = some (.string (⟨#[]⟩ : ByteArray)) := (blk_cell BK393.out 2).trans rfl; have hcz12_3 : w11.cell? ⟨gb393, 3, none⟩ = some (.string (⟨#[]⟩ : ByteArray)) := (blk_cell BK393.out 3).trans rfl; have hcz12_4 : w11.cell? ⟨gb393, 4, none⟩ = some (.string (⟨#[]⟩ : ByteArray)) := (blk_cell BK393.out 4).trans rfl; have hcz12_5 : w11.cell? ⟨gb393, 5, none⟩ = some (.int .i64 0) := (blk_cell BK393.out 5).trans rfl; have hcz12_6 : w11.cell? ⟨gb393, 6, none⟩ = some (.int .i64 0) := (blk_cell BK393.out 6).trans rfl; have hfz12_0 := blk_frozen BK393.out 0; have hfz12_1 := blk_frozen BK393.out 1; have hfz12_2 := blk_frozen BK393.out 2; have hfz12_3 := blk_frozen BK393.out 3; have hfz12_4 := blk_frozen BK393.out 4; have hfz12_5 := blk_frozen BK393.out 5; have hfz12_6 := blk_frozen BK393.out 6) | ((with_reducible refine gate_store (t := 112) (p := 6) rfl ?_); refine store_event (t := 112) (p := 6) (v := ?vo_w13) (w1 := (((((((w11.setCell ⟨gb393, 0, none⟩ (.string ((rd_T112 l0 x13_1).f0.f0))).setCell ⟨gb393, 1, none⟩ (.string ((rd_T112 l0 x13_1).f0.f1))).setCell ⟨gb393, 2, none⟩ (.string ((rd_T112 l0 x13_1).f0.f2))).setCell ⟨gb393, 3, none⟩ (.string ((rd_T112 l0 x13_1).f0.f3))).setCell ⟨gb393, 4, none⟩ (.string ((rd_T112 l0 x13_1).f0.f4))).setCell ⟨gb393, 5, none⟩ (.int .i64 ((rd_T112 l0 x13_1).f1))).setCell ⟨gb393, 6, none⟩ (.int .i64 ((rd_T112 l0 x13_1).f2)))) ?hg ?ho ?hn ?hr ?_; (case ho => rfl); (case hg => rfl); (case hn => rfl); (case hr => first | (go_simp; done) | (go_simp; rfl)); intro w13 hw; have n0_ : Aside0 (Kd.R (Kd.int .i64) 3 w13 w.heap.size (fun _ => True) v390 x4_1) := ⟨(by rw [hw]; exact (by (with_reducible repeat (first | apply Kd.R_alloc | apply Kd.R_drewN | apply Kd.R_drew)); exact Kd.R_mono (Kd.R_far (p := ⟨gb393, 6, none⟩) (Kd.R_far (p := ⟨gb393, 5, none⟩) (Kd.R_far (p := ⟨gb393, 4, none⟩) (Kd.R_far (p := ⟨gb393, 3, none⟩) (Kd.R_far (p := ⟨gb393, 2, none⟩) (Kd.R_far (p := ⟨gb393, 1, none⟩) (Kd.R_far (p := ⟨gb393, 0, none⟩) (Kd.R_types HO_4.out BK393.out (by decide)) (fun _ hk => hk.2) (.string ((rd_T112 l0 x13_1).f0.f0))) (fun _ hk => hk.2) (.string ((rd_T112 l0 x13_1).f0.f1))) (fun _ hk => hk.2) (.string ((rd_T112 l0 x13_1).f0.f2))) (fun _ hk => hk.2) (.string ((rd_T112 l0 x13_1).f0.f3))) (fun _ hk => hk.2) (.string ((rd_T112 l0 x13_1).f0.f4))) (fun _ hk => hk.2) (.int .i64 ((rd_T112 l0 x13_1).f1))) (fun _ hk => hk.2) (.int .i64 ((rd_T112 l0 x13_1).f2))) (fun _ hk => trivial)))⟩; have n1_ : Aside0 (w13.heap[gb393]? = some (.cells #[.string ((rd_T112 l0 x13_1).f0.f0), .string ((rd_T112 l0 x13_1).f0.f1), .string ((rd_T112 l0 x13_1).f0.f2), .string ((rd_T112 l0 x13_1).f0.f3), .string ((rd_T112 l0 x13_1).f0.f4), .int .i64 ((rd_T112 l0 x13_1).f1), .int .i64 ((rd_T112 l0 x13_1).f2)] 112 (0, 0))) := ⟨(by rw [hw]; exact (by (with_reducible repeat (first | refine blk_drewN ?_ _ | refine blk_drew ?_ | refine blk_alloc ?_ _)); refine blk_put (cs := #[.string ((rd_T112 l0 x13_1).f0.f0), .string ((rd_T112 l0 x13_1).f0.f1), .string ((rd_T112 l0 x13_1).f0.f2), .string ((rd_T112 l0 x13_1).f0.f3), .string ((rd_T112 l0 x13_1).f0.f4), .int .i64 ((rd_T112 l0 x13_1).f1), .int .i64 0]) ?_ 6 _ rfl; (with_reducible repeat (first | refine blk_drewN ?_ _ | refine blk_drew ?_ | refine blk_alloc ?_ _)); refine blk_put (cs := #[.string ((rd_T112 l0 x13_1).f0.f0), .string ((rd_T112 l0 x13_1).f0.f1), .string ((rd_T112 l0 x13_1).f0.f2), .string ((rd_T112 l0 x13_1).f0.f3), .string ((rd_T112 l0 x13_1).f0.f4), .int .i64 0, .int .i64 0]) ?_ 5 _ rfl; (with_reducible repeat (first | refine blk_drewN ?_ _ | refine blk_drew ?_ | refine blk_alloc ?_ _)); refine blk_put (cs := #[.string ((rd_T112 l0 x13_1).f0.f0), .string ((rd_T112 l0 x13_1).f0.f1), .string ((rd_T112 l0 x13_1).f0.f2), .string ((rd_T112 l0 x13_1).f0.f3), .string (⟨#[]⟩ : ByteArray), .int .i64 0, .int .i64 0]) ?_ 4 _ rfl; (with_reducible repeat (first | refine blk_drewN ?_ _ | refine blk_drew ?_ | refine blk_alloc ?_ _)); refine blk_put (cs := #[.string ((rd_T112 l0 x13_1).f0.f0), .string ((rd_T112 l0 x13_1).f0.f1), .string ((rd_T112 l0 x13_1).f0.f2), .string (⟨#[]⟩ : ByteArray), .string (⟨#[]⟩ : ByteArray), .int .i64 0, .int .i64 0]) ?_ 3 _ rfl; (with_reducible repeat (first | refine blk_drewN ?_ _ | refine blk_drew ?_ | refine blk_alloc ?_ _)); refine blk_put (cs := #[.string ((rd_T112 l0 x13_1).f0.f0), .string ((rd_T112 l0 x13_1).f0.f1), .string (⟨#[]⟩ : ByteArray), .string (⟨#[]⟩ : ByteArray), .string (⟨#[]⟩ : ByteArray), .int .i64 0, .int .i64 0]) ?_ 2 _ rfl; (with_reducible repeat (first | refine blk_drewN ?_ _ | refine blk_drew ?_ | refine blk_alloc ?_ _)); refine blk_put (cs := #[.string ((rd_T112 l0 x13_1).f0.f0), .string (⟨#[]⟩ : ByteArray), .string (⟨#[]⟩ : ByteArray), .string (⟨#[]⟩ : ByteArray), .string (⟨#[]⟩ : ByteArray), .int .i64 0, .int .i64 0]) ?_ 1 _ rfl; (with_reducible repeat (first | refine blk_drewN ?_ _ | refine blk_drew ?_ | refine blk_alloc ?_ _)); refine blk_put (cs := #[.string (⟨#[]⟩ : ByteArray), .string (⟨#[]⟩ : ByteArray), .string (⟨#[]⟩ : ByteArray), .string (⟨#[]⟩ : ByteArray), .string (⟨#[]⟩ : ByteArray), .int .i64 0, .int .i64 0]) ?_ 0 _ rfl; (with_reducible repeat (first | refine blk_drewN ?_ _ | refine blk_drew ?_ | refine blk_alloc ?_ _)); exact BK393.out))⟩; have n2_ : Aside0 (Below w.heap.size w w13) := ⟨(by rw [hw]; exact (by repeat (first | (with_reducible first | exact HB.out | apply below_alloc | apply pw_below_drewN | apply below_drew1 | refine below_set ?_ GE393.out) | exact HB.out)))⟩; clear hw; clear HO_4; clear BK393; clear HB; have HO_4 := n0_; have BK393 := n1_; have HB := n2_; clear n0_ n1_ n2_; have hcz14_0 : w13.cell? ⟨gb393, 0, none⟩ = some (.string ((rd_T112 l0 x13_1).f0.f0)) := (blk_cell BK393.out 0).trans rfl; have hcz14_1 : w13.cell? ⟨gb393, 1, none⟩ = some (.string ((rd_T112 l0 x13_1).f0.f1)) := (blk_cell BK393.out 1).trans rfl; have hcz14_2 : w13.cell? ⟨gb393, 2, none⟩ = some (.string ((rd_T112 l0 x13_1).f0.f2)) := (blk_cell BK393.out 2).trans rfl; have hcz14_3 : w13.cell? ⟨gb393, 3, none⟩ = some (.string ((rd_T112 l0 x13_1).f0.f3)) := (blk_cell BK393.out 3).trans rfl; have hcz14_4 : w13.cell? ⟨gb393, 4, none⟩ = some (.string ((rd_T112 l0 x13_1).f0.f4)) := (blk_cell BK393.out 4).trans rfl; have hcz14_5 : w13.cell? ⟨gb393, 5, none⟩ = some (.int .i64 ((rd_T112 l0 x13_1).f1)) := (blk_cell BK393.out 5).trans rfl; have hcz14_6 : w13.cell? ⟨gb393, 6, none⟩ = some (.int .i64 ((rd_T112 l0 x13_1).f2)) := (blk_cell BK393.out 6).trans rfl; have hfz14_0 := blk_frozen BK393.out 0; have hfz14_1 := blk_frozen BK393.out 1; have hfz14_2 := blk_frozen BK393.out 2; have hfz14_3 := blk_frozen BK393.out 3; have hfz14_4 := blk_frozen BK393.out 4; have hfz14_5 := blk_frozen BK393.out 5; have hfz14_6 := blk_frozen BK393.out 6; have p10 : 0 ≤ (x13_1 : Int) := of_decide_eq_true (by first | (with_reducible assumption) | assumption); have q10 : (x13_1 : Int) < ((x4_1.length : Int) : Int) := of_decide_eq_true (by first | (with_reducible assumption) | assumption); obtain ⟨go10, co10, eo10, gb10, gl10, cl10, HG10⟩ := Kd.R_form HO_4.out (by omega); (first | cases eo10 | (injection eo10 with ea_ en_ ec_; (first | subst ea_ | (injection ea_ with ea_; subst ea_)); subst ec_; clear en_)); have GB10 := Aside0.mk gb10; have GG10 := Aside0.mk HG10; clear gb10 gl10 HG10; obtain ⟨hx10_0, hf10_0⟩ := Kd.R_celln 0 HO_4.out (x13_1 : Int) p10 q10; replace p10 := eq_true p10; replace q10 := eq_true q10; obtain ⟨hy15_, hz15_⟩ := Kd.R_celln 0 HO_4.out (x13_1 : Int) (of_decide_eq_true (by first | (with_reducible assumption) | assumption)) (of_decide_eq_true (by first | (with_reducible assumption) | assumption)); have HP15 := Kd.R_putg HO_4.out (x13_1 : Int) ((rd_T112 l0 x13_1).f2)) | ((with_reducible refine gate_store (t := 3) (p := 22) rfl ?_); refine store_event (t := 3) (p := 22) (v := ?vo_w16) (w1 := (w13.setCell ⟨go10, (x13_1 : Int).toNat, none⟩ (.int .i64 ((rd_T112 l0 x13_1).f2)))) ?hg ?ho ?hn ?hr ?_; (case ho => rfl); (case hg => rfl); (case hn => rfl); (case hr => first | (go_simp; done) | (go_simp; rfl)); intro w16 hw; have hg : w13.grownBy w16 (some go10) := (by rw [hw]; exact HP15.2); have hp_ : Kd.R (Kd.int .i64) 3 w16 w.heap.size (fun _ => True) (.slice (some ⟨go10, 0, none⟩) x4_1.length co10) y394 := (by rw [hw, Ny394.out]; exact HP15.1); clear HP15; have n0_ := Aside0.mk (hp_); have n1_ := Aside0.mk (blk_grown (g := gb393) (o := .cells #[.string ((rd_T112 l0 x13_1).f0.f0), .string ((rd_T112 l0 x13_1).f0.f1), .string ((rd_T112 l0 x13_1).f0.f2), .string ((rd_T112 l0 x13_1).f0.f3), .string ((rd_T112 l0 x13_1).f0.f4), .int .i64 ((rd_T112 l0 x13_1).f1), .int .i64 ((rd_T112 l0 x13_1).f2)] 112 (0, 0)) (by (with_reducible repeat (first | refine blk_drewN ?_ _ | refine blk_drew ?_ | refine blk_alloc ?_ _)); exact BK393.out) hg (Kd.R_ne HO_4.out BK393.out (by decide))); have n2_ := Aside0.mk ((by rw [hw]; exact below_set (HB.out) GB10.out : Below w.heap.size w w16)); clear HO_4; clear BK393; clear HB; have HO_4 := n0_; have BK393 := n1_; have HB := n2_; clear n0_ n1_ n2_; clear hg hw hp_))
         go_roundg k1
         case measure => have := HK1.out; omega
         case rel => exact ⟨(y394), (wrap64 (x13_1 + 1)), (by first | rfl | (simp; done) | (simp [*]; done)), H', ⟨by have := HK1.out; omega⟩, ⟨by (with_reducible repeat (first | apply Kd.R_alloc | apply Kd.R_drewN | apply Kd.R_drew)); exact HO_4.out⟩, ⟨by repeat (first | (with_reducible first | exact HB.out | apply below_alloc | apply pw_below_drewN | apply below_drew1 | refine below_set ?_ GE393.out) | exact HB.out)⟩⟩
        ·rw [if_neg c9] at H
         exact absurd H (by simp)
       ·rw [if_neg c8] at H
        exact absurd H (by simp)
      ·rw [if_neg c7] at H
       exact absurd H (by simp)
     ·rw [if_neg c6] at H
      have c6b0 : decide (x13_1 < (l0.length : Int)) = false := decide_eq_false c6
      clear c6
      replace H := Option.bind_eq_some_iff.mp H
      obtain ⟨⟨t395, t396⟩, A170, H⟩ := H
      replace H : (if t396 = true then (some (t395, 0)) else (some (0, 4))) = some (r1, r2) := H
      have A17 := Aside0.mk A170
      clear A170
      by_cases c18 : t396 = true
      ·subst c18
       have H1 : (some (t395, 0)) = some (r1, r2) := by rw [if_pos rfl] at H; exact H
       clear H
       have H := H1
       clear H1
       simp only [Option.some.injEq, Prod.mk.injEq] at H
       obtain ⟨rfl, rfl⟩ := H
       obtain ⟨Ao19, co19, eo19⟩ := Kd.R_slice HO_4.out
       subst eo19
       go_wp2_with (first | ((with_reducible refine gate_callee (f := 59) rfl ?_); refine goesL_ (some 26) rfl rfl Tryd.func59 (by kernel_rfl) rfl #[.slice Ao19 x4_1.length co19] rfl (by (try simp only [List.map_toArray, List.map_cons, List.map_nil]); first | done | rfl | (simp only [List.length_drop, List.length_take]; rfl)) ?_; (with_reducible refine (sheet_total.calls _ _ x4_1 t395 true _ ?side1 ?side2 A17.out).mono ?_); (case side1 => repeat (first | exact (Kd.R_reads' HO_4.out).2.2 | (with_reducible refine Kd.C_alloc ?_ _) | (with_reducible refine Kd.C_drewN ?_ _) | (with_reducible refine Kd.C_drew ?_))); (case side2 => exact (Kd.R_reads' HO_4.out).2.1); rintro e w' ⟨rfl, ⟨nd, rfl⟩⟩; refine ⟨_, rfl, ?_⟩))
       go_ret2
       exact ⟨by first | rfl | (simp [errW_none, errW_some] <;> rfl) | (simp [*, errW_none, errW_some] <;> rfl), by repeat (first | (with_reducible first | exact HB.out | apply below_alloc | apply pw_below_drewN | apply below_drew1) | exact HB.out)⟩
      ·replace c18 := Bool.eq_false_iff.mpr c18
       subst c18
       have H1 : (some (0, 4)) = some (r1, r2) := by rw [if_neg (show ¬ (false = true) by decide)] at H; exact H
       clear H
       have H := H1
       clear H1
       simp only [Option.some.injEq, Prod.mk.injEq] at H
       obtain ⟨rfl, rfl⟩ := H
       obtain ⟨Ao20, co20, eo20⟩ := Kd.R_slice HO_4.out
       subst eo20
       go_wp2_with (first | ((with_reducible refine gate_callee (f := 59) rfl ?_); refine goesL_ (some 26) rfl rfl Tryd.func59 (by kernel_rfl) rfl #[.slice Ao20 x4_1.length co20] rfl (by (try simp only [List.map_toArray, List.map_cons, List.map_nil]); first | done | rfl | (simp only [List.length_drop, List.length_take]; rfl)) ?_; (with_reducible refine (sheet_total.calls _ _ x4_1 t395 false _ ?side1 ?side2 A17.out).mono ?_); (case side1 => repeat (first | exact (Kd.R_reads' HO_4.out).2.2 | (with_reducible refine Kd.C_alloc ?_ _) | (with_reducible refine Kd.C_drewN ?_ _) | (with_reducible refine Kd.C_drew ?_))); (case side2 => exact (Kd.R_reads' HO_4.out).2.1); rintro e w' ⟨rfl, ⟨nd, rfl⟩⟩; refine ⟨_, rfl, ?_⟩))
       go_ret2
       exact ⟨by first | rfl | (simp [errW_none, errW_some] <;> rfl) | (simp [*, errW_none, errW_some] <;> rfl), by repeat (first | (with_reducible first | exact HB.out | apply below_alloc | apply pw_below_drewN | apply below_drew1) | exact HB.out)⟩
  ·rw [if_neg c3] at H
   exact absurd H (by simp)
 ·rw [if_neg c2] at H
  exact absurd H (by simp)
end Go.Proofs.YtppcjoaghlecmaaDoor.P
namespace Go.Proofs.YtppcjoaghlecmaaDoor.P
open Go.RowKit Go.Sort Go.Proofs.YtppcjoaghlecmaaDoorW.PrintWords Go.Proofs.YtppcjoaghlecmaaDoorW.PrintLast Go.Proofs.YtppcjoaghlecmaaDoor.Op
set_option linter.unusedVariables false
set_option linter.unusedSimpArgs false
theorem far_pure (n : Int) : sheet_far.f n = some (!fitB n) := by
 unfold sheet_far.f fitB
 by_cases h : n > 1000000000000000
 ·rw [if_pos h, decide_eq_false (show ¬ n ≤ 1000000000000000 by omega), Bool.and_false]; rfl
 ·rw [if_neg h, decide_eq_true (show n ≤ 1000000000000000 by omega), Bool.and_true]
  congr 1
  rw [← decide_not]
  exact decide_eq_decide.2 (by omega)
def baseK (l : List S112) : Int × Int := if fitB (bass l).sum = true then ((bass l).sum, 0) else (0, 4)
theorem total_pure (l : List Int) (hl : l.length ≤ 1000000) (hok : ∀ x ∈ l, i64ok x) : sheet_total.f l = some (totF l) := by
 unfold sheet_total.f num_Sum.f totF
 rw [if_pos hl, if_pos hok]
 by_cases h : i64ok l.sum
 ·simp only [if_pos h, Option.bind_some, if_true, far_pure, Bool.not_not]
 ·simp only [if_neg h, Option.bind_some, if_false, Bool.false_eq_true]
theorem base_l0 (l : List S112) (hl : l.length ≤ 1000000) (hok : ∀ x ∈ l, i64ok x.f1 ∧ i64ok x.f2) : ∀ (n i : Nat), l.length - i = n → i ≤ l.length → Ev (fun k => sheet_Base.l0 k (zsI (bass l) i) l (l.length : Int) (i : Int)) (baseK l) := by
 have hb : (bass l).length = l.length := List.length_map _
 intro n
 induction n with
 | zero =>
  intro i hn hi
  refine Ev.step (fun k => sheet_Base.l0.eq_2 _ _ _ _ k) ?_
  have hi2 : i = (bass l).length := by omega
  have hz := zsI_all (bass l)
  rw [← hi2] at hz
  simp only [if_neg (show ¬ ((i : Int) < (l.length : Int)) by omega), hz]
  simp only [total_pure (bass l) (by omega) (fun x hx => by
   obtain ⟨c, hc, rfl⟩ := List.mem_map.1 hx
   exact (hok c hc).2), Option.bind_some, tot_2]
  unfold baseK
  by_cases h : fitB (bass l).sum = true
  ·simp only [if_pos h, tot_1 h]; exact Ev.now _
  ·simp only [if_neg h]; exact Ev.now _
 | succ n ih =>
  intro i hn hi
  have hil : i < l.length := by omega
  have hw : wrap64 ((i : Int) + 1) = ((i + 1 : Nat) : Int) := by rw [w64 (by omega) (by omega)]; omega
  have hs := zsI_set (bass l) (i := i) (by omega)
  have hg : (bass l)[i]'(by omega) = (l[i]).f2 := by unfold bass; rw [List.getElem_map]
  rw [hg] at hs
  refine Ev.step (fun k => sheet_Base.l0.eq_2 _ _ _ _ k) ?_
  simp only [if_pos (show ((i : Int) < (l.length : Int)) by omega), if_pos (show (0 : Int) ≤ (i : Int) by omega), hw, rd112_at hil, zsI_len (bass l) (show i ≤ (bass l).length by omega), hb, Int.toNat_natCast, hs]
  exact ih (i + 1) (by omega) (by omega)
theorem base_ev (l : List S112) (h : OkS l) : Ev (fun k => sheet_Base.f k l) (baseK l) := by
 unfold sheet_Base.f
 have hl := h.1
 simp only [if_pos (show 0 ≤ (l.length : Int) by omega), Int.toNat_natCast, if_pos (show l.length ≤ 35184372088832 by omega)]
 have e : List.replicate l.length (0 : Int) = zsI (bass l) 0 := by unfold zsI bass; simp
 rw [e]
 exact base_l0 l hl h.2 _ 0 rfl (Nat.zero_le _)
end Go.Proofs.YtppcjoaghlecmaaDoor.P
namespace Go.Proofs.YtppcjoaghlecmaaDoor.P
open Go.RowKit Go.Proofs.YtppcjoaghlecmaaDoorW.PrintWords Go.Proofs.YtppcjoaghlecmaaDoorW.PrintLast Go.Proofs.YtppcjoaghlecmaaDoorW.PrintMore
attribute [local go_sem] max2_int min2_int max_two min_two max_three min_three max_four min_four
set_option linter.unusedVariables false
set_option linter.unusedSimpArgs false
theorem eqA112 (d : Nat) (w : World) (x0 y0 : ByteArray) (x1 y1 : ByteArray) (x2 y2 : ByteArray) (x3 y3 : ByteArray) (x4 y4 : ByteArray) (x5 y5 : Int) (x6 y6 : Int) :
  (Op.equalIn (d + 3) 112 (.agg #[.string x0, .string x1, .string x2, .string x3, .string x4, .int .i64 x5, .int .i64 x6]) (.agg #[.string y0, .string y1, .string y2, .string y3, .string y4, .int .i64 y5, .int .i64 y6])).run Tryd.prog w = .ok ((x0.toList == y0.toList && (x1.toList == y1.toList && (x2.toList == y2.toList && (x3.toList == y3.toList && (x4.toList == y4.toList))))) && (x5 == y5 && (x6 == y6))) w := by
 refine eqA_of Tryd.underlying112 (by kernel_rfl) ?_
 refine eqf_cons (by rfl) (by go_simp) (by go_simp) (eqA40 (d + 0) w _ _ _ _ _ _ _ _ _ _) ?_
 refine eqf_cons (by rfl) (by go_simp; rfl) (by go_simp; rfl) (by go_simp) ?_
 exact eqf_last (by rfl) (by go_simp; rfl) (by go_simp; rfl) (by go_simp)
attribute [local go_sem high] eqA112
def accountingref19_Same.l0 : Nat → List (S112) → List (S112) → Int → Option (Bool)
 | 0, _, _, _ => none
 | k + 1, x0, x1, x5 => if x5 < (x0.length : Int) then (if 0 ≤ x5 then (if x5 < (x1.length : Int) then (if ((!((((rd_T112 x0 x5).f0.f0).toList) == (((rd_T112 x1 x5).f0.f0).toList)) || (!((((rd_T112 x0 x5).f0.f1).toList) == (((rd_T112 x1 x5).f0.f1).toList)) || (!((((rd_T112 x0 x5).f0.f2).toList) == (((rd_T112 x1 x5).f0.f2).toList)) || (!((((rd_T112 x0 x5).f0.f3).toList) == (((rd_T112 x1 x5).f0.f3).toList)) || (!((((rd_T112 x0 x5).f0.f4).toList) == (((rd_T112 x1 x5).f0.f4).toList))))))) || (!(((rd_T112 x0 x5).f1) == ((rd_T112 x1 x5).f1)) || (!(((rd_T112 x0 x5).f2) == ((rd_T112 x1 x5).f2))))) = true then (some false) else (accountingref19_Same.l0 k x0 x1 (wrap64 (x5 + 1)))) else (none)) else (none)) else (some true)
def accountingref19_Same.f (k : Nat) (l0 : List (S112)) (l1 : List (S112)) : Option (Bool) := if (l0.length : Int) = (l1.length : Int) then (accountingref19_Same.l0 k l0 l1 0) else (some false)
theorem accountingref19_Same.mono_l : ∀ k, (∀ y0 y1 y2, LeO (accountingref19_Same.l0 k y0 y1 y2) (accountingref19_Same.l0 (k + 1) y0 y1 y2))
 | 0 => fun _ _ _ r h => by simp [accountingref19_Same.l0] at h
 | k + 1 => by
  have ih0 := accountingref19_Same.mono_l k
  ·intro y0 y1 y2
   unfold accountingref19_Same.l0
   repeat' first
   | (with_reducible exact ih0 _ _ _)
   | (with_reducible exact LeO.refl _)
   | (with_reducible exact LeO.none _)
   | (with_reducible refine LeO.ite ?_ ?_)
   | (with_reducible refine LeO.bind ?_ (fun _ => ?_))
   | exact ih0 _ _ _
   | exact LeO.none _
   | refine LeO.ite ?_ ?_
   | refine LeO.bind ?_ (fun _ => ?_)
theorem accountingref19_Same.mono : ∀ a0 a1 k, LeO (accountingref19_Same.f k a0 a1) (accountingref19_Same.f (k + 1) a0 a1) := by
 intro a0 a1 k
 have ih0 := accountingref19_Same.mono_l k
 unfold accountingref19_Same.f
 repeat' first
   | (with_reducible exact ih0 _ _ _)
   | (with_reducible exact LeO.refl _)
   | (with_reducible exact LeO.none _)
   | (with_reducible refine LeO.ite ?_ ?_)
   | (with_reducible refine LeO.bind ?_ (fun _ => ?_))
   | exact ih0 _ _ _
   | exact LeO.none _
   | refine LeO.ite ?_ ?_
   | refine LeO.bind ?_ (fun _ => ?_)
set_option maxHeartbeats 8000000 in
set_option maxRecDepth 100000 in
theorem accountingref19_Same.calls (k : Nat) (A0 : Option Addr) (c0 : Nat) (l0 : List (S112)) (A1 : Option Addr) (c1 : Nat) (l1 : List (S112)) (r : Bool) (w : World) (hr0 : Kd.C k112 w A0 l0.length l0) (hc0 : l0.length ≤ c0) (hr1 : Kd.C k112 w A1 l1.length l1) (hc1 : l1.length ≤ c1) (h : accountingref19_Same.f k l0 l1 = some r) :
  Calls Tryd.prog 21 #[.slice A0 l0.length c0, .slice A1 l1.length c1] w fun e w' => e = .returned (.bool r) ∧ Drawn0 w w' := by
 have hu112 := Tryd.underlying112
 have HR0 := Aside0.mk hr0
 have HC0 := Aside0.mk hc0
 clear hr0 hc0
 have HR1 := Aside0.mk hr1
 have HC1 := Aside0.mk hc1
 clear hr1 hc1
 have H : (if (l0.length : Int) = (l1.length : Int) then (accountingref19_Same.l0 k l0 l1 0) else (some false)) = some r := h
 clear h
 by_cases c3 : (l0.length : Int) = (l1.length : Int)
 ·rw [if_pos c3] at H
  have c3b0 : ((l0.length : Int) == (l1.length : Int)) = true := beq_iff_eq.mpr c3
  have c3b1 : ((l0.length : Int) != (l1.length : Int)) = false := bne_eq_false_iff_eq.mpr c3
  have c3b2 : (l0.length == l1.length) = true := by first | simpa using c3 | (simp at c3 ⊢; omega)
  clear c3
  have H' := Aside0.mk H
  clear H
  go_enter Tryd.func21, Tryd.ntmps21
  go_wp2
  repeat (go_quiet (fail); try go_wp2)
  go_loopg [5] k (fun kq v5 w' => ∃ (x5_1 : Int), v5 = .int .i64 x5_1 ∧ Aside0 (accountingref19_Same.l0 kq l0 l1 x5_1 = some r) ∧ Aside0 (kq ≤ k) ∧ Drawn0 w w')
  case atStart => exact ⟨(0), (by first | rfl | (simp; done) | (simp [*]; done)), H', ⟨Nat.le_refl _⟩, by repeat (first | exact Drawn0.refl _ | apply Drawn0.step)⟩
  case round =>
   clear H'
   try clear c1
   try clear c2
   try clear p2
   try clear c3
   try clear c3b0
   try clear c3b1
   try clear c3b2
   obtain ⟨x5_1, rfl, HA, HK1, ⟨m1, rfl⟩⟩ := hrel
   cases gk with
   | zero => exact absurd HA.out (by simp [accountingref19_Same.l0])
   | succ k1 =>
    have H := HA.out
    clear HA
    simp only [accountingref19_Same.l0] at H
    by_cases c4 : x5_1 < (l0.length : Int)
    ·rw [if_pos c4] at H
     have c4b0 : decide (x5_1 < (l0.length : Int)) = true := decide_eq_true c4
     clear c4
     by_cases c5 : 0 ≤ x5_1
     ·rw [if_pos c5] at H
      have c5b0 : decide (0 ≤ x5_1) = true := decide_eq_true c5
      clear c5
      by_cases c6 : x5_1 < (l1.length : Int)
      ·rw [if_pos c6] at H
       have c6b0 : decide (x5_1 < (l1.length : Int)) = true := decide_eq_true c6
       clear c6
       by_cases c7 : ((!((((rd_T112 l0 x5_1).f0.f0).toList) == (((rd_T112 l1 x5_1).f0.f0).toList)) || (!((((rd_T112 l0 x5_1).f0.f1).toList) == (((rd_T112 l1 x5_1).f0.f1).toList)) || (!((((rd_T112 l0 x5_1).f0.f2).toList) == (((rd_T112 l1 x5_1).f0.f2).toList)) || (!((((rd_T112 l0 x5_1).f0.f3).toList) == (((rd_T112 l1 x5_1).f0.f3).toList)) || (!((((rd_T112 l0 x5_1).f0.f4).toList) == (((rd_T112 l1 x5_1).f0.f4).toList))))))) || (!(((rd_T112 l0 x5_1).f1) == ((rd_T112 l1 x5_1).f1)) || (!(((rd_T112 l0 x5_1).f2) == ((rd_T112 l1 x5_1).f2))))) = true
       ·rw [if_pos c7] at H
        have c7b0 : ((!((((rd_T112 l0 x5_1).f0.f0).toList) == (((rd_T112 l1 x5_1).f0.f0).toList)) || (!((((rd_T112 l0 x5_1).f0.f1).toList) == (((rd_T112 l1 x5_1).f0.f1).toList)) || (!((((rd_T112 l0 x5_1).f0.f2).toList) == (((rd_T112 l1 x5_1).f0.f2).toList)) || (!((((rd_T112 l0 x5_1).f0.f3).toList) == (((rd_T112 l1 x5_1).f0.f3).toList)) || (!((((rd_T112 l0 x5_1).f0.f4).toList) == (((rd_T112 l1 x5_1).f0.f4).toList))))))) || (!(((rd_T112 l0 x5_1).f1) == ((rd_T112 l1 x5_1).f1)) || (!(((rd_T112 l0 x5_1).f2) == ((rd_T112 l1 x5_1).f2))))) = true := c7
        clear c7
        obtain rfl := Option.some.inj H
        have p166 : 0 ≤ (x5_1 : Int) := of_decide_eq_true (by first | (with_reducible assumption) | assumption)
        have q166 : x5_1 < (l0.length : Int) := of_decide_eq_true (by first | (with_reducible assumption) | assumption)
        obtain ⟨ad166, e166, hx166_0, hx166_1, hx166_2, hx166_3, hx166_4, hx166_5, hx166_6⟩ := at_T112 HR0.out x5_1 p166 q166
        cases e166
        replace p166 := eq_true p166
        replace q166 := eq_true q166
        have p167 : 0 ≤ (x5_1 : Int) := of_decide_eq_true (by first | (with_reducible assumption) | assumption)
        have q167 : x5_1 < (l1.length : Int) := of_decide_eq_true (by first | (with_reducible assumption) | assumption)
        obtain ⟨ad167, e167, hx167_0, hx167_1, hx167_2, hx167_3, hx167_4, hx167_5, hx167_6⟩ := at_T112 HR1.out x5_1 p167 q167
        cases e167
        replace p167 := eq_true p167
        replace q167 := eq_true q167
        go_wp2
        repeat (go_quiet (fail); try go_wp2)
        go_ret
        exact ⟨by first | rfl | (simp; done) | (simp [*]; done), by repeat (first | exact Drawn0.refl _ | apply Drawn0.step)⟩
       ·rw [if_neg c7] at H
        have c7b0 : ((!((((rd_T112 l0 x5_1).f0.f0).toList) == (((rd_T112 l1 x5_1).f0.f0).toList)) || (!((((rd_T112 l0 x5_1).f0.f1).toList) == (((rd_T112 l1 x5_1).f0.f1).toList)) || (!((((rd_T112 l0 x5_1).f0.f2).toList) == (((rd_T112 l1 x5_1).f0.f2).toList)) || (!((((rd_T112 l0 x5_1).f0.f3).toList) == (((rd_T112 l1 x5_1).f0.f3).toList)) || (!((((rd_T112 l0 x5_1).f0.f4).toList) == (((rd_T112 l1 x5_1).f0.f4).toList))))))) || (!(((rd_T112 l0 x5_1).f1) == ((rd_T112 l1 x5_1).f1)) || (!(((rd_T112 l0 x5_1).f2) == ((rd_T112 l1 x5_1).f2))))) = false := by simpa using c7
        clear c7
        have H' := Aside0.mk H
        clear H
        have p166 : 0 ≤ (x5_1 : Int) := of_decide_eq_true (by first | (with_reducible assumption) | assumption)
        have q166 : x5_1 < (l0.length : Int) := of_decide_eq_true (by first | (with_reducible assumption) | assumption)
        obtain ⟨ad166, e166, hx166_0, hx166_1, hx166_2, hx166_3, hx166_4, hx166_5, hx166_6⟩ := at_T112 HR0.out x5_1 p166 q166
        cases e166
        replace p166 := eq_true p166
        replace q166 := eq_true q166
        have p167 : 0 ≤ (x5_1 : Int) := of_decide_eq_true (by first | (with_reducible assumption) | assumption)
        have q167 : x5_1 < (l1.length : Int) := of_decide_eq_true (by first | (with_reducible assumption) | assumption)
        obtain ⟨ad167, e167, hx167_0, hx167_1, hx167_2, hx167_3, hx167_4, hx167_5, hx167_6⟩ := at_T112 HR1.out x5_1 p167 q167
        cases e167
        replace p167 := eq_true p167
        replace q167 := eq_true q167
        go_wp2
        repeat (go_quiet (fail); try go_wp2)
        go_roundg k1
        case measure => have := HK1.out; omega
        case rel => exact ⟨(wrap64 (x5_1 + 1)), (by first | rfl | (simp; done) | (simp [*]; done)), H', ⟨by have := HK1.out; omega⟩, by repeat (first | exact Drawn0.refl _ | apply Drawn0.step)⟩
      ·rw [if_neg c6] at H
       exact absurd H (by simp)
     ·rw [if_neg c5] at H
      exact absurd H (by simp)
    ·rw [if_neg c4] at H
     have c4b0 : decide (x5_1 < (l0.length : Int)) = false := decide_eq_false c4
     clear c4
     obtain rfl := Option.some.inj H
     go_wp2
     repeat (go_quiet (fail); try go_wp2)
     go_ret
     exact ⟨by first | rfl | (simp; done) | (simp [*]; done), by repeat (first | exact Drawn0.refl _ | apply Drawn0.step)⟩
 ·rw [if_neg c3] at H
  have c3b0 : ((l0.length : Int) == (l1.length : Int)) = false := beq_eq_false_iff_ne.mpr c3
  have c3b1 : ((l0.length : Int) != (l1.length : Int)) = true := bne_iff_ne.mpr c3
  have c3b2 : (l0.length == l1.length) = false := by first | simpa using c3 | (simp at c3 ⊢; omega)
  obtain rfl := Option.some.inj H
  go_enter Tryd.func21, Tryd.ntmps21
  go_wp2
  repeat (go_quiet (fail); try go_wp2)
  go_ret
  exact ⟨by first | rfl | (simp; done) | (simp [*]; done), by repeat (first | exact Drawn0.refl _ | apply Drawn0.step)⟩
end Go.Proofs.YtppcjoaghlecmaaDoor.P
namespace Go.Proofs.YtppcjoaghlecmaaDoor.P
open Go.RowKit Go.Sort Go.Proofs.YtppcjoaghlecmaaDoorW.PrintWords Go.Proofs.YtppcjoaghlecmaaDoorW.PrintLast Go.Proofs.YtppcjoaghlecmaaDoor.Op
set_option linter.unusedVariables false
set_option linter.unusedSimpArgs false
theorem same_l0 (l : List S112) (hl : l.length ≤ 1000000) : ∀ (n i : Nat), l.length - i = n → i ≤ l.length → Ev (fun k => accountingref19_Same.l0 k l l (i : Int)) true := by
 intro n
 induction n with
 | zero =>
  intro i hn hi
  refine Ev.step (fun k => accountingref19_Same.l0.eq_2 _ _ _ k) ?_
  simp only [if_neg (show ¬ ((i : Int) < (l.length : Int)) by omega)]
  exact Ev.now _
 | succ n ih =>
  intro i hn hi
  have hil : i < l.length := by omega
  have hw : wrap64 ((i : Int) + 1) = ((i + 1 : Nat) : Int) := by rw [w64 (by omega) (by omega)]; omega
  refine Ev.step (fun k => accountingref19_Same.l0.eq_2 _ _ _ k) ?_
  simp only [if_pos (show ((i : Int) < (l.length : Int)) by omega), if_pos (show (0 : Int) ≤ (i : Int) by omega), hw, BEq.rfl, Bool.not_true, Bool.or_false, Bool.false_eq_true, if_false]
  exact ih (i + 1) (by omega) (by omega)
theorem same_ev (l : List S112) (hl : l.length ≤ 1000000) : Ev (fun k => accountingref19_Same.f k l l) true := by
 unfold accountingref19_Same.f
 simp only [if_true]
 exact same_l0 l hl _ 0 rfl (Nat.zero_le _)
end Go.Proofs.YtppcjoaghlecmaaDoor.P
namespace Go.Proofs.YtppcjoaghlecmaaDoor.P
open Go.RowKit Go.Sort Go.Proofs.YtppcjoaghlecmaaDoorW.PrintWords Go.Proofs.YtppcjoaghlecmaaDoorW.PrintLast Go.Proofs.YtppcjoaghlecmaaDoorW.PrintMore Go.Maps Go.ChangeShapes Go.WideShapes Go.WideMaps Go.Shelf
set_option linter.unusedVariables false
set_option linter.unusedSimpArgs false
structure Sl (w : World) (A : Option Addr) (n c : Nat) (l : List S112) : Prop where
 len : l.length = n
 le : n ≤ c
 v : Kd.V k112 112 w 0 (fun _ => True) (.slice A n c) l
theorem Sl.of {w : World} {base : Nat} {ok : Nat → Prop} {v : Value} {l : List S112} (h : Kd.R k112 112 w base ok v l) : ∃ A c, v = .slice A l.length c ∧ Sl w A l.length c l := by
 obtain ⟨A, c, rfl, hc, hC⟩ := Kd.R_reads h
 exact ⟨A, c, rfl, rfl, hc, Kd.V_mono (Kd.R_V h) (fun _ _ => trivial)⟩
theorem Sl.below {w w' : World} {A : Option Addr} {n c : Nat} {l : List S112} (h : Sl w A n c l) (hb : Below w.heap.size w w') : Sl w' A n c l := ⟨h.len, h.le, Kd.V_below h.v hb⟩
theorem Sl.C {w : World} {A : Option Addr} {n c : Nat} {l : List S112} (h : Sl w A n c l) : Kd.C k112 w A l.length l := by
 have := (Kd.V_reads' h.v).2.2
 exact this
theorem fold_is {w : World} {A : Option Addr} {n c : Nat} {l : List S112} (m : Int) (h : Sl w A n c l) (hok : OkS l) (r1 : List S112) (r2 : Int) (hf : foldK l m = (r1, r2)) :
  Calls Tryd.prog 32 #[.slice A n c, .int .i64 m] w fun e w' => ∃ A' c', e = .returned (.tuple #[.slice A' r1.length c', .int .i64 r2]) ∧ Sl w' A' r1.length c' r1 ∧ Below w.heap.size w w' := by
 obtain ⟨k, hk⟩ := (fold_ev l m hok).rounds
 rw [hf] at hk
 have hl := h.len
 subst hl
 refine (sheet_Fold.calls k A c l m r1 r2 w h.C h.le hk).mono ?_
 rintro e w' ⟨v, rfl, hr, hb⟩
 obtain ⟨A', c', rfl, hs⟩ := Sl.of hr
 exact ⟨A', c', rfl, hs, hb⟩
theorem base_is {w : World} {A : Option Addr} {n c : Nat} {l : List S112} (h : Sl w A n c l) (hok : OkS l) (r1 r2 : Int) (hf : baseK l = (r1, r2)) :
  Calls Tryd.prog 33 #[.slice A n c] w fun e w' => e = .returned (.tuple #[.int .i64 r1, .int .i64 r2]) ∧ Below w.heap.size w w' := by
 obtain ⟨k, hk⟩ := (base_ev l hok).rounds
 rw [hf] at hk
 have hl := h.len
 subst hl
 exact sheet_Base.calls k A c l r1 r2 w h.C h.le hk
theorem right_is {w : World} {A : Option Addr} {n c : Nat} {l : List S112} (h : Sl w A n c l) (b : Bool) (hb : rightB l = b) :
  Calls Tryd.prog 34 #[.slice A n c] w fun e w' => e = .returned (.bool b) ∧ Below w.heap.size w w' := by
 have hl := h.len
 subst hl
 exact sheet_Right.calls A c l b w h.C h.le (by unfold sheet_Right.f; rw [hb])
theorem add_is {w : World} {A B : Option Addr} {n c n2 c2 : Nat} {l l2 : List S112} (h : Sl w A n c l) (h2 : Sl w B n2 c2 l2) (hl : l.length + l2.length ≤ 1000000) (r1 : List S112) (r2 : Int) (hf : addK l l2 = (r1, r2)) :
  Calls Tryd.prog 35 #[.slice A n c, .slice B n2 c2] w fun e w' => ∃ A' c', e = .returned (.tuple #[.slice A' r1.length c', .int .i64 r2]) ∧ Sl w' A' r1.length c' r1 ∧ Below w.heap.size w w' := by
 obtain ⟨k, hk⟩ := (add_ev l l2 hl).rounds
 rw [hf] at hk
 have e1 := h.len
 have e2 := h2.len
 subst e1 e2
 refine (sheet_Add.calls k (fun _ => True) A c l (fun _ => True) B c2 l2 r1 r2 w h.v h2.v hk).mono ?_
 rintro e w' ⟨v, rfl, hr, hb⟩
 obtain ⟨A', c', rfl, hs⟩ := Sl.of hr
 exact ⟨A', c', rfl, hs, hb⟩
theorem same_is {w : World} {A B : Option Addr} {n c n2 c2 : Nat} {l : List S112} (h : Sl w A n c l) (h2 : Sl w B n2 c2 l) (hl : l.length ≤ 1000000) :
  Calls Tryd.prog 21 #[.slice A n c, .slice B n2 c2] w fun e w' => e = .returned (.bool true) ∧ Below w.heap.size w w' := by
 obtain ⟨k, hk⟩ := (same_ev l hl).rounds
 have e1 := h.len
 have e2 := h2.len
 subst e1 e2
 refine (accountingref19_Same.calls k A c l B c2 l true w h.C h.le h2.C h2.le hk).mono ?_
 rintro e w' ⟨he, hd⟩
 exact ⟨he, hd.below⟩
theorem LiveE.sheet0 {w0 w : World} {p m : Nat} {E : List S29} {s : List S112} (h : LiveE w0 w p m E) (hg : GoodE E) (hn : lnsE E ≤ 400) (hl : E.length ≤ 1000) (q : Qy) (hs : (sheetE E q).1 = s) :
  Calls Tryd.prog 19 #[.pointer (some ⟨p, 0, none⟩), qyV q] w fun e w' => ∃ A c, e = .returned (.tuple #[.slice A s.length c, .int .i64 0]) ∧ Sl w' A s.length c s ∧ Below w.heap.size w w' ∧ LiveE w0 w' p m E := by
 refine (h.sheet hg hl q).mono ?_
 rintro e w' ⟨v, rfl, hr, hb, h2⟩
 rw [sheet_ok hg hn q]
 rw [hs] at hr
 obtain ⟨A, c, rfl, hsl⟩ := Sl.of hr
 exact ⟨A, c, rfl, hsl, hb, h2⟩
theorem LiveE.sheetx {w0 w : World} {p m : Nat} {E : List S29} {s : List S112} (h : LiveE w0 w p m E) (hg : GoodE E) (hn : lnsE E ≤ 400) (hl : E.length ≤ 1000) (e : ByteArray) (a z b : Int) (hs : (sheetE E ⟨e, a, z, b⟩).1 = s) :
  Calls Tryd.prog 19 #[.pointer (some ⟨p, 0, none⟩), .agg #[.string e, .int .i64 a, .int .i64 z, .int .i64 b]] w fun e w' => ∃ A c, e = .returned (.tuple #[.slice A s.length c, .int .i64 0]) ∧ Sl w' A s.length c s ∧ Below w.heap.size w w' ∧ LiveE w0 w' p m E := h.sheet0 hg hn hl ⟨e, a, z, b⟩ hs
def accountinglaw20_LedgerBalances.f (l : List S29) (a1_0 : ByteArray) (a1_1 a1_2 a1_3 : Int) : Option Bool := if ∀ x ∈ l, okEn x then some true else none
set_option maxHeartbeats 8000000 in
set_option maxRecDepth 100000 in
theorem ledgerBalances_calls (A : Option Addr) (c : Nat) (l : List S29) (q : Qy) (w : World) (hC : Kd.C k29 w A l.length l) (hc : l.length ≤ c) (hok : ∀ x ∈ l, okEn x) (hT : Tab w) :
  Calls Tryd.prog 8 #[.slice A l.length c, qyV q] w fun e w' => e = .returned (.bool true) ∧ Below w.heap.size w w' := by
 have HC := Aside0.mk hC
 have Hc := Aside0.mk hc
 have HT := Aside0.mk hT
 have HOK := Aside0.mk hok
 clear hC hc hT hok
 unfold qyV
 obtain ⟨lb, hlb⟩ : ∃ lb, largeB l = lb := ⟨_, rfl⟩
 have HLB := Aside0.mk hlb
 clear hlb
 have HB1 := Aside0.mk (below_alloc (Below.refl w.heap.size w) (.cells #[.string q.e, .int .i64 q.a, .int .i64 q.z, .int .i64 q.b] 24))
 have HBQ := Aside0.mk (blk_new w (.cells #[.string q.e, .int .i64 q.a, .int .i64 q.z, .int .i64 q.b] 24))
 cases lb
 ·have HN := Aside0.mk (large_no HLB.out)
  obtain ⟨E, hE⟩ : ∃ E, playE l = E := ⟨_, rfl⟩
  have HG := Aside0.mk (show GoodE E from hE ▸ play_good l)
  have HLN := Aside0.mk (show lnsE E ≤ 400 from by have := play_lns l; have := HN.out.2.1; rw [← hE]; unfold lnsE at *; omega)
  have HEL := Aside0.mk (show E.length ≤ 1000 from by have := play_len l; have := HN.out.1; rw [← hE]; omega)
  have HE := Aside0.mk hE
  clear hE
  obtain ⟨s, hs⟩ : ∃ s, (sheetE E q).1 = s := ⟨_, rfl⟩
  have HSH := Aside0.mk hs
  have HOS := Aside0.mk (show OkS s from hs ▸ okS_ofK (okS_sel HG.out HEL.out q))
  have HFZ := Aside0.mk (show foldK s 4 = ([], 0) from hs ▸ fold_zero HG.out HLN.out q)
  have HBZ := Aside0.mk (show baseK s = (0, 0) from by have := base_zero HG.out HLN.out q; rw [hs] at this; unfold baseK; rw [this]; rfl)
  have HRZ := Aside0.mk (show rightB s = true from hs ▸ rightB_ofK _)
  clear hs
  go_enter Tryd.func8, Tryd.ntmps8
  go_upto_region 3 with (go_at_call 16; refine (large_is A c l false _ (Kd.C_below HC.out HB1.out) Hc.out HOK.out HLB.out).mono ?_; rintro e w2 ⟨rfl, hb⟩; have HB2 := Aside0.mk (below_then HB1.out HB1.out.size hb); have HBQ2 := Aside0.mk (blk_below HBQ.out hb); clear hb)
  obtain ⟨g, hg⟩ : ∃ g, w.heap.size = g := ⟨_, rfl⟩
  have HQQ := Aside0.mk (qy_kept HBQ2.out)
  have HTW := Aside0.mk (HT.out.below HB2.out)
  have HCW := Aside0.mk (Kd.C_below HC.out HB2.out)
  obtain ⟨q0, q1, q2, q3⟩ := HQQ.out w2 (Below.refl _ _)
  rw [hg] at HQQ q0 q1 q2 q3
  try rw [hg]
  have HFE := Aside0.mk (fun x hx => fit_E (HOK.out x hx))
  go_region_held3 (fun w' => w'.cell? ⟨g, 0, none⟩ = some (.string q.e) ∧ w'.cell? ⟨g, 1, none⟩ = some (.int .i64 q.a) ∧ w'.cell? ⟨g, 2, none⟩ = some (.int .i64 q.z) ∧ w'.cell? ⟨g, 3, none⟩ = some (.int .i64 q.b))
   (first | (with_reducible exact HQQ.out _ (below_drew (Below.refl _ _))) | (with_reducible exact HQQ.out _ HBB.out) | (with_reducible exact HQQ.out _ HBC.out))
   (first | (go_at_call 18; refine (posts_calls A c l _ (Kd.C_below HCW.out (below_drew (Below.refl _ _))) Hc.out (by have := HN.out.1; omega) HFE.out (HTW.out.below (below_drew (Below.refl _ _)))).mono ?_; rw [HE.out]; rintro e w4 ⟨p, m, rfl, h4⟩; have HL4 := Aside0.mk h4; have HBB := Aside0.mk (below_then (below_drew (Below.refl w2.heap.size w2)) (Nat.le_refl _) h4.bel); clear h4) | (go_at_call 19; refine (HL4.out.sheet0 HG.out HLN.out HEL.out q HSH.out).mono ?_; rintro e w5 ⟨A5, c5, rfl, hs5, hb5, h5⟩; have HS5 := Aside0.mk hs5; have HBC := Aside0.mk (below_then HBB.out HBB.out.size hb5); clear hs5 hb5 h5))
  have HBD := Aside0.mk (below_then HB2.out HB2.out.size HBC.out)
  clear q0 q1 q2 q3
  go_wp2_with (first
   | (go_at_call 32; (with_reducible refine (fold_is 4 HS5.out HOS.out [] 0 HFZ.out).mono ?_); rintro e w6 ⟨A6, c6, rfl, hs6, hb⟩; have HS6 := Aside0.mk (HS5.out.below hb); have HB6 := Aside0.mk (below_then HBD.out HBD.out.size hb); clear hb hs6)
   | (go_at_call 33; (with_reducible refine (base_is HS6.out HOS.out 0 0 HBZ.out).mono ?_); rintro e w7 ⟨rfl, hb⟩; have HS7 := Aside0.mk (HS6.out.below hb); have HB7 := Aside0.mk (below_then HB6.out HB6.out.size hb); clear hb)
   | (go_at_call 34; (with_reducible refine (right_is HS7.out true HRZ.out).mono ?_); rintro e w8 ⟨rfl, hb⟩; have HB8 := Aside0.mk (below_then HB7.out HB7.out.size hb); clear hb)
   | (go_at_call 17; (with_reducible refine (lives_calls _ (HT.out.below HB8.out)).mono ?_); rintro e w9 ⟨rfl, hb⟩; have HB9 := Aside0.mk hb; clear hb))
  go_ret
  exact ⟨rfl, below_then HB8.out HB8.out.size HB9.out⟩
 ·go_enter Tryd.func8, Tryd.ntmps8
  go_wp2_with (first | (go_at_call 16; refine (large_is A c l true _ (Kd.C_below HC.out HB1.out) Hc.out HOK.out HLB.out).mono ?_; rintro e w2 ⟨rfl, hb⟩; have HB2 := Aside0.mk (below_then HB1.out HB1.out.size hb); clear hb) | (go_at_call 17; refine (lives_calls _ (HT.out.below HB2.out)).mono ?_; rintro e w3 ⟨rfl, hb⟩; have HB3 := Aside0.mk hb; clear hb))
  go_ret
  exact ⟨rfl, below_then HB2.out HB2.out.size HB3.out⟩
theorem accountinglaw20_LedgerBalances.calls (A0 : Option Addr) (c0 : Nat) (l0 : List S29) (a1_0 : ByteArray) (a1_1 a1_2 a1_3 : Int) (r : Bool) (w : World) (hr0 : Kd.C k29 w A0 l0.length l0) (hc0 : l0.length ≤ c0) (h : accountinglaw20_LedgerBalances.f l0 a1_0 a1_1 a1_2 a1_3 = some r) (hT : Tab w) :
  Calls Tryd.prog 8 #[.slice A0 l0.length c0, .agg #[.string a1_0, .int .i64 a1_1, .int .i64 a1_2, .int .i64 a1_3]] w fun e w' => e = .returned (.bool r) ∧ Below w.heap.size w w' := by
 unfold accountinglaw20_LedgerBalances.f at h
 split at h
 ·rename_i hok
  obtain rfl := Option.some.inj h
  exact ledgerBalances_calls A0 c0 l0 ⟨a1_0, a1_1, a1_2, a1_3⟩ w hr0 hc0 hok hT
 ·cases h
end Go.Proofs.YtppcjoaghlecmaaDoor.P
