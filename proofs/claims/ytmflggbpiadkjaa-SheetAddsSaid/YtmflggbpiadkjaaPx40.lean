-- PRINTED by print.py (a twelfth state) out of the translation. Not trusted: Lean checks it.
import Derived.Test.YtmflggbpiadkjaaPx0
namespace Go.Proofs.Ytmflggbpiadkjaa.P
open Go.RowKit Go.Proofs.YtmflggbpiadkjaaW.PrintWords Go.Proofs.YtmflggbpiadkjaaW.PrintLast Go.Proofs.YtmflggbpiadkjaaW.PrintMore
attribute [local go_sem] max2_int min2_int max_two min_two max_three min_three max_four min_four   -- for this text's walks alone
set_option linter.unusedVariables false
set_option linter.unusedSimpArgs false

/-! ### accountingref19_minus: function 70 -/
def accountingref19_minus.l0 : Nat → List (S34) → List (S34) → Int → Option ((List (S34)))
  | 0, _, _, _ => none
  | k + 1, x0, x3, x4 => if x4 < (x0.length : Int) then (if 0 ≤ x4 then (if x3.length < 1466015503701 then (accountingref19_minus.l0 k x0 (x3 ++ [(⟨(⟨(rd_T34 x0 x4).f0.f0, (rd_T34 x0 x4).f0.f1, (rd_T34 x0 x4).f0.f2, (rd_T34 x0 x4).f0.f3, (rd_T34 x0 x4).f0.f4⟩ : S32), wrap64 (-((rd_T34 x0 x4).f1)), wrap64 (-((rd_T34 x0 x4).f2))⟩ : S34)]) (wrap64 (x4 + 1))) else (none)) else (none)) else (some x3)
def accountingref19_minus.f (k : Nat) (l0 : List (S34)) : Option ((List (S34))) := accountingref19_minus.l0 k l0 ([] : List (S34)) 0
theorem accountingref19_minus.mono_l : ∀ k, (∀ y0 y1 y2, LeO (accountingref19_minus.l0 k y0 y1 y2) (accountingref19_minus.l0 (k + 1) y0 y1 y2))
  | 0 => fun _ _ _ r h => by simp [accountingref19_minus.l0] at h
  | k + 1 => by
    have ih0 := accountingref19_minus.mono_l k
    · intro y0 y1 y2
      unfold accountingref19_minus.l0
      repeat' first
      | (with_reducible exact ih0 _ _ _)
      | (with_reducible exact LeO.refl _)
      | (with_reducible exact LeO.none _)
      | (with_reducible refine LeO.ite ?_ ?_)
      | (with_reducible refine LeO.bind ?_ (fun _ => ?_))
      | exact ih0 _ _ _
      | exact LeO.none _
      | refine LeO.ite ?_ ?_
      | refine LeO.bind ?_ (fun _ => ?_)
theorem accountingref19_minus.mono : ∀ a0 k, LeO (accountingref19_minus.f k a0) (accountingref19_minus.f (k + 1) a0) := by
  intro a0 k
  have ih0 := accountingref19_minus.mono_l k
  unfold accountingref19_minus.f
  repeat' first
      | (with_reducible exact ih0 _ _ _)
      | (with_reducible exact LeO.refl _)
      | (with_reducible exact LeO.none _)
      | (with_reducible refine LeO.ite ?_ ?_)
      | (with_reducible refine LeO.bind ?_ (fun _ => ?_))
      | exact ih0 _ _ _
      | exact LeO.none _
      | refine LeO.ite ?_ ?_
      | refine LeO.bind ?_ (fun _ => ?_)
def accountingref19_minus.T5 : Bool × List (List Nat × List Nat) := (true, [([], []), ([], []), ([], []), ([1, 2], [1, 2]), ([3], [3]), ([4], [4]), ([], []), ([], []), ([6, 7], [6, 7]), ([8], [8]), ([9], [9]), ([10], [10]), ([], []), ([], []), ([12, 13], [12, 13]), ([14], [14]), ([15], [15]), ([16], [16]), ([5, 11, 17], [5, 11, 17]), ([18], [18]), ([0, 19], [0, 19]), ([20, 20, 0, 1, 2, 3, 4, 5, 6, 7, 8, 9, 10, 11, 12, 13, 14, 15, 16, 17, 18, 19, 20], [0, 20])])
def accountingref19_minus.B5 : List Nat := [0, 0, 0, 6, 14, 30, 0, 0, 192, 448, 960, 1984, 0, 0, 12288, 28672, 61440, 126976, 262142, 524286, 1048575, 2097151]
theorem accountingref19_minus.tab5 : rtab .any (opsOf Try.f70 5) = accountingref19_minus.T5 := by kernel_rfl
theorem accountingref19_minus.bits5 : waitsOk accountingref19_minus.T5.2 accountingref19_minus.B5 = true := by kernel_rfl
set_option maxHeartbeats 8000000 in
set_option maxRecDepth 100000 in
theorem accountingref19_minus.calls (k : Nat) (A0 : Option Addr) (c0 : Nat) (l0 : List (S34)) (r : List (S34)) (w : World) (hr0 : Kd.C k34 w A0 l0.length l0) (hc0 : l0.length ≤ c0) (h : accountingref19_minus.f k l0 = some r) :
    Calls Try.prog 70 #[.slice A0 l0.length c0] w fun e w' => ∃ v0_ : Value, e = .returned (v0_) ∧ Kd.R k34 34 w' w.heap.size (fun _ => True) v0_ r ∧ Below w.heap.size w w' := by
  have hu32 := Try.underlying32
  have hu34 := Try.underlying34
  have HR0 := Aside0.mk hr0
  have HC0 := Aside0.mk hc0
  clear hr0 hc0
  have HB := Aside0.mk (Below.refl w.heap.size w)
  have H : (accountingref19_minus.l0 k l0 ([] : List (S34)) 0) = some r := h
  clear h
  have H' := Aside0.mk H
  clear H
  go_enter Try.func70, Try.ntmps70
  go_wp2
  go_loopg [3, 4] k (fun kq v3 v4 w' => ∃ (x3_1 : List (S34)) (x4_1 : Int), v4 = .int .i64 x4_1 ∧ Aside0 (accountingref19_minus.l0 kq l0 x3_1 x4_1 = some r) ∧ Aside0 (kq ≤ k) ∧ Aside0 (Kd.R k34 34 w' w.heap.size (fun _ => True) v3 x3_1) ∧ Aside0 (Below w.heap.size w w'))
  case atStart => exact ⟨(([] : List (S34))), (0), (by first | rfl | (simp; done) | (simp [*]; done)), H', ⟨Nat.le_refl _⟩, ⟨by first | exact Kd.R_nil _ _ _ _ _ | exact Kd.N_nil _ _ _ _ _ | exact Kd.V_nil _ _ _ _ _ | exact Kd.Q_nil _ _ _ _ _ | exact Kd.S_nil _ _ _ _ _⟩, ⟨by repeat (first | (with_reducible first | exact HB.out | apply below_alloc | apply pw_below_drewN | apply below_drew1) | exact HB.out)⟩⟩
  case round =>
    clear H'
    obtain ⟨x3_1, x4_1, rfl, HA, HK1, HO_3, HB⟩ := hrel
    cases gk with
    | zero => exact absurd HA.out (by simp [accountingref19_minus.l0])
    | succ k1 =>
      have H := HA.out
      clear HA
      simp only [accountingref19_minus.l0] at H
      by_cases c2 : x4_1 < (l0.length : Int)
      · rw [if_pos c2] at H
        have c2b0 : decide (x4_1 < (l0.length : Int)) = true := decide_eq_true c2
        clear c2
        by_cases c3 : 0 ≤ x4_1
        · rw [if_pos c3] at H
          have c3b0 : decide (0 ≤ x4_1) = true := decide_eq_true c3
          clear c3
          by_cases c4 : x3_1.length < 1466015503701
          · rw [if_pos c4] at H
            have LMc4 := Aside0.mk c4
            clear c4
            obtain ⟨y487, hy487⟩ : ∃ y_ : List (S34), y_ = (x3_1 ++ [(⟨(⟨(rd_T34 l0 x4_1).f0.f0, (rd_T34 l0 x4_1).f0.f1, (rd_T34 l0 x4_1).f0.f2, (rd_T34 l0 x4_1).f0.f3, (rd_T34 l0 x4_1).f0.f4⟩ : S32), wrap64 (-((rd_T34 l0 x4_1).f1)), wrap64 (-((rd_T34 l0 x4_1).f2))⟩ : S34)]) := ⟨_, rfl⟩
            replace H : (accountingref19_minus.l0 k1 l0 y487 (wrap64 (x4_1 + 1))) = some r := by first | (rw [hy487]; with_reducible exact H) | (have H2_ := (Option.bind_some _ _).symm.trans H; rw [hy487]; with_reducible exact H2_) | (have H2_ := (Option.bind_some _ _).symm.trans H; with_reducible exact H2_) | with_reducible exact H | (rw [hy487]; exact H) | exact H
            have Ny487 := Aside0.mk hy487
            clear hy487
            have H' := Aside0.mk H
            clear H
            try go_wp2
            have n0_ := Aside0.mk (Kd.R_drew HO_3.out)
            have n1_ := Aside0.mk (below_drew1 HB.out)
            clear HO_3
            clear HB
            have HO_3 := n0_
            have HB := n1_
            clear n0_ n1_
            have p484 : 0 ≤ (x4_1 : Int) := of_decide_eq_true (by first | (with_reducible assumption) | assumption)
            have q484 : x4_1 < (l0.length : Int) := of_decide_eq_true (by first | (with_reducible assumption) | assumption)
            obtain ⟨ad484, e484, hx484_0, hx484_1, hx484_2, hx484_3, hx484_4, hx484_5, hx484_6⟩ := at_T34 HR0.out x4_1 p484 q484
            have hw484_6 := hx484_6
            have hw484_5 := hx484_5
            have hw484_4 := hx484_4
            have hw484_3 := hx484_3
            have hw484_2 := hx484_2
            have hw484_1 := hx484_1
            have hw484_0 := hx484_0
            cases e484
            replace hx484_0 := (HB.out.cell (World.block_lt_of_cell? w _ hx484_0)).trans hx484_0
            replace hx484_1 := (HB.out.cell (World.block_lt_of_cell? w _ hx484_1)).trans hx484_1
            replace hx484_2 := (HB.out.cell (World.block_lt_of_cell? w _ hx484_2)).trans hx484_2
            replace hx484_3 := (HB.out.cell (World.block_lt_of_cell? w _ hx484_3)).trans hx484_3
            replace hx484_4 := (HB.out.cell (World.block_lt_of_cell? w _ hx484_4)).trans hx484_4
            replace hx484_5 := (HB.out.cell (World.block_lt_of_cell? w _ hx484_5)).trans hx484_5
            replace hx484_6 := (HB.out.cell (World.block_lt_of_cell? w _ hx484_6)).trans hx484_6
            replace p484 := eq_true p484
            replace q484 := eq_true q484
            have p485 : 0 ≤ (x4_1 : Int) := of_decide_eq_true (by first | (with_reducible assumption) | assumption)
            have q485 : x4_1 < (l0.length : Int) := of_decide_eq_true (by first | (with_reducible assumption) | assumption)
            obtain ⟨ad485, e485, hx485_0, hx485_1, hx485_2, hx485_3, hx485_4, hx485_5, hx485_6⟩ := at_T34 HR0.out x4_1 p485 q485
            have hw485_6 := hx485_6
            have hw485_5 := hx485_5
            have hw485_4 := hx485_4
            have hw485_3 := hx485_3
            have hw485_2 := hx485_2
            have hw485_1 := hx485_1
            have hw485_0 := hx485_0
            obtain rfl : ad484 = ad485 := (by injection e485)
            replace hx485_0 := (HB.out.cell (World.block_lt_of_cell? w _ hx485_0)).trans hx485_0
            replace hx485_1 := (HB.out.cell (World.block_lt_of_cell? w _ hx485_1)).trans hx485_1
            replace hx485_2 := (HB.out.cell (World.block_lt_of_cell? w _ hx485_2)).trans hx485_2
            replace hx485_3 := (HB.out.cell (World.block_lt_of_cell? w _ hx485_3)).trans hx485_3
            replace hx485_4 := (HB.out.cell (World.block_lt_of_cell? w _ hx485_4)).trans hx485_4
            replace hx485_5 := (HB.out.cell (World.block_lt_of_cell? w _ hx485_5)).trans hx485_5
            replace hx485_6 := (HB.out.cell (World.block_lt_of_cell? w _ hx485_6)).trans hx485_6
            replace p485 := eq_true p485
            replace q485 := eq_true q485
            have p486 : 0 ≤ (x4_1 : Int) := of_decide_eq_true (by first | (with_reducible assumption) | assumption)
            have q486 : x4_1 < (l0.length : Int) := of_decide_eq_true (by first | (with_reducible assumption) | assumption)
            obtain ⟨ad486, e486, hx486_0, hx486_1, hx486_2, hx486_3, hx486_4, hx486_5, hx486_6⟩ := at_T34 HR0.out x4_1 p486 q486
            have hw486_6 := hx486_6
            have hw486_5 := hx486_5
            have hw486_4 := hx486_4
            have hw486_3 := hx486_3
            have hw486_2 := hx486_2
            have hw486_1 := hx486_1
            have hw486_0 := hx486_0
            obtain rfl : ad484 = ad486 := (by injection e486)
            replace hx486_0 := (HB.out.cell (World.block_lt_of_cell? w _ hx486_0)).trans hx486_0
            replace hx486_1 := (HB.out.cell (World.block_lt_of_cell? w _ hx486_1)).trans hx486_1
            replace hx486_2 := (HB.out.cell (World.block_lt_of_cell? w _ hx486_2)).trans hx486_2
            replace hx486_3 := (HB.out.cell (World.block_lt_of_cell? w _ hx486_3)).trans hx486_3
            replace hx486_4 := (HB.out.cell (World.block_lt_of_cell? w _ hx486_4)).trans hx486_4
            replace hx486_5 := (HB.out.cell (World.block_lt_of_cell? w _ hx486_5)).trans hx486_5
            replace hx486_6 := (HB.out.cell (World.block_lt_of_cell? w _ hx486_6)).trans hx486_6
            replace p486 := eq_true p486
            replace q486 := eq_true q486
            refine start_ (n := 22) (S := fun w' => w'.cell? (ad484.add ((x4_1).toNat * 7)) = some (.string ((rd_T34 l0 x4_1).f0.f0)) ∧ w'.cell? ⟨(ad484.add ((x4_1).toNat * 7)).block, (ad484.add ((x4_1).toNat * 7)).off + 1, none⟩ = some (.string ((rd_T34 l0 x4_1).f0.f1)) ∧ w'.cell? ⟨(ad484.add ((x4_1).toNat * 7)).block, (ad484.add ((x4_1).toNat * 7)).off + 2, none⟩ = some (.string ((rd_T34 l0 x4_1).f0.f2)) ∧ w'.cell? ⟨(ad484.add ((x4_1).toNat * 7)).block, (ad484.add ((x4_1).toNat * 7)).off + 3, none⟩ = some (.string ((rd_T34 l0 x4_1).f0.f3)) ∧ w'.cell? ⟨(ad484.add ((x4_1).toNat * 7)).block, (ad484.add ((x4_1).toNat * 7)).off + 4, none⟩ = some (.string ((rd_T34 l0 x4_1).f0.f4)) ∧ w'.cell? ⟨(ad484.add ((x4_1).toNat * 7)).block, (ad484.add ((x4_1).toNat * 7)).off + 5, none⟩ = some (.int .i64 ((rd_T34 l0 x4_1).f1)) ∧ w'.cell? ⟨(ad484.add ((x4_1).toNat * 7)).block, (ad484.add ((x4_1).toNat * 7)).off + 6, none⟩ = some (.int .i64 ((rd_T34 l0 x4_1).f2)) ∧ w'.cell? (ad484.add ((x4_1).toNat * 7)) = some (.string ((rd_T34 l0 x4_1).f0.f0)) ∧ w'.cell? ⟨(ad484.add ((x4_1).toNat * 7)).block, (ad484.add ((x4_1).toNat * 7)).off + 1, none⟩ = some (.string ((rd_T34 l0 x4_1).f0.f1)) ∧ w'.cell? ⟨(ad484.add ((x4_1).toNat * 7)).block, (ad484.add ((x4_1).toNat * 7)).off + 2, none⟩ = some (.string ((rd_T34 l0 x4_1).f0.f2)) ∧ w'.cell? ⟨(ad484.add ((x4_1).toNat * 7)).block, (ad484.add ((x4_1).toNat * 7)).off + 3, none⟩ = some (.string ((rd_T34 l0 x4_1).f0.f3)) ∧ w'.cell? ⟨(ad484.add ((x4_1).toNat * 7)).block, (ad484.add ((x4_1).toNat * 7)).off + 4, none⟩ = some (.string ((rd_T34 l0 x4_1).f0.f4)) ∧ w'.cell? ⟨(ad484.add ((x4_1).toNat * 7)).block, (ad484.add ((x4_1).toNat * 7)).off + 5, none⟩ = some (.int .i64 ((rd_T34 l0 x4_1).f1)) ∧ w'.cell? ⟨(ad484.add ((x4_1).toNat * 7)).block, (ad484.add ((x4_1).toNat * 7)).off + 6, none⟩ = some (.int .i64 ((rd_T34 l0 x4_1).f2)) ∧ w'.cell? (ad484.add ((x4_1).toNat * 7)) = some (.string ((rd_T34 l0 x4_1).f0.f0)) ∧ w'.cell? ⟨(ad484.add ((x4_1).toNat * 7)).block, (ad484.add ((x4_1).toNat * 7)).off + 1, none⟩ = some (.string ((rd_T34 l0 x4_1).f0.f1)) ∧ w'.cell? ⟨(ad484.add ((x4_1).toNat * 7)).block, (ad484.add ((x4_1).toNat * 7)).off + 2, none⟩ = some (.string ((rd_T34 l0 x4_1).f0.f2)) ∧ w'.cell? ⟨(ad484.add ((x4_1).toNat * 7)).block, (ad484.add ((x4_1).toNat * 7)).off + 3, none⟩ = some (.string ((rd_T34 l0 x4_1).f0.f3)) ∧ w'.cell? ⟨(ad484.add ((x4_1).toNat * 7)).block, (ad484.add ((x4_1).toNat * 7)).off + 4, none⟩ = some (.string ((rd_T34 l0 x4_1).f0.f4)) ∧ w'.cell? ⟨(ad484.add ((x4_1).toNat * 7)).block, (ad484.add ((x4_1).toNat * 7)).off + 5, none⟩ = some (.int .i64 ((rd_T34 l0 x4_1).f1)) ∧ w'.cell? ⟨(ad484.add ((x4_1).toNat * 7)).block, (ad484.add ((x4_1).toNat * 7)).off + 6, none⟩ = some (.int .i64 ((rd_T34 l0 x4_1).f2))) (ds := []) #[false, false, false, false, false, false, false, false, false, false, false, false, false, false, false, false, false, false, false, false, false, false] (by kernel_rfl) rfl rfl ⟨((HB.out.cell (World.block_lt_of_cell? w _ hw484_0)).trans hw484_0), ((HB.out.cell (World.block_lt_of_cell? w _ hw484_1)).trans hw484_1), ((HB.out.cell (World.block_lt_of_cell? w _ hw484_2)).trans hw484_2), ((HB.out.cell (World.block_lt_of_cell? w _ hw484_3)).trans hw484_3), ((HB.out.cell (World.block_lt_of_cell? w _ hw484_4)).trans hw484_4), ((HB.out.cell (World.block_lt_of_cell? w _ hw484_5)).trans hw484_5), ((HB.out.cell (World.block_lt_of_cell? w _ hw484_6)).trans hw484_6), ((HB.out.cell (World.block_lt_of_cell? w _ hw485_0)).trans hw485_0), ((HB.out.cell (World.block_lt_of_cell? w _ hw485_1)).trans hw485_1), ((HB.out.cell (World.block_lt_of_cell? w _ hw485_2)).trans hw485_2), ((HB.out.cell (World.block_lt_of_cell? w _ hw485_3)).trans hw485_3), ((HB.out.cell (World.block_lt_of_cell? w _ hw485_4)).trans hw485_4), ((HB.out.cell (World.block_lt_of_cell? w _ hw485_5)).trans hw485_5), ((HB.out.cell (World.block_lt_of_cell? w _ hw485_6)).trans hw485_6), ((HB.out.cell (World.block_lt_of_cell? w _ hw486_0)).trans hw486_0), ((HB.out.cell (World.block_lt_of_cell? w _ hw486_1)).trans hw486_1), ((HB.out.cell (World.block_lt_of_cell? w _ hw486_2)).trans hw486_2), ((HB.out.cell (World.block_lt_of_cell? w _ hw486_3)).trans hw486_3), ((HB.out.cell (World.block_lt_of_cell? w _ hw486_4)).trans hw486_4), ((HB.out.cell (World.block_lt_of_cell? w _ hw486_5)).trans hw486_5), ((HB.out.cell (World.block_lt_of_cell? w _ hw486_6)).trans hw486_6)⟩ (fun hHeld => ?_); refine with_tabW accountingref19_minus.tab5 accountingref19_minus.bits5 (fun HT_ HW_ => ?_)
            generalize wr.drew = w5 at HO_3 HB hx484_0 hx484_1 hx484_2 hx484_3 hx484_4 hx484_5 hx484_6 hx485_0 hx485_1 hx485_2 hx485_3 hx485_4 hx485_5 hx485_6 hx486_0 hx486_1 hx486_2 hx486_3 hx486_4 hx486_5 hx486_6 hHeld ⊢
            refine pure_ (i := 0) (N := some 11) (v := ?_) (a' := ?_) #[true, false, false, false, false, false, false, false, false, false, false, false, false, false, false, false, false, false, false, false, false, false] rfl rfl (any_of HT_.out (by kernel_rfl)) (fun _ _ _ h => h) (Or.inl ⟨by rfl, ?_⟩) ?_ ?_
            rotate_left
            · intro w'
              go_simp
              with_reducible rfl
            rotate_left
            · simp only [Act.put, List.setIfInBounds_toArray, List.set_cons_zero, List.set_cons_succ, i64_w, i32_w]
              rfl
            refine pure_ (i := 1) (N := some 12) (v := ?_) (a' := ?_) #[true, true, false, false, false, false, false, false, false, false, false, false, false, false, false, false, false, false, false, false, false, false] rfl rfl (any_of HT_.out (by kernel_rfl)) (fun _ _ _ h => h) (Or.inl ⟨by rfl, ?_⟩) ?_ ?_
            rotate_left
            · intro w'
              go_simp
              with_reducible rfl
            rotate_left
            · simp only [Act.put, List.setIfInBounds_toArray, List.set_cons_zero, List.set_cons_succ, i64_w, i32_w]
              rfl
            refine pure_ (i := 2) (N := some 13) (v := ?_) (a' := ?_) #[true, true, true, false, false, false, false, false, false, false, false, false, false, false, false, false, false, false, false, false, false, false] rfl rfl (any_of HT_.out (by kernel_rfl)) (fun _ _ _ h => h) (Or.inl ⟨by rfl, ?_⟩) ?_ ?_
            rotate_left
            · intro w'
              go_simp
              with_reducible rfl
            rotate_left
            · simp only [Act.put, List.setIfInBounds_toArray, List.set_cons_zero, List.set_cons_succ, i64_w, i32_w]
              rfl
            refine pure_ (i := 3) (N := some 14) (v := ?_) (a' := ?_) #[true, true, true, true, false, false, false, false, false, false, false, false, false, false, false, false, false, false, false, false, false, false] rfl rfl (any_of HT_.out (by kernel_rfl)) (fun _ _ _ h => h) (Or.inl ⟨by rfl, ?_⟩) ?_ ?_
            rotate_left
            · intro w'
              go_simp
              with_reducible rfl
            rotate_left
            · simp only [Act.put, List.setIfInBounds_toArray, List.set_cons_zero, List.set_cons_succ, i64_w, i32_w]
              rfl
            refine pure_ (i := 4) (N := some 15) (v := ?_) (a' := ?_) #[true, true, true, true, true, false, false, false, false, false, false, false, false, false, false, false, false, false, false, false, false, false] rfl rfl (any_of HT_.out (by kernel_rfl)) (fun _ _ _ h => h) (Or.inl ⟨by rfl, ?_⟩) ?_ ?_
            rotate_left
            · intro w'
              go_simp
              with_reducible rfl
            rotate_left
            · simp only [Act.put, List.setIfInBounds_toArray, List.set_cons_zero, List.set_cons_succ, i64_w, i32_w]
              rfl
            refine pure_ (i := 6) (N := some 17) (v := ?_) (a' := ?_) #[true, true, true, true, true, false, true, false, false, false, false, false, false, false, false, false, false, false, false, false, false, false] rfl rfl (any_of HT_.out (by kernel_rfl)) (fun _ _ _ h => h) (Or.inl ⟨by rfl, ?_⟩) ?_ ?_
            rotate_left
            · intro w'
              go_simp
              with_reducible rfl
            rotate_left
            · simp only [Act.put, List.setIfInBounds_toArray, List.set_cons_zero, List.set_cons_succ, i64_w, i32_w]
              rfl
            refine pure_ (i := 7) (N := some 18) (v := ?_) (a' := ?_) #[true, true, true, true, true, false, true, true, false, false, false, false, false, false, false, false, false, false, false, false, false, false] rfl rfl (any_of HT_.out (by kernel_rfl)) (fun _ _ _ h => h) (Or.inl ⟨by rfl, ?_⟩) ?_ ?_
            rotate_left
            · intro w'
              go_simp
              with_reducible rfl
            rotate_left
            · simp only [Act.put, List.setIfInBounds_toArray, List.set_cons_zero, List.set_cons_succ, i64_w, i32_w]
              rfl
            refine pure_ (i := 8) (N := some 19) (v := ?_) (a' := ?_) #[true, true, true, true, true, false, true, true, true, false, false, false, false, false, false, false, false, false, false, false, false, false] rfl rfl (any_of HT_.out (by kernel_rfl)) (fun _ _ _ h => h) (Or.inl ⟨by rfl, ?_⟩) ?_ ?_
            rotate_left
            · intro w'
              go_simp
              with_reducible rfl
            rotate_left
            · simp only [Act.put, List.setIfInBounds_toArray, List.set_cons_zero, List.set_cons_succ, i64_w, i32_w]
              rfl
            refine pure_ (i := 9) (N := some 20) (v := ?_) (a' := ?_) #[true, true, true, true, true, false, true, true, true, true, false, false, false, false, false, false, false, false, false, false, false, false] rfl rfl (any_of HT_.out (by kernel_rfl)) (fun _ _ _ h => h) (Or.inl ⟨by rfl, ?_⟩) ?_ ?_
            rotate_left
            · intro w'
              go_simp
              with_reducible rfl
            rotate_left
            · simp only [Act.put, List.setIfInBounds_toArray, List.set_cons_zero, List.set_cons_succ, i64_w, i32_w]
              rfl
            refine pure_ (i := 12) (N := some 23) (v := ?_) (a' := ?_) #[true, true, true, true, true, false, true, true, true, true, false, false, true, false, false, false, false, false, false, false, false, false] rfl rfl (any_of HT_.out (by kernel_rfl)) (fun _ _ _ h => h) (Or.inl ⟨by rfl, ?_⟩) ?_ ?_
            rotate_left
            · intro w'
              go_simp
              with_reducible rfl
            rotate_left
            · simp only [Act.put, List.setIfInBounds_toArray, List.set_cons_zero, List.set_cons_succ, i64_w, i32_w]
              rfl
            refine pure_ (i := 13) (N := some 24) (v := ?_) (a' := ?_) #[true, true, true, true, true, false, true, true, true, true, false, false, true, true, false, false, false, false, false, false, false, false] rfl rfl (any_of HT_.out (by kernel_rfl)) (fun _ _ _ h => h) (Or.inl ⟨by rfl, ?_⟩) ?_ ?_
            rotate_left
            · intro w'
              go_simp
              with_reducible rfl
            rotate_left
            · simp only [Act.put, List.setIfInBounds_toArray, List.set_cons_zero, List.set_cons_succ, i64_w, i32_w]
              rfl
            refine pure_ (i := 14) (N := some 25) (v := ?_) (a' := ?_) #[true, true, true, true, true, false, true, true, true, true, false, false, true, true, true, false, false, false, false, false, false, false] rfl rfl (any_of HT_.out (by kernel_rfl)) (fun _ _ _ h => h) (Or.inl ⟨by rfl, ?_⟩) ?_ ?_
            rotate_left
            · intro w'
              go_simp
              with_reducible rfl
            rotate_left
            · simp only [Act.put, List.setIfInBounds_toArray, List.set_cons_zero, List.set_cons_succ, i64_w, i32_w]
              rfl
            refine pure_ (i := 15) (N := some 26) (v := ?_) (a' := ?_) #[true, true, true, true, true, false, true, true, true, true, false, false, true, true, true, true, false, false, false, false, false, false] rfl rfl (any_of HT_.out (by kernel_rfl)) (fun _ _ _ h => h) (Or.inl ⟨by rfl, ?_⟩) ?_ ?_
            rotate_left
            · intro w'
              go_simp
              with_reducible rfl
            rotate_left
            · simp only [Act.put, List.setIfInBounds_toArray, List.set_cons_zero, List.set_cons_succ, i64_w, i32_w]
              rfl
            refine take_ (i := 5) (N := some 16) (v := ?_) (a' := ?_) #[true, true, true, true, true, true, true, true, true, true, false, false, true, true, true, true, false, false, false, false, false, false] rfl rfl (take_ofW HT_.out HW_.out (by kernel_rfl)) (fun _ _ _ h => h) (Or.inl ⟨by rfl, ?_⟩) hHeld ?_ ?_
            rotate_left
            · rintro w' ⟨s0, s1, s2, s3, s4, s5, s6, s7, s8, s9, s10, s11, s12, s13, s14, s15, s16, s17, s18, s19, s20⟩
              go_simp
              with_reducible rfl
            rotate_left
            · simp only [Act.put, List.setIfInBounds_toArray, List.set_cons_zero, List.set_cons_succ, i64_w, i32_w]
              rfl
            refine take_ (i := 10) (N := some 21) (v := ?_) (a' := ?_) #[true, true, true, true, true, true, true, true, true, true, true, false, true, true, true, true, false, false, false, false, false, false] rfl rfl (take_ofW HT_.out HW_.out (by kernel_rfl)) (fun _ _ _ h => h) (Or.inl ⟨by rfl, ?_⟩) hHeld ?_ ?_
            rotate_left
            · rintro w' ⟨s0, s1, s2, s3, s4, s5, s6, s7, s8, s9, s10, s11, s12, s13, s14, s15, s16, s17, s18, s19, s20⟩
              go_simp
              with_reducible rfl
            rotate_left
            · simp only [Act.put, List.setIfInBounds_toArray, List.set_cons_zero, List.set_cons_succ, i64_w, i32_w]
              rfl
            refine pure_ (i := 11) (N := some 22) (v := ?_) (a' := ?_) #[true, true, true, true, true, true, true, true, true, true, true, true, true, true, true, true, false, false, false, false, false, false] rfl rfl (any_of HT_.out (by kernel_rfl)) (fun _ _ _ h => h) (Or.inl ⟨by rfl, ?_⟩) ?_ ?_
            rotate_left
            · intro w'
              go_simp
              with_reducible rfl
            rotate_left
            · simp only [Act.put, List.setIfInBounds_toArray, List.set_cons_zero, List.set_cons_succ, i64_w, i32_w]
              rfl
            refine take_ (i := 16) (N := some 27) (v := ?_) (a' := ?_) #[true, true, true, true, true, true, true, true, true, true, true, true, true, true, true, true, true, false, false, false, false, false] rfl rfl (take_ofW HT_.out HW_.out (by kernel_rfl)) (fun _ _ _ h => h) (Or.inl ⟨by rfl, ?_⟩) hHeld ?_ ?_
            rotate_left
            · rintro w' ⟨s0, s1, s2, s3, s4, s5, s6, s7, s8, s9, s10, s11, s12, s13, s14, s15, s16, s17, s18, s19, s20⟩
              go_simp
              with_reducible rfl
            rotate_left
            · simp only [Act.put, List.setIfInBounds_toArray, List.set_cons_zero, List.set_cons_succ, i64_w, i32_w]
              rfl
            refine pure_ (i := 17) (N := some 28) (v := ?_) (a' := ?_) #[true, true, true, true, true, true, true, true, true, true, true, true, true, true, true, true, true, true, false, false, false, false] rfl rfl (any_of HT_.out (by kernel_rfl)) (fun _ _ _ h => h) (Or.inl ⟨by rfl, ?_⟩) ?_ ?_
            rotate_left
            · intro w'
              go_simp
              with_reducible rfl
            rotate_left
            · simp only [Act.put, List.setIfInBounds_toArray, List.set_cons_zero, List.set_cons_succ, i64_w, i32_w]
              rfl
            refine pure_ (i := 18) (N := some 29) (v := ?_) (a' := ?_) #[true, true, true, true, true, true, true, true, true, true, true, true, true, true, true, true, true, true, true, false, false, false] rfl rfl (any_of HT_.out (by kernel_rfl)) (fun _ _ _ h => h) (Or.inl ⟨by rfl, ?_⟩) ?_ ?_
            rotate_left
            · intro w'
              go_simp
              with_reducible rfl
            rotate_left
            · simp only [Act.put, List.setIfInBounds_toArray, List.set_cons_zero, List.set_cons_succ, i64_w, i32_w]
              rfl
            refine one_ (i := 19) (N := some 30) #[true, true, true, true, true, true, true, true, true, true, true, true, true, true, true, true, true, true, true, true, false, false] rfl rfl (one_of HT_.out (by kernel_rfl)) (by decide) (fun K hK => ?_)
            refine value_ (w1 := ?_) (v := ?_) (by rfl) rfl ?_ ?_
            rotate_left 2
            · go_simp
              constructor
              · rfl
              · rfl
            refine hK.out _ _ ⟨(World.cell?_alloc_lt _ _ _ (World.block_lt_of_cell? _ _ (((HB.out.cell (World.block_lt_of_cell? w _ hw484_0)).trans hw484_0)))).trans (((HB.out.cell (World.block_lt_of_cell? w _ hw484_0)).trans hw484_0)), (World.cell?_alloc_lt _ _ _ (World.block_lt_of_cell? _ _ (((HB.out.cell (World.block_lt_of_cell? w _ hw484_1)).trans hw484_1)))).trans (((HB.out.cell (World.block_lt_of_cell? w _ hw484_1)).trans hw484_1)), (World.cell?_alloc_lt _ _ _ (World.block_lt_of_cell? _ _ (((HB.out.cell (World.block_lt_of_cell? w _ hw484_2)).trans hw484_2)))).trans (((HB.out.cell (World.block_lt_of_cell? w _ hw484_2)).trans hw484_2)), (World.cell?_alloc_lt _ _ _ (World.block_lt_of_cell? _ _ (((HB.out.cell (World.block_lt_of_cell? w _ hw484_3)).trans hw484_3)))).trans (((HB.out.cell (World.block_lt_of_cell? w _ hw484_3)).trans hw484_3)), (World.cell?_alloc_lt _ _ _ (World.block_lt_of_cell? _ _ (((HB.out.cell (World.block_lt_of_cell? w _ hw484_4)).trans hw484_4)))).trans (((HB.out.cell (World.block_lt_of_cell? w _ hw484_4)).trans hw484_4)), (World.cell?_alloc_lt _ _ _ (World.block_lt_of_cell? _ _ (((HB.out.cell (World.block_lt_of_cell? w _ hw484_5)).trans hw484_5)))).trans (((HB.out.cell (World.block_lt_of_cell? w _ hw484_5)).trans hw484_5)), (World.cell?_alloc_lt _ _ _ (World.block_lt_of_cell? _ _ (((HB.out.cell (World.block_lt_of_cell? w _ hw484_6)).trans hw484_6)))).trans (((HB.out.cell (World.block_lt_of_cell? w _ hw484_6)).trans hw484_6)), (World.cell?_alloc_lt _ _ _ (World.block_lt_of_cell? _ _ (((HB.out.cell (World.block_lt_of_cell? w _ hw485_0)).trans hw485_0)))).trans (((HB.out.cell (World.block_lt_of_cell? w _ hw485_0)).trans hw485_0)), (World.cell?_alloc_lt _ _ _ (World.block_lt_of_cell? _ _ (((HB.out.cell (World.block_lt_of_cell? w _ hw485_1)).trans hw485_1)))).trans (((HB.out.cell (World.block_lt_of_cell? w _ hw485_1)).trans hw485_1)), (World.cell?_alloc_lt _ _ _ (World.block_lt_of_cell? _ _ (((HB.out.cell (World.block_lt_of_cell? w _ hw485_2)).trans hw485_2)))).trans (((HB.out.cell (World.block_lt_of_cell? w _ hw485_2)).trans hw485_2)), (World.cell?_alloc_lt _ _ _ (World.block_lt_of_cell? _ _ (((HB.out.cell (World.block_lt_of_cell? w _ hw485_3)).trans hw485_3)))).trans (((HB.out.cell (World.block_lt_of_cell? w _ hw485_3)).trans hw485_3)), (World.cell?_alloc_lt _ _ _ (World.block_lt_of_cell? _ _ (((HB.out.cell (World.block_lt_of_cell? w _ hw485_4)).trans hw485_4)))).trans (((HB.out.cell (World.block_lt_of_cell? w _ hw485_4)).trans hw485_4)), (World.cell?_alloc_lt _ _ _ (World.block_lt_of_cell? _ _ (((HB.out.cell (World.block_lt_of_cell? w _ hw485_5)).trans hw485_5)))).trans (((HB.out.cell (World.block_lt_of_cell? w _ hw485_5)).trans hw485_5)), (World.cell?_alloc_lt _ _ _ (World.block_lt_of_cell? _ _ (((HB.out.cell (World.block_lt_of_cell? w _ hw485_6)).trans hw485_6)))).trans (((HB.out.cell (World.block_lt_of_cell? w _ hw485_6)).trans hw485_6)), (World.cell?_alloc_lt _ _ _ (World.block_lt_of_cell? _ _ (((HB.out.cell (World.block_lt_of_cell? w _ hw486_0)).trans hw486_0)))).trans (((HB.out.cell (World.block_lt_of_cell? w _ hw486_0)).trans hw486_0)), (World.cell?_alloc_lt _ _ _ (World.block_lt_of_cell? _ _ (((HB.out.cell (World.block_lt_of_cell? w _ hw486_1)).trans hw486_1)))).trans (((HB.out.cell (World.block_lt_of_cell? w _ hw486_1)).trans hw486_1)), (World.cell?_alloc_lt _ _ _ (World.block_lt_of_cell? _ _ (((HB.out.cell (World.block_lt_of_cell? w _ hw486_2)).trans hw486_2)))).trans (((HB.out.cell (World.block_lt_of_cell? w _ hw486_2)).trans hw486_2)), (World.cell?_alloc_lt _ _ _ (World.block_lt_of_cell? _ _ (((HB.out.cell (World.block_lt_of_cell? w _ hw486_3)).trans hw486_3)))).trans (((HB.out.cell (World.block_lt_of_cell? w _ hw486_3)).trans hw486_3)), (World.cell?_alloc_lt _ _ _ (World.block_lt_of_cell? _ _ (((HB.out.cell (World.block_lt_of_cell? w _ hw486_4)).trans hw486_4)))).trans (((HB.out.cell (World.block_lt_of_cell? w _ hw486_4)).trans hw486_4)), (World.cell?_alloc_lt _ _ _ (World.block_lt_of_cell? _ _ (((HB.out.cell (World.block_lt_of_cell? w _ hw486_5)).trans hw486_5)))).trans (((HB.out.cell (World.block_lt_of_cell? w _ hw486_5)).trans hw486_5)), (World.cell?_alloc_lt _ _ _ (World.block_lt_of_cell? _ _ (((HB.out.cell (World.block_lt_of_cell? w _ hw486_6)).trans hw486_6)))).trans (((HB.out.cell (World.block_lt_of_cell? w _ hw486_6)).trans hw486_6))⟩ (fun hHeld => ?_)
            clear hK K
            refine norm_ (a' := ?_) ?_ ?_
            rotate_left
            · show Act.put _ (some 30) _ = _
              simp only [Act.put, List.setIfInBounds_toArray, List.set_cons_zero, List.set_cons_succ, i64_w, i32_w]
              rfl
            refine one_ (i := 20) (N := some 31) #[true, true, true, true, true, true, true, true, true, true, true, true, true, true, true, true, true, true, true, true, true, false] rfl rfl (one_of HT_.out (by kernel_rfl)) (by decide) (fun K hK => ?_)
            refine Kd.R_append_step k34 (w0 := w) w.heap.size (by rfl) (.tmp 11) (.tmp 30) 22 34 (.agg #[(.string ⟨#[]⟩), (.string ⟨#[]⟩), (.string ⟨#[]⟩), (.string ⟨#[]⟩), (.string ⟨#[]⟩), (.int .i64 0), (.int .i64 0)]) 96 rfl Try.underlying22 info34 rfl (by decide) (by omega) u3 x3_1 (⟨(⟨(rd_T34 l0 x4_1).f0.f0, (rd_T34 l0 x4_1).f0.f1, (rd_T34 l0 x4_1).f0.f2, (rd_T34 l0 x4_1).f0.f3, (rd_T34 l0 x4_1).f0.f4⟩ : S32), wrap64 (-((rd_T34 l0 x4_1).f1)), wrap64 (-((rd_T34 l0 x4_1).f2))⟩ : S34) [.string ((rd_T34 l0 x4_1).f0.f0), .string ((rd_T34 l0 x4_1).f0.f1), .string ((rd_T34 l0 x4_1).f0.f2), .string ((rd_T34 l0 x4_1).f0.f3), .string ((rd_T34 l0 x4_1).f0.f4), .int .i64 (wrap64 (-((rd_T34 l0 x4_1).f1))), .int .i64 (wrap64 (-((rd_T34 l0 x4_1).f2)))] (fun _ => True) (fun _ => False) rfl rfl ?aP (fun _ hk => hk.elim) ?aF ?aO ?aB ?aS ?aL ?_
            (case aP => exact k34_mkM _ _ _ (⟨(⟨(rd_T34 l0 x4_1).f0.f0, (rd_T34 l0 x4_1).f0.f1, (rd_T34 l0 x4_1).f0.f2, (rd_T34 l0 x4_1).f0.f3, (rd_T34 l0 x4_1).f0.f4⟩ : S32), wrap64 (-((rd_T34 l0 x4_1).f1)), wrap64 (-((rd_T34 l0 x4_1).f2))⟩ : S34))
            (case aB => exact (by repeat (first | (with_reducible first | exact HB.out | apply below_alloc | apply pw_below_drewN | apply below_drew1) | exact HB.out)))
            (case aF => exact (fun _ _ => trivial))
            (case aO => exact (by (with_reducible repeat (first | apply Kd.R_alloc | apply Kd.R_drewN | apply Kd.R_drew)); exact HO_3.out))
            (case aS => exact (below_size (by repeat (first | (with_reducible first | exact HB.out | apply below_alloc | apply pw_below_drewN | apply below_drew1) | exact HB.out))))
            (case aL => have := LMc4.out; omega)
            intro v488 w6 ho hb hg hat
            rw [← Ny487.out] at ho
            have n0_ := Aside0.mk (hb)
            have n1_ := Aside0.mk (ho)
            clear HB
            clear HO_3
            have HB := n0_
            have HO489 := n1_
            clear n0_ n1_
            clear ho hb hg hat
            refine hK.out _ _ ⟨((HB.out.cell (World.block_lt_of_cell? w _ hw484_0)).trans hw484_0), ((HB.out.cell (World.block_lt_of_cell? w _ hw484_1)).trans hw484_1), ((HB.out.cell (World.block_lt_of_cell? w _ hw484_2)).trans hw484_2), ((HB.out.cell (World.block_lt_of_cell? w _ hw484_3)).trans hw484_3), ((HB.out.cell (World.block_lt_of_cell? w _ hw484_4)).trans hw484_4), ((HB.out.cell (World.block_lt_of_cell? w _ hw484_5)).trans hw484_5), ((HB.out.cell (World.block_lt_of_cell? w _ hw484_6)).trans hw484_6), ((HB.out.cell (World.block_lt_of_cell? w _ hw485_0)).trans hw485_0), ((HB.out.cell (World.block_lt_of_cell? w _ hw485_1)).trans hw485_1), ((HB.out.cell (World.block_lt_of_cell? w _ hw485_2)).trans hw485_2), ((HB.out.cell (World.block_lt_of_cell? w _ hw485_3)).trans hw485_3), ((HB.out.cell (World.block_lt_of_cell? w _ hw485_4)).trans hw485_4), ((HB.out.cell (World.block_lt_of_cell? w _ hw485_5)).trans hw485_5), ((HB.out.cell (World.block_lt_of_cell? w _ hw485_6)).trans hw485_6), ((HB.out.cell (World.block_lt_of_cell? w _ hw486_0)).trans hw486_0), ((HB.out.cell (World.block_lt_of_cell? w _ hw486_1)).trans hw486_1), ((HB.out.cell (World.block_lt_of_cell? w _ hw486_2)).trans hw486_2), ((HB.out.cell (World.block_lt_of_cell? w _ hw486_3)).trans hw486_3), ((HB.out.cell (World.block_lt_of_cell? w _ hw486_4)).trans hw486_4), ((HB.out.cell (World.block_lt_of_cell? w _ hw486_5)).trans hw486_5), ((HB.out.cell (World.block_lt_of_cell? w _ hw486_6)).trans hw486_6)⟩ (fun hHeld => ?_)
            clear hK K
            refine norm_ (a' := ?_) ?_ ?_
            rotate_left
            · show Act.put _ (some 31) _ = _
              simp only [Act.put, List.setIfInBounds_toArray, List.set_cons_zero, List.set_cons_succ, i64_w, i32_w]
              rfl
            refine pure_ (i := 21) (N := some 3) (v := ?_) (a' := ?_) #[true, true, true, true, true, true, true, true, true, true, true, true, true, true, true, true, true, true, true, true, true, true] rfl rfl (any_of HT_.out (by kernel_rfl)) (fun _ _ _ h => h) (Or.inl ⟨by rfl, ?_⟩) ?_ ?_
            rotate_left
            · intro w'
              go_simp
              with_reducible rfl
            rotate_left
            · simp only [Act.put, List.setIfInBounds_toArray, List.set_cons_zero, List.set_cons_succ, i64_w, i32_w]
              rfl
            refine done_ (done_of HT_.out (by kernel_rfl)) ?_
            try go_wp2
            go_roundg k1
            case measure => have := HK1.out; omega
            case rel => exact ⟨(y487), (wrap64 (x4_1 + 1)), (by first | rfl | (simp; done) | (simp [*]; done)), H', ⟨by have := HK1.out; omega⟩, ⟨by (with_reducible repeat (first | apply Kd.R_alloc | apply Kd.R_drewN | apply Kd.R_drew)); exact HO489.out⟩, ⟨by repeat (first | (with_reducible first | exact HB.out | apply below_alloc | apply pw_below_drewN | apply below_drew1) | exact HB.out)⟩⟩
          · rw [if_neg c4] at H
            exact absurd H (by simp)
        · rw [if_neg c3] at H
          exact absurd H (by simp)
      · rw [if_neg c2] at H
        have c2b0 : decide (x4_1 < (l0.length : Int)) = false := decide_eq_false c2
        clear c2
        obtain rfl := Option.some.inj H
        go_wp2
        go_ret
        exact ⟨_, by first | rfl | (simp [errW_none, errW_some] <;> rfl) | (simp [*, errW_none, errW_some] <;> rfl), by (with_reducible repeat (first | apply Kd.R_alloc | apply Kd.R_drewN | apply Kd.R_drew)); exact HO_3.out, by repeat (first | (with_reducible first | exact HB.out | apply below_alloc | apply pw_below_drewN | apply below_drew1) | exact HB.out)⟩

end Go.Proofs.Ytmflggbpiadkjaa.P
