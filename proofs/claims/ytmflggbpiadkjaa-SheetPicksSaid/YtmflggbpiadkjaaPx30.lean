-- PRINTED by print.py (a twelfth state) out of the translation. Not trusted: Lean checks it.
import Derived.Test.YtmflggbpiadkjaaPx0
import Derived.Test.YtmflggbpiadkjaaPxA
namespace Go.Proofs.Ytmflggbpiadkjaa.P
open Go.RowKit Go.Proofs.YtmflggbpiadkjaaW.PrintWords Go.Proofs.YtmflggbpiadkjaaW.PrintLast Go.Proofs.YtmflggbpiadkjaaW.PrintMore
attribute [local go_sem] max2_int min2_int max_two min_two max_three min_three max_four min_four   -- for this text's walks alone
set_option linter.unusedVariables false
set_option linter.unusedSimpArgs false

attribute [local go_sem high] eqA32
/-! ### accountingref19_Get: function 34 -/
def accountingref19_Get.l0 : Nat → List (S34) → Int → ByteArray → ByteArray → ByteArray → ByteArray → ByteArray → Option (Int × Int)
  | 0, _, _, _, _, _, _, _ => none
  | k + 1, x0, x6, x369000, x369001, x369002, x369003, x369004 => if x6 < (x0.length : Int) then (if 0 ≤ x6 then (if ((((rd_T34 x0 x6).f0.f0).toList) == x369000.toList && ((((rd_T34 x0 x6).f0.f1).toList) == x369001.toList && ((((rd_T34 x0 x6).f0.f2).toList) == x369002.toList && ((((rd_T34 x0 x6).f0.f3).toList) == x369003.toList && ((((rd_T34 x0 x6).f0.f4).toList) == x369004.toList))))) = true then (some ((rd_T34 x0 x6).f1, (rd_T34 x0 x6).f2)) else (accountingref19_Get.l0 k x0 (wrap64 (x6 + 1)) x369000 x369001 x369002 x369003 x369004)) else (none)) else (some (0, 0))
def accountingref19_Get.f (k : Nat) (l0 : List (S34)) (a1_0 : ByteArray) (a1_1 : ByteArray) (a1_2 : ByteArray) (a1_3 : ByteArray) (a1_4 : ByteArray) : Option (Int × Int) := accountingref19_Get.l0 k l0 0 a1_0 a1_1 a1_2 a1_3 a1_4
theorem accountingref19_Get.mono_l : ∀ k, (∀ y0 y1 y2 y3 y4 y5 y6, LeO (accountingref19_Get.l0 k y0 y1 y2 y3 y4 y5 y6) (accountingref19_Get.l0 (k + 1) y0 y1 y2 y3 y4 y5 y6))
  | 0 => fun _ _ _ _ _ _ _ r h => by simp [accountingref19_Get.l0] at h
  | k + 1 => by
    have ih0 := accountingref19_Get.mono_l k
    · intro y0 y1 y2 y3 y4 y5 y6
      unfold accountingref19_Get.l0
      repeat' first
      | (with_reducible exact ih0 _ _ _ _ _ _ _)
      | (with_reducible exact LeO.refl _)
      | (with_reducible exact LeO.none _)
      | (with_reducible refine LeO.ite ?_ ?_)
      | (with_reducible refine LeO.bind ?_ (fun _ => ?_))
      | exact ih0 _ _ _ _ _ _ _
      | exact LeO.none _
      | refine LeO.ite ?_ ?_
      | refine LeO.bind ?_ (fun _ => ?_)
theorem accountingref19_Get.mono : ∀ a0 a1 a2 a3 a4 a5 k, LeO (accountingref19_Get.f k a0 a1 a2 a3 a4 a5) (accountingref19_Get.f (k + 1) a0 a1 a2 a3 a4 a5) := by
  intro a0 a1 a2 a3 a4 a5 k
  have ih0 := accountingref19_Get.mono_l k
  unfold accountingref19_Get.f
  repeat' first
      | (with_reducible exact ih0 _ _ _ _ _ _ _)
      | (with_reducible exact LeO.refl _)
      | (with_reducible exact LeO.none _)
      | (with_reducible refine LeO.ite ?_ ?_)
      | (with_reducible refine LeO.bind ?_ (fun _ => ?_))
      | exact ih0 _ _ _ _ _ _ _
      | exact LeO.none _
      | refine LeO.ite ?_ ?_
      | refine LeO.bind ?_ (fun _ => ?_)
set_option maxHeartbeats 8000000 in
set_option maxRecDepth 100000 in
theorem accountingref19_Get.calls (k : Nat) (A0 : Option Addr) (c0 : Nat) (l0 : List (S34)) (a1_0 : ByteArray) (a1_1 : ByteArray) (a1_2 : ByteArray) (a1_3 : ByteArray) (a1_4 : ByteArray) (r1 : Int) (r2 : Int) (w : World) (hr0 : Kd.C k34 w A0 l0.length l0) (hc0 : l0.length ≤ c0) (h : accountingref19_Get.f k l0 a1_0 a1_1 a1_2 a1_3 a1_4 = some (r1, r2)) :
    Calls Try.prog 34 #[.slice A0 l0.length c0, .agg #[.string a1_0, .string a1_1, .string a1_2, .string a1_3, .string a1_4]] w fun e w' => e = .returned (.tuple #[.int .i64 r1, .int .i64 r2]) ∧ Below w.heap.size w w' := by
  have hu32 := Try.underlying32
  have HR0 := Aside0.mk hr0
  have HC0 := Aside0.mk hc0
  clear hr0 hc0
  have HB := Aside0.mk (Below.refl w.heap.size w)
  have H : (accountingref19_Get.l0 k l0 0 a1_0 a1_1 a1_2 a1_3 a1_4) = some (r1, r2) := h
  clear h
  have H' := Aside0.mk H
  clear H
  go_enter Try.func34, Try.ntmps34
  go_wp2_with (first | ((with_reducible refine gate_dst (N := 3) rfl ?_); refine box_event ?hg (N := 3) ?hd (cs := #[.string a1_0, .string a1_1, .string a1_2, .string a1_3, .string a1_4]) (t := 32) ?hr ?_; (case hd => rfl); (case hg => rfl); (case hr => first | (go_simp; done) | (go_simp; rfl)); intro gb368 hg w3 hbox hb; have n0_ := Aside0.mk (below_step (by repeat (first | (with_reducible first | exact HB.out | apply below_alloc | apply pw_below_drewN | apply below_drew1) | exact HB.out)) hb); have n1_ := Aside0.mk (hbox); have n2_ := Aside0.mk ((by rw [hg]; exact (below_size (by repeat (first | (with_reducible first | exact HB.out | apply below_alloc | apply pw_below_drewN | apply below_drew1) | exact HB.out))) : w.heap.size ≤ gb368)); have n3_ := Aside0.mk ((by rw [hg]; exact (below_size (by repeat (first | (with_reducible first | exact HB.out | apply below_alloc | apply pw_below_drewN | apply below_drew1) | exact HB.out))) : w.heap.size ≤ gb368)); clear HB; have HB := n0_; have BK368 := n1_; have GW368 := n2_; have GE368 := n3_; clear n0_ n1_ n2_ n3_; clear hb hbox hg))
  repeat (go_quiet (first | ((with_reducible refine gate_dst (N := 3) rfl ?_); refine box_event ?hg (N := 3) ?hd (cs := #[.string a1_0, .string a1_1, .string a1_2, .string a1_3, .string a1_4]) (t := 32) ?hr ?_; (case hd => rfl); (case hg => rfl); (case hr => first | (go_simp; done) | (go_simp; rfl)); intro gb368 hg w3 hbox hb; have n0_ := Aside0.mk (below_step (by repeat (first | (with_reducible first | exact HB.out | apply below_alloc | apply pw_below_drewN | apply below_drew1) | exact HB.out)) hb); have n1_ := Aside0.mk (hbox); have n2_ := Aside0.mk ((by rw [hg]; exact (below_size (by repeat (first | (with_reducible first | exact HB.out | apply below_alloc | apply pw_below_drewN | apply below_drew1) | exact HB.out))) : w.heap.size ≤ gb368)); have n3_ := Aside0.mk ((by rw [hg]; exact (below_size (by repeat (first | (with_reducible first | exact HB.out | apply below_alloc | apply pw_below_drewN | apply below_drew1) | exact HB.out))) : w.heap.size ≤ gb368)); clear HB; have HB := n0_; have BK368 := n1_; have GW368 := n2_; have GE368 := n3_; clear n0_ n1_ n2_ n3_; clear hb hbox hg)); try go_wp2_with (first | ((with_reducible refine gate_dst (N := 3) rfl ?_); refine box_event ?hg (N := 3) ?hd (cs := #[.string a1_0, .string a1_1, .string a1_2, .string a1_3, .string a1_4]) (t := 32) ?hr ?_; (case hd => rfl); (case hg => rfl); (case hr => first | (go_simp; done) | (go_simp; rfl)); intro gb368 hg w3 hbox hb; have n0_ := Aside0.mk (below_step (by repeat (first | (with_reducible first | exact HB.out | apply below_alloc | apply pw_below_drewN | apply below_drew1) | exact HB.out)) hb); have n1_ := Aside0.mk (hbox); have n2_ := Aside0.mk ((by rw [hg]; exact (below_size (by repeat (first | (with_reducible first | exact HB.out | apply below_alloc | apply pw_below_drewN | apply below_drew1) | exact HB.out))) : w.heap.size ≤ gb368)); have n3_ := Aside0.mk ((by rw [hg]; exact (below_size (by repeat (first | (with_reducible first | exact HB.out | apply below_alloc | apply pw_below_drewN | apply below_drew1) | exact HB.out))) : w.heap.size ≤ gb368)); clear HB; have HB := n0_; have BK368 := n1_; have GW368 := n2_; have GE368 := n3_; clear n0_ n1_ n2_ n3_; clear hb hbox hg)))
  go_loopg [6] k (fun kq v6 w' => ∃ (x6_1 : Int), v6 = .int .i64 x6_1 ∧ Aside0 (accountingref19_Get.l0 kq l0 x6_1 a1_0 a1_1 a1_2 a1_3 a1_4 = some (r1, r2)) ∧ Aside0 (kq ≤ k) ∧ Aside0 (w'.heap[gb368]? = some (.cells #[.string a1_0, .string a1_1, .string a1_2, .string a1_3, .string a1_4] 32 (0, 0))) ∧ Aside0 (Below w.heap.size w w'))
  case atStart => exact ⟨(0), (by first | rfl | (simp; done) | (simp [*]; done)), H', ⟨Nat.le_refl _⟩, ⟨by (with_reducible repeat (first | refine blk_drewN ?_ _ | refine blk_drew ?_ | refine blk_alloc ?_ _)); exact BK368.out⟩, ⟨by repeat (first | (with_reducible first | exact HB.out | apply below_alloc | apply pw_below_drewN | apply below_drew1 | refine below_set ?_ GE368.out) | exact HB.out)⟩⟩
  case round =>
    clear H'
    try clear p2
    try clear c3
    obtain ⟨x6_1, rfl, HA, HK1, BK368, HB⟩ := hrel
    cases gk with
    | zero => exact absurd HA.out (by simp [accountingref19_Get.l0])
    | succ k1 =>
      have H := HA.out
      clear HA
      simp only [accountingref19_Get.l0] at H
      by_cases c4 : x6_1 < (l0.length : Int)
      · rw [if_pos c4] at H
        have c4b0 : decide (x6_1 < (l0.length : Int)) = true := decide_eq_true c4
        clear c4
        by_cases c5 : 0 ≤ x6_1
        · rw [if_pos c5] at H
          have c5b0 : decide (0 ≤ x6_1) = true := decide_eq_true c5
          clear c5
          by_cases c6 : ((((rd_T34 l0 x6_1).f0.f0).toList) == a1_0.toList && ((((rd_T34 l0 x6_1).f0.f1).toList) == a1_1.toList && ((((rd_T34 l0 x6_1).f0.f2).toList) == a1_2.toList && ((((rd_T34 l0 x6_1).f0.f3).toList) == a1_3.toList && ((((rd_T34 l0 x6_1).f0.f4).toList) == a1_4.toList))))) = true
          · rw [if_pos c6] at H
            have c6b0 : ((((rd_T34 l0 x6_1).f0.f0).toList) == a1_0.toList && ((((rd_T34 l0 x6_1).f0.f1).toList) == a1_1.toList && ((((rd_T34 l0 x6_1).f0.f2).toList) == a1_2.toList && ((((rd_T34 l0 x6_1).f0.f3).toList) == a1_3.toList && ((((rd_T34 l0 x6_1).f0.f4).toList) == a1_4.toList))))) = true := c6
            (try (have c6b1 : decide ((((rd_T34 l0 x6_1).f0.f0).toList) = a1_0.toList && ((((rd_T34 l0 x6_1).f0.f1).toList) == a1_1.toList && ((((rd_T34 l0 x6_1).f0.f2).toList) == a1_2.toList && ((((rd_T34 l0 x6_1).f0.f3).toList) == a1_3.toList && ((((rd_T34 l0 x6_1).f0.f4).toList) == a1_4.toList))))) = true := by simpa using c6))
            (try (have c6b2 : ((((rd_T34 l0 x6_1).f0.f0).toList) == a1_0.toList && ((((rd_T34 l0 x6_1).f0.f1).toList) == a1_1.toList && ((((rd_T34 l0 x6_1).f0.f2).toList) == a1_2.toList && ((((rd_T34 l0 x6_1).f0.f3).toList) == a1_3.toList && ((((rd_T34 l0 x6_1).f0.f4).toList) == a1_4.toList))))) = true := by simpa using c6))
            clear c6
            simp only [Option.some.injEq, Prod.mk.injEq] at H
            obtain ⟨rfl, rfl⟩ := H
            have p369 : 0 ≤ (x6_1 : Int) := of_decide_eq_true (by first | (with_reducible assumption) | assumption)
            have q369 : x6_1 < (l0.length : Int) := of_decide_eq_true (by first | (with_reducible assumption) | assumption)
            obtain ⟨ad369, e369, hx369_0, hx369_1, hx369_2, hx369_3, hx369_4, hx369_5, hx369_6⟩ := at_T34 HR0.out x6_1 p369 q369
            cases e369
            replace hx369_0 := (HB.out.cell (World.block_lt_of_cell? w _ hx369_0)).trans hx369_0
            replace hx369_1 := (HB.out.cell (World.block_lt_of_cell? w _ hx369_1)).trans hx369_1
            replace hx369_2 := (HB.out.cell (World.block_lt_of_cell? w _ hx369_2)).trans hx369_2
            replace hx369_3 := (HB.out.cell (World.block_lt_of_cell? w _ hx369_3)).trans hx369_3
            replace hx369_4 := (HB.out.cell (World.block_lt_of_cell? w _ hx369_4)).trans hx369_4
            replace hx369_5 := (HB.out.cell (World.block_lt_of_cell? w _ hx369_5)).trans hx369_5
            replace hx369_6 := (HB.out.cell (World.block_lt_of_cell? w _ hx369_6)).trans hx369_6
            replace p369 := eq_true p369
            replace q369 := eq_true q369
            have hcz7_0 : wr.cell? ⟨gb368, 0, none⟩ = some (.string a1_0) := (blk_cell BK368.out 0).trans rfl
            have hcz7_1 : wr.cell? ⟨gb368, 1, none⟩ = some (.string a1_1) := (blk_cell BK368.out 1).trans rfl
            have hcz7_2 : wr.cell? ⟨gb368, 2, none⟩ = some (.string a1_2) := (blk_cell BK368.out 2).trans rfl
            have hcz7_3 : wr.cell? ⟨gb368, 3, none⟩ = some (.string a1_3) := (blk_cell BK368.out 3).trans rfl
            have hcz7_4 : wr.cell? ⟨gb368, 4, none⟩ = some (.string a1_4) := (blk_cell BK368.out 4).trans rfl
            have hfz7_0 := blk_frozen BK368.out 0
            have hfz7_1 := blk_frozen BK368.out 1
            have hfz7_2 := blk_frozen BK368.out 2
            have hfz7_3 := blk_frozen BK368.out 3
            have hfz7_4 := blk_frozen BK368.out 4
            have p370 : 0 ≤ (x6_1 : Int) := of_decide_eq_true (by first | (with_reducible assumption) | assumption)
            have q370 : x6_1 < (l0.length : Int) := of_decide_eq_true (by first | (with_reducible assumption) | assumption)
            obtain ⟨ad370, e370, hx370_0, hx370_1, hx370_2, hx370_3, hx370_4, hx370_5, hx370_6⟩ := at_T34 HR0.out x6_1 p370 q370
            obtain rfl : ad369 = ad370 := (by injection e370)
            replace hx370_0 := (HB.out.cell (World.block_lt_of_cell? w _ hx370_0)).trans hx370_0
            replace hx370_1 := (HB.out.cell (World.block_lt_of_cell? w _ hx370_1)).trans hx370_1
            replace hx370_2 := (HB.out.cell (World.block_lt_of_cell? w _ hx370_2)).trans hx370_2
            replace hx370_3 := (HB.out.cell (World.block_lt_of_cell? w _ hx370_3)).trans hx370_3
            replace hx370_4 := (HB.out.cell (World.block_lt_of_cell? w _ hx370_4)).trans hx370_4
            replace hx370_5 := (HB.out.cell (World.block_lt_of_cell? w _ hx370_5)).trans hx370_5
            replace hx370_6 := (HB.out.cell (World.block_lt_of_cell? w _ hx370_6)).trans hx370_6
            replace p370 := eq_true p370
            replace q370 := eq_true q370
            have p371 : 0 ≤ (x6_1 : Int) := of_decide_eq_true (by first | (with_reducible assumption) | assumption)
            have q371 : x6_1 < (l0.length : Int) := of_decide_eq_true (by first | (with_reducible assumption) | assumption)
            obtain ⟨ad371, e371, hx371_0, hx371_1, hx371_2, hx371_3, hx371_4, hx371_5, hx371_6⟩ := at_T34 HR0.out x6_1 p371 q371
            obtain rfl : ad369 = ad371 := (by injection e371)
            replace hx371_0 := (HB.out.cell (World.block_lt_of_cell? w _ hx371_0)).trans hx371_0
            replace hx371_1 := (HB.out.cell (World.block_lt_of_cell? w _ hx371_1)).trans hx371_1
            replace hx371_2 := (HB.out.cell (World.block_lt_of_cell? w _ hx371_2)).trans hx371_2
            replace hx371_3 := (HB.out.cell (World.block_lt_of_cell? w _ hx371_3)).trans hx371_3
            replace hx371_4 := (HB.out.cell (World.block_lt_of_cell? w _ hx371_4)).trans hx371_4
            replace hx371_5 := (HB.out.cell (World.block_lt_of_cell? w _ hx371_5)).trans hx371_5
            replace hx371_6 := (HB.out.cell (World.block_lt_of_cell? w _ hx371_6)).trans hx371_6
            replace p371 := eq_true p371
            replace q371 := eq_true q371
            go_wp2
            repeat (go_quiet (fail); try go_wp2)
            go_ret2
            exact ⟨by first | rfl | (simp [errW_none, errW_some] <;> rfl) | (simp [*, errW_none, errW_some] <;> rfl), by repeat (first | (with_reducible first | exact HB.out | apply below_alloc | apply pw_below_drewN | apply below_drew1 | refine below_set ?_ GE368.out) | exact HB.out)⟩
          · rw [if_neg c6] at H
            have c6b0 : ((((rd_T34 l0 x6_1).f0.f0).toList) == a1_0.toList && ((((rd_T34 l0 x6_1).f0.f1).toList) == a1_1.toList && ((((rd_T34 l0 x6_1).f0.f2).toList) == a1_2.toList && ((((rd_T34 l0 x6_1).f0.f3).toList) == a1_3.toList && ((((rd_T34 l0 x6_1).f0.f4).toList) == a1_4.toList))))) = false := by simpa using c6
            (try (have c6b1 : decide ((((rd_T34 l0 x6_1).f0.f0).toList) = a1_0.toList && ((((rd_T34 l0 x6_1).f0.f1).toList) == a1_1.toList && ((((rd_T34 l0 x6_1).f0.f2).toList) == a1_2.toList && ((((rd_T34 l0 x6_1).f0.f3).toList) == a1_3.toList && ((((rd_T34 l0 x6_1).f0.f4).toList) == a1_4.toList))))) = false := by simpa using c6))
            (try (have c6b2 : ((((rd_T34 l0 x6_1).f0.f0).toList) == a1_0.toList && ((((rd_T34 l0 x6_1).f0.f1).toList) == a1_1.toList && ((((rd_T34 l0 x6_1).f0.f2).toList) == a1_2.toList && ((((rd_T34 l0 x6_1).f0.f3).toList) == a1_3.toList && ((((rd_T34 l0 x6_1).f0.f4).toList) == a1_4.toList))))) = false := by simpa using c6))
            (try (have c6b3 : ¬ ((((rd_T34 l0 x6_1).f0.f0).toList) = a1_0.toList && ((((rd_T34 l0 x6_1).f0.f1).toList) == a1_1.toList && ((((rd_T34 l0 x6_1).f0.f2).toList) == a1_2.toList && ((((rd_T34 l0 x6_1).f0.f3).toList) == a1_3.toList && ((((rd_T34 l0 x6_1).f0.f4).toList) == a1_4.toList))))) := by simpa using c6))
            clear c6
            have H' := Aside0.mk H
            clear H
            have p369 : 0 ≤ (x6_1 : Int) := of_decide_eq_true (by first | (with_reducible assumption) | assumption)
            have q369 : x6_1 < (l0.length : Int) := of_decide_eq_true (by first | (with_reducible assumption) | assumption)
            obtain ⟨ad369, e369, hx369_0, hx369_1, hx369_2, hx369_3, hx369_4, hx369_5, hx369_6⟩ := at_T34 HR0.out x6_1 p369 q369
            cases e369
            replace hx369_0 := (HB.out.cell (World.block_lt_of_cell? w _ hx369_0)).trans hx369_0
            replace hx369_1 := (HB.out.cell (World.block_lt_of_cell? w _ hx369_1)).trans hx369_1
            replace hx369_2 := (HB.out.cell (World.block_lt_of_cell? w _ hx369_2)).trans hx369_2
            replace hx369_3 := (HB.out.cell (World.block_lt_of_cell? w _ hx369_3)).trans hx369_3
            replace hx369_4 := (HB.out.cell (World.block_lt_of_cell? w _ hx369_4)).trans hx369_4
            replace hx369_5 := (HB.out.cell (World.block_lt_of_cell? w _ hx369_5)).trans hx369_5
            replace hx369_6 := (HB.out.cell (World.block_lt_of_cell? w _ hx369_6)).trans hx369_6
            replace p369 := eq_true p369
            replace q369 := eq_true q369
            have hcz8_0 : wr.cell? ⟨gb368, 0, none⟩ = some (.string a1_0) := (blk_cell BK368.out 0).trans rfl
            have hcz8_1 : wr.cell? ⟨gb368, 1, none⟩ = some (.string a1_1) := (blk_cell BK368.out 1).trans rfl
            have hcz8_2 : wr.cell? ⟨gb368, 2, none⟩ = some (.string a1_2) := (blk_cell BK368.out 2).trans rfl
            have hcz8_3 : wr.cell? ⟨gb368, 3, none⟩ = some (.string a1_3) := (blk_cell BK368.out 3).trans rfl
            have hcz8_4 : wr.cell? ⟨gb368, 4, none⟩ = some (.string a1_4) := (blk_cell BK368.out 4).trans rfl
            have hfz8_0 := blk_frozen BK368.out 0
            have hfz8_1 := blk_frozen BK368.out 1
            have hfz8_2 := blk_frozen BK368.out 2
            have hfz8_3 := blk_frozen BK368.out 3
            have hfz8_4 := blk_frozen BK368.out 4
            go_wp2
            repeat (go_quiet (fail); try go_wp2)
            go_roundg k1
            case measure => have := HK1.out; omega
            case rel => exact ⟨(wrap64 (x6_1 + 1)), (by first | rfl | (simp; done) | (simp [*]; done)), H', ⟨by have := HK1.out; omega⟩, ⟨by (with_reducible repeat (first | refine blk_drewN ?_ _ | refine blk_drew ?_ | refine blk_alloc ?_ _)); exact BK368.out⟩, ⟨by repeat (first | (with_reducible first | exact HB.out | apply below_alloc | apply pw_below_drewN | apply below_drew1 | refine below_set ?_ GE368.out) | exact HB.out)⟩⟩
        · rw [if_neg c5] at H
          exact absurd H (by simp)
      · rw [if_neg c4] at H
        have c4b0 : decide (x6_1 < (l0.length : Int)) = false := decide_eq_false c4
        clear c4
        simp only [Option.some.injEq, Prod.mk.injEq] at H
        obtain ⟨rfl, rfl⟩ := H
        go_wp2
        repeat (go_quiet (fail); try go_wp2)
        go_ret2
        exact ⟨by first | rfl | (simp [errW_none, errW_some] <;> rfl) | (simp [*, errW_none, errW_some] <;> rfl), by repeat (first | (with_reducible first | exact HB.out | apply below_alloc | apply pw_below_drewN | apply below_drew1 | refine below_set ?_ GE368.out) | exact HB.out)⟩

end Go.Proofs.Ytmflggbpiadkjaa.P
