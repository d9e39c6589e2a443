-- PRINTED by print.py (a twelfth state) out of the translation. Not trusted: Lean checks it.
import Derived.Test.YtmflggbpiadkjaaPx0
import Derived.Test.YtmflggbpiadkjaaPx46
namespace Go.Proofs.Ytmflggbpiadkjaa.P
open Go.RowKit Go.Proofs.YtmflggbpiadkjaaW.PrintWords Go.Proofs.YtmflggbpiadkjaaW.PrintLast Go.Proofs.YtmflggbpiadkjaaW.PrintMore
attribute [local go_sem] max2_int min2_int max_two min_two max_three min_three max_four min_four   -- for this text's walks alone
set_option linter.unusedVariables false
set_option linter.unusedSimpArgs false

/-! ### accountingref44_Inside: function 45 -/
def accountingref44_Inside.l0 : Nat → List (S34) → List ByteArray → List (S34) → List (S34) → Int → Option ((List (S34)) × (List (S34)))
  | 0, _, _, _, _, _ => none
  | k + 1, x0, x1, x6, x7, x8 => if x8 < (x0.length : Int) then (if 0 ≤ x8 then ((accountingref44_Is.f k ((rd_T34 x0 x8).f0.f0) ((rd_T34 x0 x8).f0.f1) ((rd_T34 x0 x8).f0.f2) ((rd_T34 x0 x8).f0.f3) ((rd_T34 x0 x8).f0.f4) ((rd_T34 x0 x8).f1) ((rd_T34 x0 x8).f2) x1).bind fun t551 => (if t551 = true then (if x6.length < 1466015503701 then (accountingref44_Inside.l0 k x0 x1 (x6 ++ [(⟨(⟨(rd_T34 x0 x8).f0.f0, (rd_T34 x0 x8).f0.f1, (rd_T34 x0 x8).f0.f2, (rd_T34 x0 x8).f0.f3, (rd_T34 x0 x8).f0.f4⟩ : S32), (rd_T34 x0 x8).f1, (rd_T34 x0 x8).f2⟩ : S34)]) x7 (wrap64 (x8 + 1))) else (none)) else (if x7.length < 1466015503701 then (accountingref44_Inside.l0 k x0 x1 x6 (x7 ++ [(⟨(⟨(rd_T34 x0 x8).f0.f0, (rd_T34 x0 x8).f0.f1, (rd_T34 x0 x8).f0.f2, (rd_T34 x0 x8).f0.f3, (rd_T34 x0 x8).f0.f4⟩ : S32), (rd_T34 x0 x8).f1, (rd_T34 x0 x8).f2⟩ : S34)]) (wrap64 (x8 + 1))) else (none)))) else (none)) else (some (x6, x7))
def accountingref44_Inside.f (k : Nat) (l0 : List (S34)) (l1 : List ByteArray) : Option ((List (S34)) × (List (S34))) := accountingref44_Inside.l0 k l0 l1 ([] : List (S34)) ([] : List (S34)) 0
theorem accountingref44_Inside.mono_l : ∀ k, (∀ y0 y1 y2 y3 y4, LeO (accountingref44_Inside.l0 k y0 y1 y2 y3 y4) (accountingref44_Inside.l0 (k + 1) y0 y1 y2 y3 y4))
  | 0 => fun _ _ _ _ _ r h => by simp [accountingref44_Inside.l0] at h
  | k + 1 => by
    have ih0 := accountingref44_Inside.mono_l k
    · intro y0 y1 y2 y3 y4
      unfold accountingref44_Inside.l0
      repeat' first
      | (with_reducible exact ih0 _ _ _ _ _)
      | (with_reducible exact accountingref44_Is.mono _ _ _ _ _ _ _ _ _)
      | (with_reducible exact LeO.refl _)
      | (with_reducible exact LeO.none _)
      | (with_reducible refine LeO.ite ?_ ?_)
      | (with_reducible refine LeO.bind ?_ (fun _ => ?_))
      | exact ih0 _ _ _ _ _
      | exact accountingref44_Is.mono _ _ _ _ _ _ _ _ _
      | exact LeO.none _
      | refine LeO.ite ?_ ?_
      | refine LeO.bind ?_ (fun _ => ?_)
theorem accountingref44_Inside.mono : ∀ a0 a1 k, LeO (accountingref44_Inside.f k a0 a1) (accountingref44_Inside.f (k + 1) a0 a1) := by
  intro a0 a1 k
  have ih0 := accountingref44_Inside.mono_l k
  unfold accountingref44_Inside.f
  repeat' first
      | (with_reducible exact ih0 _ _ _ _ _)
      | (with_reducible exact accountingref44_Is.mono _ _ _ _ _ _ _ _ _)
      | (with_reducible exact LeO.refl _)
      | (with_reducible exact LeO.none _)
      | (with_reducible refine LeO.ite ?_ ?_)
      | (with_reducible refine LeO.bind ?_ (fun _ => ?_))
      | exact ih0 _ _ _ _ _
      | exact accountingref44_Is.mono _ _ _ _ _ _ _ _ _
      | exact LeO.none _
      | refine LeO.ite ?_ ?_
      | refine LeO.bind ?_ (fun _ => ?_)
set_option maxHeartbeats 8000000 in
set_option maxRecDepth 100000 in
theorem accountingref44_Inside.calls (k : Nat) (A0 : Option Addr) (c0 : Nat) (l0 : List (S34)) (A1 : Option Addr) (c1 : Nat) (l1 : List ByteArray) (r1 : List (S34)) (r2 : List (S34)) (w : World) (hr0 : Kd.C k34 w A0 l0.length l0) (hc0 : l0.length ≤ c0) (hr1 : Kd.C Kd.string w A1 l1.length l1) (hc1 : l1.length ≤ c1) (h : accountingref44_Inside.f k l0 l1 = some (r1, r2)) :
    Calls Try.prog 45 #[.slice A0 l0.length c0, .slice A1 l1.length c1] w fun e w' => ∃ v0_ v1_ : Value, e = .returned (.tuple #[v0_, v1_]) ∧ Kd.R k34 34 w' w.heap.size (fun k_ => some k_ ≠ (v1_ : Value).ownBlock) v0_ r1 ∧ Kd.R k34 34 w' w.heap.size (fun k_ => some k_ ≠ (v0_ : Value).ownBlock) v1_ r2 ∧ Below w.heap.size w w' := by
  have hu34 := Try.underlying34
  have HR0 := Aside0.mk hr0
  have HC0 := Aside0.mk hc0
  clear hr0 hc0
  have HR1 := Aside0.mk hr1
  have HC1 := Aside0.mk hc1
  clear hr1 hc1
  have HB := Aside0.mk (Below.refl w.heap.size w)
  have H : (accountingref44_Inside.l0 k l0 l1 ([] : List (S34)) ([] : List (S34)) 0) = some (r1, r2) := h
  clear h
  have H' := Aside0.mk H
  clear H
  go_enter Try.func45, Try.ntmps45
  go_wp2
  go_loopg [6, 7, 8] k (fun kq v6 v7 v8 w' => ∃ (x6_1 : List (S34)) (x7_1 : List (S34)) (x8_1 : Int), v8 = .int .i64 x8_1 ∧ Aside0 (accountingref44_Inside.l0 kq l0 l1 x6_1 x7_1 x8_1 = some (r1, r2)) ∧ Aside0 (kq ≤ k) ∧ Aside0 (Kd.R k34 34 w' w.heap.size (fun k_ => some k_ ≠ (v7 : Value).ownBlock) v6 x6_1) ∧ Aside0 (Kd.R k34 34 w' w.heap.size (fun k_ => some k_ ≠ (v6 : Value).ownBlock) v7 x7_1) ∧ Aside0 (Below w.heap.size w w'))
  case atStart => exact ⟨(([] : List (S34))), (([] : List (S34))), (0), (by first | rfl | (simp; done) | (simp [*]; done)), H', ⟨Nat.le_refl _⟩, ⟨by first | exact Kd.R_nil _ _ _ _ _ | exact Kd.N_nil _ _ _ _ _ | exact Kd.V_nil _ _ _ _ _ | exact Kd.Q_nil _ _ _ _ _ | exact Kd.S_nil _ _ _ _ _⟩, ⟨by first | exact Kd.R_nil _ _ _ _ _ | exact Kd.N_nil _ _ _ _ _ | exact Kd.V_nil _ _ _ _ _ | exact Kd.Q_nil _ _ _ _ _ | exact Kd.S_nil _ _ _ _ _⟩, ⟨by repeat (first | (with_reducible first | exact HB.out | apply below_alloc | apply pw_below_drewN | apply below_drew1) | exact HB.out)⟩⟩
  case round =>
    clear H'
    try clear c1
    try clear p2
    obtain ⟨x6_1, x7_1, x8_1, rfl, HA, HK1, HO_6, HO_7, HB⟩ := hrel
    cases gk with
    | zero => exact absurd HA.out (by simp [accountingref44_Inside.l0])
    | succ k1 =>
      have H := HA.out
      clear HA
      simp only [accountingref44_Inside.l0] at H
      by_cases c3 : x8_1 < (l0.length : Int)
      · rw [if_pos c3] at H
        have c3b0 : decide (x8_1 < (l0.length : Int)) = true := decide_eq_true c3
        clear c3
        by_cases c4 : 0 ≤ x8_1
        · rw [if_pos c4] at H
          have c4b0 : decide (0 ≤ x8_1) = true := decide_eq_true c4
          clear c4
          replace H := Option.bind_eq_some_iff.mp H
          obtain ⟨t551, A50, H⟩ := H
          replace H : (if t551 = true then (if x6_1.length < 1466015503701 then (accountingref44_Inside.l0 k1 l0 l1 (x6_1 ++ [(⟨(⟨(rd_T34 l0 x8_1).f0.f0, (rd_T34 l0 x8_1).f0.f1, (rd_T34 l0 x8_1).f0.f2, (rd_T34 l0 x8_1).f0.f3, (rd_T34 l0 x8_1).f0.f4⟩ : S32), (rd_T34 l0 x8_1).f1, (rd_T34 l0 x8_1).f2⟩ : S34)]) x7_1 (wrap64 (x8_1 + 1))) else (none)) else (if x7_1.length < 1466015503701 then (accountingref44_Inside.l0 k1 l0 l1 x6_1 (x7_1 ++ [(⟨(⟨(rd_T34 l0 x8_1).f0.f0, (rd_T34 l0 x8_1).f0.f1, (rd_T34 l0 x8_1).f0.f2, (rd_T34 l0 x8_1).f0.f3, (rd_T34 l0 x8_1).f0.f4⟩ : S32), (rd_T34 l0 x8_1).f1, (rd_T34 l0 x8_1).f2⟩ : S34)]) (wrap64 (x8_1 + 1))) else (none))) = some (r1, r2) := H
          have A5 := Aside0.mk A50
          clear A50
          by_cases c6 : t551 = true
          · subst c6
            have H1 : (if x6_1.length < 1466015503701 then (accountingref44_Inside.l0 k1 l0 l1 (x6_1 ++ [(⟨(⟨(rd_T34 l0 x8_1).f0.f0, (rd_T34 l0 x8_1).f0.f1, (rd_T34 l0 x8_1).f0.f2, (rd_T34 l0 x8_1).f0.f3, (rd_T34 l0 x8_1).f0.f4⟩ : S32), (rd_T34 l0 x8_1).f1, (rd_T34 l0 x8_1).f2⟩ : S34)]) x7_1 (wrap64 (x8_1 + 1))) else (none)) = some (r1, r2) := by rw [if_pos rfl] at H; exact H
            clear H
            have H := H1
            clear H1
            by_cases c7 : x6_1.length < 1466015503701
            · rw [if_pos c7] at H
              have LMc7 := Aside0.mk c7
              clear c7
              obtain ⟨y553, hy553⟩ : ∃ y_ : List (S34), y_ = (x6_1 ++ [(⟨(⟨(rd_T34 l0 x8_1).f0.f0, (rd_T34 l0 x8_1).f0.f1, (rd_T34 l0 x8_1).f0.f2, (rd_T34 l0 x8_1).f0.f3, (rd_T34 l0 x8_1).f0.f4⟩ : S32), (rd_T34 l0 x8_1).f1, (rd_T34 l0 x8_1).f2⟩ : S34)]) := ⟨_, rfl⟩
              replace H : (accountingref44_Inside.l0 k1 l0 l1 y553 x7_1 (wrap64 (x8_1 + 1))) = some (r1, r2) := by first | (rw [hy553]; with_reducible exact H) | (have H2_ := (Option.bind_some _ _).symm.trans H; rw [hy553]; with_reducible exact H2_) | (have H2_ := (Option.bind_some _ _).symm.trans H; with_reducible exact H2_) | with_reducible exact H | (rw [hy553]; exact H) | exact H
              have Ny553 := Aside0.mk hy553
              clear hy553
              have H' := Aside0.mk H
              clear H
              have p550 : 0 ≤ (x8_1 : Int) := of_decide_eq_true (by first | (with_reducible assumption) | assumption)
              have q550 : x8_1 < (l0.length : Int) := of_decide_eq_true (by first | (with_reducible assumption) | assumption)
              obtain ⟨ad550, e550, hx550_0, hx550_1, hx550_2, hx550_3, hx550_4, hx550_5, hx550_6⟩ := at_T34 HR0.out x8_1 p550 q550
              cases e550
              replace hx550_0 := (HB.out.cell (World.block_lt_of_cell? w _ hx550_0)).trans hx550_0
              replace hx550_1 := (HB.out.cell (World.block_lt_of_cell? w _ hx550_1)).trans hx550_1
              replace hx550_2 := (HB.out.cell (World.block_lt_of_cell? w _ hx550_2)).trans hx550_2
              replace hx550_3 := (HB.out.cell (World.block_lt_of_cell? w _ hx550_3)).trans hx550_3
              replace hx550_4 := (HB.out.cell (World.block_lt_of_cell? w _ hx550_4)).trans hx550_4
              replace hx550_5 := (HB.out.cell (World.block_lt_of_cell? w _ hx550_5)).trans hx550_5
              replace hx550_6 := (HB.out.cell (World.block_lt_of_cell? w _ hx550_6)).trans hx550_6
              replace p550 := eq_true p550
              replace q550 := eq_true q550
              go_wp2_with (first | ((with_reducible refine gate_callee (f := 73) rfl ?_); refine goesL_ (some 20) rfl rfl Try.func73 (by kernel_rfl) rfl #[.agg #[.string ((rd_T34 l0 x8_1).f0.f0), .string ((rd_T34 l0 x8_1).f0.f1), .string ((rd_T34 l0 x8_1).f0.f2), .string ((rd_T34 l0 x8_1).f0.f3), .string ((rd_T34 l0 x8_1).f0.f4), .int .i64 ((rd_T34 l0 x8_1).f1), .int .i64 ((rd_T34 l0 x8_1).f2)], .slice A1 l1.length c1] rfl (by (try simp only [List.map_toArray, List.map_cons, List.map_nil]); first | done | rfl | (simp only [List.length_drop, List.length_take]; rfl)) ?_; (with_reducible refine (accountingref44_Is.calls k1 ((rd_T34 l0 x8_1).f0.f0) ((rd_T34 l0 x8_1).f0.f1) ((rd_T34 l0 x8_1).f0.f2) ((rd_T34 l0 x8_1).f0.f3) ((rd_T34 l0 x8_1).f0.f4) ((rd_T34 l0 x8_1).f1) ((rd_T34 l0 x8_1).f2) _ _ l1 true _ ?side1 ?side2 A5.out).mono ?_); (case side1 => repeat (first | exact (Kd.C_below HR1.out HB.out) | exact (Kd.C_drewN (Kd.C_below HR1.out HB.out) _) | (with_reducible refine Kd.C_alloc ?_ _) | (with_reducible refine Kd.C_drewN ?_ _) | (with_reducible refine Kd.C_drew ?_))); (case side2 => exact HC1.out); rintro e w8 ⟨rfl, hb⟩; refine ⟨_, rfl, ?_⟩; have n0_ := Aside0.mk (Kd.R_below (by (with_reducible repeat (first | apply Kd.R_alloc | apply Kd.R_drewN | apply Kd.R_drew)); exact HO_6.out) hb); have n1_ := Aside0.mk (Kd.R_below (by (with_reducible repeat (first | apply Kd.R_alloc | apply Kd.R_drewN | apply Kd.R_drew)); exact HO_7.out) hb); have n2_ := Aside0.mk (below_step (by repeat (first | (with_reducible first | exact HB.out | apply below_alloc | apply pw_below_drewN | apply below_drew1) | exact HB.out)) hb); clear HO_6; clear HO_7; clear HB; have HO_6 := n0_; have HO_7 := n1_; have HB := n2_; clear n0_ n1_ n2_; (try clear hb); (try clear hb2); (try clear hk); (try clear hi); have p552 : 0 ≤ (x8_1 : Int) := of_decide_eq_true (by first | (with_reducible assumption) | assumption); have q552 : x8_1 < (l0.length : Int) := of_decide_eq_true (by first | (with_reducible assumption) | assumption); obtain ⟨ad552, e552, hx552_0, hx552_1, hx552_2, hx552_3, hx552_4, hx552_5, hx552_6⟩ := at_T34 HR0.out x8_1 p552 q552; obtain rfl : ad550 = ad552 := (by injection e552); replace hx552_0 := (HB.out.cell (World.block_lt_of_cell? w _ hx552_0)).trans hx552_0; replace hx552_1 := (HB.out.cell (World.block_lt_of_cell? w _ hx552_1)).trans hx552_1; replace hx552_2 := (HB.out.cell (World.block_lt_of_cell? w _ hx552_2)).trans hx552_2; replace hx552_3 := (HB.out.cell (World.block_lt_of_cell? w _ hx552_3)).trans hx552_3; replace hx552_4 := (HB.out.cell (World.block_lt_of_cell? w _ hx552_4)).trans hx552_4; replace hx552_5 := (HB.out.cell (World.block_lt_of_cell? w _ hx552_5)).trans hx552_5; replace hx552_6 := (HB.out.cell (World.block_lt_of_cell? w _ hx552_6)).trans hx552_6; replace p552 := eq_true p552; replace q552 := eq_true q552) | ((with_reducible refine gate_builtin (b := .append) (xs := #[.tmp 21, .tmp 26]) rfl ?_); at_builtin; refine Kd.R_append k34 (w0 := w) w.heap.size rfl (.tmp 21) (.tmp 26) 22 34 (.agg #[(.string ⟨#[]⟩), (.string ⟨#[]⟩), (.string ⟨#[]⟩), (.string ⟨#[]⟩), (.string ⟨#[]⟩), (.int .i64 0), (.int .i64 0)]) 96 rfl Try.underlying22 info34 rfl (by decide) (by omega) u6 x6_1 (⟨(⟨(rd_T34 l0 x8_1).f0.f0, (rd_T34 l0 x8_1).f0.f1, (rd_T34 l0 x8_1).f0.f2, (rd_T34 l0 x8_1).f0.f3, (rd_T34 l0 x8_1).f0.f4⟩ : S32), (rd_T34 l0 x8_1).f1, (rd_T34 l0 x8_1).f2⟩ : S34) [.string ((rd_T34 l0 x8_1).f0.f0), .string ((rd_T34 l0 x8_1).f0.f1), .string ((rd_T34 l0 x8_1).f0.f2), .string ((rd_T34 l0 x8_1).f0.f3), .string ((rd_T34 l0 x8_1).f0.f4), .int .i64 ((rd_T34 l0 x8_1).f1), .int .i64 ((rd_T34 l0 x8_1).f2)] (fun k_ => some k_ ≠ (u7 : Value).ownBlock) (fun _ => False) rfl rfl ?aP (fun _ hk => hk.elim) ?aF ?aO ?aB ?aS ?aL ?_; (case aP => exact k34_mkM _ _ _ (⟨(⟨(rd_T34 l0 x8_1).f0.f0, (rd_T34 l0 x8_1).f0.f1, (rd_T34 l0 x8_1).f0.f2, (rd_T34 l0 x8_1).f0.f3, (rd_T34 l0 x8_1).f0.f4⟩ : S32), (rd_T34 l0 x8_1).f1, (rd_T34 l0 x8_1).f2⟩ : S34)); (case aB => exact (by repeat (first | (with_reducible first | exact HB.out | apply below_alloc | apply pw_below_drewN | apply below_drew1) | exact HB.out))); (case aF => exact (fun k_ hk => Kd.fresh' (Kd.R_lt (by (with_reducible repeat (first | apply Kd.R_alloc | apply Kd.R_drewN | apply Kd.R_drew)); exact HO_7.out)) k_ hk)); (case aO => exact (by (with_reducible repeat (first | apply Kd.R_alloc | apply Kd.R_drewN | apply Kd.R_drew)); exact HO_6.out)); (case aS => exact (below_size (by repeat (first | (with_reducible first | exact HB.out | apply below_alloc | apply pw_below_drewN | apply below_drew1) | exact HB.out)))); (case aL => have := LMc7.out; omega); intro v554 w9 ho hb hg hat; rw [← Ny553.out] at ho; have n0_ := Aside0.mk (Kd.R_after (ok := (fun _ => True)) (by (with_reducible repeat (first | apply Kd.R_alloc | apply Kd.R_drewN | apply Kd.R_drew)); exact Kd.R_mono HO_7.out (fun _ hk => ⟨trivial, hk⟩)) hg hat); have n1_ := Aside0.mk (hb); have n2_ := Aside0.mk (ho); clear HO_7; clear HB; clear HO_6; have HO_7 := n0_; have HB := n1_; have HO555 := n2_; clear n0_ n1_ n2_; clear ho hb hg hat))
              go_roundg k1
              case measure => have := HK1.out; omega
              case rel => exact ⟨(y553), (x7_1), (wrap64 (x8_1 + 1)), (by first | rfl | (simp; done) | (simp [*]; done)), H', ⟨by have := HK1.out; omega⟩, ⟨by (with_reducible repeat (first | apply Kd.R_alloc | apply Kd.R_drewN | apply Kd.R_drew)); exact HO555.out⟩, ⟨by (with_reducible repeat (first | apply Kd.R_alloc | apply Kd.R_drewN | apply Kd.R_drew)); exact Kd.R_mono HO_7.out (fun _ hk => hk.2)⟩, ⟨by repeat (first | (with_reducible first | exact HB.out | apply below_alloc | apply pw_below_drewN | apply below_drew1) | exact HB.out)⟩⟩
            · rw [if_neg c7] at H
              exact absurd H (by simp)
          · replace c6 := Bool.eq_false_iff.mpr c6
            subst c6
            have H1 : (if x7_1.length < 1466015503701 then (accountingref44_Inside.l0 k1 l0 l1 x6_1 (x7_1 ++ [(⟨(⟨(rd_T34 l0 x8_1).f0.f0, (rd_T34 l0 x8_1).f0.f1, (rd_T34 l0 x8_1).f0.f2, (rd_T34 l0 x8_1).f0.f3, (rd_T34 l0 x8_1).f0.f4⟩ : S32), (rd_T34 l0 x8_1).f1, (rd_T34 l0 x8_1).f2⟩ : S34)]) (wrap64 (x8_1 + 1))) else (none)) = some (r1, r2) := by rw [if_neg (show ¬ (false = true) by decide)] at H; exact H
            clear H
            have H := H1
            clear H1
            by_cases c10 : x7_1.length < 1466015503701
            · rw [if_pos c10] at H
              have LMc10 := Aside0.mk c10
              clear c10
              obtain ⟨y557, hy557⟩ : ∃ y_ : List (S34), y_ = (x7_1 ++ [(⟨(⟨(rd_T34 l0 x8_1).f0.f0, (rd_T34 l0 x8_1).f0.f1, (rd_T34 l0 x8_1).f0.f2, (rd_T34 l0 x8_1).f0.f3, (rd_T34 l0 x8_1).f0.f4⟩ : S32), (rd_T34 l0 x8_1).f1, (rd_T34 l0 x8_1).f2⟩ : S34)]) := ⟨_, rfl⟩
              replace H : (accountingref44_Inside.l0 k1 l0 l1 x6_1 y557 (wrap64 (x8_1 + 1))) = some (r1, r2) := by first | (rw [hy557]; with_reducible exact H) | (have H2_ := (Option.bind_some _ _).symm.trans H; rw [hy557]; with_reducible exact H2_) | (have H2_ := (Option.bind_some _ _).symm.trans H; with_reducible exact H2_) | with_reducible exact H | (rw [hy557]; exact H) | exact H
              have Ny557 := Aside0.mk hy557
              clear hy557
              have H' := Aside0.mk H
              clear H
              have p550 : 0 ≤ (x8_1 : Int) := of_decide_eq_true (by first | (with_reducible assumption) | assumption)
              have q550 : x8_1 < (l0.length : Int) := of_decide_eq_true (by first | (with_reducible assumption) | assumption)
              obtain ⟨ad550, e550, hx550_0, hx550_1, hx550_2, hx550_3, hx550_4, hx550_5, hx550_6⟩ := at_T34 HR0.out x8_1 p550 q550
              cases e550
              replace hx550_0 := (HB.out.cell (World.block_lt_of_cell? w _ hx550_0)).trans hx550_0
              replace hx550_1 := (HB.out.cell (World.block_lt_of_cell? w _ hx550_1)).trans hx550_1
              replace hx550_2 := (HB.out.cell (World.block_lt_of_cell? w _ hx550_2)).trans hx550_2
              replace hx550_3 := (HB.out.cell (World.block_lt_of_cell? w _ hx550_3)).trans hx550_3
              replace hx550_4 := (HB.out.cell (World.block_lt_of_cell? w _ hx550_4)).trans hx550_4
              replace hx550_5 := (HB.out.cell (World.block_lt_of_cell? w _ hx550_5)).trans hx550_5
              replace hx550_6 := (HB.out.cell (World.block_lt_of_cell? w _ hx550_6)).trans hx550_6
              replace p550 := eq_true p550
              replace q550 := eq_true q550
              go_wp2_with (first | ((with_reducible refine gate_callee (f := 73) rfl ?_); refine goesL_ (some 20) rfl rfl Try.func73 (by kernel_rfl) rfl #[.agg #[.string ((rd_T34 l0 x8_1).f0.f0), .string ((rd_T34 l0 x8_1).f0.f1), .string ((rd_T34 l0 x8_1).f0.f2), .string ((rd_T34 l0 x8_1).f0.f3), .string ((rd_T34 l0 x8_1).f0.f4), .int .i64 ((rd_T34 l0 x8_1).f1), .int .i64 ((rd_T34 l0 x8_1).f2)], .slice A1 l1.length c1] rfl (by (try simp only [List.map_toArray, List.map_cons, List.map_nil]); first | done | rfl | (simp only [List.length_drop, List.length_take]; rfl)) ?_; (with_reducible refine (accountingref44_Is.calls k1 ((rd_T34 l0 x8_1).f0.f0) ((rd_T34 l0 x8_1).f0.f1) ((rd_T34 l0 x8_1).f0.f2) ((rd_T34 l0 x8_1).f0.f3) ((rd_T34 l0 x8_1).f0.f4) ((rd_T34 l0 x8_1).f1) ((rd_T34 l0 x8_1).f2) _ _ l1 false _ ?side1 ?side2 A5.out).mono ?_); (case side1 => repeat (first | exact (Kd.C_below HR1.out HB.out) | exact (Kd.C_drewN (Kd.C_below HR1.out HB.out) _) | (with_reducible refine Kd.C_alloc ?_ _) | (with_reducible refine Kd.C_drewN ?_ _) | (with_reducible refine Kd.C_drew ?_))); (case side2 => exact HC1.out); rintro e w11 ⟨rfl, hb⟩; refine ⟨_, rfl, ?_⟩; have n0_ := Aside0.mk (Kd.R_below (by (with_reducible repeat (first | apply Kd.R_alloc | apply Kd.R_drewN | apply Kd.R_drew)); exact HO_6.out) hb); have n1_ := Aside0.mk (Kd.R_below (by (with_reducible repeat (first | apply Kd.R_alloc | apply Kd.R_drewN | apply Kd.R_drew)); exact HO_7.out) hb); have n2_ := Aside0.mk (below_step (by repeat (first | (with_reducible first | exact HB.out | apply below_alloc | apply pw_below_drewN | apply below_drew1) | exact HB.out)) hb); clear HO_6; clear HO_7; clear HB; have HO_6 := n0_; have HO_7 := n1_; have HB := n2_; clear n0_ n1_ n2_; (try clear hb); (try clear hb2); (try clear hk); (try clear hi); have p556 : 0 ≤ (x8_1 : Int) := of_decide_eq_true (by first | (with_reducible assumption) | assumption); have q556 : x8_1 < (l0.length : Int) := of_decide_eq_true (by first | (with_reducible assumption) | assumption); obtain ⟨ad556, e556, hx556_0, hx556_1, hx556_2, hx556_3, hx556_4, hx556_5, hx556_6⟩ := at_T34 HR0.out x8_1 p556 q556; obtain rfl : ad550 = ad556 := (by injection e556); replace hx556_0 := (HB.out.cell (World.block_lt_of_cell? w _ hx556_0)).trans hx556_0; replace hx556_1 := (HB.out.cell (World.block_lt_of_cell? w _ hx556_1)).trans hx556_1; replace hx556_2 := (HB.out.cell (World.block_lt_of_cell? w _ hx556_2)).trans hx556_2; replace hx556_3 := (HB.out.cell (World.block_lt_of_cell? w _ hx556_3)).trans hx556_3; replace hx556_4 := (HB.out.cell (World.block_lt_of_cell? w _ hx556_4)).trans hx556_4; replace hx556_5 := (HB.out.cell (World.block_lt_of_cell? w _ hx556_5)).trans hx556_5; replace hx556_6 := (HB.out.cell (World.block_lt_of_cell? w _ hx556_6)).trans hx556_6; replace p556 := eq_true p556; replace q556 := eq_true q556) | ((with_reducible refine gate_builtin (b := .append) (xs := #[.tmp 28, .tmp 33]) rfl ?_); at_builtin; refine Kd.R_append k34 (w0 := w) w.heap.size rfl (.tmp 28) (.tmp 33) 22 34 (.agg #[(.string ⟨#[]⟩), (.string ⟨#[]⟩), (.string ⟨#[]⟩), (.string ⟨#[]⟩), (.string ⟨#[]⟩), (.int .i64 0), (.int .i64 0)]) 96 rfl Try.underlying22 info34 rfl (by decide) (by omega) u7 x7_1 (⟨(⟨(rd_T34 l0 x8_1).f0.f0, (rd_T34 l0 x8_1).f0.f1, (rd_T34 l0 x8_1).f0.f2, (rd_T34 l0 x8_1).f0.f3, (rd_T34 l0 x8_1).f0.f4⟩ : S32), (rd_T34 l0 x8_1).f1, (rd_T34 l0 x8_1).f2⟩ : S34) [.string ((rd_T34 l0 x8_1).f0.f0), .string ((rd_T34 l0 x8_1).f0.f1), .string ((rd_T34 l0 x8_1).f0.f2), .string ((rd_T34 l0 x8_1).f0.f3), .string ((rd_T34 l0 x8_1).f0.f4), .int .i64 ((rd_T34 l0 x8_1).f1), .int .i64 ((rd_T34 l0 x8_1).f2)] (fun k_ => some k_ ≠ (u6 : Value).ownBlock) (fun _ => False) rfl rfl ?aP (fun _ hk => hk.elim) ?aF ?aO ?aB ?aS ?aL ?_; (case aP => exact k34_mkM _ _ _ (⟨(⟨(rd_T34 l0 x8_1).f0.f0, (rd_T34 l0 x8_1).f0.f1, (rd_T34 l0 x8_1).f0.f2, (rd_T34 l0 x8_1).f0.f3, (rd_T34 l0 x8_1).f0.f4⟩ : S32), (rd_T34 l0 x8_1).f1, (rd_T34 l0 x8_1).f2⟩ : S34)); (case aB => exact (by repeat (first | (with_reducible first | exact HB.out | apply below_alloc | apply pw_below_drewN | apply below_drew1) | exact HB.out))); (case aF => exact (fun k_ hk => Kd.fresh' (Kd.R_lt (by (with_reducible repeat (first | apply Kd.R_alloc | apply Kd.R_drewN | apply Kd.R_drew)); exact HO_6.out)) k_ hk)); (case aO => exact (by (with_reducible repeat (first | apply Kd.R_alloc | apply Kd.R_drewN | apply Kd.R_drew)); exact HO_7.out)); (case aS => exact (below_size (by repeat (first | (with_reducible first | exact HB.out | apply below_alloc | apply pw_below_drewN | apply below_drew1) | exact HB.out)))); (case aL => have := LMc10.out; omega); intro v558 w12 ho hb hg hat; rw [← Ny557.out] at ho; have n0_ := Aside0.mk (Kd.R_after (ok := (fun _ => True)) (by (with_reducible repeat (first | apply Kd.R_alloc | apply Kd.R_drewN | apply Kd.R_drew)); exact Kd.R_mono HO_6.out (fun _ hk => ⟨trivial, hk⟩)) hg hat); have n1_ := Aside0.mk (hb); have n2_ := Aside0.mk (ho); clear HO_6; clear HB; clear HO_7; have HO_6 := n0_; have HB := n1_; have HO559 := n2_; clear n0_ n1_ n2_; clear ho hb hg hat))
              go_roundg k1
              case measure => have := HK1.out; omega
              case rel => exact ⟨(x6_1), (y557), (wrap64 (x8_1 + 1)), (by first | rfl | (simp; done) | (simp [*]; done)), H', ⟨by have := HK1.out; omega⟩, ⟨by (with_reducible repeat (first | apply Kd.R_alloc | apply Kd.R_drewN | apply Kd.R_drew)); exact Kd.R_mono HO_6.out (fun _ hk => hk.2)⟩, ⟨by (with_reducible repeat (first | apply Kd.R_alloc | apply Kd.R_drewN | apply Kd.R_drew)); exact HO559.out⟩, ⟨by repeat (first | (with_reducible first | exact HB.out | apply below_alloc | apply pw_below_drewN | apply below_drew1) | exact HB.out)⟩⟩
            · rw [if_neg c10] at H
              exact absurd H (by simp)
        · rw [if_neg c4] at H
          exact absurd H (by simp)
      · rw [if_neg c3] at H
        have c3b0 : decide (x8_1 < (l0.length : Int)) = false := decide_eq_false c3
        clear c3
        simp only [Option.some.injEq, Prod.mk.injEq] at H
        obtain ⟨rfl, rfl⟩ := H
        go_wp2
        go_ret2
        exact ⟨_, _, by first | rfl | (simp [errW_none, errW_some] <;> rfl) | (simp [*, errW_none, errW_some] <;> rfl), by (with_reducible repeat (first | apply Kd.R_alloc | apply Kd.R_drewN | apply Kd.R_drew)); exact HO_6.out, by (with_reducible repeat (first | apply Kd.R_alloc | apply Kd.R_drewN | apply Kd.R_drew)); exact HO_7.out, by repeat (first | (with_reducible first | exact HB.out | apply below_alloc | apply pw_below_drewN | apply below_drew1) | exact HB.out)⟩

end Go.Proofs.Ytmflggbpiadkjaa.P
