/- Texts of mine and of the print, joined: Px66, Px67, SayIntercoGone, SpecI, SpecQ, SpecEl, SpecIr, SpecS, SpecO, SpecK, SpecGo, Px25, Px12, Px15, Px16, SpecB, SpecBr, SpecZ, SpecSm, SpecLi, PureIntercoGone. -/
import Derived.Test.YtmflggbpiadkjaaGa
import Derived.Test.YtmflggbpiadkjaaGd
import Derived.Test.YtmflggbpiadkjaaGe
import Derived.Test.YtmflggbpiadkjaaGb
import Derived.Test.YtmflggbpiadkjaaGc
import Derived.KernelRfl
namespace Go.Proofs.Ytmflggbpiadkjaa.P
open Go.RowKit Go.Proofs.YtmflggbpiadkjaaW.PrintWords Go.Proofs.YtmflggbpiadkjaaW.PrintLast Go.Proofs.YtmflggbpiadkjaaW.PrintMore
attribute [local go_sem] max2_int min2_int max_two min_two max_three min_three max_four min_four   -- for this text's walks alone
set_option linter.unusedVariables false
set_option linter.unusedSimpArgs false
/-! ### accountinglaw44_without: function 52 -/
def accountinglaw44_without.l0 : Nat → List (S34) → ByteArray → List (S34) → Int → Option ((List (S34)))
 | 0, _, _, _, _ => none
 | k + 1, x0, x1, x5, x6 => if x6 < (x0.length : Int) then (if 0 ≤ x6 then (if ((rd_T34 x0 x6).f0.f1).toList = x1.toList then (accountinglaw44_without.l0 k x0 x1 x5 (wrap64 (x6 + 1))) else (if x5.length < 1466015503701 then (accountinglaw44_without.l0 k x0 x1 (x5 ++ [(⟨(⟨(rd_T34 x0 x6).f0.f0, (rd_T34 x0 x6).f0.f1, (rd_T34 x0 x6).f0.f2, (rd_T34 x0 x6).f0.f3, (rd_T34 x0 x6).f0.f4⟩ : S32), (rd_T34 x0 x6).f1, (rd_T34 x0 x6).f2⟩ : S34)]) (wrap64 (x6 + 1))) else (none))) else (none)) else (some x5)
def accountinglaw44_without.f (k : Nat) (l0 : List (S34)) (a1 : ByteArray) : Option ((List (S34))) := accountinglaw44_without.l0 k l0 a1 ([] : List (S34)) 0
theorem accountinglaw44_without.mono_l : ∀ k, (∀ y0 y1 y2 y3, LeO (accountinglaw44_without.l0 k y0 y1 y2 y3) (accountinglaw44_without.l0 (k + 1) y0 y1 y2 y3))
 | 0 => fun _ _ _ _ r h => by simp [accountinglaw44_without.l0] at h
 | k + 1 => by
  have ih0 := accountinglaw44_without.mono_l k
  ·intro y0 y1 y2 y3
   unfold accountinglaw44_without.l0
   repeat' first
   | (with_reducible exact ih0 _ _ _ _)
   | (with_reducible exact LeO.refl _)
   | (with_reducible exact LeO.none _)
   | (with_reducible refine LeO.ite ?_ ?_)
   | (with_reducible refine LeO.bind ?_ (fun _ => ?_))
   | exact ih0 _ _ _ _
   | exact LeO.none _
   | refine LeO.ite ?_ ?_
   | refine LeO.bind ?_ (fun _ => ?_)
theorem accountinglaw44_without.mono : ∀ a0 a1 k, LeO (accountinglaw44_without.f k a0 a1) (accountinglaw44_without.f (k + 1) a0 a1) := by
 intro a0 a1 k
 have ih0 := accountinglaw44_without.mono_l k
 unfold accountinglaw44_without.f
 repeat' first
   | (with_reducible exact ih0 _ _ _ _)
   | (with_reducible exact LeO.refl _)
   | (with_reducible exact LeO.none _)
   | (with_reducible refine LeO.ite ?_ ?_)
   | (with_reducible refine LeO.bind ?_ (fun _ => ?_))
   | exact ih0 _ _ _ _
   | exact LeO.none _
   | refine LeO.ite ?_ ?_
   | refine LeO.bind ?_ (fun _ => ?_)
set_option maxHeartbeats 8000000 in
set_option maxRecDepth 100000 in
theorem accountinglaw44_without.calls (k : Nat) (A0 : Option Addr) (c0 : Nat) (l0 : List (S34)) (a1 : ByteArray) (r : List (S34)) (w : World) (hr0 : Kd.C k34 w A0 l0.length l0) (hc0 : l0.length ≤ c0) (h : accountinglaw44_without.f k l0 a1 = some r) :
  Calls Try.prog 52 #[.slice A0 l0.length c0, .string a1] w fun e w' => ∃ v0_ : Value, e = .returned (v0_) ∧ Kd.R k34 34 w' w.heap.size (fun _ => True) v0_ r ∧ Below w.heap.size w w' := by
 have hu34 := Try.underlying34
 have HR0 := Aside0.mk hr0
 have HC0 := Aside0.mk hc0
 clear hr0 hc0
 have HB := Aside0.mk (Below.refl w.heap.size w)
 have H : (accountinglaw44_without.l0 k l0 a1 ([] : List (S34)) 0) = some r := h
 clear h
 have H' := Aside0.mk H
 clear H
 go_enter Try.func52, Try.ntmps52
 go_wp2
 go_loopg [5, 6] k (fun kq v5 v6 w' => ∃ (x5_1 : List (S34)) (x6_1 : Int), v6 = .int .i64 x6_1 ∧ Aside0 (accountinglaw44_without.l0 kq l0 a1 x5_1 x6_1 = some r) ∧ Aside0 (kq ≤ k) ∧ Aside0 (Kd.R k34 34 w' w.heap.size (fun _ => True) v5 x5_1) ∧ Aside0 (Below w.heap.size w w'))
 case atStart => exact ⟨(([] : List (S34))), (0), (by first | rfl | (simp; done) | (simp [*]; done)), H', ⟨Nat.le_refl _⟩, ⟨by first | exact Kd.R_nil _ _ _ _ _ | exact Kd.N_nil _ _ _ _ _ | exact Kd.V_nil _ _ _ _ _ | exact Kd.Q_nil _ _ _ _ _ | exact Kd.S_nil _ _ _ _ _⟩, ⟨by repeat (first | (with_reducible first | exact HB.out | apply below_alloc | apply pw_below_drewN | apply below_drew1) | exact HB.out)⟩⟩
 case round =>
  clear H'
  try clear p2
  obtain ⟨x5_1, x6_1, rfl, HA, HK1, HO_5, HB⟩ := hrel
  cases gk with
  | zero => exact absurd HA.out (by simp [accountinglaw44_without.l0])
  | succ k1 =>
   have H := HA.out
   clear HA
   simp only [accountinglaw44_without.l0] at H
   by_cases c3 : x6_1 < (l0.length : Int)
   ·rw [if_pos c3] at H
    have c3b0 : decide (x6_1 < (l0.length : Int)) = true := decide_eq_true c3
    clear c3
    by_cases c4 : 0 ≤ x6_1
    ·rw [if_pos c4] at H
     have c4b0 : decide (0 ≤ x6_1) = true := decide_eq_true c4
     clear c4
     by_cases c5 : ((rd_T34 l0 x6_1).f0.f1).toList = a1.toList
     ·rw [if_pos c5] at H
      have c5b0 : (((rd_T34 l0 x6_1).f0.f1).toList == a1.toList) = true := beq_iff_eq.mpr c5
      have c5b1 : (((rd_T34 l0 x6_1).f0.f1).toList != a1.toList) = false := bne_eq_false_iff_eq.mpr c5
      clear c5
      have H' := Aside0.mk H
      clear H
      have p855 : 0 ≤ (x6_1 : Int) := of_decide_eq_true (by first | (with_reducible assumption) | assumption)
      have q855 : x6_1 < (l0.length : Int) := of_decide_eq_true (by first | (with_reducible assumption) | assumption)
      obtain ⟨ad855, e855, hx855_0, hx855_1, hx855_2, hx855_3, hx855_4, hx855_5, hx855_6⟩ := at_T34 HR0.out x6_1 p855 q855
      cases e855
      replace hx855_0 := (HB.out.cell (World.block_lt_of_cell? w _ hx855_0)).trans hx855_0
      replace hx855_1 := (HB.out.cell (World.block_lt_of_cell? w _ hx855_1)).trans hx855_1
      replace hx855_2 := (HB.out.cell (World.block_lt_of_cell? w _ hx855_2)).trans hx855_2
      replace hx855_3 := (HB.out.cell (World.block_lt_of_cell? w _ hx855_3)).trans hx855_3
      replace hx855_4 := (HB.out.cell (World.block_lt_of_cell? w _ hx855_4)).trans hx855_4
      replace hx855_5 := (HB.out.cell (World.block_lt_of_cell? w _ hx855_5)).trans hx855_5
      replace hx855_6 := (HB.out.cell (World.block_lt_of_cell? w _ hx855_6)).trans hx855_6
      replace p855 := eq_true p855
      replace q855 := eq_true q855
      go_wp2
      go_roundg k1
      case measure => have := HK1.out; omega
      case rel => exact ⟨(x5_1), (wrap64 (x6_1 + 1)), (by first | rfl | (simp; done) | (simp [*]; done)), H', ⟨by have := HK1.out; omega⟩, ⟨by (with_reducible repeat (first | apply Kd.R_alloc | apply Kd.R_drewN | apply Kd.R_drew)); exact HO_5.out⟩, ⟨by repeat (first | (with_reducible first | exact HB.out | apply below_alloc | apply pw_below_drewN | apply below_drew1) | exact HB.out)⟩⟩
     ·rw [if_neg c5] at H
      have c5b0 : (((rd_T34 l0 x6_1).f0.f1).toList == a1.toList) = false := beq_eq_false_iff_ne.mpr c5
      have c5b1 : (((rd_T34 l0 x6_1).f0.f1).toList != a1.toList) = true := bne_iff_ne.mpr c5
      by_cases c6 : x5_1.length < 1466015503701
      ·rw [if_pos c6] at H
       have LMc6 := Aside0.mk c6
       clear c6
       obtain ⟨y857, hy857⟩ : ∃ y_ : List (S34), y_ = (x5_1 ++ [(⟨(⟨(rd_T34 l0 x6_1).f0.f0, (rd_T34 l0 x6_1).f0.f1, (rd_T34 l0 x6_1).f0.f2, (rd_T34 l0 x6_1).f0.f3, (rd_T34 l0 x6_1).f0.f4⟩ : S32), (rd_T34 l0 x6_1).f1, (rd_T34 l0 x6_1).f2⟩ : S34)]) := ⟨_, rfl⟩
       replace H : (accountinglaw44_without.l0 k1 l0 a1 y857 (wrap64 (x6_1 + 1))) = some r := by first | (rw [hy857]; with_reducible exact H) | (have H2_ := (Option.bind_some _ _).symm.trans H; rw [hy857]; with_reducible exact H2_) | (have H2_ := (Option.bind_some _ _).symm.trans H; with_reducible exact H2_) | with_reducible exact H | (rw [hy857]; exact H) | exact H
       have Ny857 := Aside0.mk hy857
       clear hy857
       have H' := Aside0.mk H
       clear H
       have p855 : 0 ≤ (x6_1 : Int) := of_decide_eq_true (by first | (with_reducible assumption) | assumption)
       have q855 : x6_1 < (l0.length : Int) := of_decide_eq_true (by first | (with_reducible assumption) | assumption)
       obtain ⟨ad855, e855, hx855_0, hx855_1, hx855_2, hx855_3, hx855_4, hx855_5, hx855_6⟩ := at_T34 HR0.out x6_1 p855 q855
       cases e855
       replace hx855_0 := (HB.out.cell (World.block_lt_of_cell? w _ hx855_0)).trans hx855_0
       replace hx855_1 := (HB.out.cell (World.block_lt_of_cell? w _ hx855_1)).trans hx855_1
       replace hx855_2 := (HB.out.cell (World.block_lt_of_cell? w _ hx855_2)).trans hx855_2
       replace hx855_3 := (HB.out.cell (World.block_lt_of_cell? w _ hx855_3)).trans hx855_3
       replace hx855_4 := (HB.out.cell (World.block_lt_of_cell? w _ hx855_4)).trans hx855_4
       replace hx855_5 := (HB.out.cell (World.block_lt_of_cell? w _ hx855_5)).trans hx855_5
       replace hx855_6 := (HB.out.cell (World.block_lt_of_cell? w _ hx855_6)).trans hx855_6
       replace p855 := eq_true p855
       replace q855 := eq_true q855
       have p856 : 0 ≤ (x6_1 : Int) := of_decide_eq_true (by first | (with_reducible assumption) | assumption)
       have q856 : x6_1 < (l0.length : Int) := of_decide_eq_true (by first | (with_reducible assumption) | assumption)
       obtain ⟨ad856, e856, hx856_0, hx856_1, hx856_2, hx856_3, hx856_4, hx856_5, hx856_6⟩ := at_T34 HR0.out x6_1 p856 q856
       obtain rfl : ad855 = ad856 := (by injection e856)
       replace hx856_0 := (HB.out.cell (World.block_lt_of_cell? w _ hx856_0)).trans hx856_0
       replace hx856_1 := (HB.out.cell (World.block_lt_of_cell? w _ hx856_1)).trans hx856_1
       replace hx856_2 := (HB.out.cell (World.block_lt_of_cell? w _ hx856_2)).trans hx856_2
       replace hx856_3 := (HB.out.cell (World.block_lt_of_cell? w _ hx856_3)).trans hx856_3
       replace hx856_4 := (HB.out.cell (World.block_lt_of_cell? w _ hx856_4)).trans hx856_4
       replace hx856_5 := (HB.out.cell (World.block_lt_of_cell? w _ hx856_5)).trans hx856_5
       replace hx856_6 := (HB.out.cell (World.block_lt_of_cell? w _ hx856_6)).trans hx856_6
       replace p856 := eq_true p856
       replace q856 := eq_true q856
       go_wp2_with (first | ((with_reducible refine gate_builtin (b := .append) (xs := #[.tmp 21, .tmp 26]) rfl ?_); at_builtin; refine Kd.R_append k34 (w0 := w) w.heap.size rfl (.tmp 21) (.tmp 26) 22 34 (.agg #[(.string ⟨#[]⟩), (.string ⟨#[]⟩), (.string ⟨#[]⟩), (.string ⟨#[]⟩), (.string ⟨#[]⟩), (.int .i64 0), (.int .i64 0)]) 96 rfl Try.underlying22 info34 rfl (by decide) (by omega) u5 x5_1 (⟨(⟨(rd_T34 l0 x6_1).f0.f0, (rd_T34 l0 x6_1).f0.f1, (rd_T34 l0 x6_1).f0.f2, (rd_T34 l0 x6_1).f0.f3, (rd_T34 l0 x6_1).f0.f4⟩ : S32), (rd_T34 l0 x6_1).f1, (rd_T34 l0 x6_1).f2⟩ : S34) [.string ((rd_T34 l0 x6_1).f0.f0), .string ((rd_T34 l0 x6_1).f0.f1), .string ((rd_T34 l0 x6_1).f0.f2), .string ((rd_T34 l0 x6_1).f0.f3), .string ((rd_T34 l0 x6_1).f0.f4), .int .i64 ((rd_T34 l0 x6_1).f1), .int .i64 ((rd_T34 l0 x6_1).f2)] (fun _ => True) (fun _ => False) rfl rfl ?aP (fun _ hk => hk.elim) ?aF ?aO ?aB ?aS ?aL ?_; (case aP => exact k34_mkM _ _ _ (⟨(⟨(rd_T34 l0 x6_1).f0.f0, (rd_T34 l0 x6_1).f0.f1, (rd_T34 l0 x6_1).f0.f2, (rd_T34 l0 x6_1).f0.f3, (rd_T34 l0 x6_1).f0.f4⟩ : S32), (rd_T34 l0 x6_1).f1, (rd_T34 l0 x6_1).f2⟩ : S34)); (case aB => exact (by repeat (first | (with_reducible first | exact HB.out | apply below_alloc | apply pw_below_drewN | apply below_drew1) | exact HB.out))); (case aF => exact (fun _ _ => trivial)); (case aO => exact (by (with_reducible repeat (first | apply Kd.R_alloc | apply Kd.R_drewN | apply Kd.R_drew)); exact HO_5.out)); (case aS => exact (below_size (by repeat (first | (with_reducible first | exact HB.out | apply below_alloc | apply pw_below_drewN | apply below_drew1) | exact HB.out)))); (case aL => have := LMc6.out; omega); intro v858 w7 ho hb hg hat; rw [← Ny857.out] at ho; have n0_ := Aside0.mk (hb); have n1_ := Aside0.mk (ho); clear HB; clear HO_5; have HB := n0_; have HO859 := n1_; clear n0_ n1_; clear ho hb hg hat))
       go_roundg k1
       case measure => have := HK1.out; omega
       case rel => exact ⟨(y857), (wrap64 (x6_1 + 1)), (by first | rfl | (simp; done) | (simp [*]; done)), H', ⟨by have := HK1.out; omega⟩, ⟨by (with_reducible repeat (first | apply Kd.R_alloc | apply Kd.R_drewN | apply Kd.R_drew)); exact HO859.out⟩, ⟨by repeat (first | (with_reducible first | exact HB.out | apply below_alloc | apply pw_below_drewN | apply below_drew1) | exact HB.out)⟩⟩
      ·rw [if_neg c6] at H
       exact absurd H (by simp)
    ·rw [if_neg c4] at H
     exact absurd H (by simp)
   ·rw [if_neg c3] at H
    have c3b0 : decide (x6_1 < (l0.length : Int)) = false := decide_eq_false c3
    clear c3
    obtain rfl := Option.some.inj H
    go_wp2
    go_ret
    exact ⟨_, by first | rfl | (simp [errW_none, errW_some] <;> rfl) | (simp [*, errW_none, errW_some] <;> rfl), by (with_reducible repeat (first | apply Kd.R_alloc | apply Kd.R_drewN | apply Kd.R_drew)); exact HO_5.out, by repeat (first | (with_reducible first | exact HB.out | apply below_alloc | apply pw_below_drewN | apply below_drew1) | exact HB.out)⟩
/-! ### accountinglaw44_IntercoGone: function 16 -/
def accountinglaw44_IntercoGone.l0 : Nat → List (S34) → ByteArray → ByteArray → List ByteArray → Int → Option (Bool)
 | 0, _, _, _, _, _ => none
 | k + 1, x0, x1, x2, x3, x9 => if x9 < (x3.length : Int) then (if 0 ≤ x9 then (if (rdOf ByteArray.empty x3 x9).toList = ([] : List UInt8) then (some true) else (accountinglaw44_IntercoGone.l0 k x0 x1 x2 x3 (wrap64 (x9 + 1)))) else (none)) else ((interco_Eliminate.f k x0 x1 x2 x3).bind fun bt862 => (if bt862.2 = 0 then ((accountingref19_Add.f k x0 bt862.1).bind fun bt867 => (if bt867.2 = 0 then ((accountingref44_Inside.f k x0 x3).bind fun bt872 => ((interco_Inside.f k bt867.1 x3).bind fun bt878 => (if (bt878.1.length : Int) = 0 then ((accountinglaw44_without.f k bt867.1 x2).bind fun t884 => ((accountinglaw44_without.f k bt872.2 x2).bind fun t887 => ((accountingref19_Same.f k t884 t887).bind fun t890 => (if t890 = true then ((accountinglaw44_lives.f k).bind fun t891 => (some t891)) else (some false))))) else (some false)))) else ((accountinglaw44_lives.f k).bind fun t871 => (some t871)))) else (if (bt862.1.length : Int) = 0 then ((accountinglaw44_lives.f k).bind fun t866 => (some t866)) else (some false))))
def accountinglaw44_IntercoGone.f (k : Nat) (l0 : List (S34)) (a1 : ByteArray) (a2 : ByteArray) (l3 : List ByteArray) : Option (Bool) := (accountinglaw44_large.f l0 l3).bind fun t860 => (if t860 = true then (some true) else (accountinglaw44_IntercoGone.l0 k l0 a1 a2 l3 0))
theorem accountinglaw44_IntercoGone.mono_l : ∀ k, (∀ y0 y1 y2 y3 y4, LeO (accountinglaw44_IntercoGone.l0 k y0 y1 y2 y3 y4) (accountinglaw44_IntercoGone.l0 (k + 1) y0 y1 y2 y3 y4))
 | 0 => fun _ _ _ _ _ r h => by simp [accountinglaw44_IntercoGone.l0] at h
 | k + 1 => by
  have ih0 := accountinglaw44_IntercoGone.mono_l k
  ·intro y0 y1 y2 y3 y4
   unfold accountinglaw44_IntercoGone.l0
   repeat' first
   | (with_reducible exact ih0 _ _ _ _ _)
   | (with_reducible exact accountinglaw44_lives.mono _)
   | (with_reducible exact accountinglaw44_without.mono _ _ _)
   | (with_reducible exact accountingref19_Add.mono _ _ _)
   | (with_reducible exact accountingref19_Same.mono _ _ _)
   | (with_reducible exact accountingref44_Inside.mono _ _ _)
   | (with_reducible exact interco_Eliminate.mono _ _ _ _ _)
   | (with_reducible exact interco_Inside.mono _ _ _)
   | (with_reducible exact LeO.refl _)
   | (with_reducible exact LeO.none _)
   | (with_reducible refine LeO.ite ?_ ?_)
   | (with_reducible refine LeO.bind ?_ (fun _ => ?_))
   | exact ih0 _ _ _ _ _
   | exact accountinglaw44_lives.mono _
   | exact accountinglaw44_without.mono _ _ _
   | exact accountingref19_Add.mono _ _ _
   | exact accountingref19_Same.mono _ _ _
   | exact accountingref44_Inside.mono _ _ _
   | exact interco_Eliminate.mono _ _ _ _ _
   | exact interco_Inside.mono _ _ _
   | exact LeO.none _
   | refine LeO.ite ?_ ?_
   | refine LeO.bind ?_ (fun _ => ?_)
theorem accountinglaw44_IntercoGone.mono : ∀ a0 a1 a2 a3 k, LeO (accountinglaw44_IntercoGone.f k a0 a1 a2 a3) (accountinglaw44_IntercoGone.f (k + 1) a0 a1 a2 a3) := by
 intro a0 a1 a2 a3 k
 have ih0 := accountinglaw44_IntercoGone.mono_l k
 unfold accountinglaw44_IntercoGone.f
 repeat' first
   | (with_reducible exact ih0 _ _ _ _ _)
   | (with_reducible exact accountinglaw44_lives.mono _)
   | (with_reducible exact accountinglaw44_without.mono _ _ _)
   | (with_reducible exact accountingref19_Add.mono _ _ _)
   | (with_reducible exact accountingref19_Same.mono _ _ _)
   | (with_reducible exact accountingref44_Inside.mono _ _ _)
   | (with_reducible exact interco_Eliminate.mono _ _ _ _ _)
   | (with_reducible exact interco_Inside.mono _ _ _)
   | (with_reducible exact LeO.refl _)
   | (with_reducible exact LeO.none _)
   | (with_reducible refine LeO.ite ?_ ?_)
   | (with_reducible refine LeO.bind ?_ (fun _ => ?_))
   | exact ih0 _ _ _ _ _
   | exact accountinglaw44_lives.mono _
   | exact accountinglaw44_without.mono _ _ _
   | exact accountingref19_Add.mono _ _ _
   | exact accountingref19_Same.mono _ _ _
   | exact accountingref44_Inside.mono _ _ _
   | exact interco_Eliminate.mono _ _ _ _ _
   | exact interco_Inside.mono _ _ _
   | exact LeO.none _
   | refine LeO.ite ?_ ?_
   | refine LeO.bind ?_ (fun _ => ?_)
set_option maxHeartbeats 8000000 in
set_option maxRecDepth 100000 in
theorem accountinglaw44_IntercoGone.calls (k : Nat) (A0 : Option Addr) (c0 : Nat) (l0 : List (S34)) (a1 : ByteArray) (a2 : ByteArray) (A3 : Option Addr) (c3 : Nat) (l3 : List ByteArray) (r : Bool) (w : World) (hr0 : Kd.C k34 w A0 l0.length l0) (hc0 : l0.length ≤ c0) (hr3 : Kd.C Kd.string w A3 l3.length l3) (hc3 : l3.length ≤ c3) (h : accountinglaw44_IntercoGone.f k l0 a1 a2 l3 = some r) :
  Calls Try.prog 16 #[.slice A0 l0.length c0, .string a1, .string a2, .slice A3 l3.length c3] w fun e w' => e = .returned (.bool r) ∧ Below w.heap.size w w' := by
 have HR0 := Aside0.mk hr0
 have HC0 := Aside0.mk hc0
 clear hr0 hc0
 have HR3 := Aside0.mk hr3
 have HC3 := Aside0.mk hc3
 clear hr3 hc3
 have HB := Aside0.mk (Below.refl w.heap.size w)
 have H : ((accountinglaw44_large.f l0 l3).bind fun t860 => (if t860 = true then (some true) else (accountinglaw44_IntercoGone.l0 k l0 a1 a2 l3 0))) = some r := h
 clear h
 replace H := Option.bind_eq_some_iff.mp H
 obtain ⟨t860, A50, H⟩ := H
 replace H : (if t860 = true then (some true) else (accountinglaw44_IntercoGone.l0 k l0 a1 a2 l3 0)) = some r := H
 have A5 := Aside0.mk A50
 clear A50
 by_cases c6 : t860 = true
 ·subst c6
  have H1 : (some true) = some r := by rw [if_pos rfl] at H; exact H
  clear H
  have H := H1
  clear H1
  obtain rfl := Option.some.inj H
  go_enter Try.func16, Try.ntmps16
  go_wp2_with (first | ((with_reducible refine gate_callee (f := 43) rfl ?_); refine goesL_ (some 20) rfl rfl Try.func43 (by kernel_rfl) rfl #[.slice A0 l0.length c0, .slice A3 l3.length c3] rfl (by (try simp only [List.map_toArray, List.map_cons, List.map_nil]); first | done | rfl | (simp only [List.length_drop, List.length_take]; rfl)) ?_; (with_reducible refine (accountinglaw44_large.calls _ _ l0 _ _ l3 true _ ?side1 ?side2 ?side3 ?side4 A5.out).mono ?_); (case side1 => repeat (first | exact HR0.out | (with_reducible refine Kd.C_alloc ?_ _) | (with_reducible refine Kd.C_drewN ?_ _) | (with_reducible refine Kd.C_drew ?_))); (case side2 => exact HC0.out); (case side3 => repeat (first | exact HR3.out | (with_reducible refine Kd.C_alloc ?_ _) | (with_reducible refine Kd.C_drewN ?_ _) | (with_reducible refine Kd.C_drew ?_))); (case side4 => exact HC3.out); rintro e w' ⟨rfl, ⟨nd, rfl⟩⟩; refine ⟨_, rfl, ?_⟩))
  go_ret
  exact ⟨by first | rfl | (simp [errW_none, errW_some] <;> rfl) | (simp [*, errW_none, errW_some] <;> rfl), by repeat (first | (with_reducible first | exact HB.out | apply below_alloc | apply pw_below_drewN | apply below_drew1) | exact HB.out)⟩
 ·replace c6 := Bool.eq_false_iff.mpr c6
  subst c6
  have H1 : (accountinglaw44_IntercoGone.l0 k l0 a1 a2 l3 0) = some r := by rw [if_neg (show ¬ (false = true) by decide)] at H; exact H
  clear H
  have H := H1
  clear H1
  have H' := Aside0.mk H
  clear H
  go_enter Try.func16, Try.ntmps16
  go_wp2_with (first | ((with_reducible refine gate_callee (f := 43) rfl ?_); refine goesL_ (some 20) rfl rfl Try.func43 (by kernel_rfl) rfl #[.slice A0 l0.length c0, .slice A3 l3.length c3] rfl (by (try simp only [List.map_toArray, List.map_cons, List.map_nil]); first | done | rfl | (simp only [List.length_drop, List.length_take]; rfl)) ?_; (with_reducible refine (accountinglaw44_large.calls _ _ l0 _ _ l3 false _ ?side1 ?side2 ?side3 ?side4 A5.out).mono ?_); (case side1 => repeat (first | exact HR0.out | (with_reducible refine Kd.C_alloc ?_ _) | (with_reducible refine Kd.C_drewN ?_ _) | (with_reducible refine Kd.C_drew ?_))); (case side2 => exact HC0.out); (case side3 => repeat (first | exact HR3.out | (with_reducible refine Kd.C_alloc ?_ _) | (with_reducible refine Kd.C_drewN ?_ _) | (with_reducible refine Kd.C_drew ?_))); (case side4 => exact HC3.out); rintro e w' ⟨rfl, ⟨nd, rfl⟩⟩; refine ⟨_, rfl, ?_⟩))
  go_loopg [9] k (fun kq v9 w' => ∃ (x9_1 : Int), v9 = .int .i64 x9_1 ∧ Aside0 (accountinglaw44_IntercoGone.l0 kq l0 a1 a2 l3 x9_1 = some r) ∧ Aside0 (kq ≤ k) ∧ Aside0 (Below w.heap.size w w'))
  case atStart => exact ⟨(0), (by first | rfl | (simp; done) | (simp [*]; done)), H', ⟨Nat.le_refl _⟩, ⟨by repeat (first | (with_reducible first | exact HB.out | apply below_alloc | apply pw_below_drewN | apply below_drew1) | exact HB.out)⟩⟩
  case round =>
   clear H'
   try clear c1
   try clear p2
   try clear c3
   try clear c4
   try clear c6
   obtain ⟨x9_1, rfl, HA, HK1, HB⟩ := hrel
   cases gk with
   | zero => exact absurd HA.out (by simp [accountinglaw44_IntercoGone.l0])
   | succ k1 =>
    have H := HA.out
    clear HA
    simp only [accountinglaw44_IntercoGone.l0] at H
    by_cases c7 : x9_1 < (l3.length : Int)
    ·rw [if_pos c7] at H
     have c7b0 : decide (x9_1 < (l3.length : Int)) = true := decide_eq_true c7
     clear c7
     by_cases c8 : 0 ≤ x9_1
     ·rw [if_pos c8] at H
      have c8b0 : decide (0 ≤ x9_1) = true := decide_eq_true c8
      clear c8
      by_cases c9 : (rdOf ByteArray.empty l3 x9_1).toList = ([] : List UInt8)
      ·rw [if_pos c9] at H
       have c9b0 : ((rdOf ByteArray.empty l3 x9_1).toList == ([] : List UInt8)) = true := beq_iff_eq.mpr c9
       have c9b1 : ((rdOf ByteArray.empty l3 x9_1).toList != ([] : List UInt8)) = false := bne_eq_false_iff_eq.mpr c9
       clear c9
       obtain rfl := Option.some.inj H
       have p861 : 0 ≤ (x9_1 : Int) := of_decide_eq_true (by first | (with_reducible assumption) | assumption)
       have q861 : x9_1 < (l3.length : Int) := of_decide_eq_true (by first | (with_reducible assumption) | assumption)
       obtain ⟨ad861, e861, hx861_0⟩ := Kd.at_string HR3.out x9_1 p861 q861
       cases e861
       replace hx861_0 := (HB.out.cell (World.block_lt_of_cell? w _ hx861_0)).trans hx861_0
       replace p861 := eq_true p861
       replace q861 := eq_true q861
       go_wp2
       go_ret
       exact ⟨by first | rfl | (simp [errW_none, errW_some] <;> rfl) | (simp [*, errW_none, errW_some] <;> rfl), by repeat (first | (with_reducible first | exact HB.out | apply below_alloc | apply pw_below_drewN | apply below_drew1) | exact HB.out)⟩
      ·rw [if_neg c9] at H
       have c9b0 : ((rdOf ByteArray.empty l3 x9_1).toList == ([] : List UInt8)) = false := beq_eq_false_iff_ne.mpr c9
       have c9b1 : ((rdOf ByteArray.empty l3 x9_1).toList != ([] : List UInt8)) = true := bne_iff_ne.mpr c9
       have H' := Aside0.mk H
       clear H
       have p861 : 0 ≤ (x9_1 : Int) := of_decide_eq_true (by first | (with_reducible assumption) | assumption)
       have q861 : x9_1 < (l3.length : Int) := of_decide_eq_true (by first | (with_reducible assumption) | assumption)
       obtain ⟨ad861, e861, hx861_0⟩ := Kd.at_string HR3.out x9_1 p861 q861
       cases e861
       replace hx861_0 := (HB.out.cell (World.block_lt_of_cell? w _ hx861_0)).trans hx861_0
       replace p861 := eq_true p861
       replace q861 := eq_true q861
       go_wp2
       go_roundg k1
       case measure => have := HK1.out; omega
       case rel => exact ⟨(wrap64 (x9_1 + 1)), (by first | rfl | (simp; done) | (simp [*]; done)), H', ⟨by have := HK1.out; omega⟩, ⟨by repeat (first | (with_reducible first | exact HB.out | apply below_alloc | apply pw_below_drewN | apply below_drew1) | exact HB.out)⟩⟩
     ·rw [if_neg c8] at H
      exact absurd H (by simp)
    ·rw [if_neg c7] at H
     have c7b0 : decide (x9_1 < (l3.length : Int)) = false := decide_eq_false c7
     clear c7
     replace H := Option.bind_eq_some_iff.mp H
     obtain ⟨⟨t862, t863⟩, A100, H⟩ := H
     try dsimp only at H
     have A10 := Aside0.mk A100
     clear A100
     by_cases c11 : t863 = 0
     ·rw [if_pos c11] at H
      have c11b0 : (t863 == 0) = true := beq_iff_eq.mpr c11
      have c11b1 : (t863 != 0) = false := bne_eq_false_iff_eq.mpr c11
      clear c11
      replace H := Option.bind_eq_some_iff.mp H
      obtain ⟨⟨t867, t868⟩, A120, H⟩ := H
      try dsimp only at H
      have A12 := Aside0.mk A120
      clear A120
      by_cases c13 : t868 = 0
      ·rw [if_pos c13] at H
       have c13b0 : (t868 == 0) = true := beq_iff_eq.mpr c13
       have c13b1 : (t868 != 0) = false := bne_eq_false_iff_eq.mpr c13
       clear c13
       replace H := Option.bind_eq_some_iff.mp H
       obtain ⟨⟨t872, t873⟩, A140, H⟩ := H
       try dsimp only at H
       have A14 := Aside0.mk A140
       clear A140
       replace H := Option.bind_eq_some_iff.mp H
       obtain ⟨⟨t878, t879⟩, A150, H⟩ := H
       try dsimp only at H
       have A15 := Aside0.mk A150
       clear A150
       by_cases c16 : (t878.length : Int) = 0
       ·rw [if_pos c16] at H
        have c16b0 : ((t878.length : Int) == 0) = true := beq_iff_eq.mpr c16
        have c16b1 : ((t878.length : Int) != 0) = false := bne_eq_false_iff_eq.mpr c16
        clear c16
        replace H := Option.bind_eq_some_iff.mp H
        obtain ⟨t884, A170, H⟩ := H
        try dsimp only at H
        have A17 := Aside0.mk A170
        clear A170
        replace H := Option.bind_eq_some_iff.mp H
        obtain ⟨t887, A180, H⟩ := H
        try dsimp only at H
        have A18 := Aside0.mk A180
        clear A180
        replace H := Option.bind_eq_some_iff.mp H
        obtain ⟨t890, A190, H⟩ := H
        try dsimp only at H
        have A19 := Aside0.mk A190
        clear A190
        by_cases c20 : t890 = true
        ·subst c20
         have H1 : ((accountinglaw44_lives.f k1).bind fun t891 => (some t891)) = some r := by rw [if_pos rfl] at H; exact H
         clear H
         have H := H1
         clear H1
         replace H := Option.bind_eq_some_iff.mp H
         obtain ⟨t891, A210, H⟩ := H
         replace H : (some t891) = some r := H
         have A21 := Aside0.mk A210
         clear A210
         obtain rfl := Option.some.inj H
         go_wp2_with (first | ((with_reducible refine gate_callee (f := 50) rfl ?_); refine goesL_ (some 37) rfl rfl Try.func50 (by kernel_rfl) rfl #[.slice A0 l0.length c0, .string a1, .string a2, .slice A3 l3.length c3] rfl (by (try simp only [List.map_toArray, List.map_cons, List.map_nil]); first | done | rfl | (simp only [List.length_drop, List.length_take]; rfl)) ?_; (with_reducible refine (interco_Eliminate.calls k1 _ _ l0 a1 a2 _ _ l3 t862 t863 _ ?side1 ?side2 ?side3 ?side4 A10.out).mono ?_); (case side1 => repeat (first | exact (Kd.C_below HR0.out HB.out) | exact (Kd.C_drewN (Kd.C_below HR0.out HB.out) _) | (with_reducible refine Kd.C_alloc ?_ _) | (with_reducible refine Kd.C_drewN ?_ _) | (with_reducible refine Kd.C_drew ?_))); (case side2 => exact HC0.out); (case side3 => repeat (first | exact (Kd.C_below HR3.out HB.out) | exact (Kd.C_drewN (Kd.C_below HR3.out HB.out) _) | (with_reducible refine Kd.C_alloc ?_ _) | (with_reducible refine Kd.C_drewN ?_ _) | (with_reducible refine Kd.C_drew ?_))); (case side4 => exact HC3.out); rintro e w22 ⟨v864, rfl, ho0, hb⟩; refine ⟨_, rfl, ?_⟩; have n0_ := Aside0.mk (Kd.R_lower ho0 (below_size (by repeat (first | (with_reducible first | exact HB.out | apply below_alloc | apply pw_below_drewN | apply below_drew1) | exact HB.out)))); have n1_ := Aside0.mk (below_step (by repeat (first | (with_reducible first | exact HB.out | apply below_alloc | apply pw_below_drewN | apply below_drew1) | exact HB.out)) hb); clear HB; have HO865 := n0_; have HB := n1_; clear n0_ n1_; (try clear hb); (try clear hb2); (try clear hk); (try clear hi); (try clear ho0); obtain ⟨Ao23, co23, eo23⟩ := Kd.R_slice HO865.out; subst eo23) | ((with_reducible refine gate_callee (f := 39) rfl ?_); refine goesL_ (some 51) rfl rfl Try.func39 (by kernel_rfl) rfl #[.slice A0 l0.length c0, .slice Ao23 t862.length co23] rfl (by (try simp only [List.map_toArray, List.map_cons, List.map_nil]); first | done | rfl | (simp only [List.length_drop, List.length_take]; rfl)) ?_; (with_reducible refine (accountingref19_Add.calls k1 _ _ l0 _ _ t862 t867 t868 _ ?side1 ?side2 ?side3 ?side4 A12.out).mono ?_); (case side1 => repeat (first | exact (Kd.C_below HR0.out HB.out) | exact (Kd.C_drewN (Kd.C_below HR0.out HB.out) _) | (with_reducible refine Kd.C_alloc ?_ _) | (with_reducible refine Kd.C_drewN ?_ _) | (with_reducible refine Kd.C_drew ?_))); (case side2 => exact HC0.out); (case side3 => repeat (first | exact (Kd.R_reads' HO865.out).2.2 | (with_reducible refine Kd.C_alloc ?_ _) | (with_reducible refine Kd.C_drewN ?_ _) | (with_reducible refine Kd.C_drew ?_))); (case side4 => exact (Kd.R_reads' HO865.out).2.1); rintro e w24 ⟨v869, rfl, ho0, hb⟩; refine ⟨_, rfl, ?_⟩; have n0_ := Aside0.mk (Kd.R_elder' (by (with_reducible repeat (first | apply Kd.R_alloc | apply Kd.R_drewN | apply Kd.R_drew)); exact HO865.out) (Kd.R_base ho0) hb); have n1_ := Aside0.mk (Kd.R_lower (Kd.R_new' ho0 (Kd.R_lt (by (with_reducible repeat (first | apply Kd.R_alloc | apply Kd.R_drewN | apply Kd.R_drew)); exact HO865.out))) (below_size (by repeat (first | (with_reducible first | exact HB.out | apply below_alloc | apply pw_below_drewN | apply below_drew1) | exact HB.out)))); have n2_ := Aside0.mk (below_step (by repeat (first | (with_reducible first | exact HB.out | apply below_alloc | apply pw_below_drewN | apply below_drew1) | exact HB.out)) hb); clear HO865; clear HB; have HO865 := n0_; have HO870 := n1_; have HB := n2_; clear n0_ n1_ n2_; (try clear hb); (try clear hb2); (try clear hk); (try clear hi); (try clear ho0)) | ((with_reducible refine gate_callee (f := 45) rfl ?_); refine goesL_ (some 60) rfl rfl Try.func45 (by kernel_rfl) rfl #[.slice A0 l0.length c0, .slice A3 l3.length c3] rfl (by (try simp only [List.map_toArray, List.map_cons, List.map_nil]); first | done | rfl | (simp only [List.length_drop, List.length_take]; rfl)) ?_; (with_reducible refine (accountingref44_Inside.calls k1 _ _ l0 _ _ l3 t872 t873 _ ?side1 ?side2 ?side3 ?side4 A14.out).mono ?_); (case side1 => repeat (first | exact (Kd.C_below HR0.out HB.out) | exact (Kd.C_drewN (Kd.C_below HR0.out HB.out) _) | (with_reducible refine Kd.C_alloc ?_ _) | (with_reducible refine Kd.C_drewN ?_ _) | (with_reducible refine Kd.C_drew ?_))); (case side2 => exact HC0.out); (case side3 => repeat (first | exact (Kd.C_below HR3.out HB.out) | exact (Kd.C_drewN (Kd.C_below HR3.out HB.out) _) | (with_reducible refine Kd.C_alloc ?_ _) | (with_reducible refine Kd.C_drewN ?_ _) | (with_reducible refine Kd.C_drew ?_))); (case side4 => exact HC3.out); rintro e w25 ⟨v874, v876, rfl, ho0, ho1, hb⟩; refine ⟨_, rfl, ?_⟩; have n0_ := Aside0.mk (Kd.R_mono (Kd.R_told (Kd.R_told (Kd.R_old (by (with_reducible repeat (first | apply Kd.R_alloc | apply Kd.R_drewN | apply Kd.R_drew)); exact HO865.out) hb) (Kd.R_base ho0)) (Kd.R_base ho1)) (fun _ h_ => h_.1)); have n1_ := Aside0.mk (Kd.R_mono (Kd.R_told (Kd.R_told (Kd.R_old (by (with_reducible repeat (first | apply Kd.R_alloc | apply Kd.R_drewN | apply Kd.R_drew)); exact HO870.out) hb) (Kd.R_base ho0)) (Kd.R_base ho1)) (fun _ h_ => h_.1)); have n2_ := Aside0.mk (Kd.R_lower (Kd.R_new' (Kd.R_new' ho0 (Kd.R_lt (by (with_reducible repeat (first | apply Kd.R_alloc | apply Kd.R_drewN | apply Kd.R_drew)); exact HO865.out))) (Kd.R_lt (by (with_reducible repeat (first | apply Kd.R_alloc | apply Kd.R_drewN | apply Kd.R_drew)); exact HO870.out))) (below_size (by repeat (first | (with_reducible first | exact HB.out | apply below_alloc | apply pw_below_drewN | apply below_drew1) | exact HB.out)))); have n3_ := Aside0.mk (Kd.R_lower (Kd.R_new' (Kd.R_new' ho1 (Kd.R_lt (by (with_reducible repeat (first | apply Kd.R_alloc | apply Kd.R_drewN | apply Kd.R_drew)); exact HO865.out))) (Kd.R_lt (by (with_reducible repeat (first | apply Kd.R_alloc | apply Kd.R_drewN | apply Kd.R_drew)); exact HO870.out))) (below_size (by repeat (first | (with_reducible first | exact HB.out | apply below_alloc | apply pw_below_drewN | apply below_drew1) | exact HB.out)))); have n4_ := Aside0.mk (below_step (by repeat (first | (with_reducible first | exact HB.out | apply below_alloc | apply pw_below_drewN | apply below_drew1) | exact HB.out)) hb); clear HO865; clear HO870; clear HB; have HO865 := n0_; have HO870 := n1_; have HO875 := n2_; have HO877 := n3_; have HB := n4_; clear n0_ n1_ n2_ n3_ n4_; (try clear hb); (try clear hb2); (try clear hk); (try clear hi); (try clear ho0); (try clear ho1); obtain ⟨Ao26, co26, eo26⟩ := Kd.R_slice HO870.out; subst eo26) | ((with_reducible refine gate_callee (f := 44) rfl ?_); refine goesL_ (some 66) rfl rfl Try.func44 (by kernel_rfl) rfl #[.slice Ao26 t867.length co26, .slice A3 l3.length c3] rfl (by (try simp only [List.map_toArray, List.map_cons, List.map_nil]); first | done | rfl | (simp only [List.length_drop, List.length_take]; rfl)) ?_; (with_reducible refine (interco_Inside.calls k1 _ _ t867 _ _ l3 t878 t879 _ ?side1 ?side2 ?side3 ?side4 A15.out).mono ?_); (case side1 => repeat (first | exact (Kd.R_reads' HO870.out).2.2 | (with_reducible refine Kd.C_alloc ?_ _) | (with_reducible refine Kd.C_drewN ?_ _) | (with_reducible refine Kd.C_drew ?_))); (case side2 => exact (Kd.R_reads' HO870.out).2.1); (case side3 => repeat (first | exact (Kd.C_below HR3.out HB.out) | exact (Kd.C_drewN (Kd.C_below HR3.out HB.out) _) | (with_reducible refine Kd.C_alloc ?_ _) | (with_reducible refine Kd.C_drewN ?_ _) | (with_reducible refine Kd.C_drew ?_))); (case side4 => exact HC3.out); rintro e w27 ⟨v880, v882, rfl, ho0, ho1, hb⟩; refine ⟨_, rfl, ?_⟩; have n0_ := Aside0.mk (Kd.R_mono (Kd.R_told (Kd.R_told (Kd.R_old (by (with_reducible repeat (first | apply Kd.R_alloc | apply Kd.R_drewN | apply Kd.R_drew)); exact HO865.out) hb) (Kd.R_base ho0)) (Kd.R_base ho1)) (fun _ h_ => h_.1)); have n1_ := Aside0.mk (Kd.R_mono (Kd.R_told (Kd.R_told (Kd.R_old (by (with_reducible repeat (first | apply Kd.R_alloc | apply Kd.R_drewN | apply Kd.R_drew)); exact HO870.out) hb) (Kd.R_base ho0)) (Kd.R_base ho1)) (fun _ h_ => h_.1)); have n2_ := Aside0.mk (Kd.R_mono (Kd.R_told (Kd.R_told (Kd.R_old (by (with_reducible repeat (first | apply Kd.R_alloc | apply Kd.R_drewN | apply Kd.R_drew)); exact HO875.out) hb) (Kd.R_base ho0)) (Kd.R_base ho1)) (fun _ h_ => h_.1)); have n3_ := Aside0.mk (Kd.R_mono (Kd.R_told (Kd.R_told (Kd.R_old (by (with_reducible repeat (first | apply Kd.R_alloc | apply Kd.R_drewN | apply Kd.R_drew)); exact HO877.out) hb) (Kd.R_base ho0)) (Kd.R_base ho1)) (fun _ h_ => h_.1)); have n4_ := Aside0.mk (Kd.R_lower (Kd.R_new' (Kd.R_new' (Kd.R_new' (Kd.R_new' ho0 (Kd.R_lt (by (with_reducible repeat (first | apply Kd.R_alloc | apply Kd.R_drewN | apply Kd.R_drew)); exact HO865.out))) (Kd.R_lt (by (with_reducible repeat (first | apply Kd.R_alloc | apply Kd.R_drewN | apply Kd.R_drew)); exact HO870.out))) (Kd.R_lt (by (with_reducible repeat (first | apply Kd.R_alloc | apply Kd.R_drewN | apply Kd.R_drew)); exact HO875.out))) (Kd.R_lt (by (with_reducible repeat (first | apply Kd.R_alloc | apply Kd.R_drewN | apply Kd.R_drew)); exact HO877.out))) (below_size (by repeat (first | (with_reducible first | exact HB.out | apply below_alloc | apply pw_below_drewN | apply below_drew1) | exact HB.out)))); have n5_ := Aside0.mk (Kd.R_lower (Kd.R_new' (Kd.R_new' (Kd.R_new' (Kd.R_new' ho1 (Kd.R_lt (by (with_reducible repeat (first | apply Kd.R_alloc | apply Kd.R_drewN | apply Kd.R_drew)); exact HO865.out))) (Kd.R_lt (by (with_reducible repeat (first | apply Kd.R_alloc | apply Kd.R_drewN | apply Kd.R_drew)); exact HO870.out))) (Kd.R_lt (by (with_reducible repeat (first | apply Kd.R_alloc | apply Kd.R_drewN | apply Kd.R_drew)); exact HO875.out))) (Kd.R_lt (by (with_reducible repeat (first | apply Kd.R_alloc | apply Kd.R_drewN | apply Kd.R_drew)); exact HO877.out))) (below_size (by repeat (first | (with_reducible first | exact HB.out | apply below_alloc | apply pw_below_drewN | apply below_drew1) | exact HB.out)))); have n6_ := Aside0.mk (below_step (by repeat (first | (with_reducible first | exact HB.out | apply below_alloc | apply pw_below_drewN | apply below_drew1) | exact HB.out)) hb); clear HO865; clear HO870; clear HO875; clear HO877; clear HB; have HO865 := n0_; have HO870 := n1_; have HO875 := n2_; have HO877 := n3_; have HO881 := n4_; have HO883 := n5_; have HB := n6_; clear n0_ n1_ n2_ n3_ n4_ n5_ n6_; (try clear hb); (try clear hb2); (try clear hk); (try clear hi); (try clear ho0); (try clear ho1); obtain ⟨Ao28, co28, eo28⟩ := Kd.R_slice HO881.out; subst eo28) | (go_at_call 52; (with_reducible refine (accountinglaw44_without.calls k1 _ _ t867 a2 t884 _ ?side1 ?side2 A17.out).mono ?_); (case side1 => repeat (first | exact (Kd.R_reads' HO870.out).2.2 | (with_reducible refine Kd.C_alloc ?_ _) | (with_reducible refine Kd.C_drewN ?_ _) | (with_reducible refine Kd.C_drew ?_))); (case side2 => exact (Kd.R_reads' HO870.out).2.1); rintro e w29 ⟨v885, rfl, ho0, hb⟩; have n0_ := Aside0.mk (Kd.R_elder' (by (with_reducible repeat (first | apply Kd.R_alloc | apply Kd.R_drewN | apply Kd.R_drew)); exact HO865.out) (Kd.R_base ho0) hb); have n1_ := Aside0.mk (Kd.R_elder' (by (with_reducible repeat (first | apply Kd.R_alloc | apply Kd.R_drewN | apply Kd.R_drew)); exact HO870.out) (Kd.R_base ho0) hb); have n2_ := Aside0.mk (Kd.R_elder' (by (with_reducible repeat (first | apply Kd.R_alloc | apply Kd.R_drewN | apply Kd.R_drew)); exact HO875.out) (Kd.R_base ho0) hb); have n3_ := Aside0.mk (Kd.R_elder' (by (with_reducible repeat (first | apply Kd.R_alloc | apply Kd.R_drewN | apply Kd.R_drew)); exact HO877.out) (Kd.R_base ho0) hb); have n4_ := Aside0.mk (Kd.R_elder' (by (with_reducible repeat (first | apply Kd.R_alloc | apply Kd.R_drewN | apply Kd.R_drew)); exact HO881.out) (Kd.R_base ho0) hb); have n5_ := Aside0.mk (Kd.R_elder' (by (with_reducible repeat (first | apply Kd.R_alloc | apply Kd.R_drewN | apply Kd.R_drew)); exact HO883.out) (Kd.R_base ho0) hb); have n6_ := Aside0.mk (Kd.R_lower (Kd.R_new' (Kd.R_new' (Kd.R_new' (Kd.R_new' (Kd.R_new' (Kd.R_new' ho0 (Kd.R_lt (by (with_reducible repeat (first | apply Kd.R_alloc | apply Kd.R_drewN | apply Kd.R_drew)); exact HO865.out))) (Kd.R_lt (by (with_reducible repeat (first | apply Kd.R_alloc | apply Kd.R_drewN | apply Kd.R_drew)); exact HO870.out))) (Kd.R_lt (by (with_reducible repeat (first | apply Kd.R_alloc | apply Kd.R_drewN | apply Kd.R_drew)); exact HO875.out))) (Kd.R_lt (by (with_reducible repeat (first | apply Kd.R_alloc | apply Kd.R_drewN | apply Kd.R_drew)); exact HO877.out))) (Kd.R_lt (by (with_reducible repeat (first | apply Kd.R_alloc | apply Kd.R_drewN | apply Kd.R_drew)); exact HO881.out))) (Kd.R_lt (by (with_reducible repeat (first | apply Kd.R_alloc | apply Kd.R_drewN | apply Kd.R_drew)); exact HO883.out))) (below_size (by repeat (first | (with_reducible first | exact HB.out | apply below_alloc | apply pw_below_drewN | apply below_drew1) | exact HB.out)))); have n7_ := Aside0.mk (below_step (by repeat (first | (with_reducible first | exact HB.out | apply below_alloc | apply pw_below_drewN | apply below_drew1) | exact HB.out)) hb); clear HO865; clear HO870; clear HO875; clear HO877; clear HO881; clear HO883; clear HB; have HO865 := n0_; have HO870 := n1_; have HO875 := n2_; have HO877 := n3_; have HO881 := n4_; have HO883 := n5_; have HO886 := n6_; have HB := n7_; clear n0_ n1_ n2_ n3_ n4_ n5_ n6_ n7_; (try clear hb); (try clear hb2); (try clear hk); (try clear hi); (try clear ho0); obtain ⟨Ao30, co30, eo30⟩ := Kd.R_slice HO877.out; subst eo30) | (go_at_call 52; (with_reducible refine (accountinglaw44_without.calls k1 _ _ t873 a2 t887 _ ?side1 ?side2 A18.out).mono ?_); (case side1 => repeat (first | exact (Kd.R_reads' HO877.out).2.2 | (with_reducible refine Kd.C_alloc ?_ _) | (with_reducible refine Kd.C_drewN ?_ _) | (with_reducible refine Kd.C_drew ?_))); (case side2 => exact (Kd.R_reads' HO877.out).2.1); rintro e w31 ⟨v888, rfl, ho0, hb⟩; have n0_ := Aside0.mk (Kd.R_elder' (by (with_reducible repeat (first | apply Kd.R_alloc | apply Kd.R_drewN | apply Kd.R_drew)); exact HO865.out) (Kd.R_base ho0) hb); have n1_ := Aside0.mk (Kd.R_elder' (by (with_reducible repeat (first | apply Kd.R_alloc | apply Kd.R_drewN | apply Kd.R_drew)); exact HO870.out) (Kd.R_base ho0) hb); have n2_ := Aside0.mk (Kd.R_elder' (by (with_reducible repeat (first | apply Kd.R_alloc | apply Kd.R_drewN | apply Kd.R_drew)); exact HO875.out) (Kd.R_base ho0) hb); have n3_ := Aside0.mk (Kd.R_elder' (by (with_reducible repeat (first | apply Kd.R_alloc | apply Kd.R_drewN | apply Kd.R_drew)); exact HO877.out) (Kd.R_base ho0) hb); have n4_ := Aside0.mk (Kd.R_elder' (by (with_reducible repeat (first | apply Kd.R_alloc | apply Kd.R_drewN | apply Kd.R_drew)); exact HO881.out) (Kd.R_base ho0) hb); have n5_ := Aside0.mk (Kd.R_elder' (by (with_reducible repeat (first | apply Kd.R_alloc | apply Kd.R_drewN | apply Kd.R_drew)); exact HO883.out) (Kd.R_base ho0) hb); have n6_ := Aside0.mk (Kd.R_elder' (by (with_reducible repeat (first | apply Kd.R_alloc | apply Kd.R_drewN | apply Kd.R_drew)); exact HO886.out) (Kd.R_base ho0) hb); have n7_ := Aside0.mk (Kd.R_lower (Kd.R_new' (Kd.R_new' (Kd.R_new' (Kd.R_new' (Kd.R_new' (Kd.R_new' (Kd.R_new' ho0 (Kd.R_lt (by (with_reducible repeat (first | apply Kd.R_alloc | apply Kd.R_drewN | apply Kd.R_drew)); exact HO865.out))) (Kd.R_lt (by (with_reducible repeat (first | apply Kd.R_alloc | apply Kd.R_drewN | apply Kd.R_drew)); exact HO870.out))) (Kd.R_lt (by (with_reducible repeat (first | apply Kd.R_alloc | apply Kd.R_drewN | apply Kd.R_drew)); exact HO875.out))) (Kd.R_lt (by (with_reducible repeat (first | apply Kd.R_alloc | apply Kd.R_drewN | apply Kd.R_drew)); exact HO877.out))) (Kd.R_lt (by (with_reducible repeat (first | apply Kd.R_alloc | apply Kd.R_drewN | apply Kd.R_drew)); exact HO881.out))) (Kd.R_lt (by (with_reducible repeat (first | apply Kd.R_alloc | apply Kd.R_drewN | apply Kd.R_drew)); exact HO883.out))) (Kd.R_lt (by (with_reducible repeat (first | apply Kd.R_alloc | apply Kd.R_drewN | apply Kd.R_drew)); exact HO886.out))) (below_size (by repeat (first | (with_reducible first | exact HB.out | apply below_alloc | apply pw_below_drewN | apply below_drew1) | exact HB.out)))); have n8_ := Aside0.mk (below_step (by repeat (first | (with_reducible first | exact HB.out | apply below_alloc | apply pw_below_drewN | apply below_drew1) | exact HB.out)) hb); clear HO865; clear HO870; clear HO875; clear HO877; clear HO881; clear HO883; clear HO886; clear HB; have HO865 := n0_; have HO870 := n1_; have HO875 := n2_; have HO877 := n3_; have HO881 := n4_; have HO883 := n5_; have HO886 := n6_; have HO889 := n7_; have HB := n8_; clear n0_ n1_ n2_ n3_ n4_ n5_ n6_ n7_ n8_; (try clear hb); (try clear hb2); (try clear hk); (try clear hi); (try clear ho0); obtain ⟨Ao32, co32, eo32⟩ := Kd.R_slice HO886.out; subst eo32; obtain ⟨Ao33, co33, eo33⟩ := Kd.R_slice HO889.out; subst eo33) | (go_at_call 21; (with_reducible refine (accountingref19_Same.calls k1 _ _ t884 _ _ t887 true _ ?side1 ?side2 ?side3 ?side4 A19.out).mono ?_); (case side1 => repeat (first | exact (Kd.R_reads' HO886.out).2.2 | (with_reducible refine Kd.C_alloc ?_ _) | (with_reducible refine Kd.C_drewN ?_ _) | (with_reducible refine Kd.C_drew ?_))); (case side2 => exact (Kd.R_reads' HO886.out).2.1); (case side3 => repeat (first | exact (Kd.R_reads' HO889.out).2.2 | (with_reducible refine Kd.C_alloc ?_ _) | (with_reducible refine Kd.C_drewN ?_ _) | (with_reducible refine Kd.C_drew ?_))); (case side4 => exact (Kd.R_reads' HO889.out).2.1); rintro e w' ⟨rfl, ⟨nd, rfl⟩⟩) | (go_at_call 46; (with_reducible refine (accountinglaw44_lives.calls k1  t891 _ A21.out).mono ?_); rintro e w34 ⟨rfl, hb⟩; have n0_ := Aside0.mk (Kd.R_below (by (with_reducible repeat (first | apply Kd.R_alloc | apply Kd.R_drewN | apply Kd.R_drew)); exact HO865.out) hb); have n1_ := Aside0.mk (Kd.R_below (by (with_reducible repeat (first | apply Kd.R_alloc | apply Kd.R_drewN | apply Kd.R_drew)); exact HO870.out) hb); have n2_ := Aside0.mk (Kd.R_below (by (with_reducible repeat (first | apply Kd.R_alloc | apply Kd.R_drewN | apply Kd.R_drew)); exact HO875.out) hb); have n3_ := Aside0.mk (Kd.R_below (by (with_reducible repeat (first | apply Kd.R_alloc | apply Kd.R_drewN | apply Kd.R_drew)); exact HO877.out) hb); have n4_ := Aside0.mk (Kd.R_below (by (with_reducible repeat (first | apply Kd.R_alloc | apply Kd.R_drewN | apply Kd.R_drew)); exact HO881.out) hb); have n5_ := Aside0.mk (Kd.R_below (by (with_reducible repeat (first | apply Kd.R_alloc | apply Kd.R_drewN | apply Kd.R_drew)); exact HO883.out) hb); have n6_ := Aside0.mk (Kd.R_below (by (with_reducible repeat (first | apply Kd.R_alloc | apply Kd.R_drewN | apply Kd.R_drew)); exact HO886.out) hb); have n7_ := Aside0.mk (Kd.R_below (by (with_reducible repeat (first | apply Kd.R_alloc | apply Kd.R_drewN | apply Kd.R_drew)); exact HO889.out) hb); have n8_ := Aside0.mk (below_step (by repeat (first | (with_reducible first | exact HB.out | apply below_alloc | apply pw_below_drewN | apply below_drew1) | exact HB.out)) hb); clear HO865; clear HO870; clear HO875; clear HO877; clear HO881; clear HO883; clear HO886; clear HO889; clear HB; have HO865 := n0_; have HO870 := n1_; have HO875 := n2_; have HO877 := n3_; have HO881 := n4_; have HO883 := n5_; have HO886 := n6_; have HO889 := n7_; have HB := n8_; clear n0_ n1_ n2_ n3_ n4_ n5_ n6_ n7_ n8_; (try clear hb); (try clear hb2); (try clear hk); (try clear hi)))
         go_ret
         exact ⟨by first | rfl | (simp [errW_none, errW_some] <;> rfl) | (simp [*, errW_none, errW_some] <;> rfl), by repeat (first | (with_reducible first | exact HB.out | apply below_alloc | apply pw_below_drewN | apply below_drew1) | exact HB.out)⟩
        ·replace c20 := Bool.eq_false_iff.mpr c20
         subst c20
         have H1 : (some false) = some r := by rw [if_neg (show ¬ (false = true) by decide)] at H; exact H
         clear H
         have H := H1
         clear H1
         obtain rfl := Option.some.inj H
         go_wp2_with (first | ((with_reducible refine gate_callee (f := 50) rfl ?_); refine goesL_ (some 37) rfl rfl Try.func50 (by kernel_rfl) rfl #[.slice A0 l0.length c0, .string a1, .string a2, .slice A3 l3.length c3] rfl (by (try simp only [List.map_toArray, List.map_cons, List.map_nil]); first | done | rfl | (simp only [List.length_drop, List.length_take]; rfl)) ?_; (with_reducible refine (interco_Eliminate.calls k1 _ _ l0 a1 a2 _ _ l3 t862 t863 _ ?side1 ?side2 ?side3 ?side4 A10.out).mono ?_); (case side1 => repeat (first | exact (Kd.C_below HR0.out HB.out) | exact (Kd.C_drewN (Kd.C_below HR0.out HB.out) _) | (with_reducible refine Kd.C_alloc ?_ _) | (with_reducible refine Kd.C_drewN ?_ _) | (with_reducible refine Kd.C_drew ?_))); (case side2 => exact HC0.out); (case side3 => repeat (first | exact (Kd.C_below HR3.out HB.out) | exact (Kd.C_drewN (Kd.C_below HR3.out HB.out) _) | (with_reducible refine Kd.C_alloc ?_ _) | (with_reducible refine Kd.C_drewN ?_ _) | (with_reducible refine Kd.C_drew ?_))); (case side4 => exact HC3.out); rintro e w35 ⟨v864, rfl, ho0, hb⟩; refine ⟨_, rfl, ?_⟩; have n0_ := Aside0.mk (Kd.R_lower ho0 (below_size (by repeat (first | (with_reducible first | exact HB.out | apply below_alloc | apply pw_below_drewN | apply below_drew1) | exact HB.out)))); have n1_ := Aside0.mk (below_step (by repeat (first | (with_reducible first | exact HB.out | apply below_alloc | apply pw_below_drewN | apply below_drew1) | exact HB.out)) hb); clear HB; have HO865 := n0_; have HB := n1_; clear n0_ n1_; (try clear hb); (try clear hb2); (try clear hk); (try clear hi); (try clear ho0); obtain ⟨Ao36, co36, eo36⟩ := Kd.R_slice HO865.out; subst eo36) | ((with_reducible refine gate_callee (f := 39) rfl ?_); refine goesL_ (some 51) rfl rfl Try.func39 (by kernel_rfl) rfl #[.slice A0 l0.length c0, .slice Ao36 t862.length co36] rfl (by (try simp only [List.map_toArray, List.map_cons, List.map_nil]); first | done | rfl | (simp only [List.length_drop, List.length_take]; rfl)) ?_; (with_reducible refine (accountingref19_Add.calls k1 _ _ l0 _ _ t862 t867 t868 _ ?side1 ?side2 ?side3 ?side4 A12.out).mono ?_); (case side1 => repeat (first | exact (Kd.C_below HR0.out HB.out) | exact (Kd.C_drewN (Kd.C_below HR0.out HB.out) _) | (with_reducible refine Kd.C_alloc ?_ _) | (with_reducible refine Kd.C_drewN ?_ _) | (with_reducible refine Kd.C_drew ?_))); (case side2 => exact HC0.out); (case side3 => repeat (first | exact (Kd.R_reads' HO865.out).2.2 | (with_reducible refine Kd.C_alloc ?_ _) | (with_reducible refine Kd.C_drewN ?_ _) | (with_reducible refine Kd.C_drew ?_))); (case side4 => exact (Kd.R_reads' HO865.out).2.1); rintro e w37 ⟨v869, rfl, ho0, hb⟩; refine ⟨_, rfl, ?_⟩; have n0_ := Aside0.mk (Kd.R_elder' (by (with_reducible repeat (first | apply Kd.R_alloc | apply Kd.R_drewN | apply Kd.R_drew)); exact HO865.out) (Kd.R_base ho0) hb); have n1_ := Aside0.mk (Kd.R_lower (Kd.R_new' ho0 (Kd.R_lt (by (with_reducible repeat (first | apply Kd.R_alloc | apply Kd.R_drewN | apply Kd.R_drew)); exact HO865.out))) (below_size (by repeat (first | (with_reducible first | exact HB.out | apply below_alloc | apply pw_below_drewN | apply below_drew1) | exact HB.out)))); have n2_ := Aside0.mk (below_step (by repeat (first | (with_reducible first | exact HB.out | apply below_alloc | apply pw_below_drewN | apply below_drew1) | exact HB.out)) hb); clear HO865; clear HB; have HO865 := n0_; have HO870 := n1_; have HB := n2_; clear n0_ n1_ n2_; (try clear hb); (try clear hb2); (try clear hk); (try clear hi); (try clear ho0)) | ((with_reducible refine gate_callee (f := 45) rfl ?_); refine goesL_ (some 60) rfl rfl Try.func45 (by kernel_rfl) rfl #[.slice A0 l0.length c0, .slice A3 l3.length c3] rfl (by (try simp only [List.map_toArray, List.map_cons, List.map_nil]); first | done | rfl | (simp only [List.length_drop, List.length_take]; rfl)) ?_; (with_reducible refine (accountingref44_Inside.calls k1 _ _ l0 _ _ l3 t872 t873 _ ?side1 ?side2 ?side3 ?side4 A14.out).mono ?_); (case side1 => repeat (first | exact (Kd.C_below HR0.out HB.out) | exact (Kd.C_drewN (Kd.C_below HR0.out HB.out) _) | (with_reducible refine Kd.C_alloc ?_ _) | (with_reducible refine Kd.C_drewN ?_ _) | (with_reducible refine Kd.C_drew ?_))); (case side2 => exact HC0.out); (case side3 => repeat (first | exact (Kd.C_below HR3.out HB.out) | exact (Kd.C_drewN (Kd.C_below HR3.out HB.out) _) | (with_reducible refine Kd.C_alloc ?_ _) | (with_reducible refine Kd.C_drewN ?_ _) | (with_reducible refine Kd.C_drew ?_))); (case side4 => exact HC3.out); rintro e w38 ⟨v874, v876, rfl, ho0, ho1, hb⟩; refine ⟨_, rfl, ?_⟩; have n0_ := Aside0.mk (Kd.R_mono (Kd.R_told (Kd.R_told (Kd.R_old (by (with_reducible repeat (first | apply Kd.R_alloc | apply Kd.R_drewN | apply Kd.R_drew)); exact HO865.out) hb) (Kd.R_base ho0)) (Kd.R_base ho1)) (fun _ h_ => h_.1)); have n1_ := Aside0.mk (Kd.R_mono (Kd.R_told (Kd.R_told (Kd.R_old (by (with_reducible repeat (first | apply Kd.R_alloc | apply Kd.R_drewN | apply Kd.R_drew)); exact HO870.out) hb) (Kd.R_base ho0)) (Kd.R_base ho1)) (fun _ h_ => h_.1)); have n2_ := Aside0.mk (Kd.R_lower (Kd.R_new' (Kd.R_new' ho0 (Kd.R_lt (by (with_reducible repeat (first | apply Kd.R_alloc | apply Kd.R_drewN | apply Kd.R_drew)); exact HO865.out))) (Kd.R_lt (by (with_reducible repeat (first | apply Kd.R_alloc | apply Kd.R_drewN | apply Kd.R_drew)); exact HO870.out))) (below_size (by repeat (first | (with_reducible first | exact HB.out | apply below_alloc | apply pw_below_drewN | apply below_drew1) | exact HB.out)))); have n3_ := Aside0.mk (Kd.R_lower (Kd.R_new' (Kd.R_new' ho1 (Kd.R_lt (by (with_reducible repeat (first | apply Kd.R_alloc | apply Kd.R_drewN | apply Kd.R_drew)); exact HO865.out))) (Kd.R_lt (by (with_reducible repeat (first | apply Kd.R_alloc | apply Kd.R_drewN | apply Kd.R_drew)); exact HO870.out))) (below_size (by repeat (first | (with_reducible first | exact HB.out | apply below_alloc | apply pw_below_drewN | apply below_drew1) | exact HB.out)))); have n4_ := Aside0.mk (below_step (by repeat (first | (with_reducible first | exact HB.out | apply below_alloc | apply pw_below_drewN | apply below_drew1) | exact HB.out)) hb); clear HO865; clear HO870; clear HB; have HO865 := n0_; have HO870 := n1_; have HO875 := n2_; have HO877 := n3_; have HB := n4_; clear n0_ n1_ n2_ n3_ n4_; (try clear hb); (try clear hb2); (try clear hk); (try clear hi); (try clear ho0); (try clear ho1); obtain ⟨Ao39, co39, eo39⟩ := Kd.R_slice HO870.out; subst eo39) | ((with_reducible refine gate_callee (f := 44) rfl ?_); refine goesL_ (some 66) rfl rfl Try.func44 (by kernel_rfl) rfl #[.slice Ao39 t867.length co39, .slice A3 l3.length c3] rfl (by (try simp only [List.map_toArray, List.map_cons, List.map_nil]); first | done | rfl | (simp only [List.length_drop, List.length_take]; rfl)) ?_; (with_reducible refine (interco_Inside.calls k1 _ _ t867 _ _ l3 t878 t879 _ ?side1 ?side2 ?side3 ?side4 A15.out).mono ?_); (case side1 => repeat (first | exact (Kd.R_reads' HO870.out).2.2 | (with_reducible refine Kd.C_alloc ?_ _) | (with_reducible refine Kd.C_drewN ?_ _) | (with_reducible refine Kd.C_drew ?_))); (case side2 => exact (Kd.R_reads' HO870.out).2.1); (case side3 => repeat (first | exact (Kd.C_below HR3.out HB.out) | exact (Kd.C_drewN (Kd.C_below HR3.out HB.out) _) | (with_reducible refine Kd.C_alloc ?_ _) | (with_reducible refine Kd.C_drewN ?_ _) | (with_reducible refine Kd.C_drew ?_))); (case side4 => exact HC3.out); rintro e w40 ⟨v880, v882, rfl, ho0, ho1, hb⟩; refine ⟨_, rfl, ?_⟩; have n0_ := Aside0.mk (Kd.R_mono (Kd.R_told (Kd.R_told (Kd.R_old (by (with_reducible repeat (first | apply Kd.R_alloc | apply Kd.R_drewN | apply Kd.R_drew)); exact HO865.out) hb) (Kd.R_base ho0)) (Kd.R_base ho1)) (fun _ h_ => h_.1)); have n1_ := Aside0.mk (Kd.R_mono (Kd.R_told (Kd.R_told (Kd.R_old (by (with_reducible repeat (first | apply Kd.R_alloc | apply Kd.R_drewN | apply Kd.R_drew)); exact HO870.out) hb) (Kd.R_base ho0)) (Kd.R_base ho1)) (fun _ h_ => h_.1)); have n2_ := Aside0.mk (Kd.R_mono (Kd.R_told (Kd.R_told (Kd.R_old (by (with_reducible repeat (first | apply Kd.R_alloc | apply Kd.R_drewN | apply Kd.R_drew)); exact HO875.out) hb) (Kd.R_base ho0)) (Kd.R_base ho1)) (fun _ h_ => h_.1)); have n3_ := Aside0.mk (Kd.R_mono (Kd.R_told (Kd.R_told (Kd.R_old (by (with_reducible repeat (first | apply Kd.R_alloc | apply Kd.R_drewN | apply Kd.R_drew)); exact HO877.out) hb) (Kd.R_base ho0)) (Kd.R_base ho1)) (fun _ h_ => h_.1)); have n4_ := Aside0.mk (Kd.R_lower (Kd.R_new' (Kd.R_new' (Kd.R_new' (Kd.R_new' ho0 (Kd.R_lt (by (with_reducible repeat (first | apply Kd.R_alloc | apply Kd.R_drewN | apply Kd.R_drew)); exact HO865.out))) (Kd.R_lt (by (with_reducible repeat (first | apply Kd.R_alloc | apply Kd.R_drewN | apply Kd.R_drew)); exact HO870.out))) (Kd.R_lt (by (with_reducible repeat (first | apply Kd.R_alloc | apply Kd.R_drewN | apply Kd.R_drew)); exact HO875.out))) (Kd.R_lt (by (with_reducible repeat (first | apply Kd.R_alloc | apply Kd.R_drewN | apply Kd.R_drew)); exact HO877.out))) (below_size (by repeat (first | (with_reducible first | exact HB.out | apply below_alloc | apply pw_below_drewN | apply below_drew1) | exact HB.out)))); have n5_ := Aside0.mk (Kd.R_lower (Kd.R_new' (Kd.R_new' (Kd.R_new' (Kd.R_new' ho1 (Kd.R_lt (by (with_reducible repeat (first | apply Kd.R_alloc | apply Kd.R_drewN | apply Kd.R_drew)); exact HO865.out))) (Kd.R_lt (by (with_reducible repeat (first | apply Kd.R_alloc | apply Kd.R_drewN | apply Kd.R_drew)); exact HO870.out))) (Kd.R_lt (by (with_reducible repeat (first | apply Kd.R_alloc | apply Kd.R_drewN | apply Kd.R_drew)); exact HO875.out))) (Kd.R_lt (by (with_reducible repeat (first | apply Kd.R_alloc | apply Kd.R_drewN | apply Kd.R_drew)); exact HO877.out))) (below_size (by repeat (first | (with_reducible first | exact HB.out | apply below_alloc | apply pw_below_drewN | apply below_drew1) | exact HB.out)))); have n6_ := Aside0.mk (below_step (by repeat (first | (with_reducible first | exact HB.out | apply below_alloc | apply pw_below_drewN | apply below_drew1) | exact HB.out)) hb); clear HO865; clear HO870; clear HO875; clear HO877; clear HB; have HO865 := n0_; have HO870 := n1_; have HO875 := n2_; have HO877 := n3_; have HO881 := n4_; have HO883 := n5_; have HB := n6_; clear n0_ n1_ n2_ n3_ n4_ n5_ n6_; (try clear hb); (try clear hb2); (try clear hk); (try clear hi); (try clear ho0); (try clear ho1); obtain ⟨Ao41, co41, eo41⟩ := Kd.R_slice HO881.out; subst eo41) | (go_at_call 52; (with_reducible refine (accountinglaw44_without.calls k1 _ _ t867 a2 t884 _ ?side1 ?side2 A17.out).mono ?_); (case side1 => repeat (first | exact (Kd.R_reads' HO870.out).2.2 | (with_reducible refine Kd.C_alloc ?_ _) | (with_reducible refine Kd.C_drewN ?_ _) | (with_reducible refine Kd.C_drew ?_))); (case side2 => exact (Kd.R_reads' HO870.out).2.1); rintro e w42 ⟨v885, rfl, ho0, hb⟩; have n0_ := Aside0.mk (Kd.R_elder' (by (with_reducible repeat (first | apply Kd.R_alloc | apply Kd.R_drewN | apply Kd.R_drew)); exact HO865.out) (Kd.R_base ho0) hb); have n1_ := Aside0.mk (Kd.R_elder' (by (with_reducible repeat (first | apply Kd.R_alloc | apply Kd.R_drewN | apply Kd.R_drew)); exact HO870.out) (Kd.R_base ho0) hb); have n2_ := Aside0.mk (Kd.R_elder' (by (with_reducible repeat (first | apply Kd.R_alloc | apply Kd.R_drewN | apply Kd.R_drew)); exact HO875.out) (Kd.R_base ho0) hb); have n3_ := Aside0.mk (Kd.R_elder' (by (with_reducible repeat (first | apply Kd.R_alloc | apply Kd.R_drewN | apply Kd.R_drew)); exact HO877.out) (Kd.R_base ho0) hb); have n4_ := Aside0.mk (Kd.R_elder' (by (with_reducible repeat (first | apply Kd.R_alloc | apply Kd.R_drewN | apply Kd.R_drew)); exact HO881.out) (Kd.R_base ho0) hb); have n5_ := Aside0.mk (Kd.R_elder' (by (with_reducible repeat (first | apply Kd.R_alloc | apply Kd.R_drewN | apply Kd.R_drew)); exact HO883.out) (Kd.R_base ho0) hb); have n6_ := Aside0.mk (Kd.R_lower (Kd.R_new' (Kd.R_new' (Kd.R_new' (Kd.R_new' (Kd.R_new' (Kd.R_new' ho0 (Kd.R_lt (by (with_reducible repeat (first | apply Kd.R_alloc | apply Kd.R_drewN | apply Kd.R_drew)); exact HO865.out))) (Kd.R_lt (by (with_reducible repeat (first | apply Kd.R_alloc | apply Kd.R_drewN | apply Kd.R_drew)); exact HO870.out))) (Kd.R_lt (by (with_reducible repeat (first | apply Kd.R_alloc | apply Kd.R_drewN | apply Kd.R_drew)); exact HO875.out))) (Kd.R_lt (by (with_reducible repeat (first | apply Kd.R_alloc | apply Kd.R_drewN | apply Kd.R_drew)); exact HO877.out))) (Kd.R_lt (by (with_reducible repeat (first | apply Kd.R_alloc | apply Kd.R_drewN | apply Kd.R_drew)); exact HO881.out))) (Kd.R_lt (by (with_reducible repeat (first | apply Kd.R_alloc | apply Kd.R_drewN | apply Kd.R_drew)); exact HO883.out))) (below_size (by repeat (first | (with_reducible first | exact HB.out | apply below_alloc | apply pw_below_drewN | apply below_drew1) | exact HB.out)))); have n7_ := Aside0.mk (below_step (by repeat (first | (with_reducible first | exact HB.out | apply below_alloc | apply pw_below_drewN | apply below_drew1) | exact HB.out)) hb); clear HO865; clear HO870; clear HO875; clear HO877; clear HO881; clear HO883; clear HB; have HO865 := n0_; have HO870 := n1_; have HO875 := n2_; have HO877 := n3_; have HO881 := n4_; have HO883 := n5_; have HO886 := n6_; have HB := n7_; clear n0_ n1_ n2_ n3_ n4_ n5_ n6_ n7_; (try clear hb); (try clear hb2); (try clear hk); (try clear hi); (try clear ho0); obtain ⟨Ao43, co43, eo43⟩ := Kd.R_slice HO877.out; subst eo43) | (go_at_call 52; (with_reducible refine (accountinglaw44_without.calls k1 _ _ t873 a2 t887 _ ?side1 ?side2 A18.out).mono ?_); (case side1 => repeat (first | exact (Kd.R_reads' HO877.out).2.2 | (with_reducible refine Kd.C_alloc ?_ _) | (with_reducible refine Kd.C_drewN ?_ _) | (with_reducible refine Kd.C_drew ?_))); (case side2 => exact (Kd.R_reads' HO877.out).2.1); rintro e w44 ⟨v888, rfl, ho0, hb⟩; have n0_ := Aside0.mk (Kd.R_elder' (by (with_reducible repeat (first | apply Kd.R_alloc | apply Kd.R_drewN | apply Kd.R_drew)); exact HO865.out) (Kd.R_base ho0) hb); have n1_ := Aside0.mk (Kd.R_elder' (by (with_reducible repeat (first | apply Kd.R_alloc | apply Kd.R_drewN | apply Kd.R_drew)); exact HO870.out) (Kd.R_base ho0) hb); have n2_ := Aside0.mk (Kd.R_elder' (by (with_reducible repeat (first | apply Kd.R_alloc | apply Kd.R_drewN | apply Kd.R_drew)); exact HO875.out) (Kd.R_base ho0) hb); have n3_ := Aside0.mk (Kd.R_elder' (by (with_reducible repeat (first | apply Kd.R_alloc | apply Kd.R_drewN | apply Kd.R_drew)); exact HO877.out) (Kd.R_base ho0) hb); have n4_ := Aside0.mk (Kd.R_elder' (by (with_reducible repeat (first | apply Kd.R_alloc | apply Kd.R_drewN | apply Kd.R_drew)); exact HO881.out) (Kd.R_base ho0) hb); have n5_ := Aside0.mk (Kd.R_elder' (by (with_reducible repeat (first | apply Kd.R_alloc | apply Kd.R_drewN | apply Kd.R_drew)); exact HO883.out) (Kd.R_base ho0) hb); have n6_ := Aside0.mk (Kd.R_elder' (by (with_reducible repeat (first | apply Kd.R_alloc | apply Kd.R_drewN | apply Kd.R_drew)); exact HO886.out) (Kd.R_base ho0) hb); have n7_ := Aside0.mk (Kd.R_lower (Kd.R_new' (Kd.R_new' (Kd.R_new' (Kd.R_new' (Kd.R_new' (Kd.R_new' (Kd.R_new' ho0 (Kd.R_lt (by (with_reducible repeat (first | apply Kd.R_alloc | apply Kd.R_drewN | apply Kd.R_drew)); exact HO865.out))) (Kd.R_lt (by (with_reducible repeat (first | apply Kd.R_alloc | apply Kd.R_drewN | apply Kd.R_drew)); exact HO870.out))) (Kd.R_lt (by (with_reducible repeat (first | apply Kd.R_alloc | apply Kd.R_drewN | apply Kd.R_drew)); exact HO875.out))) (Kd.R_lt (by (with_reducible repeat (first | apply Kd.R_alloc | apply Kd.R_drewN | apply Kd.R_drew)); exact HO877.out))) (Kd.R_lt (by (with_reducible repeat (first | apply Kd.R_alloc | apply Kd.R_drewN | apply Kd.R_drew)); exact HO881.out))) (Kd.R_lt (by (with_reducible repeat (first | apply Kd.R_alloc | apply Kd.R_drewN | apply Kd.R_drew)); exact HO883.out))) (Kd.R_lt (by (with_reducible repeat (first | apply Kd.R_alloc | apply Kd.R_drewN | apply Kd.R_drew)); exact HO886.out))) (below_size (by repeat (first | (with_reducible first | exact HB.out | apply below_alloc | apply pw_below_drewN | apply below_drew1) | exact HB.out)))); have n8_ := Aside0.mk (below_step (by repeat (first | (with_reducible first | exact HB.out | apply below_alloc | apply pw_below_drewN | apply below_drew1) | exact HB.out)) hb); clear HO865; clear HO870; clear HO875; clear HO877; clear HO881; clear HO883; clear HO886; clear HB; have HO865 := n0_; have HO870 := n1_; have HO875 := n2_; have HO877 := n3_; have HO881 := n4_; have HO883 := n5_; have HO886 := n6_; have HO889 := n7_; have HB := n8_; clear n0_ n1_ n2_ n3_ n4_ n5_ n6_ n7_ n8_; (try clear hb); (try clear hb2); (try clear hk); (try clear hi); (try clear ho0); obtain ⟨Ao45, co45, eo45⟩ := Kd.R_slice HO886.out; subst eo45; obtain ⟨Ao46, co46, eo46⟩ := Kd.R_slice HO889.out; subst eo46) | (go_at_call 21; (with_reducible refine (accountingref19_Same.calls k1 _ _ t884 _ _ t887 false _ ?side1 ?side2 ?side3 ?side4 A19.out).mono ?_); (case side1 => repeat (first | exact (Kd.R_reads' HO886.out).2.2 | (with_reducible refine Kd.C_alloc ?_ _) | (with_reducible refine Kd.C_drewN ?_ _) | (with_reducible refine Kd.C_drew ?_))); (case side2 => exact (Kd.R_reads' HO886.out).2.1); (case side3 => repeat (first | exact (Kd.R_reads' HO889.out).2.2 | (with_reducible refine Kd.C_alloc ?_ _) | (with_reducible refine Kd.C_drewN ?_ _) | (with_reducible refine Kd.C_drew ?_))); (case side4 => exact (Kd.R_reads' HO889.out).2.1); rintro e w' ⟨rfl, ⟨nd, rfl⟩⟩))
         go_ret
         exact ⟨by first | rfl | (simp [errW_none, errW_some] <;> rfl) | (simp [*, errW_none, errW_some] <;> rfl), by repeat (first | (with_reducible first | exact HB.out | apply below_alloc | apply pw_below_drewN | apply below_drew1) | exact HB.out)⟩
       ·rw [if_neg c16] at H
        have c16b0 : ((t878.length : Int) == 0) = false := beq_eq_false_iff_ne.mpr c16
        have c16b1 : ((t878.length : Int) != 0) = true := bne_iff_ne.mpr c16
        have c16b2 : ¬ (t878 = []) := fun h_ => c16 (by rw [h_]; rfl)
        obtain rfl := Option.some.inj H
        go_wp2_with (first | ((with_reducible refine gate_callee (f := 50) rfl ?_); refine goesL_ (some 37) rfl rfl Try.func50 (by kernel_rfl) rfl #[.slice A0 l0.length c0, .string a1, .string a2, .slice A3 l3.length c3] rfl (by (try simp only [List.map_toArray, List.map_cons, List.map_nil]); first | done | rfl | (simp only [List.length_drop, List.length_take]; rfl)) ?_; (with_reducible refine (interco_Eliminate.calls k1 _ _ l0 a1 a2 _ _ l3 t862 t863 _ ?side1 ?side2 ?side3 ?side4 A10.out).mono ?_); (case side1 => repeat (first | exact (Kd.C_below HR0.out HB.out) | exact (Kd.C_drewN (Kd.C_below HR0.out HB.out) _) | (with_reducible refine Kd.C_alloc ?_ _) | (with_reducible refine Kd.C_drewN ?_ _) | (with_reducible refine Kd.C_drew ?_))); (case side2 => exact HC0.out); (case side3 => repeat (first | exact (Kd.C_below HR3.out HB.out) | exact (Kd.C_drewN (Kd.C_below HR3.out HB.out) _) | (with_reducible refine Kd.C_alloc ?_ _) | (with_reducible refine Kd.C_drewN ?_ _) | (with_reducible refine Kd.C_drew ?_))); (case side4 => exact HC3.out); rintro e w47 ⟨v864, rfl, ho0, hb⟩; refine ⟨_, rfl, ?_⟩; have n0_ := Aside0.mk (Kd.R_lower ho0 (below_size (by repeat (first | (with_reducible first | exact HB.out | apply below_alloc | apply pw_below_drewN | apply below_drew1) | exact HB.out)))); have n1_ := Aside0.mk (below_step (by repeat (first | (with_reducible first | exact HB.out | apply below_alloc | apply pw_below_drewN | apply below_drew1) | exact HB.out)) hb); clear HB; have HO865 := n0_; have HB := n1_; clear n0_ n1_; (try clear hb); (try clear hb2); (try clear hk); (try clear hi); (try clear ho0); obtain ⟨Ao48, co48, eo48⟩ := Kd.R_slice HO865.out; subst eo48) | ((with_reducible refine gate_callee (f := 39) rfl ?_); refine goesL_ (some 51) rfl rfl Try.func39 (by kernel_rfl) rfl #[.slice A0 l0.length c0, .slice Ao48 t862.length co48] rfl (by (try simp only [List.map_toArray, List.map_cons, List.map_nil]); first | done | rfl | (simp only [List.length_drop, List.length_take]; rfl)) ?_; (with_reducible refine (accountingref19_Add.calls k1 _ _ l0 _ _ t862 t867 t868 _ ?side1 ?side2 ?side3 ?side4 A12.out).mono ?_); (case side1 => repeat (first | exact (Kd.C_below HR0.out HB.out) | exact (Kd.C_drewN (Kd.C_below HR0.out HB.out) _) | (with_reducible refine Kd.C_alloc ?_ _) | (with_reducible refine Kd.C_drewN ?_ _) | (with_reducible refine Kd.C_drew ?_))); (case side2 => exact HC0.out); (case side3 => repeat (first | exact (Kd.R_reads' HO865.out).2.2 | (with_reducible refine Kd.C_alloc ?_ _) | (with_reducible refine Kd.C_drewN ?_ _) | (with_reducible refine Kd.C_drew ?_))); (case side4 => exact (Kd.R_reads' HO865.out).2.1); rintro e w49 ⟨v869, rfl, ho0, hb⟩; refine ⟨_, rfl, ?_⟩; have n0_ := Aside0.mk (Kd.R_elder' (by (with_reducible repeat (first | apply Kd.R_alloc | apply Kd.R_drewN | apply Kd.R_drew)); exact HO865.out) (Kd.R_base ho0) hb); have n1_ := Aside0.mk (Kd.R_lower (Kd.R_new' ho0 (Kd.R_lt (by (with_reducible repeat (first | apply Kd.R_alloc | apply Kd.R_drewN | apply Kd.R_drew)); exact HO865.out))) (below_size (by repeat (first | (with_reducible first | exact HB.out | apply below_alloc | apply pw_below_drewN | apply below_drew1) | exact HB.out)))); have n2_ := Aside0.mk (below_step (by repeat (first | (with_reducible first | exact HB.out | apply below_alloc | apply pw_below_drewN | apply below_drew1) | exact HB.out)) hb); clear HO865; clear HB; have HO865 := n0_; have HO870 := n1_; have HB := n2_; clear n0_ n1_ n2_; (try clear hb); (try clear hb2); (try clear hk); (try clear hi); (try clear ho0)) | ((with_reducible refine gate_callee (f := 45) rfl ?_); refine goesL_ (some 60) rfl rfl Try.func45 (by kernel_rfl) rfl #[.slice A0 l0.length c0, .slice A3 l3.length c3] rfl (by (try simp only [List.map_toArray, List.map_cons, List.map_nil]); first | done | rfl | (simp only [List.length_drop, List.length_take]; rfl)) ?_; (with_reducible refine (accountingref44_Inside.calls k1 _ _ l0 _ _ l3 t872 t873 _ ?side1 ?side2 ?side3 ?side4 A14.out).mono ?_); (case side1 => repeat (first | exact (Kd.C_below HR0.out HB.out) | exact (Kd.C_drewN (Kd.C_below HR0.out HB.out) _) | (with_reducible refine Kd.C_alloc ?_ _) | (with_reducible refine Kd.C_drewN ?_ _) | (with_reducible refine Kd.C_drew ?_))); (case side2 => exact HC0.out); (case side3 => repeat (first | exact (Kd.C_below HR3.out HB.out) | exact (Kd.C_drewN (Kd.C_below HR3.out HB.out) _) | (with_reducible refine Kd.C_alloc ?_ _) | (with_reducible refine Kd.C_drewN ?_ _) | (with_reducible refine Kd.C_drew ?_))); (case side4 => exact HC3.out); rintro e w50 ⟨v874, v876, rfl, ho0, ho1, hb⟩; refine ⟨_, rfl, ?_⟩; have n0_ := Aside0.mk (Kd.R_mono (Kd.R_told (Kd.R_told (Kd.R_old (by (with_reducible repeat (first | apply Kd.R_alloc | apply Kd.R_drewN | apply Kd.R_drew)); exact HO865.out) hb) (Kd.R_base ho0)) (Kd.R_base ho1)) (fun _ h_ => h_.1)); have n1_ := Aside0.mk (Kd.R_mono (Kd.R_told (Kd.R_told (Kd.R_old (by (with_reducible repeat (first | apply Kd.R_alloc | apply Kd.R_drewN | apply Kd.R_drew)); exact HO870.out) hb) (Kd.R_base ho0)) (Kd.R_base ho1)) (fun _ h_ => h_.1)); have n2_ := Aside0.mk (Kd.R_lower (Kd.R_new' (Kd.R_new' ho0 (Kd.R_lt (by (with_reducible repeat (first | apply Kd.R_alloc | apply Kd.R_drewN | apply Kd.R_drew)); exact HO865.out))) (Kd.R_lt (by (with_reducible repeat (first | apply Kd.R_alloc | apply Kd.R_drewN | apply Kd.R_drew)); exact HO870.out))) (below_size (by repeat (first | (with_reducible first | exact HB.out | apply below_alloc | apply pw_below_drewN | apply below_drew1) | exact HB.out)))); have n3_ := Aside0.mk (Kd.R_lower (Kd.R_new' (Kd.R_new' ho1 (Kd.R_lt (by (with_reducible repeat (first | apply Kd.R_alloc | apply Kd.R_drewN | apply Kd.R_drew)); exact HO865.out))) (Kd.R_lt (by (with_reducible repeat (first | apply Kd.R_alloc | apply Kd.R_drewN | apply Kd.R_drew)); exact HO870.out))) (below_size (by repeat (first | (with_reducible first | exact HB.out | apply below_alloc | apply pw_below_drewN | apply below_drew1) | exact HB.out)))); have n4_ := Aside0.mk (below_step (by repeat (first | (with_reducible first | exact HB.out | apply below_alloc | apply pw_below_drewN | apply below_drew1) | exact HB.out)) hb); clear HO865; clear HO870; clear HB; have HO865 := n0_; have HO870 := n1_; have HO875 := n2_; have HO877 := n3_; have HB := n4_; clear n0_ n1_ n2_ n3_ n4_; (try clear hb); (try clear hb2); (try clear hk); (try clear hi); (try clear ho0); (try clear ho1); obtain ⟨Ao51, co51, eo51⟩ := Kd.R_slice HO870.out; subst eo51) | ((with_reducible refine gate_callee (f := 44) rfl ?_); refine goesL_ (some 66) rfl rfl Try.func44 (by kernel_rfl) rfl #[.slice Ao51 t867.length co51, .slice A3 l3.length c3] rfl (by (try simp only [List.map_toArray, List.map_cons, List.map_nil]); first | done | rfl | (simp only [List.length_drop, List.length_take]; rfl)) ?_; (with_reducible refine (interco_Inside.calls k1 _ _ t867 _ _ l3 t878 t879 _ ?side1 ?side2 ?side3 ?side4 A15.out).mono ?_); (case side1 => repeat (first | exact (Kd.R_reads' HO870.out).2.2 | (with_reducible refine Kd.C_alloc ?_ _) | (with_reducible refine Kd.C_drewN ?_ _) | (with_reducible refine Kd.C_drew ?_))); (case side2 => exact (Kd.R_reads' HO870.out).2.1); (case side3 => repeat (first | exact (Kd.C_below HR3.out HB.out) | exact (Kd.C_drewN (Kd.C_below HR3.out HB.out) _) | (with_reducible refine Kd.C_alloc ?_ _) | (with_reducible refine Kd.C_drewN ?_ _) | (with_reducible refine Kd.C_drew ?_))); (case side4 => exact HC3.out); rintro e w52 ⟨v880, v882, rfl, ho0, ho1, hb⟩; refine ⟨_, rfl, ?_⟩; have n0_ := Aside0.mk (Kd.R_mono (Kd.R_told (Kd.R_told (Kd.R_old (by (with_reducible repeat (first | apply Kd.R_alloc | apply Kd.R_drewN | apply Kd.R_drew)); exact HO865.out) hb) (Kd.R_base ho0)) (Kd.R_base ho1)) (fun _ h_ => h_.1)); have n1_ := Aside0.mk (Kd.R_mono (Kd.R_told (Kd.R_told (Kd.R_old (by (with_reducible repeat (first | apply Kd.R_alloc | apply Kd.R_drewN | apply Kd.R_drew)); exact HO870.out) hb) (Kd.R_base ho0)) (Kd.R_base ho1)) (fun _ h_ => h_.1)); have n2_ := Aside0.mk (Kd.R_mono (Kd.R_told (Kd.R_told (Kd.R_old (by (with_reducible repeat (first | apply Kd.R_alloc | apply Kd.R_drewN | apply Kd.R_drew)); exact HO875.out) hb) (Kd.R_base ho0)) (Kd.R_base ho1)) (fun _ h_ => h_.1)); have n3_ := Aside0.mk (Kd.R_mono (Kd.R_told (Kd.R_told (Kd.R_old (by (with_reducible repeat (first | apply Kd.R_alloc | apply Kd.R_drewN | apply Kd.R_drew)); exact HO877.out) hb) (Kd.R_base ho0)) (Kd.R_base ho1)) (fun _ h_ => h_.1)); have n4_ := Aside0.mk (Kd.R_lower (Kd.R_new' (Kd.R_new' (Kd.R_new' (Kd.R_new' ho0 (Kd.R_lt (by (with_reducible repeat (first | apply Kd.R_alloc | apply Kd.R_drewN | apply Kd.R_drew)); exact HO865.out))) (Kd.R_lt (by (with_reducible repeat (first | apply Kd.R_alloc | apply Kd.R_drewN | apply Kd.R_drew)); exact HO870.out))) (Kd.R_lt (by (with_reducible repeat (first | apply Kd.R_alloc | apply Kd.R_drewN | apply Kd.R_drew)); exact HO875.out))) (Kd.R_lt (by (with_reducible repeat (first | apply Kd.R_alloc | apply Kd.R_drewN | apply Kd.R_drew)); exact HO877.out))) (below_size (by repeat (first | (with_reducible first | exact HB.out | apply below_alloc | apply pw_below_drewN | apply below_drew1) | exact HB.out)))); have n5_ := Aside0.mk (Kd.R_lower (Kd.R_new' (Kd.R_new' (Kd.R_new' (Kd.R_new' ho1 (Kd.R_lt (by (with_reducible repeat (first | apply Kd.R_alloc | apply Kd.R_drewN | apply Kd.R_drew)); exact HO865.out))) (Kd.R_lt (by (with_reducible repeat (first | apply Kd.R_alloc | apply Kd.R_drewN | apply Kd.R_drew)); exact HO870.out))) (Kd.R_lt (by (with_reducible repeat (first | apply Kd.R_alloc | apply Kd.R_drewN | apply Kd.R_drew)); exact HO875.out))) (Kd.R_lt (by (with_reducible repeat (first | apply Kd.R_alloc | apply Kd.R_drewN | apply Kd.R_drew)); exact HO877.out))) (below_size (by repeat (first | (with_reducible first | exact HB.out | apply below_alloc | apply pw_below_drewN | apply below_drew1) | exact HB.out)))); have n6_ := Aside0.mk (below_step (by repeat (first | (with_reducible first | exact HB.out | apply below_alloc | apply pw_below_drewN | apply below_drew1) | exact HB.out)) hb); clear HO865; clear HO870; clear HO875; clear HO877; clear HB; have HO865 := n0_; have HO870 := n1_; have HO875 := n2_; have HO877 := n3_; have HO881 := n4_; have HO883 := n5_; have HB := n6_; clear n0_ n1_ n2_ n3_ n4_ n5_ n6_; (try clear hb); (try clear hb2); (try clear hk); (try clear hi); (try clear ho0); (try clear ho1); obtain ⟨Ao53, co53, eo53⟩ := Kd.R_slice HO881.out; subst eo53))
        go_ret
        exact ⟨by first | rfl | (simp [errW_none, errW_some] <;> rfl) | (simp [*, errW_none, errW_some] <;> rfl), by repeat (first | (with_reducible first | exact HB.out | apply below_alloc | apply pw_below_drewN | apply below_drew1) | exact HB.out)⟩
      ·rw [if_neg c13] at H
       have c13b0 : (t868 == 0) = false := beq_eq_false_iff_ne.mpr c13
       have c13b1 : (t868 != 0) = true := bne_iff_ne.mpr c13
       replace H := Option.bind_eq_some_iff.mp H
       obtain ⟨t871, A540, H⟩ := H
       replace H : (some t871) = some r := H
       have A54 := Aside0.mk A540
       clear A540
       obtain rfl := Option.some.inj H
       go_wp2_with (first | ((with_reducible refine gate_callee (f := 50) rfl ?_); refine goesL_ (some 37) rfl rfl Try.func50 (by kernel_rfl) rfl #[.slice A0 l0.length c0, .string a1, .string a2, .slice A3 l3.length c3] rfl (by (try simp only [List.map_toArray, List.map_cons, List.map_nil]); first | done | rfl | (simp only [List.length_drop, List.length_take]; rfl)) ?_; (with_reducible refine (interco_Eliminate.calls k1 _ _ l0 a1 a2 _ _ l3 t862 t863 _ ?side1 ?side2 ?side3 ?side4 A10.out).mono ?_); (case side1 => repeat (first | exact (Kd.C_below HR0.out HB.out) | exact (Kd.C_drewN (Kd.C_below HR0.out HB.out) _) | (with_reducible refine Kd.C_alloc ?_ _) | (with_reducible refine Kd.C_drewN ?_ _) | (with_reducible refine Kd.C_drew ?_))); (case side2 => exact HC0.out); (case side3 => repeat (first | exact (Kd.C_below HR3.out HB.out) | exact (Kd.C_drewN (Kd.C_below HR3.out HB.out) _) | (with_reducible refine Kd.C_alloc ?_ _) | (with_reducible refine Kd.C_drewN ?_ _) | (with_reducible refine Kd.C_drew ?_))); (case side4 => exact HC3.out); rintro e w55 ⟨v864, rfl, ho0, hb⟩; refine ⟨_, rfl, ?_⟩; have n0_ := Aside0.mk (Kd.R_lower ho0 (below_size (by repeat (first | (with_reducible first | exact HB.out | apply below_alloc | apply pw_below_drewN | apply below_drew1) | exact HB.out)))); have n1_ := Aside0.mk (below_step (by repeat (first | (with_reducible first | exact HB.out | apply below_alloc | apply pw_below_drewN | apply below_drew1) | exact HB.out)) hb); clear HB; have HO865 := n0_; have HB := n1_; clear n0_ n1_; (try clear hb); (try clear hb2); (try clear hk); (try clear hi); (try clear ho0); obtain ⟨Ao56, co56, eo56⟩ := Kd.R_slice HO865.out; subst eo56) | ((with_reducible refine gate_callee (f := 39) rfl ?_); refine goesL_ (some 51) rfl rfl Try.func39 (by kernel_rfl) rfl #[.slice A0 l0.length c0, .slice Ao56 t862.length co56] rfl (by (try simp only [List.map_toArray, List.map_cons, List.map_nil]); first | done | rfl | (simp only [List.length_drop, List.length_take]; rfl)) ?_; (with_reducible refine (accountingref19_Add.calls k1 _ _ l0 _ _ t862 t867 t868 _ ?side1 ?side2 ?side3 ?side4 A12.out).mono ?_); (case side1 => repeat (first | exact (Kd.C_below HR0.out HB.out) | exact (Kd.C_drewN (Kd.C_below HR0.out HB.out) _) | (with_reducible refine Kd.C_alloc ?_ _) | (with_reducible refine Kd.C_drewN ?_ _) | (with_reducible refine Kd.C_drew ?_))); (case side2 => exact HC0.out); (case side3 => repeat (first | exact (Kd.R_reads' HO865.out).2.2 | (with_reducible refine Kd.C_alloc ?_ _) | (with_reducible refine Kd.C_drewN ?_ _) | (with_reducible refine Kd.C_drew ?_))); (case side4 => exact (Kd.R_reads' HO865.out).2.1); rintro e w57 ⟨v869, rfl, ho0, hb⟩; refine ⟨_, rfl, ?_⟩; have n0_ := Aside0.mk (Kd.R_elder' (by (with_reducible repeat (first | apply Kd.R_alloc | apply Kd.R_drewN | apply Kd.R_drew)); exact HO865.out) (Kd.R_base ho0) hb); have n1_ := Aside0.mk (Kd.R_lower (Kd.R_new' ho0 (Kd.R_lt (by (with_reducible repeat (first | apply Kd.R_alloc | apply Kd.R_drewN | apply Kd.R_drew)); exact HO865.out))) (below_size (by repeat (first | (with_reducible first | exact HB.out | apply below_alloc | apply pw_below_drewN | apply below_drew1) | exact HB.out)))); have n2_ := Aside0.mk (below_step (by repeat (first | (with_reducible first | exact HB.out | apply below_alloc | apply pw_below_drewN | apply below_drew1) | exact HB.out)) hb); clear HO865; clear HB; have HO865 := n0_; have HO870 := n1_; have HB := n2_; clear n0_ n1_ n2_; (try clear hb); (try clear hb2); (try clear hk); (try clear hi); (try clear ho0)) | ((with_reducible refine gate_callee (f := 46) rfl ?_); refine goesL_ (some 56) rfl rfl Try.func46 (by kernel_rfl) rfl #[] rfl (by (try simp only [List.map_toArray, List.map_cons, List.map_nil]); first | done | rfl | (simp only [List.length_drop, List.length_take]; rfl)) ?_; (with_reducible refine (accountinglaw44_lives.calls k1  t871 _ A54.out).mono ?_); rintro e w58 ⟨rfl, hb⟩; refine ⟨_, rfl, ?_⟩; have n0_ := Aside0.mk (Kd.R_below (by (with_reducible repeat (first | apply Kd.R_alloc | apply Kd.R_drewN | apply Kd.R_drew)); exact HO865.out) hb); have n1_ := Aside0.mk (Kd.R_below (by (with_reducible repeat (first | apply Kd.R_alloc | apply Kd.R_drewN | apply Kd.R_drew)); exact HO870.out) hb); have n2_ := Aside0.mk (below_step (by repeat (first | (with_reducible first | exact HB.out | apply below_alloc | apply pw_below_drewN | apply below_drew1) | exact HB.out)) hb); clear HO865; clear HO870; clear HB; have HO865 := n0_; have HO870 := n1_; have HB := n2_; clear n0_ n1_ n2_; (try clear hb); (try clear hb2); (try clear hk); (try clear hi)))
       go_ret
       exact ⟨by first | rfl | (simp [errW_none, errW_some] <;> rfl) | (simp [*, errW_none, errW_some] <;> rfl), by repeat (first | (with_reducible first | exact HB.out | apply below_alloc | apply pw_below_drewN | apply below_drew1) | exact HB.out)⟩
     ·rw [if_neg c11] at H
      have c11b0 : (t863 == 0) = false := beq_eq_false_iff_ne.mpr c11
      have c11b1 : (t863 != 0) = true := bne_iff_ne.mpr c11
      by_cases c59 : (t862.length : Int) = 0
      ·rw [if_pos c59] at H
       have c59b0 : ((t862.length : Int) == 0) = true := beq_iff_eq.mpr c59
       have c59b1 : ((t862.length : Int) != 0) = false := bne_eq_false_iff_eq.mpr c59
       clear c59
       replace H := Option.bind_eq_some_iff.mp H
       obtain ⟨t866, A600, H⟩ := H
       replace H : (some t866) = some r := H
       have A60 := Aside0.mk A600
       clear A600
       obtain rfl := Option.some.inj H
       go_wp2_with (first | ((with_reducible refine gate_callee (f := 50) rfl ?_); refine goesL_ (some 37) rfl rfl Try.func50 (by kernel_rfl) rfl #[.slice A0 l0.length c0, .string a1, .string a2, .slice A3 l3.length c3] rfl (by (try simp only [List.map_toArray, List.map_cons, List.map_nil]); first | done | rfl | (simp only [List.length_drop, List.length_take]; rfl)) ?_; (with_reducible refine (interco_Eliminate.calls k1 _ _ l0 a1 a2 _ _ l3 t862 t863 _ ?side1 ?side2 ?side3 ?side4 A10.out).mono ?_); (case side1 => repeat (first | exact (Kd.C_below HR0.out HB.out) | exact (Kd.C_drewN (Kd.C_below HR0.out HB.out) _) | (with_reducible refine Kd.C_alloc ?_ _) | (with_reducible refine Kd.C_drewN ?_ _) | (with_reducible refine Kd.C_drew ?_))); (case side2 => exact HC0.out); (case side3 => repeat (first | exact (Kd.C_below HR3.out HB.out) | exact (Kd.C_drewN (Kd.C_below HR3.out HB.out) _) | (with_reducible refine Kd.C_alloc ?_ _) | (with_reducible refine Kd.C_drewN ?_ _) | (with_reducible refine Kd.C_drew ?_))); (case side4 => exact HC3.out); rintro e w61 ⟨v864, rfl, ho0, hb⟩; refine ⟨_, rfl, ?_⟩; have n0_ := Aside0.mk (Kd.R_lower ho0 (below_size (by repeat (first | (with_reducible first | exact HB.out | apply below_alloc | apply pw_below_drewN | apply below_drew1) | exact HB.out)))); have n1_ := Aside0.mk (below_step (by repeat (first | (with_reducible first | exact HB.out | apply below_alloc | apply pw_below_drewN | apply below_drew1) | exact HB.out)) hb); clear HB; have HO865 := n0_; have HB := n1_; clear n0_ n1_; (try clear hb); (try clear hb2); (try clear hk); (try clear hi); (try clear ho0); obtain ⟨Ao62, co62, eo62⟩ := Kd.R_slice HO865.out; subst eo62) | (go_at_call 46; (with_reducible refine (accountinglaw44_lives.calls k1  t866 _ A60.out).mono ?_); rintro e w63 ⟨rfl, hb⟩; have n0_ := Aside0.mk (Kd.R_below (by (with_reducible repeat (first | apply Kd.R_alloc | apply Kd.R_drewN | apply Kd.R_drew)); exact HO865.out) hb); have n1_ := Aside0.mk (below_step (by repeat (first | (with_reducible first | exact HB.out | apply below_alloc | apply pw_below_drewN | apply below_drew1) | exact HB.out)) hb); clear HO865; clear HB; have HO865 := n0_; have HB := n1_; clear n0_ n1_; (try clear hb); (try clear hb2); (try clear hk); (try clear hi)))
       go_ret
       exact ⟨by first | rfl | (simp [errW_none, errW_some] <;> rfl) | (simp [*, errW_none, errW_some] <;> rfl), by repeat (first | (with_reducible first | exact HB.out | apply below_alloc | apply pw_below_drewN | apply below_drew1) | exact HB.out)⟩
      ·rw [if_neg c59] at H
       have c59b0 : ((t862.length : Int) == 0) = false := beq_eq_false_iff_ne.mpr c59
       have c59b1 : ((t862.length : Int) != 0) = true := bne_iff_ne.mpr c59
       have c59b2 : ¬ (t862 = []) := fun h_ => c59 (by rw [h_]; rfl)
       obtain rfl := Option.some.inj H
       go_wp2_with (first | ((with_reducible refine gate_callee (f := 50) rfl ?_); refine goesL_ (some 37) rfl rfl Try.func50 (by kernel_rfl) rfl #[.slice A0 l0.length c0, .string a1, .string a2, .slice A3 l3.length c3] rfl (by (try simp only [List.map_toArray, List.map_cons, List.map_nil]); first | done | rfl | (simp only [List.length_drop, List.length_take]; rfl)) ?_; (with_reducible refine (interco_Eliminate.calls k1 _ _ l0 a1 a2 _ _ l3 t862 t863 _ ?side1 ?side2 ?side3 ?side4 A10.out).mono ?_); (case side1 => repeat (first | exact (Kd.C_below HR0.out HB.out) | exact (Kd.C_drewN (Kd.C_below HR0.out HB.out) _) | (with_reducible refine Kd.C_alloc ?_ _) | (with_reducible refine Kd.C_drewN ?_ _) | (with_reducible refine Kd.C_drew ?_))); (case side2 => exact HC0.out); (case side3 => repeat (first | exact (Kd.C_below HR3.out HB.out) | exact (Kd.C_drewN (Kd.C_below HR3.out HB.out) _) | (with_reducible refine Kd.C_alloc ?_ _) | (with_reducible refine Kd.C_drewN ?_ _) | (with_reducible refine Kd.C_drew ?_))); (case side4 => exact HC3.out); rintro e w64 ⟨v864, rfl, ho0, hb⟩; refine ⟨_, rfl, ?_⟩; have n0_ := Aside0.mk (Kd.R_lower ho0 (below_size (by repeat (first | (with_reducible first | exact HB.out | apply below_alloc | apply pw_below_drewN | apply below_drew1) | exact HB.out)))); have n1_ := Aside0.mk (below_step (by repeat (first | (with_reducible first | exact HB.out | apply below_alloc | apply pw_below_drewN | apply below_drew1) | exact HB.out)) hb); clear HB; have HO865 := n0_; have HB := n1_; clear n0_ n1_; (try clear hb); (try clear hb2); (try clear hk); (try clear hi); (try clear ho0); obtain ⟨Ao65, co65, eo65⟩ := Kd.R_slice HO865.out; subst eo65))
       go_ret
       exact ⟨by first | rfl | (simp [errW_none, errW_some] <;> rfl) | (simp [*, errW_none, errW_some] <;> rfl), by repeat (first | (with_reducible first | exact HB.out | apply below_alloc | apply pw_below_drewN | apply below_drew1) | exact HB.out)⟩
end Go.Proofs.Ytmflggbpiadkjaa.P
namespace Go.Proofs.Ytmflggbpiadkjaa.P
open Go.RowKit Go.Proofs.YtmflggbpiadkjaaW.PrintWords Go.Proofs.YtmflggbpiadkjaaW.PrintLast
open Go.Proofs.Ytmflggbpiadkjaa.Op
def accountinglaw44_IntercoGone.Pure : Prop := ∀ (l0 : List (S34)) (a1 : ByteArray) (a2 : ByteArray) (l3 : List ByteArray), (FitL fit34) l0 → (fun s => s.size ≤ maxLen) a1 → (fun s => s.size ≤ maxLen) a2 → (FitL (fun s => s.size ≤ maxLen)) l3 → ∃ k, accountinglaw44_IntercoGone.f k l0 a1 a2 l3 = some true
end Go.Proofs.Ytmflggbpiadkjaa.P
namespace Go.Proofs.Ytmflggbpiadkjaa.P
open Go.RowKit Go.Sort Go.Proofs.YtmflggbpiadkjaaW.PrintWords Go.Proofs.YtmflggbpiadkjaaW.PrintLast Go.Proofs.Ytmflggbpiadkjaa.Op
set_option linter.unusedVariables false
set_option linter.unusedSimpArgs false
def inK (m : List ByteArray) (l : List S34) : List S34 := l.filter (fun c => insB m c.f0)
def outK (m : List ByteArray) (l : List S34) : List S34 := l.filter (fun c => !insB m c.f0)
theorem in_take (m : List ByteArray) (l : List S34) {i : Nat} (h : i < l.length) : inK m (l.take (i + 1)) = if insB m l[i].f0 = true then inK m (l.take i) ++ [l[i]] else inK m (l.take i) := by
  unfold inK
  rw [List.take_add_one, List.getElem?_eq_getElem h, List.filter_append]
  show _ ++ List.filter _ [l[i]] = _
  by_cases c : insB m l[i].f0 = true
  · rw [if_pos c, List.filter_cons_of_pos (by exact c)]; rfl
  · rw [if_neg c, List.filter_cons_of_neg (by exact c)]; simp
theorem out_take (m : List ByteArray) (l : List S34) {i : Nat} (h : i < l.length) : outK m (l.take (i + 1)) = if insB m l[i].f0 = true then outK m (l.take i) else outK m (l.take i) ++ [l[i]] := by
  unfold outK
  rw [List.take_add_one, List.getElem?_eq_getElem h, List.filter_append]
  show _ ++ List.filter _ [l[i]] = _
  by_cases c : insB m l[i].f0 = true
  · rw [if_pos c, List.filter_cons_of_neg (by simp [c])]; simp
  · rw [if_neg c, List.filter_cons_of_pos (by simp [c])]; rfl
theorem in_le (m : List ByteArray) (l : List S34) : (inK m l).length ≤ l.length := List.length_filter_le _ _
theorem out_le (m : List ByteArray) (l : List S34) : (outK m l).length ≤ l.length := List.length_filter_le _ _
theorem mk34I (x : S34) : (⟨⟨x.f0.f0, x.f0.f1, x.f0.f2, x.f0.f3, x.f0.f4⟩, x.f1, x.f2⟩ : S34) = x := rfl
theorem inside_pure (m : List ByteArray) (x : S32) : interco_inside.f m x.f0 x.f1 x.f2 x.f3 x.f4 = some (insB m x) := rfl
theorem inside_l0 (m : List ByteArray) (l : List S34) (hl : l.length ≤ 1000000) : ∀ (n i : Nat), l.length - i = n → i ≤ l.length → Ev (fun k => interco_Inside.l0 k (inK m (l.take i)) (outK m (l.take i)) l (l.length : Int) (i : Int) m) (inK m l, outK m l) := by
  intro n
  induction n with
  | zero =>
    intro i hn hi
    refine Ev.step (fun k => interco_Inside.l0.eq_2 _ _ _ _ _ _ k) ?_
    rw [List.take_of_length_le (by omega)]
    simp only [if_neg (show ¬ ((i : Int) < (l.length : Int)) by omega)]
    exact Ev.now _
  | succ n ih =>
    intro i hn hi
    have hil : i < l.length := by omega
    have hw : wrap64 ((i : Int) + 1) = ((i + 1 : Nat) : Int) := by rw [w64 (by omega) (by omega)]; omega
    have h1 := in_le m (l.take i)
    have h2 := out_le m (l.take i)
    rw [List.length_take] at h1 h2
    have ih := ih (i + 1) (by omega) (by omega)
    rw [in_take m l hil, out_take m l hil] at ih
    refine Ev.step (fun k => interco_Inside.l0.eq_2 _ _ _ _ _ _ k) ?_
    simp only [if_pos (show ((i : Int) < (l.length : Int)) by omega), if_pos (show (0 : Int) ≤ (i : Int) by omega), hw, rd34_at hil, inside_pure, Option.bind_some, if_pos (show (inK m (l.take i)).length < 1466015503701 by omega), if_pos (show (outK m (l.take i)).length < 1466015503701 by omega), mk34I]
    by_cases c : insB m l[i].f0 = true
    · rw [if_pos c, if_pos c] at ih
      simp only [if_pos c]; exact ih
    · rw [if_neg c, if_neg c] at ih
      simp only [if_neg c]; exact ih
theorem inside_ev (m : List ByteArray) (l : List S34) (hl : l.length ≤ 1000000) (h : FitM l m) : Ev (fun k => interco_Inside.f k l m) (inK m l, outK m l) := by
  unfold interco_Inside.f
  simp only [if_pos h]
  exact inside_l0 m l hl _ 0 rfl (Nat.zero_le _)
theorem rdB_at {m : List ByteArray} {i : Nat} (h : i < m.length) : rdOf ByteArray.empty m (i : Int) = m[i] := by simp [rdOf, h]
theorem fitM_of {l : List S34} {m : List ByteArray} (h : (FitL fit34) l) (hm : (FitL (fun s : ByteArray => s.size ≤ maxLen)) m) (hml : m.length ≤ 1000000) : FitM l m :=
  ⟨hml, hm.2, fun c hc => ⟨(h.2 c hc).1.1, (h.2 c hc).1.2.2.2.1⟩⟩
/-! ### put -/
/-! ### The pairs of some cells -/
def mkP (f : S32 → Int) (k : S32) : S89 := ⟨k.f0, k.f1, f k⟩
def prsOf (l : List S34) : List S89 := (keysK (l.map ck)).map (mkP (sumB (l.map ck)))
theorem prK_prs (l : List S34) : prK l = if (prsOf l).all (fun p => fitB p.f2) = true then (prsOf l, 0) else ([], 4) := by
  unfold prK prsOf
  rw [List.all_map]
  rfl
theorem bnd_in {m : List ByteArray} {l : List S34} (h : RightL l) : ∀ c ∈ inK m l, -1000000000000000 ≤ c.f2 ∧ c.f2 ≤ 1000000000000000 := by
  intro c hc
  have h1 := (bad_iff c).1 (h.1 c (List.mem_filter.1 hc).1)
  have h3 := h1.2.2
  unfold fitB at h3
  rw [Bool.and_eq_true, decide_eq_true_iff, decide_eq_true_iff] at h3
  exact h3
theorem fitP_in {m : List ByteArray} {l : List S34} (h : RightL l) (hl : l.length ≤ 1000) (hm : FitM l m) : FitP (inK m l) :=
  ⟨by have := in_le m l; omega, fun c hc => by have := bnd_in h c hc; unfold i64ok; omega, fun c hc => hm.2.2 c (List.mem_filter.1 hc).1⟩
def negI (c : S34) : S34 := ⟨c.f0, -c.f1, -c.f2⟩
theorem psA_negI (P : S32 → Bool) : ∀ (l : List S34), psA P (l.map negI) = - psA P l ∧ psB P (l.map negI) = - psB P l := ps_neg P
/-- The cell for a difference. -/
def pcI (cur diff : ByteArray) (p : S89) : S34 := ⟨⟨p.f0, diff, cur, ⟨#[]⟩, ⟨#[]⟩⟩, p.f2, p.f2⟩
def nzP (p : S89) : Bool := decide (p.f2 ≠ 0)
def elCells (cur diff : ByteArray) (i : List S34) (p : List S89) : List S34 := i.map negI ++ p.map (pcI cur diff)
def codeB (s : ByteArray) : Bool := decide (0 < s.size) && (decide (s.size ≤ 12) && allFrom isCodeByte s 0)
/-- What Eliminate answers. -/
def elimK (cur diff : ByteArray) (m : List ByteArray) (l : List S34) : List S34 × Int :=
 if rightB l = true then (if monB cur = true then (if codeB diff = true then (if (prK (inK m l)).2 = 0 then ofK (elCells cur diff (inK m l) (prK (inK m l)).1) else ([], (prK (inK m l)).2)) else ([], 7)) else ([], 13)) else ([], 2)
theorem nz_cells (cur diff : ByteArray) (i : List S34) (p : List S89) : ofK (elCells cur diff i (p.filter nzP)) = ofK (elCells cur diff i p) := by
 have h : ∀ (P : S32 → Bool) (p : List S89), psA P ((p.filter nzP).map (pcI cur diff)) = psA P (p.map (pcI cur diff)) ∧ psB P ((p.filter nzP).map (pcI cur diff)) = psB P (p.map (pcI cur diff)) := by
  intro P p
  induction p with
  | nil => exact ⟨rfl, rfl⟩
  | cons x r ih =>
   by_cases c : nzP x = true
   ·rw [List.filter_cons_of_pos c, List.map_cons, List.map_cons, psA_cons, psB_cons, psA_cons, psB_cons, ih.1, ih.2]
    exact ⟨rfl, rfl⟩
   ·rw [List.filter_cons_of_neg c, List.map_cons, psA_cons, psB_cons, ih.1, ih.2]
    have e : x.f2 = 0 := by
     unfold nzP at c
     rw [decide_eq_true_iff] at c
     omega
    show _ = (if _ then x.f2 else 0) + _ ∧ _ = (if _ then x.f2 else 0) + _
    rw [e]
    constructor <;> (split <;> omega)
 refine ofK_congr (fun k => ?_)
 unfold elCells
 rw [sumA_ps, sumB_ps, sumA_ps, sumB_ps, psA_append, psB_append, psA_append, psB_append, (h _ p).1, (h _ p).2]
 exact ⟨rfl, rfl⟩
theorem prK_fit {l : List S34} (h : (prK l).2 = 0) : ∀ p ∈ (prK l).1, fitB p.f2 = true := by
 rw [prK_prs] at h ⊢
 by_cases c : (prsOf l).all (fun p => fitB p.f2) = true
 ·rw [if_pos c]
  exact fun p hp => List.all_eq_true.1 c p hp
 ·rw [if_neg c] at h; cases h
theorem okS_cells {cur diff : ByteArray} {m : List ByteArray} {l : List S34} (h : RightL l) (hl : l.length ≤ 1000) {p : List S89} (hp : ∀ x ∈ p, fitB x.f2 = true) (hpl : p.length ≤ 1000) : OkS (elCells cur diff (inK m l) p) := by
 refine ⟨?_, fun x hx => ?_⟩
 ·unfold elCells
  rw [List.length_append, List.length_map, List.length_map]
  have := in_le m l
  omega
 ·rcases List.mem_append.1 hx with hx | hx
  ·obtain ⟨c, hc, rfl⟩ := List.mem_map.1 hx
   have h1 := (bad_iff c).1 (h.1 c (List.mem_filter.1 hc).1)
   have h2 := h1.2.1
   have h3 := h1.2.2
   unfold fitB at h2 h3
   rw [Bool.and_eq_true, decide_eq_true_iff, decide_eq_true_iff] at h2 h3
   show i64ok (-c.f1) ∧ i64ok (-c.f2)
   unfold i64ok
   omega
  ·obtain ⟨q, hq, rfl⟩ := List.mem_map.1 hx
   have h3 := fit_i64 (hp q hq)
   exact ⟨h3, h3⟩
theorem el_l1 (cur diff : ByteArray) (p : List S89) (i : List S34) (hp : p.length ≤ 1000000) (hi : i.length ≤ 1000000) (hok : OkS (elCells cur diff i (p.filter nzP))) : ∀ (n j : Nat), p.length - j = n → j ≤ p.length → Ev (fun k => interco_Eliminate.l1 k cur diff (elCells cur diff i ((p.take j).filter nzP)) p (p.length : Int) (j : Int)) (ofK (elCells cur diff i p)) := by
 intro n
 induction n with
 | zero =>
  intro j hn hj
  refine Ev.step (fun k => interco_Eliminate.l1.eq_2 _ _ _ _ _ _ k) ?_
  rw [List.take_of_length_le (by omega)]
  unfold sheet_Of.f
  simp only [if_neg (show ¬ ((j : Int) < (p.length : Int)) by omega), if_pos hok, Option.bind_some, nz_cells]
  exact Ev.now _
 | succ n ih =>
  intro j hn hj
  have hjl : j < p.length := by omega
  have hw : wrap64 ((j : Int) + 1) = ((j + 1 : Nat) : Int) := by rw [w64 (by omega) (by omega)]; omega
  have ih := ih (j + 1) (by omega) (by omega)
  have ht : (p.take (j + 1)).filter nzP = (p.take j).filter nzP ++ [p[j]].filter nzP := by rw [List.take_add_one, List.getElem?_eq_getElem hjl, List.filter_append]; rfl
  rw [ht] at ih
  have hlen : (elCells cur diff i ((p.take j).filter nzP)).length < 1466015503701 := by
   unfold elCells
   rw [List.length_append, List.length_map, List.length_map]
   have := List.length_filter_le nzP (p.take j)
   rw [List.length_take] at this
   omega
  refine Ev.step (fun k => interco_Eliminate.l1.eq_2 _ _ _ _ _ _ k) ?_
  simp only [if_pos (show ((j : Int) < (p.length : Int)) by omega), if_pos (show (0 : Int) ≤ (j : Int) by omega), hw, rd89_at hjl, if_pos hlen]
  by_cases c : p[j].f2 = 0
  ·rw [List.filter_cons_of_neg (by unfold nzP; rw [decide_eq_true_iff]; exact fun h => h c), List.filter_nil, List.append_nil] at ih
   simp only [if_pos c]
   exact ih
  ·rw [List.filter_cons_of_pos (by unfold nzP; exact decide_eq_true c), List.filter_nil] at ih
   simp only [if_neg c]
   have e : elCells cur diff i ((p.take j).filter nzP ++ [p[j]]) = elCells cur diff i ((p.take j).filter nzP) ++ [pcI cur diff p[j]] := by
    unfold elCells
    rw [List.map_append, List.append_assoc]
    rfl
   rw [e] at ih
   exact ih
theorem el_l0 (cur diff : ByteArray) (p : List S89) (i : List S34) (hp : p.length ≤ 1000000) (hi : i.length ≤ 1000000) (hb : ∀ c ∈ i, -1000000000000000 ≤ c.f1 ∧ c.f1 ≤ 1000000000000000 ∧ -1000000000000000 ≤ c.f2 ∧ c.f2 ≤ 1000000000000000) (hok : OkS (elCells cur diff i (p.filter nzP))) : ∀ (n j : Nat), i.length - j = n → j ≤ i.length → Ev (fun k => interco_Eliminate.l0 k cur diff p ((i.take j).map negI) i (i.length : Int) (j : Int)) (ofK (elCells cur diff i p)) := by
 intro n
 induction n with
 | zero =>
  intro j hn hj
  refine Ev.step (fun k => interco_Eliminate.l0.eq_2 _ _ _ _ _ _ _ k) ?_
  rw [List.take_of_length_le (by omega)]
  simp only [if_neg (show ¬ ((j : Int) < (i.length : Int)) by omega)]
  have h := el_l1 cur diff p i hp hi hok _ 0 rfl (Nat.zero_le _)
  have e : elCells cur diff i ((p.take 0).filter nzP) = i.map negI := by unfold elCells; simp
  rw [e] at h
  exact h
 | succ n ih =>
  intro j hn hj
  have hjl : j < i.length := by omega
  have hw : wrap64 ((j : Int) + 1) = ((j + 1 : Nat) : Int) := by rw [w64 (by omega) (by omega)]; omega
  have hc := hb _ (List.getElem_mem hjl)
  have hw1 : wrap64 (-i[j].f1) = -i[j].f1 := w64 (by omega) (by omega)
  have hw2 : wrap64 (-i[j].f2) = -i[j].f2 := w64 (by omega) (by omega)
  have e : (⟨⟨i[j].f0.f0, i[j].f0.f1, i[j].f0.f2, i[j].f0.f3, i[j].f0.f4⟩, -i[j].f1, -i[j].f2⟩ : S34) = negI i[j] := rfl
  have ht : (i.take j).map negI ++ [negI i[j]] = (i.take (j + 1)).map negI := by
   rw [List.take_add_one, List.getElem?_eq_getElem hjl, List.map_append]; rfl
  refine Ev.step (fun k => interco_Eliminate.l0.eq_2 _ _ _ _ _ _ _ k) ?_
  simp only [if_pos (show ((j : Int) < (i.length : Int)) by omega), if_pos (show (0 : Int) ≤ (j : Int) by omega), hw, rd34_at hjl, if_pos (show ((i.take j).map negI).length < 1466015503701 by rw [List.length_map, List.length_take]; omega), hw1, hw2, e, ht]
  exact ih (j + 1) (by omega) (by omega)
theorem bnd_in2 {m : List ByteArray} {l : List S34} (h : RightL l) : ∀ c ∈ inK m l, -1000000000000000 ≤ c.f1 ∧ c.f1 ≤ 1000000000000000 ∧ -1000000000000000 ≤ c.f2 ∧ c.f2 ≤ 1000000000000000 := by
 intro c hc
 have h1 := (bad_iff c).1 (h.1 c (List.mem_filter.1 hc).1)
 have h2 := h1.2.1
 have h3 := h1.2.2
 unfold fitB at h2 h3
 rw [Bool.and_eq_true, decide_eq_true_iff, decide_eq_true_iff] at h2 h3
 omega
theorem elim_ev (cur diff : ByteArray) (m : List ByteArray) (l : List S34) (hl : l.length ≤ 1000) (hm : FitM l m) (hc : cur.size ≤ maxLen) : Ev (fun k => interco_Eliminate.f k l cur diff m) (elimK cur diff m l) := by
 unfold interco_Eliminate.f sheet_Right.f elimK money_Code.f words_Code.f
 simp only [Option.bind_some, if_pos hc]
 by_cases hr : rightB l = true
 ·simp only [if_pos hr]
  by_cases hmn : monB cur = true
  ·simp only [if_pos hmn]
   have e : (decide (0 < diff.size) && (decide (diff.size ≤ 12) && allFrom isCodeByte diff 0)) = codeB diff := rfl
   simp only [e]
   by_cases hcd : codeB diff = true
   ·simp only [if_pos hcd]
    have hR := (right_iff l).1 hr
    refine Ev.bind (inside_ev m l (by omega) hm) ?_
    unfold interco_pairs.f
    simp only [if_pos (fitP_in hR hl hm), Option.bind_some]
    by_cases h0 : (prK (inK m l)).2 = 0
    ·simp only [if_pos h0]
     have h1 := in_le m l
     have h2 := prK_len (inK m l)
     exact el_l0 cur diff (prK (inK m l)).1 (inK m l) (by omega) (by omega) (bnd_in2 hR) (okS_cells hR hl (fun x hx => prK_fit h0 x (List.mem_filter.1 hx).1) (by have := List.length_filter_le nzP (prK (inK m l)).1; omega)) _ 0 rfl (Nat.zero_le _)
    ·simp only [if_neg h0]; exact Ev.now _
   ·simp only [if_neg hcd]; exact Ev.now _
  ·simp only [if_neg hmn]; exact Ev.now _
 ·simp only [if_neg hr]; exact Ev.now _
theorem elimK_len (cur diff : ByteArray) (m : List ByteArray) (l : List S34) (hl : l.length ≤ 1000) : (elimK cur diff m l).1.length ≤ 2000 := by
 unfold elimK
 repeat' split
 any_goals exact Nat.zero_le _
 refine Nat.le_trans (ofK_le _) ?_
 unfold elCells
 rw [List.length_append, List.length_map, List.length_map]
 have h1 := in_le m l
 have h2 := prK_len (inK m l)
 omega
theorem member_l0 (m : List ByteArray) (s : ByteArray) (hm : m.length ≤ 1000000) : ∀ (n i : Nat), m.length - i = n → i ≤ m.length → Ev (fun k => accountingref44_member.l0 k m s (i : Int)) (hasB (m.drop i) s) := by
  intro n
  induction n with
  | zero =>
    intro i hn hi
    refine Ev.step (fun k => accountingref44_member.l0.eq_2 _ _ _ k) ?_
    rw [List.drop_of_length_le (by omega)]
    simp only [if_neg (show ¬ ((i : Int) < (m.length : Int)) by omega)]
    exact Ev.now _
  | succ n ih =>
    intro i hn hi
    have hil : i < m.length := by omega
    have hw : wrap64 ((i : Int) + 1) = ((i + 1 : Nat) : Int) := by rw [w64 (by omega) (by omega)]; omega
    refine Ev.step (fun k => accountingref44_member.l0.eq_2 _ _ _ k) ?_
    simp only [if_pos (show ((i : Int) < (m.length : Int)) by omega), if_pos (show (0 : Int) ≤ (i : Int) by omega), hw, rdB_at hil]
    have e : hasB (m.drop i) s = (m[i].toList == s.toList || hasB (m.drop (i + 1)) s) := by
      rw [List.drop_eq_getElem_cons hil]; rfl
    rw [e]
    by_cases c : m[i].toList = s.toList
    · simp only [if_pos c, beq_iff_eq.2 c, Bool.true_or]; exact Ev.now _
    · simp only [if_neg c, beq_eq_false_iff_ne.2 c, Bool.false_or]
      exact ih (i + 1) (by omega) (by omega)
theorem member_ev (m : List ByteArray) (s : ByteArray) (hm : m.length ≤ 1000000) : Ev (fun k => accountingref44_member.f k m s) (hasB m s) := member_l0 m s hm _ 0 rfl (Nat.zero_le _)
theorem is_ev (m : List ByteArray) (c : S34) (hm : m.length ≤ 1000000) : Ev (fun k => accountingref44_Is.f k c.f0.f0 c.f0.f1 c.f0.f2 c.f0.f3 c.f0.f4 c.f1 c.f2 m) (insB m c.f0) := by
  unfold accountingref44_Is.f insB
  refine Ev.bind (member_ev m c.f0.f0 hm) ?_
  cases hasB m c.f0.f0 with
  | false => simp only [Bool.false_eq_true, if_false, Bool.false_and]; exact Ev.now _
  | true =>
    simp only [if_true, Bool.true_and]
    refine Ev.bind (member_ev m c.f0.f3 hm) ?_
    cases hasB m c.f0.f3 with
    | false => simp only [Bool.false_eq_true, if_false, Bool.false_and]; exact Ev.now _
    | true => simp only [if_true, Bool.true_and]; exact Ev.now _
theorem refinside_l0 (m : List ByteArray) (l : List S34) (hl : l.length ≤ 1000000) (hm : m.length ≤ 1000000) : ∀ (n i : Nat), l.length - i = n → i ≤ l.length → Ev (fun k => accountingref44_Inside.l0 k l m (inK m (l.take i)) (outK m (l.take i)) (i : Int)) (inK m l, outK m l) := by
  intro n
  induction n with
  | zero =>
    intro i hn hi
    refine Ev.step (fun k => accountingref44_Inside.l0.eq_2 _ _ _ _ _ k) ?_
    rw [List.take_of_length_le (by omega)]
    simp only [if_neg (show ¬ ((i : Int) < (l.length : Int)) by omega)]
    exact Ev.now _
  | succ n ih =>
    intro i hn hi
    have hil : i < l.length := by omega
    have hw : wrap64 ((i : Int) + 1) = ((i + 1 : Nat) : Int) := by rw [w64 (by omega) (by omega)]; omega
    have h1 := in_le m (l.take i)
    have h2 := out_le m (l.take i)
    rw [List.length_take] at h1 h2
    have ih := ih (i + 1) (by omega) (by omega)
    rw [in_take m l hil, out_take m l hil] at ih
    refine Ev.step (fun k => accountingref44_Inside.l0.eq_2 _ _ _ _ _ k) ?_
    simp only [if_pos (show ((i : Int) < (l.length : Int)) by omega), if_pos (show (0 : Int) ≤ (i : Int) by omega), hw, rd34_at hil]
    refine Ev.bind (is_ev m l[i] hm) ?_
    simp only [if_pos (show (inK m (l.take i)).length < 1466015503701 by omega), if_pos (show (outK m (l.take i)).length < 1466015503701 by omega), mk34I]
    by_cases c : insB m l[i].f0 = true
    · rw [if_pos c, if_pos c] at ih
      simp only [if_pos c]; exact ih
    · rw [if_neg c, if_neg c] at ih
      simp only [if_neg c]; exact ih
theorem refinside_ev (m : List ByteArray) (l : List S34) (hl : l.length ≤ 1000000) (hm : m.length ≤ 1000000) : Ev (fun k => accountingref44_Inside.f k l m) (inK m l, outK m l) :=
  refinside_l0 m l hl hm _ 0 rfl (Nat.zero_le _)
theorem i64_low32 (n : Int) : bits .and .i64 n 4294967295 = n % 4294967296 := by
  have h : (BitVec.ofInt 64 4294967295).toNat = 2 ^ 32 - 1 := by decide
  have key : (BitVec.ofInt 64 n &&& BitVec.ofInt 64 4294967295).toNat = (n % ((2 ^ 64 : Nat) : Int)).toNat % 2 ^ 32 := by
    rw [BitVec.toNat_and, BitVec.toNat_ofInt, h, Nat.and_two_pow_sub_one_eq_mod]
  show IntKind.i64.wrap ((BitVec.ofInt 64 n &&& BitVec.ofInt 64 4294967295).toNat : Nat) = n % 4294967296
  rw [key, IntKind.wrap_i64]
  omega
theorem rsum_l0 (l : List Int) (hl : l.length ≤ 1000000) (hok : ∀ x ∈ l, i64ok x) : ∀ (n i : Nat) (a b : Int), l.length - i = n → i ≤ l.length → a * 4294967296 + b = (l.take i).sum → -(2147483648 * (i : Int)) ≤ a → a ≤ 2147483648 * (i : Int) → 0 ≤ b → b ≤ 4294967296 * (i : Int) → Ev (fun k => accountingref01_Sum.l0 k l a b (i : Int)) (if i64ok l.sum then (l.sum, true) else (0, false)) := by
  intro n
  induction n with
  | zero =>
    intro i a b hn hi he h1 h2 h3 h4
    rw [List.take_of_length_le (by omega)] at he
    have w1 : wrap64 (a + b / 4294967296) = a + b / 4294967296 := w64 (by omega) (by omega)
    refine Ev.step (fun k => accountingref01_Sum.l0.eq_2 _ _ _ _ k) ?_
    simp only [if_neg (show ¬ ((i : Int) < (l.length : Int)) by omega), w1, i64_low32]
    by_cases c1 : a + b / 4294967296 < -2147483648
    · simp only [if_pos c1, if_neg (show ¬ i64ok l.sum by unfold i64ok; omega)]
      exact Ev.now _
    · simp only [if_neg c1]
      by_cases c2 : a + b / 4294967296 > 2147483647
      · simp only [if_pos c2, if_neg (show ¬ i64ok l.sum by unfold i64ok; omega)]
        exact Ev.now _
      · simp only [if_neg c2, if_pos (show i64ok l.sum by unfold i64ok; omega)]
        have w2 : wrap64 (wrap64 ((a + b / 4294967296) * 4294967296) + b % 4294967296) = l.sum := by
          unfold wrap64
          omega
        rw [w2]
        exact Ev.now _
  | succ n ih =>
    intro i a b hn hi he h1 h2 h3 h4
    have hil : i < l.length := by omega
    have hv := hok _ (List.getElem_mem hil)
    unfold i64ok at hv
    have hw : wrap64 ((i : Int) + 1) = ((i + 1 : Nat) : Int) := by rw [w64 (by omega) (by omega)]; omega
    have w1 : wrap64 (a + l[i] / 4294967296) = a + l[i] / 4294967296 := w64 (by omega) (by omega)
    have w2 : wrap64 (b + l[i] % 4294967296) = b + l[i] % 4294967296 := w64 (by omega) (by omega)
    refine Ev.step (fun k => accountingref01_Sum.l0.eq_2 _ _ _ _ k) ?_
    simp only [if_pos (show ((i : Int) < (l.length : Int)) by omega), if_pos (show (0 : Int) ≤ (i : Int) by omega), hw, rd_at hil, i64_low32, w1, w2]
    refine ih (i + 1) _ _ (by omega) (by omega) ?_ (by push_cast; omega) (by push_cast; omega) (by omega) (by push_cast; omega)
    have ht : l.take (i + 1) = l.take i ++ [l[i]] := by rw [List.take_add_one, List.getElem?_eq_getElem hil]; rfl
    have e : (l.take (i + 1)).sum = (l.take i).sum + l[i] := by rw [ht, List.sum_append, List.sum_cons, List.sum_nil, Int.add_zero]
    rw [e]
    omega
theorem rsum_ev (l : List Int) (hl : l.length ≤ 1000000) (hok : ∀ x ∈ l, i64ok x) : Ev (fun k => accountingref01_Sum.f k l) (if i64ok l.sum then (l.sum, true) else (0, false)) :=
  rsum_l0 l hl hok _ 0 0 0 rfl (Nat.zero_le _) (by simp) (by simp) (by simp) (by simp) (by simp)
theorem fits_pure (n : Int) : accountingref19_fits.f n = some (fitB n) := by
  unfold accountingref19_fits.f fitB
  by_cases h : n ≥ -1000000000000000
  · rw [if_pos h, decide_eq_true (show -1000000000000000 ≤ n from h)]; rfl
  · rw [if_neg h, decide_eq_false (show ¬ -1000000000000000 ≤ n from h)]; rfl
end Go.Proofs.Ytmflggbpiadkjaa.P
namespace Go.Proofs.Ytmflggbpiadkjaa.P
open Go.RowKit Go.Proofs.YtmflggbpiadkjaaW.PrintWords Go.Proofs.YtmflggbpiadkjaaW.PrintLast
theorem refc (a b : ByteArray) : accountingref19_compare.f a b = some (cmpB a b) := by
  unfold accountingref19_compare.f
  rw [cmpB_less]
  by_cases h1 : Op.bytesLess a.toList b.toList = true
  · rw [if_pos h1, if_pos h1]
  · rw [if_neg h1, if_neg h1]
    by_cases h2 : Op.bytesLess b.toList a.toList = true
    · rw [if_pos h2, if_pos h2]
    · rw [if_neg h2, if_neg h2]
theorem refCmp_pure (x y : S32) (k : Nat) : accountingref19_Cmp.f (k + 6) x.f0 x.f1 x.f2 x.f3 x.f4 y.f0 y.f1 y.f2 y.f3 y.f4 = some (cmpK x y) := by
  rw [cmpK_eq]
  unfold accountingref19_Cmp.f
  simp only [accountingref19_Cmp.l0, refc, Option.bind_some, rdOf, List.length_cons, List.length_nil]
  have w : ∀ i : Int, 0 ≤ i → i ≤ 5 → wrap64 (i + 1) = i + 1 := fun i h1 h2 => by unfold wrap64; omega
  by_cases h0 : cmpB x.f0 y.f0 = 0 <;> by_cases h1 : cmpB x.f1 y.f1 = 0 <;> by_cases h2 : cmpB x.f2 y.f2 = 0 <;> by_cases h3 : cmpB x.f3 y.f3 = 0 <;> by_cases h4 : cmpB x.f4 y.f4 = 0 <;> simp [h0, h1, h2, h3, h4, wrap64]
end Go.Proofs.Ytmflggbpiadkjaa.P
namespace Go.Proofs.Ytmflggbpiadkjaa.P
open Go.RowKit Go.Sort Go.Proofs.YtmflggbpiadkjaaW.PrintWords Go.Proofs.YtmflggbpiadkjaaW.PrintLast
set_option linter.unusedVariables false
set_option linter.unusedSimpArgs false
/-! ### keys -/
theorem insK_at (key : S32) : ∀ (out : List S32) (q : Nat), SS out → q ≤ out.length → (∀ j (h : j < out.length), q ≤ j → 0 < cmpK out[j] key) → (∀ h : q - 1 < out.length, 0 < q → cmpK out[q - 1] key ≤ 0) →
  insK key out = if 0 < q ∧ cmpK (rd_T32 out ((q - 1 : Nat) : Int)) key = 0 then out else out.take q ++ key :: out.drop q
 | [], q, _, hq, _, _ => by
  have : q = 0 := by simpa using hq
  subst this
  simp [insK]
 | h :: t, 0, hs, hq, h1, _ => by
  have h0 := h1 0 (by simp) (Nat.le_refl _)
  simp only [List.getElem_cons_zero] at h0
  have := cmp3_K.sw h key
  unfold insK
  rw [if_pos (show cmpK key h < 0 by omega), if_neg (by omega)]
  rfl
 | h :: t, q + 1, hs, hq, h1, h2 => by
  have hs' := List.pairwise_cons.1 hs
  have hle : cmpK h key ≤ 0 := by
   have h3 := h2 (by simp at hq ⊢; omega) (by omega)
   cases q with
   | zero => simpa using h3
   | succ q =>
    have hq2 : q < t.length := by simp at hq; omega
    have e : (h :: t)[q + 1 + 1 - 1]'(by simp; omega) = t[q] := rfl
    rw [e] at h3
    have := cmp3_K.lt_le (hs'.1 t[q] (List.getElem_mem hq2)) h3
    omega
  have hsw := cmp3_K.sw h key
  unfold insK
  rw [if_neg (show ¬ cmpK key h < 0 by omega)]
  have ih := insK_at key t q hs'.2 (by simp at hq; omega) (fun j hj hqj => by
   have := h1 (j + 1) (by simp; omega) (by omega)
   simpa using this) (fun hj hq0 => by
   have := h2 (by simp; omega) (by omega)
   obtain ⟨p, rfl⟩ : ∃ p, q = p + 1 := ⟨q - 1, by omega⟩
   simpa using this)
  cases q with
  | zero =>
   have e : rd_T32 (h :: t) ((0 + 1 - 1 : Nat) : Int) = h := rfl
   rw [e]
   by_cases hz : cmpK h key = 0
   ·rw [if_pos (show cmpK key h = 0 by omega), if_pos ⟨by omega, hz⟩]
   ·rw [if_neg (show ¬ cmpK key h = 0 by omega), if_neg (fun c => hz c.2), ih, if_neg (fun c => by omega)]
    rfl
  | succ q =>
   have hq2 : q < t.length := by simp at hq; omega
   have hlt : cmpK h key < 0 := by
    have h3 := h2 (by simp; omega) (by omega)
    have e : (h :: t)[q + 1 + 1 - 1]'(by simp; omega) = t[q] := rfl
    rw [e] at h3
    exact cmp3_K.lt_le (hs'.1 t[q] (List.getElem_mem hq2)) h3
   have e : rd_T32 (h :: t) ((q + 1 + 1 - 1 : Nat) : Int) = rd_T32 t ((q + 1 - 1 : Nat) : Int) := by
    show rd_T32 (h :: t) ((q + 1 : Nat) : Int) = rd_T32 t (q : Int)
    rw [rd32_at (show q + 1 < (h :: t).length by simp; omega), rd32_at hq2]
    rfl
   rw [if_neg (show ¬ cmpK key h = 0 by omega), ih, e]
   by_cases hz : cmpK (rd_T32 t ((q + 1 - 1 : Nat) : Int)) key = 0
   ·rw [if_pos ⟨by omega, hz⟩, if_pos ⟨by omega, hz⟩]
   ·rw [if_neg (fun c => hz c.2), if_neg (fun c => hz c.2)]
    rfl
theorem mk32 (x : S32) : (⟨x.f0, x.f1, x.f2, x.f3, x.f4⟩ : S32) = x := rfl
/-- The cells from q on move up by one. -/
theorem keys_l2 (l : List S34) (out : List S32) (i q : Nat) (r : List S32) (hi : i < l.length) (hl : l.length ≤ 1000000) (ho : out.length ≤ 1000000) (hq : q ≤ out.length)
  (hr : Ev (fun k => accountingref19_keys.l0 k l (out.take q ++ l[i].f0 :: out.drop q) ((i + 1 : Nat) : Int)) r) :
  ∀ (n j : Nat) (z : S32), j - q = n → q ≤ j → j ≤ out.length → Ev (fun k => accountingref19_keys.l2 k l (out.take j ++ z :: out.drop j) (i : Int) (q : Int) (j : Int)) r := by
 have hw1 : wrap64 ((i : Int) + 1) = ((i + 1 : Nat) : Int) := by rw [w64 (by omega) (by omega)]; omega
 intro n
 induction n with
 | zero =>
  intro j z hn hqj hj
  obtain rfl : q = j := by omega
  have hlen : (out.take q ++ z :: out.drop q).length = out.length + 1 := by simp; omega
  have hset : (out.take q ++ z :: out.drop q).set q l[i].f0 = out.take q ++ l[i].f0 :: out.drop q := by
   rw [List.set_append_right _ _ (by rw [List.length_take]; omega), List.length_take, Nat.min_eq_left hq, Nat.sub_self]
   rfl
  refine Ev.step (fun k => accountingref19_keys.l2.eq_2 _ _ _ _ _ k) ?_
  simp only [if_neg (show ¬ ((q : Int) > (q : Int)) by omega), if_pos (show (0 : Int) ≤ (i : Int) by omega), if_pos (show (i : Int) < (l.length : Int) by omega), if_pos (show (0 : Int) ≤ (q : Int) by omega), hlen, if_pos (show (q : Int) < ((out.length + 1 : Nat) : Int) by omega), Int.toNat_natCast, hw1, rd34_at hi, mk32, hset]
  exact hr
 | succ n ih =>
  intro j z hn hqj hj
  have hlen : (out.take j ++ z :: out.drop j).length = out.length + 1 := by simp; omega
  have hwj : wrap64 ((j : Int) - 1) = ((j - 1 : Nat) : Int) := by rw [w64 (by omega) (by omega)]; omega
  have hj1 : j - 1 < out.length := by omega
  have hrd : rd_T32 (out.take j ++ z :: out.drop j) ((j - 1 : Nat) : Int) = out[j - 1] := by
   rw [rd32_at (by rw [hlen]; omega), List.getElem_append_left (by rw [List.length_take]; omega), List.getElem_take]
  have ht : out.take j = out.take (j - 1) ++ [out[j - 1]] := by
   obtain ⟨p, rfl⟩ : ∃ p, j = p + 1 := ⟨j - 1, by omega⟩
   rw [List.take_add_one, List.getElem?_eq_getElem (by omega)]
   rfl
  have hd : out.drop (j - 1) = out[j - 1] :: out.drop j := by
   rw [List.drop_eq_getElem_cons hj1, show j - 1 + 1 = j by omega]
  have hset : (out.take j ++ z :: out.drop j).set j out[j - 1] = out.take (j - 1) ++ out[j - 1] :: out.drop (j - 1) := by
   rw [List.set_append_right _ _ (by rw [List.length_take]; omega), List.length_take, Nat.min_eq_left hj, Nat.sub_self, hd, ht, List.append_assoc]
   rfl
  refine Ev.step (fun k => accountingref19_keys.l2.eq_2 _ _ _ _ _ k) ?_
  simp only [if_pos (show ((j : Int) > (q : Int)) by omega), hwj, hlen, if_pos (show (0 : Int) ≤ ((j - 1 : Nat) : Int) by omega), if_pos (show ((j - 1 : Nat) : Int) < ((out.length + 1 : Nat) : Int) by omega), if_pos (show (0 : Int) ≤ (j : Int) by omega), if_pos (show (j : Int) < ((out.length + 1 : Nat) : Int) by omega), Int.toNat_natCast, hrd, mk32, hset]
  exact ih (j - 1) _ (by omega) (by omega) (by omega)
theorem keys_j2 (l : List S34) (out : List S32) (i q : Nat) (r : List S32) (hi : i < l.length) (hl : l.length ≤ 1000000) (ho : out.length ≤ 1000000) (hq : q ≤ out.length) (hs : SS out)
  (h1 : ∀ j (h : j < out.length), q ≤ j → 0 < cmpK out[j] l[i].f0) (h2 : ∀ h : q - 1 < out.length, 0 < q → cmpK out[q - 1] l[i].f0 ≤ 0)
  (hr : Ev (fun k => accountingref19_keys.l0 k l (insK l[i].f0 out) ((i + 1 : Nat) : Int)) r) :
  Ev (fun k => accountingref19_keys.j2 k l out (i : Int) (q : Int)) r := by
 have hw1 : wrap64 ((i : Int) + 1) = ((i + 1 : Nat) : Int) := by rw [w64 (by omega) (by omega)]; omega
 rw [insK_at l[i].f0 out q hs hq h1 h2] at hr
 have new : ¬ (0 < q ∧ cmpK (rd_T32 out ((q - 1 : Nat) : Int)) l[i].f0 = 0) → Ev (fun k => accountingref19_keys.j3 k l out (i : Int) (q : Int) false) r := by
  intro hn
  rw [if_neg hn] at hr
  refine Ev.step (fun k => accountingref19_keys.j3.eq_2 _ _ _ _ _ k) ?_
  simp only [Bool.false_eq_true, if_false, if_pos (show out.length < 1759218604441 by omega), Option.bind_some]
  have hwl : wrap64 (((out ++ [(⟨(⟨#[]⟩ : ByteArray), (⟨#[]⟩ : ByteArray), (⟨#[]⟩ : ByteArray), (⟨#[]⟩ : ByteArray), (⟨#[]⟩ : ByteArray)⟩ : S32)]).length : Int) - 1) = (out.length : Int) := by
   rw [w64 (by simp <;> omega) (by simp <;> omega)]; simp <;> omega
  simp only [hwl]
  have h0 := keys_l2 l out i q r hi hl ho hq hr _ out.length ⟨(⟨#[]⟩ : ByteArray), (⟨#[]⟩ : ByteArray), (⟨#[]⟩ : ByteArray), (⟨#[]⟩ : ByteArray), (⟨#[]⟩ : ByteArray)⟩ rfl hq (Nat.le_refl _)
  rw [List.take_length, List.drop_length] at h0
  exact h0
 refine Ev.step (fun k => accountingref19_keys.j2.eq_2 _ _ _ _ k) ?_
 by_cases hq0 : 0 < q
 ·have hwq : wrap64 ((q : Int) - 1) = ((q - 1 : Nat) : Int) := by rw [w64 (by omega) (by omega)]; omega
  simp only [if_pos (show (q : Int) > 0 by omega), hwq, if_pos (show (0 : Int) ≤ ((q - 1 : Nat) : Int) by omega), if_pos (show ((q - 1 : Nat) : Int) < (out.length : Int) by omega), if_pos (show (0 : Int) ≤ (i : Int) by omega), if_pos (show (i : Int) < (l.length : Int) by omega), key_beq, rd34_at hi]
  by_cases hz : cmpK (rd_T32 out ((q - 1 : Nat) : Int)) l[i].f0 = 0
  ·rw [if_pos ⟨hq0, hz⟩] at hr
   simp only [hz, decide_true]
   refine Ev.step (fun k => accountingref19_keys.j3.eq_2 _ _ _ _ _ k) ?_
   simp only [if_true, hw1]
   exact hr
  ·simp only [hz, decide_false]
   exact new (fun c => hz c.2)
 ·simp only [if_neg (show ¬ (q : Int) > 0 by omega)]
  exact new (fun c => hq0 c.1)
theorem keys_l1 (l : List S34) (out : List S32) (i : Nat) (r : List S32) (hi : i < l.length) (hl : l.length ≤ 1000000) (ho : out.length ≤ 1000000) (hs : SS out)
  (hr : Ev (fun k => accountingref19_keys.l0 k l (insK l[i].f0 out) ((i + 1 : Nat) : Int)) r) :
  ∀ (q : Nat), q ≤ out.length → (∀ j (h : j < out.length), q ≤ j → 0 < cmpK out[j] l[i].f0) → Ev (fun k => accountingref19_keys.l1 k l out (i : Int) (q : Int)) r := by
 intro q
 induction q with
 | zero =>
  intro hq h1
  refine Ev.step (fun k => accountingref19_keys.l1.eq_2 _ _ _ _ k) ?_
  simp only [if_neg (show ¬ ((0 : Nat) : Int) > 0 by omega)]
  exact keys_j2 l out i 0 r hi hl ho hq hs h1 (fun _ h => absurd h (by omega)) hr
 | succ q ih =>
  intro hq h1
  have hwq : wrap64 (((q + 1 : Nat) : Int) - 1) = (q : Int) := by rw [w64 (by omega) (by omega)]; omega
  refine Ev.step (fun k => accountingref19_keys.l1.eq_2 _ _ _ _ k) ?_
  simp only [if_pos (show ((q + 1 : Nat) : Int) > 0 by omega), hwq, if_pos (show (0 : Int) ≤ (q : Int) by omega), if_pos (show (q : Int) < (out.length : Int) by omega), if_pos (show (0 : Int) ≤ (i : Int) by omega), if_pos (show (i : Int) < (l.length : Int) by omega), rd34_at hi, rd32_at (show q < out.length by omega)]
  have hc : Ev (fun k => accountingref19_Cmp.f k out[q].f0 out[q].f1 out[q].f2 out[q].f3 out[q].f4 l[i].f0.f0 l[i].f0.f1 l[i].f0.f2 l[i].f0.f3 l[i].f0.f4) (cmpK out[q] l[i].f0) :=
   ⟨6, fun k hk => by obtain ⟨m, rfl⟩ : ∃ m, k = m + 6 := ⟨k - 6, by omega⟩; exact refCmp_pure _ _ m⟩
  refine Ev.bind hc ?_
  by_cases hz : cmpK out[q] l[i].f0 > 0
  ·simp only [if_pos hz]
   refine ih (by omega) (fun j hj hqj => ?_)
   rcases Nat.eq_or_lt_of_le hqj with h | h
   ·subst h; exact hz
   ·exact h1 j hj h
  ·simp only [if_neg hz]
   exact keys_j2 l out i (q + 1) r hi hl ho hq hs h1 (fun h _ => by
    show cmpK out[q] l[i].f0 ≤ 0
    omega) hr
theorem keysK_len (l : List S34) : (keysK l).length ≤ l.length := by
 induction l with
 | nil => exact Nat.le_refl _
 | cons c r ih =>
  have h : ∀ (k : S32) (ks : List S32), (insK k ks).length ≤ ks.length + 1 := by
   intro k ks
   induction ks with
   | nil => exact Nat.le_refl _
   | cons a b ih =>
    unfold insK
    by_cases h1 : cmpK k a < 0
    ·rw [if_pos h1]; simp
    ·rw [if_neg h1]
     by_cases h2 : cmpK k a = 0
     ·rw [if_pos h2]; simp
     ·rw [if_neg h2]; simp only [List.length_cons]; omega
  have := h c.f0 (keysK r)
  unfold keysK
  simp only [List.length_cons]
  omega
theorem keys_l0 (l : List S34) (hl : l.length ≤ 1000000) : ∀ (n i : Nat), l.length - i = n → i ≤ l.length → Ev (fun k => accountingref19_keys.l0 k l (keysK (l.take i)) (i : Int)) (keysK l) := by
 intro n
 induction n with
 | zero =>
  intro i hn hi
  refine Ev.step (fun k => accountingref19_keys.l0.eq_2 _ _ _ k) ?_
  rw [List.take_of_length_le (by omega)]
  simp only [if_neg (show ¬ ((i : Int) < (l.length : Int)) by omega)]
  exact Ev.now _
 | succ n ih =>
  intro i hn hi
  have hil : i < l.length := by omega
  have hk := keysK_len (l.take i)
  rw [List.length_take] at hk
  refine Ev.step (fun k => accountingref19_keys.l0.eq_2 _ _ _ k) ?_
  simp only [if_pos (show ((i : Int) < (l.length : Int)) by omega)]
  refine keys_l1 l (keysK (l.take i)) i _ hil hl (by omega) (ss_keysK _) ?_ _ (Nat.le_refl _) (fun j hj h => absurd hj (by omega))
  have e : insK l[i].f0 (keysK (l.take i)) = keysK (l.take (i + 1)) := by
   rw [List.take_add_one, List.getElem?_eq_getElem hil]
   exact (keysK_perm (show (l.take i ++ [l[i]]).Perm (l[i] :: l.take i) from List.perm_append_comm)).symm
  rw [e]
  exact ih (i + 1) (by omega) (by omega)
theorem keys_ev (l : List S34) (hl : l.length ≤ 1000000) : Ev (fun k => accountingref19_keys.f k l) (keysK l) :=
 keys_l0 l hl _ 0 rfl (Nat.zero_le _)
/-! ### Of -/
theorem of_l1 (l : List S34) (ks : List S32) (out : List S34) (i : Nat) (r : List S34 × Int) (hi : i < ks.length) (hk : ks.length ≤ 1000000) (hok : OkS l) (ho : out.length ≤ 1000000)
  (hr1 : (fitB (sumA l ks[i]) && fitB (sumB l ks[i])) = false → r = ([], 4))
  (hr2 : (fitB (sumA l ks[i]) && fitB (sumB l ks[i])) = true → Ev (fun k => accountingref19_Of.l0 k l (if sumA l ks[i] ≠ 0 ∨ sumB l ks[i] ≠ 0 then out ++ [⟨ks[i], sumA l ks[i], sumB l ks[i]⟩] else out) ks ((i + 1 : Nat) : Int)) r) :
  ∀ (n j : Nat), l.length - j = n → j ≤ l.length → Ev (fun k => accountingref19_Of.l1 k l out ks (i : Int) (amts ((l.take j).filter (eqK ks[i]))) (bass ((l.take j).filter (eqK ks[i]))) (j : Int)) r := by
 have hl := hok.1
 have hwi : wrap64 ((i : Int) + 1) = ((i + 1 : Nat) : Int) := by rw [w64 (by omega) (by omega)]; omega
 have len : ∀ j, ((l.take j).filter (eqK ks[i])).length ≤ 1000000 := fun j => by
  have h1 := List.length_filter_le (eqK ks[i]) (l.take j)
  rw [List.length_take] at h1
  omega
 have bad : r = ([], 4) → ∀ x y, Ev (fun k => accountingref19_Of.j2 k l out ks (i : Int) x y true) r := by
  rintro rfl x y
  refine Ev.step (fun k => accountingref19_Of.j2.eq_2 _ _ _ _ _ _ _ k) ?_
  simp only [if_true]
  exact Ev.now _
 intro n
 induction n with
 | zero =>
  intro j hn hj
  refine Ev.step (fun k => accountingref19_Of.l1.eq_2 _ _ _ _ _ _ _ k) ?_
  rw [List.take_of_length_le (by omega)]
  simp only [if_neg (show ¬ ((j : Int) < (l.length : Int)) by omega)]
  have hla : (l.filter (eqK ks[i])).length ≤ 1000000 := Nat.le_trans (List.length_filter_le _ _) hl
  refine Ev.bind (rsum_ev (amts (l.filter (eqK ks[i]))) (by unfold amts; rw [List.length_map]; exact hla) (fun x hx => by
   obtain ⟨c, hc, rfl⟩ := List.mem_map.1 hx
   exact (hok.2 c (List.mem_filter.1 hc).1).1)) ?_
  refine Ev.bind (rsum_ev (bass (l.filter (eqK ks[i]))) (by unfold bass; rw [List.length_map]; exact hla) (fun x hx => by
   obtain ⟨c, hc, rfl⟩ := List.mem_map.1 hx
   exact (hok.2 c (List.mem_filter.1 hc).1).2)) ?_
  change (fitB (amts (l.filter (eqK ks[i]))).sum && fitB (bass (l.filter (eqK ks[i]))).sum) = false → _ at hr1
  change (fitB (amts (l.filter (eqK ks[i]))).sum && fitB (bass (l.filter (eqK ks[i]))).sum) = true → Ev (fun k => accountingref19_Of.l0 k l (if (amts (l.filter (eqK ks[i]))).sum ≠ 0 ∨ (bass (l.filter (eqK ks[i]))).sum ≠ 0 then out ++ [⟨ks[i], (amts (l.filter (eqK ks[i]))).sum, (bass (l.filter (eqK ks[i]))).sum⟩] else out) ks ((i + 1 : Nat) : Int)) r at hr2
  generalize (amts (l.filter (eqK ks[i]))).sum = A at hr1 hr2 ⊢
  generalize (bass (l.filter (eqK ks[i]))).sum = B at hr1 hr2 ⊢
  have nf : ∀ {n : Int}, ¬ i64ok n → fitB n = false := fun {n} h => by
   cases hf : fitB n with
   | false => rfl
   | true => exact absurd (fit_i64 hf) h
  by_cases ha : i64ok A
  ·by_cases hb : i64ok B
   ·simp only [if_pos ha, if_pos hb, if_true, fits_pure, Option.bind_some]
    cases hfa : fitB A with
    | false =>
     simp only [Bool.false_eq_true, if_false]
     exact bad (hr1 (by rw [hfa]; rfl)) _ _
    | true =>
     cases hfb : fitB B with
     | false =>
      simp only [if_true, Bool.not_false]
      exact bad (hr1 (by rw [hfb, Bool.and_false])) _ _
     | true =>
      have hr := hr2 (by rw [hfa, hfb]; rfl)
      simp only [if_true, Bool.not_true]
      refine Ev.step (fun k => accountingref19_Of.j2.eq_2 _ _ _ _ _ _ _ k) ?_
      simp only [Bool.false_eq_true, if_false, hwi, if_pos (show (0 : Int) ≤ (i : Int) by omega), if_pos (show (i : Int) < (ks.length : Int) by omega), if_pos (show out.length < 1466015503701 by omega), rd32_at hi, mk32]
      by_cases ca : A = 0
      ·by_cases cb : B = 0
       ·simp only [if_pos ca, if_pos cb]
        rw [if_neg (by omega)] at hr
        exact hr
       ·simp only [if_pos ca, if_neg cb]
        rw [if_pos (by omega)] at hr
        exact hr
      ·simp only [if_neg ca]
       rw [if_pos (by omega)] at hr
       exact hr
   ·simp only [if_pos ha, if_neg hb, if_true, Bool.false_eq_true, if_false]
    exact bad (hr1 (by rw [nf hb, Bool.and_false])) _ _
  ·simp only [if_neg ha, Bool.false_eq_true, if_false]
   exact bad (hr1 (by rw [nf ha, Bool.false_and])) _ _
 | succ n ih =>
  intro j hn hj
  have hjl : j < l.length := by omega
  have hwj : wrap64 ((j : Int) + 1) = ((j + 1 : Nat) : Int) := by rw [w64 (by omega) (by omega)]; omega
  have ht : l.take (j + 1) = l.take j ++ [l[j]] := by rw [List.take_add_one, List.getElem?_eq_getElem hjl]; rfl
  have la := len j
  refine Ev.step (fun k => accountingref19_Of.l1.eq_2 _ _ _ _ _ _ _ k) ?_
  simp only [if_pos (show ((j : Int) < (l.length : Int)) by omega), if_pos (show (0 : Int) ≤ (j : Int) by omega), if_pos (show (0 : Int) ≤ (i : Int) by omega), if_pos (show (i : Int) < (ks.length : Int) by omega), key_beq, rd34_at hjl, rd32_at hi, hwj, decide_eq_true_eq, if_pos (show (amts ((l.take j).filter (eqK ks[i]))).length < 17592186044416 by unfold amts; rw [List.length_map]; omega), if_pos (show (bass ((l.take j).filter (eqK ks[i]))).length < 17592186044416 by unfold bass; rw [List.length_map]; omega)]
  have hsw := cmp3_K.sw l[j].f0 ks[i]
  have ih := ih (j + 1) (by omega) (by omega)
  rw [ht, List.filter_append] at ih
  by_cases hz : cmpK l[j].f0 ks[i] = 0
  ·have he : eqK ks[i] l[j] = true := by unfold eqK; exact decide_eq_true (by omega)
   simp only [if_pos hz]
   rw [List.filter_cons, if_pos he, List.filter_nil] at ih
   unfold amts bass at ih ⊢
   rw [List.map_append, List.map_append] at ih
   exact ih
  ·have he : ¬ eqK ks[i] l[j] = true := by unfold eqK; rw [decide_eq_true_iff]; omega
   simp only [if_neg hz]
   rw [List.filter_cons, if_neg he, List.filter_nil, List.append_nil] at ih
   exact ih
theorem refof_l0 (l : List S34) (ks : List S32) (hk : ks.length ≤ 1000000) (hok : OkS l) : ∀ (n i : Nat) (out : List S34), ks.length - i = n → i ≤ ks.length → out.length ≤ i → Ev (fun k => accountingref19_Of.l0 k l out ks (i : Int)) (if (cellsK l (ks.drop i) out).1 = true then ((cellsK l (ks.drop i) out).2, 0) else ([], 4)) := by
 intro n
 induction n with
 | zero =>
  intro i out hn hi ho
  refine Ev.step (fun k => accountingref19_Of.l0.eq_2 _ _ _ _ k) ?_
  rw [List.drop_of_length_le (by omega)]
  simp only [if_neg (show ¬ ((i : Int) < (ks.length : Int)) by omega), cellsK, if_true]
  exact Ev.now _
 | succ n ih =>
  intro i out hn hi ho
  have hil : i < ks.length := by omega
  refine Ev.step (fun k => accountingref19_Of.l0.eq_2 _ _ _ _ k) ?_
  simp only [if_pos (show ((i : Int) < (ks.length : Int)) by omega)]
  rw [List.drop_eq_getElem_cons hil]
  unfold cellsK
  refine of_l1 l ks out i _ hil hk hok (by omega) (fun h => ?_) (fun h => ?_) _ 0 rfl (Nat.zero_le _)
  ·rw [if_neg (by rw [h]; simp)]
  ·rw [if_pos h]
   refine ih (i + 1) _ (by omega) (by omega) ?_
   by_cases c : sumA l ks[i] ≠ 0 ∨ sumB l ks[i] ≠ 0
   ·rw [if_pos c, List.length_append]
    simp only [List.length_cons, List.length_nil]
    omega
   ·rw [if_neg c]; omega
theorem refof_ev (l : List S34) (h : OkS l) : Ev (fun k => accountingref19_Of.f k l) (ofK l) := by
 unfold accountingref19_Of.f
 refine Ev.bind (keys_ev l h.1) ?_
 have hk := keysK_len l
 have hl := h.1
 exact refof_l0 l (keysK l) (by omega) h _ 0 [] rfl (Nat.zero_le _) (Nat.le_refl _)
end Go.Proofs.Ytmflggbpiadkjaa.P
namespace Go.Proofs.Ytmflggbpiadkjaa.P
open Go.RowKit Go.Sort Go.Proofs.YtmflggbpiadkjaaW.PrintWords Go.Proofs.YtmflggbpiadkjaaW.PrintLast Go.Proofs.Ytmflggbpiadkjaa.Op
set_option linter.unusedVariables false
set_option linter.unusedSimpArgs false
def addI (a b : List S34) : List S34 × Int := if rightB a = true ∧ rightB b = true then ofK (a ++ b) else ([], 2)
theorem okS_appI {a b : List S34} (ha : RightL a) (hb : RightL b) (hl : a.length + b.length ≤ 1000000) : OkS (a ++ b) := by
 refine ⟨by rw [List.length_append]; exact hl, fun x hx => ?_⟩
 rcases List.mem_append.1 hx with h | h
 ·exact (okS_right ha (by omega)).2 x h
 ·exact (okS_right hb (by omega)).2 x h
theorem refaddI_ev (a b : List S34) (hl : a.length + b.length ≤ 1000000) : Ev (fun k => accountingref19_Add.f k a b) (addI a b) := by
 unfold accountingref19_Add.f accountingref19_Right.f addI
 simp only [Option.bind_some]
 by_cases ha : rightB a = true
 ·simp only [if_pos ha]
  by_cases hb : rightB b = true
  ·simp only [if_pos hb, if_pos (show rightB a = true ∧ rightB b = true from ⟨ha, hb⟩), List.nil_append, List.length_nil, Nat.zero_add, if_pos (show a.length < 1466015503701 by omega), if_pos (show a.length + b.length < 1466015503701 by omega)]
   exact Ev.bind (refof_ev _ (okS_appI ((right_iff a).1 ha) ((right_iff b).1 hb) hl)) (Ev.now _)
  ·simp only [if_neg hb, if_neg (show ¬ (rightB a = true ∧ rightB b = true) from fun h => hb h.2)]
   exact Ev.now _
 ·simp only [if_neg ha, if_neg (show ¬ (rightB a = true ∧ rightB b = true) from fun h => ha h.1)]
  exact Ev.now _
def woB (d : ByteArray) (c : S34) : Bool := !(c.f0.f1.toList == d.toList)
def woK (d : ByteArray) (l : List S34) : List S34 := l.filter (woB d)
theorem wo_l0 (l : List S34) (d : ByteArray) (hl : l.length ≤ 1000000) : ∀ (n i : Nat), l.length - i = n → i ≤ l.length → Ev (fun k => accountinglaw44_without.l0 k l d (woK d (l.take i)) (i : Int)) (woK d l) := by
 intro n
 induction n with
 | zero =>
  intro i hn hi
  refine Ev.step (fun k => accountinglaw44_without.l0.eq_2 _ _ _ _ k) ?_
  rw [List.take_of_length_le (by omega)]
  simp only [if_neg (show ¬ ((i : Int) < (l.length : Int)) by omega)]
  exact Ev.now _
 | succ n ih =>
  intro i hn hi
  have hil : i < l.length := by omega
  have hw : wrap64 ((i : Int) + 1) = ((i + 1 : Nat) : Int) := by rw [w64 (by omega) (by omega)]; omega
  have hp : (woK d (l.take i)).length ≤ i := by
   have := List.length_filter_le (woB d) (l.take i)
   rw [List.length_take] at this
   unfold woK
   omega
  have ih := ih (i + 1) (by omega) (by omega)
  have ht : woK d (l.take (i + 1)) = woK d (l.take i) ++ [l[i]].filter (woB d) := by
   unfold woK
   rw [List.take_add_one, List.getElem?_eq_getElem hil, List.filter_append]
   rfl
  rw [ht] at ih
  refine Ev.step (fun k => accountinglaw44_without.l0.eq_2 _ _ _ _ k) ?_
  simp only [if_pos (show ((i : Int) < (l.length : Int)) by omega), if_pos (show (0 : Int) ≤ (i : Int) by omega), hw, rd34_at hil, if_pos (show (woK d (l.take i)).length < 1466015503701 by omega), mk34I]
  by_cases c : l[i].f0.f1.toList = d.toList
  ·rw [List.filter_cons_of_neg (by unfold woB; rw [beq_iff_eq.2 c]; decide), List.filter_nil, List.append_nil] at ih
   simp only [if_pos c]; exact ih
  ·rw [List.filter_cons_of_pos (by unfold woB; rw [beq_eq_false_iff_ne.2 c]; rfl), List.filter_nil] at ih
   simp only [if_neg c]; exact ih
theorem wo_ev (l : List S34) (d : ByteArray) (hl : l.length ≤ 1000000) : Ev (fun k => accountinglaw44_without.f k l d) (woK d l) := wo_l0 l d hl _ 0 rfl (Nat.zero_le _)
/-! ### The sums behind an elimination -/
theorem pc_zero (cur diff : ByteArray) (p : List S89) (k : S32) (h : ¬ (k.f1 = diff ∧ k.f3 = ⟨#[]⟩)) : psA (isK k) (p.map (pcI cur diff)) = 0 ∧ psB (isK k) (p.map (pcI cur diff)) = 0 := by
 have hz : ∀ c ∈ p.map (pcI cur diff), isK k c.f0 = false := fun c hc => by
  obtain ⟨x, _, rfl⟩ := List.mem_map.1 hc
  rw [Bool.eq_false_iff]
  intro e
  have := isK_iff.1 e
  exact h (by rw [this]; exact ⟨rfl, rfl⟩)
 exact ⟨psA_zero hz, psB_zero hz⟩
theorem in_sum (m : List ByteArray) (k : S32) : ∀ (l : List S34), (insB m k = true → sumA (inK m l) k = sumA l k ∧ sumB (inK m l) k = sumB l k) ∧ (insB m k = false → sumA (inK m l) k = 0 ∧ sumB (inK m l) k = 0)
 | [] => ⟨fun _ => ⟨rfl, rfl⟩, fun _ => ⟨rfl, rfl⟩⟩
 | c :: r => by
  have ih := in_sum m k r
  have hk : ∀ (v : Int), insB m c.f0 ≠ insB m k → (if isK k c.f0 = true then v else 0) = 0 := fun v h => if_neg (fun e => h (by rw [isK_iff.1 e]))
  have e : inK m (c :: r) = if insB m c.f0 = true then c :: inK m r else inK m r := by
   unfold inK
   by_cases h : insB m c.f0 = true
   ·rw [if_pos h, List.filter_cons_of_pos (by exact h)]
   ·rw [if_neg h, List.filter_cons_of_neg (by exact h)]
  rw [e]
  constructor
  ·intro h
   have ih := ih.1 h
   by_cases hc : insB m c.f0 = true
   ·rw [if_pos hc]
    rw [sumA_ps, sumB_ps] at ih ⊢
    rw [sumA_ps, sumB_ps] at ih ⊢
    rw [psA_cons, psB_cons, psA_cons, psB_cons, ih.1, ih.2]
    exact ⟨rfl, rfl⟩
   ·rw [if_neg hc]
    rw [ih.1, ih.2, sumA_ps, sumB_ps, sumA_ps, sumB_ps, psA_cons, psB_cons, hk c.f1 (by rw [h]; exact hc), hk c.f2 (by rw [h]; exact hc)]
    exact ⟨(Int.zero_add _).symm, (Int.zero_add _).symm⟩
  ·intro h
   have ih := ih.2 h
   by_cases hc : insB m c.f0 = true
   ·rw [if_pos hc, sumA_ps, sumB_ps, psA_cons, psB_cons, hk c.f1 (by rw [h, hc]; decide), hk c.f2 (by rw [h, hc]; decide)]
    rw [sumA_ps, sumB_ps] at ih
    rw [ih.1, ih.2]
    exact ⟨rfl, rfl⟩
   ·rw [if_neg hc]; exact ih
section
variable {cur diff : ByteArray} {m : List ByteArray} {l s : List S34} {p : List S89}
theorem gone_sum (hs : ∀ k, sumA s k = sumA (elCells cur diff (inK m l) p) k ∧ sumB s k = sumB (elCells cur diff (inK m l) p) k) (hne : hasB m ⟨#[]⟩ = false) (k : S32) :
  (insB m k = true → sumA (l ++ s) k = 0 ∧ sumB (l ++ s) k = 0) ∧ (insB m k = false → k.f1 ≠ diff → sumA (l ++ s) k = sumA l k ∧ sumB (l ++ s) k = sumB l k) := by
 have e : sumA (l ++ s) k = sumA l k + (- sumA (inK m l) k + psA (isK k) (p.map (pcI cur diff))) ∧ sumB (l ++ s) k = sumB l k + (- sumB (inK m l) k + psB (isK k) (p.map (pcI cur diff))) := by
  have h1 := hs k
  rw [sumA_ps, sumB_ps, psA_append, psB_append]
  rw [show psA (isK k) s = sumA s k from rfl, show psB (isK k) s = sumB s k from rfl, h1.1, h1.2]
  unfold elCells
  rw [sumA_ps, sumB_ps, psA_append, psB_append, (psA_negI (isK k) _).1, (psA_negI (isK k) _).2]
  exact ⟨rfl, rfl⟩
 rw [e.1, e.2]
 constructor
 ·intro h
  have hz := pc_zero cur diff p k (fun h2 => by
   unfold insB at h
   rw [h2.2, hne] at h
   simp at h)
  have hi := (in_sum m k l).1 h
  rw [hz.1, hz.2, hi.1, hi.2]
  constructor <;> omega
 ·intro h h2
  have hz := pc_zero cur diff p k (fun h3 => h2 h3.1)
  have hi := (in_sum m k l).2 h
  rw [hz.1, hz.2, hi.1, hi.2]
  constructor <;> omega
theorem gone_in (hs : ∀ k, sumA s k = sumA (elCells cur diff (inK m l) p) k ∧ sumB s k = sumB (elCells cur diff (inK m l) p) k) (hne : hasB m ⟨#[]⟩ = false) (h0 : (ofK (l ++ s)).2 = 0) : inK m (ofK (l ++ s)).1 = [] := by
 rw [ofK_ok (ofK_fit h0)]
 unfold inK
 refine List.filter_eq_nil_iff.2 (fun c hc h => ?_)
 have h1 := List.mem_filter.1 hc
 obtain ⟨k, _, rfl⟩ := List.mem_map.1 h1.1
 have h2 := (gone_sum hs hne k).1 h
 have h3 := h1.2
 unfold nzC cellOf at h3
 rw [decide_eq_true_iff, h2.1, h2.2] at h3
 simp at h3
theorem gone_wo (hl : RightL l) (hs : ∀ k, sumA s k = sumA (elCells cur diff (inK m l) p) k ∧ sumB s k = sumB (elCells cur diff (inK m l) p) k) (hne : hasB m ⟨#[]⟩ = false) (h0 : (ofK (l ++ s)).2 = 0) : woK diff (ofK (l ++ s)).1 = woK diff (outK m l) := by
 have wk : ∀ c : S34, woB diff c = true ↔ c.f0.f1 ≠ diff := fun c => by
  unfold woB
  rw [Bool.not_eq_true', beq_eq_false_iff_ne]
  constructor
  ·intro h e; exact h (by rw [e])
  ·intro h e; exact h (ByteArray.ext (Array.ext' (by rw [← ByteArray.toList_eq, ← ByteArray.toList_eq]; exact e)))
 have hr := right_ofK (l ++ s)
 have lhs : ∀ c ∈ woK diff (ofK (l ++ s)).1, c = cellOf (l ++ s) c.f0 ∧ nzC c = true ∧ c.f0.f1 ≠ diff := fun c hc => by
  have h1 := List.mem_filter.1 hc
  have h2 := h1.1
  rw [ofK_ok (ofK_fit h0)] at h2
  have h3 := List.mem_filter.1 h2
  obtain ⟨k, _, rfl⟩ := List.mem_map.1 h3.1
  exact ⟨rfl, h3.2, (wk _).1 h1.2⟩
 have same : ∀ k : S32, insB m k = false → k.f1 ≠ diff → cellOf (l ++ s) k = cellOf l k := fun k h1 h2 => by
  unfold cellOf
  rw [((gone_sum hs hne k).2 h1 h2).1, ((gone_sum hs hne k).2 h1 h2).2]
 have rhs : ∀ c ∈ woK diff (outK m l), c ∈ l ∧ insB m c.f0 = false ∧ c.f0.f1 ≠ diff := fun c hc => by
  have h1 := List.mem_filter.1 hc
  have h2 := List.mem_filter.1 h1.1
  exact ⟨h2.1, by simpa using h2.2, (wk _).1 h1.2⟩
 have rcell : ∀ c ∈ l, cellOf l c.f0 = c := fun c hc => by
  have := ps_in l hl.2 c hc
  unfold cellOf
  rw [this.1, this.2]
 have e1 : woK diff (ofK (l ++ s)).1 = ((woK diff (ofK (l ++ s)).1).map S34.f0).map (cellOf (l ++ s)) := by
  rw [List.map_map]
  have : (woK diff (ofK (l ++ s)).1).map (cellOf (l ++ s) ∘ S34.f0) = (woK diff (ofK (l ++ s)).1).map id := List.map_congr_left (fun c hc => (lhs c hc).1.symm)
  rw [this, List.map_id]
 have e2 : woK diff (outK m l) = ((woK diff (outK m l)).map S34.f0).map (cellOf (l ++ s)) := by
  rw [List.map_map]
  have : (woK diff (outK m l)).map (cellOf (l ++ s) ∘ S34.f0) = (woK diff (outK m l)).map id := List.map_congr_left (fun c hc => by
   have h1 := rhs c hc
   show cellOf (l ++ s) c.f0 = c
   rw [same c.f0 h1.2.1 h1.2.2, rcell c h1.1])
  rw [this, List.map_id]
 have ek : (woK diff (ofK (l ++ s)).1).map S34.f0 = (woK diff (outK m l)).map S34.f0 := by
  refine ss_unique (List.Pairwise.sublist (List.filter_sublist.map _) hr.2) (List.Pairwise.sublist ((List.filter_sublist.trans List.filter_sublist).map _) hl.2) (fun k => ?_)
  constructor
  ·intro hk
   obtain ⟨c, hc, rfl⟩ := List.mem_map.1 hk
   obtain ⟨h1, h2, h3⟩ := lhs c hc
   have hni : insB m c.f0 = false := by
    cases hi : insB m c.f0 with
    | false => rfl
    | true =>
     exfalso
     have h4 := (gone_sum hs hne c.f0).1 hi
     rw [h1] at h2
     unfold nzC cellOf at h2
     rw [decide_eq_true_iff, h4.1, h4.2] at h2
     simp at h2
   have hcl : c = cellOf l c.f0 := h1.trans (same c.f0 hni h3)
   have hkl : c.f0 ∈ keysK l := by
    by_cases hm : c.f0 ∈ keysK l
    ·exact hm
    ·exfalso
     rw [hcl] at h2
     unfold nzC cellOf at h2
     simp only [sumA_none hm, sumB_none hm] at h2
     simp at h2
   obtain ⟨d, hd, hdk⟩ := (mem_keysK _ _).1 hkl
   refine List.mem_map.2 ⟨d, List.mem_filter.2 ⟨List.mem_filter.2 ⟨hd, by rw [hdk, hni]; rfl⟩, (wk _).2 (by rw [hdk]; exact h3)⟩, hdk⟩
  ·intro hk
   obtain ⟨c, hc, rfl⟩ := List.mem_map.1 hk
   obtain ⟨h1, h2, h3⟩ := rhs c hc
   have h4 := (bad_iff c).1 (hl.1 c h1)
   have hcl : cellOf (l ++ s) c.f0 = c := by rw [same c.f0 h2 h3, rcell c h1]
   refine List.mem_map.2 ⟨c, List.mem_filter.2 ⟨?_, (wk c).2 h3⟩, rfl⟩
   rw [ofK_ok (ofK_fit h0)]
   exact List.mem_filter.2 ⟨List.mem_map.2 ⟨c.f0, (mem_keysK _ _).2 ⟨c, by simp [h1], rfl⟩, hcl⟩, h4.1⟩
 rw [e1, e2, ek]
end
theorem prK_names {l : List S34} {p : S89} (hp : p ∈ (prK l).1) : ∃ c ∈ l, p.f0 = c.f0.f0 ∨ p.f0 = c.f0.f3 := by
 rw [prK_prs] at hp
 by_cases h : (prsOf l).all (fun p => fitB p.f2) = true
 ·rw [if_pos h] at hp
  obtain ⟨k, hk, rfl⟩ := List.mem_map.1 hp
  obtain ⟨c, hc, rfl⟩ := (mem_keysK k _).1 hk
  obtain ⟨x, hx, rfl⟩ := List.mem_map.1 hc
  refine ⟨x, hx, ?_⟩
  show (cpl x).1 = _ ∨ (cpl x).1 = _
  unfold cpl
  split
  ·exact .inl rfl
  ·exact .inr rfl
 ·rw [if_neg h] at hp; simp at hp
theorem of_keys {l : List S34} {c : S34} (hc : c ∈ (ofK l).1) : ∃ d ∈ l, d.f0 = c.f0 := by
 rcases ofK_code l with h | h
 ·rw [ofK_ok (ofK_fit h)] at hc
  obtain ⟨k, hk, rfl⟩ := List.mem_map.1 (List.mem_filter.1 hc).1
  exact (mem_keysK _ _).1 hk
 ·rw [h] at hc; simp at hc
end Go.Proofs.Ytmflggbpiadkjaa.P
namespace Go.Proofs.Ytmflggbpiadkjaa.P
open Go.RowKit Go.Proofs.YtmflggbpiadkjaaW.PrintWords Go.Proofs.YtmflggbpiadkjaaW.PrintLast Go.Proofs.YtmflggbpiadkjaaW.PrintMore
attribute [local go_sem] max2_int min2_int max_two min_two max_three min_three max_four min_four   -- for this text's walks alone
set_option linter.unusedVariables false
set_option linter.unusedSimpArgs false
/-! ### accountingref19_Base: function 28 -/
def accountingref19_Base.l0 : Nat → List (S34) → List Int → Int → Option (Int × Int)
  | 0, _, _, _ => none
  | k + 1, x0, x4, x5 => if x5 < (x0.length : Int) then (if 0 ≤ x5 then (if x4.length < 17592186044416 then (accountingref19_Base.l0 k x0 (x4 ++ [(rd_T34 x0 x5).f2]) (wrap64 (x5 + 1))) else (none)) else (none)) else ((accountingref01_Sum.f k x4).bind fun bt341 => (if bt341.2 = true then ((accountingref19_fits.f bt341.1).bind fun t343 => (if t343 = true then (some (bt341.1, 0)) else (some (0, 4)))) else (some (0, 4))))
def accountingref19_Base.f (k : Nat) (l0 : List (S34)) : Option (Int × Int) := accountingref19_Base.l0 k l0 ([] : List Int) 0
theorem accountingref19_Base.mono_l : ∀ k, (∀ y0 y1 y2, LeO (accountingref19_Base.l0 k y0 y1 y2) (accountingref19_Base.l0 (k + 1) y0 y1 y2))
  | 0 => fun _ _ _ r h => by simp [accountingref19_Base.l0] at h
  | k + 1 => by
    have ih0 := accountingref19_Base.mono_l k
    · intro y0 y1 y2
      unfold accountingref19_Base.l0
      repeat' first
      | (with_reducible exact ih0 _ _ _)
      | (with_reducible exact accountingref01_Sum.mono _ _)
      | (with_reducible exact LeO.refl _)
      | (with_reducible exact LeO.none _)
      | (with_reducible refine LeO.ite ?_ ?_)
      | (with_reducible refine LeO.bind ?_ (fun _ => ?_))
      | exact ih0 _ _ _
      | exact accountingref01_Sum.mono _ _
      | exact LeO.none _
      | refine LeO.ite ?_ ?_
      | refine LeO.bind ?_ (fun _ => ?_)
theorem accountingref19_Base.mono : ∀ a0 k, LeO (accountingref19_Base.f k a0) (accountingref19_Base.f (k + 1) a0) := by
  intro a0 k
  have ih0 := accountingref19_Base.mono_l k
  unfold accountingref19_Base.f
  repeat' first
      | (with_reducible exact ih0 _ _ _)
      | (with_reducible exact accountingref01_Sum.mono _ _)
      | (with_reducible exact LeO.refl _)
      | (with_reducible exact LeO.none _)
      | (with_reducible refine LeO.ite ?_ ?_)
      | (with_reducible refine LeO.bind ?_ (fun _ => ?_))
      | exact ih0 _ _ _
      | exact accountingref01_Sum.mono _ _
      | exact LeO.none _
      | refine LeO.ite ?_ ?_
      | refine LeO.bind ?_ (fun _ => ?_)
set_option maxHeartbeats 8000000 in
set_option maxRecDepth 100000 in
theorem accountingref19_Base.calls (k : Nat) (A0 : Option Addr) (c0 : Nat) (l0 : List (S34)) (r1 : Int) (r2 : Int) (w : World) (hr0 : Kd.C k34 w A0 l0.length l0) (hc0 : l0.length ≤ c0) (h : accountingref19_Base.f k l0 = some (r1, r2)) :
    Calls Try.prog 28 #[.slice A0 l0.length c0] w fun e w' => e = .returned (.tuple #[.int .i64 r1, .int .i64 r2]) ∧ Below w.heap.size w w' := by
  have HR0 := Aside0.mk hr0
  have HC0 := Aside0.mk hc0
  clear hr0 hc0
  have HB := Aside0.mk (Below.refl w.heap.size w)
  have H : (accountingref19_Base.l0 k l0 ([] : List Int) 0) = some (r1, r2) := h
  clear h
  have H' := Aside0.mk H
  clear H
  go_enter Try.func28, Try.ntmps28
  go_wp2
  go_loopg [4, 5] k (fun kq v4 v5 w' => ∃ (x4_1 : List Int) (x5_1 : Int), v5 = .int .i64 x5_1 ∧ Aside0 (accountingref19_Base.l0 kq l0 x4_1 x5_1 = some (r1, r2)) ∧ Aside0 (kq ≤ k) ∧ Aside0 (Kd.R (Kd.int .i64) 3 w' w.heap.size (fun _ => True) v4 x4_1) ∧ Aside0 (Below w.heap.size w w'))
  case atStart => exact ⟨(([] : List Int)), (0), (by first | rfl | (simp; done) | (simp [*]; done)), H', ⟨Nat.le_refl _⟩, ⟨by first | exact Kd.R_nil _ _ _ _ _ | exact Kd.N_nil _ _ _ _ _ | exact Kd.V_nil _ _ _ _ _ | exact Kd.Q_nil _ _ _ _ _ | exact Kd.S_nil _ _ _ _ _⟩, ⟨by repeat (first | (with_reducible first | exact HB.out | apply below_alloc | apply pw_below_drewN | apply below_drew1) | exact HB.out)⟩⟩
  case round =>
    clear H'
    obtain ⟨x4_1, x5_1, rfl, HA, HK1, HO_4, HB⟩ := hrel
    cases gk with
    | zero => exact absurd HA.out (by simp [accountingref19_Base.l0])
    | succ k1 =>
      have H := HA.out
      clear HA
      simp only [accountingref19_Base.l0] at H
      by_cases c2 : x5_1 < (l0.length : Int)
      · rw [if_pos c2] at H
        have c2b0 : decide (x5_1 < (l0.length : Int)) = true := decide_eq_true c2
        clear c2
        by_cases c3 : 0 ≤ x5_1
        · rw [if_pos c3] at H
          have c3b0 : decide (0 ≤ x5_1) = true := decide_eq_true c3
          clear c3
          by_cases c4 : x4_1.length < 17592186044416
          · rw [if_pos c4] at H
            have LMc4 := Aside0.mk c4
            clear c4
            obtain ⟨y338, hy338⟩ : ∃ y_ : List Int, y_ = (x4_1 ++ [(rd_T34 l0 x5_1).f2]) := ⟨_, rfl⟩
            replace H : (accountingref19_Base.l0 k1 l0 y338 (wrap64 (x5_1 + 1))) = some (r1, r2) := by first | (rw [hy338]; with_reducible exact H) | (have H2_ := (Option.bind_some _ _).symm.trans H; rw [hy338]; with_reducible exact H2_) | (have H2_ := (Option.bind_some _ _).symm.trans H; with_reducible exact H2_) | with_reducible exact H | (rw [hy338]; exact H) | exact H
            have Ny338 := Aside0.mk hy338
            clear hy338
            have H' := Aside0.mk H
            clear H
            have p337 : 0 ≤ (x5_1 : Int) := of_decide_eq_true (by first | (with_reducible assumption) | assumption)
            have q337 : x5_1 < (l0.length : Int) := of_decide_eq_true (by first | (with_reducible assumption) | assumption)
            obtain ⟨ad337, e337, hx337_0, hx337_1, hx337_2, hx337_3, hx337_4, hx337_5, hx337_6⟩ := at_T34 HR0.out x5_1 p337 q337
            cases e337
            replace hx337_0 := (HB.out.cell (World.block_lt_of_cell? w _ hx337_0)).trans hx337_0
            replace hx337_1 := (HB.out.cell (World.block_lt_of_cell? w _ hx337_1)).trans hx337_1
            replace hx337_2 := (HB.out.cell (World.block_lt_of_cell? w _ hx337_2)).trans hx337_2
            replace hx337_3 := (HB.out.cell (World.block_lt_of_cell? w _ hx337_3)).trans hx337_3
            replace hx337_4 := (HB.out.cell (World.block_lt_of_cell? w _ hx337_4)).trans hx337_4
            replace hx337_5 := (HB.out.cell (World.block_lt_of_cell? w _ hx337_5)).trans hx337_5
            replace hx337_6 := (HB.out.cell (World.block_lt_of_cell? w _ hx337_6)).trans hx337_6
            replace p337 := eq_true p337
            replace q337 := eq_true q337
            go_wp2_with (first | ((with_reducible refine gate_builtin (b := .append) (xs := #[.tmp 14, .tmp 20]) rfl ?_); at_builtin; refine Kd.R_append (Kd.int .i64) (w0 := w) w.heap.size rfl (.tmp 14) (.tmp 20) 67 3 (.int .i64 0) 8 rfl Try.underlying67 info3 rfl (by decide) (by omega) u4 x4_1 ((rd_T34 l0 x5_1).f2) [.int .i64 ((rd_T34 l0 x5_1).f2)] (fun _ => True) (fun _ => False) rfl rfl ?aP (fun _ hk => hk.elim) ?aF ?aO ?aB ?aS ?aL ?_; (case aP => exact rfl); (case aB => exact (by repeat (first | (with_reducible first | exact HB.out | apply below_alloc | apply pw_below_drewN | apply below_drew1) | exact HB.out))); (case aF => exact (fun _ _ => trivial)); (case aO => exact (by (with_reducible repeat (first | apply Kd.R_alloc | apply Kd.R_drewN | apply Kd.R_drew)); exact HO_4.out)); (case aS => exact (below_size (by repeat (first | (with_reducible first | exact HB.out | apply below_alloc | apply pw_below_drewN | apply below_drew1) | exact HB.out)))); (case aL => have := LMc4.out; omega); intro v339 w5 ho hb hg hat; rw [← Ny338.out] at ho; have n0_ := Aside0.mk (hb); have n1_ := Aside0.mk (ho); clear HB; clear HO_4; have HB := n0_; have HO340 := n1_; clear n0_ n1_; clear ho hb hg hat))
            go_roundg k1
            case measure => have := HK1.out; omega
            case rel => exact ⟨(y338), (wrap64 (x5_1 + 1)), (by first | rfl | (simp; done) | (simp [*]; done)), H', ⟨by have := HK1.out; omega⟩, ⟨by (with_reducible repeat (first | apply Kd.R_alloc | apply Kd.R_drewN | apply Kd.R_drew)); exact HO340.out⟩, ⟨by repeat (first | (with_reducible first | exact HB.out | apply below_alloc | apply pw_below_drewN | apply below_drew1) | exact HB.out)⟩⟩
          · rw [if_neg c4] at H
            exact absurd H (by simp)
        · rw [if_neg c3] at H
          exact absurd H (by simp)
      · rw [if_neg c2] at H
        have c2b0 : decide (x5_1 < (l0.length : Int)) = false := decide_eq_false c2
        clear c2
        replace H := Option.bind_eq_some_iff.mp H
        obtain ⟨⟨t341, t342⟩, A60, H⟩ := H
        replace H : (if t342 = true then ((accountingref19_fits.f t341).bind fun t343 => (if t343 = true then (some (t341, 0)) else (some (0, 4)))) else (some (0, 4))) = some (r1, r2) := H
        have A6 := Aside0.mk A60
        clear A60
        by_cases c7 : t342 = true
        · subst c7
          have H1 : ((accountingref19_fits.f t341).bind fun t343 => (if t343 = true then (some (t341, 0)) else (some (0, 4)))) = some (r1, r2) := by rw [if_pos rfl] at H; exact H
          clear H
          have H := H1
          clear H1
          replace H := Option.bind_eq_some_iff.mp H
          obtain ⟨t343, A80, H⟩ := H
          replace H : (if t343 = true then (some (t341, 0)) else (some (0, 4))) = some (r1, r2) := H
          have A8 := Aside0.mk A80
          clear A80
          by_cases c9 : t343 = true
          · subst c9
            have H1 : (some (t341, 0)) = some (r1, r2) := by rw [if_pos rfl] at H; exact H
            clear H
            have H := H1
            clear H1
            simp only [Option.some.injEq, Prod.mk.injEq] at H
            obtain ⟨rfl, rfl⟩ := H
            obtain ⟨Ao10, co10, eo10⟩ := Kd.R_slice HO_4.out
            subst eo10
            go_wp2_with (first | ((with_reducible refine gate_callee (f := 58) rfl ?_); refine goesL_ (some 24) rfl rfl Try.func58 (by kernel_rfl) rfl #[.slice Ao10 x4_1.length co10] rfl (by (try simp only [List.map_toArray, List.map_cons, List.map_nil]); first | done | rfl | (simp only [List.length_drop, List.length_take]; rfl)) ?_; (with_reducible refine (accountingref01_Sum.calls k1 _ _ x4_1 t341 true _ ?side1 ?side2 A6.out).mono ?_); (case side1 => repeat (first | exact (Kd.R_reads' HO_4.out).2.2 | (with_reducible refine Kd.C_alloc ?_ _) | (with_reducible refine Kd.C_drewN ?_ _) | (with_reducible refine Kd.C_drew ?_))); (case side2 => exact (Kd.R_reads' HO_4.out).2.1); rintro e w' ⟨rfl, ⟨nd, rfl⟩⟩; refine ⟨_, rfl, ?_⟩) | (go_at_call 59; (with_reducible refine (accountingref19_fits.calls t341 true _ A8.out).mono ?_); rintro e w' ⟨rfl, ⟨nd, rfl⟩⟩))
            go_ret2
            exact ⟨by first | rfl | (simp [errW_none, errW_some] <;> rfl) | (simp [*, errW_none, errW_some] <;> rfl), by repeat (first | (with_reducible first | exact HB.out | apply below_alloc | apply pw_below_drewN | apply below_drew1) | exact HB.out)⟩
          · replace c9 := Bool.eq_false_iff.mpr c9
            subst c9
            have H1 : (some (0, 4)) = some (r1, r2) := by rw [if_neg (show ¬ (false = true) by decide)] at H; exact H
            clear H
            have H := H1
            clear H1
            simp only [Option.some.injEq, Prod.mk.injEq] at H
            obtain ⟨rfl, rfl⟩ := H
            obtain ⟨Ao11, co11, eo11⟩ := Kd.R_slice HO_4.out
            subst eo11
            go_wp2_with (first | ((with_reducible refine gate_callee (f := 58) rfl ?_); refine goesL_ (some 24) rfl rfl Try.func58 (by kernel_rfl) rfl #[.slice Ao11 x4_1.length co11] rfl (by (try simp only [List.map_toArray, List.map_cons, List.map_nil]); first | done | rfl | (simp only [List.length_drop, List.length_take]; rfl)) ?_; (with_reducible refine (accountingref01_Sum.calls k1 _ _ x4_1 t341 true _ ?side1 ?side2 A6.out).mono ?_); (case side1 => repeat (first | exact (Kd.R_reads' HO_4.out).2.2 | (with_reducible refine Kd.C_alloc ?_ _) | (with_reducible refine Kd.C_drewN ?_ _) | (with_reducible refine Kd.C_drew ?_))); (case side2 => exact (Kd.R_reads' HO_4.out).2.1); rintro e w' ⟨rfl, ⟨nd, rfl⟩⟩; refine ⟨_, rfl, ?_⟩) | (go_at_call 59; (with_reducible refine (accountingref19_fits.calls t341 false _ A8.out).mono ?_); rintro e w' ⟨rfl, ⟨nd, rfl⟩⟩))
            go_ret2
            exact ⟨by first | rfl | (simp [errW_none, errW_some] <;> rfl) | (simp [*, errW_none, errW_some] <;> rfl), by repeat (first | (with_reducible first | exact HB.out | apply below_alloc | apply pw_below_drewN | apply below_drew1) | exact HB.out)⟩
        · replace c7 := Bool.eq_false_iff.mpr c7
          subst c7
          have H1 : (some (0, 4)) = some (r1, r2) := by rw [if_neg (show ¬ (false = true) by decide)] at H; exact H
          clear H
          have H := H1
          clear H1
          simp only [Option.some.injEq, Prod.mk.injEq] at H
          obtain ⟨rfl, rfl⟩ := H
          obtain ⟨Ao12, co12, eo12⟩ := Kd.R_slice HO_4.out
          subst eo12
          go_wp2_with (first | ((with_reducible refine gate_callee (f := 58) rfl ?_); refine goesL_ (some 24) rfl rfl Try.func58 (by kernel_rfl) rfl #[.slice Ao12 x4_1.length co12] rfl (by (try simp only [List.map_toArray, List.map_cons, List.map_nil]); first | done | rfl | (simp only [List.length_drop, List.length_take]; rfl)) ?_; (with_reducible refine (accountingref01_Sum.calls k1 _ _ x4_1 t341 false _ ?side1 ?side2 A6.out).mono ?_); (case side1 => repeat (first | exact (Kd.R_reads' HO_4.out).2.2 | (with_reducible refine Kd.C_alloc ?_ _) | (with_reducible refine Kd.C_drewN ?_ _) | (with_reducible refine Kd.C_drew ?_))); (case side2 => exact (Kd.R_reads' HO_4.out).2.1); rintro e w' ⟨rfl, ⟨nd, rfl⟩⟩; refine ⟨_, rfl, ?_⟩))
          go_ret2
          exact ⟨by first | rfl | (simp [errW_none, errW_some] <;> rfl) | (simp [*, errW_none, errW_some] <;> rfl), by repeat (first | (with_reducible first | exact HB.out | apply below_alloc | apply pw_below_drewN | apply below_drew1) | exact HB.out)⟩
/-! ### sheet_far: function 60 -/
def sheet_far.f (a0 : Int) : Option (Bool) := if a0 > 1000000000000000 then (some true) else (some (decide (a0 < (-1000000000000000))))
set_option maxHeartbeats 8000000 in
set_option maxRecDepth 100000 in
theorem sheet_far.calls (a0 : Int) (r : Bool) (w : World) (h : sheet_far.f a0 = some r) :
    Calls Try.prog 60 #[.int .i64 a0] w fun e w' => e = .returned (.bool r) ∧ Drawn0 w w' := by
  have H : (if a0 > 1000000000000000 then (some true) else (some (decide (a0 < (-1000000000000000))))) = some r := h
  clear h
  by_cases c2 : a0 > 1000000000000000
  · rw [if_pos c2] at H
    have c2b0 : decide (1000000000000000 < a0) = true := decide_eq_true c2
    clear c2
    obtain rfl := Option.some.inj H
    go_enter Try.func60, Try.ntmps60
    go_wp2
    go_ret
    exact ⟨by first | rfl | (simp; done) | (simp [*]; done), by repeat (first | exact Drawn0.refl _ | apply Drawn0.step)⟩
  · rw [if_neg c2] at H
    have c2b0 : decide (1000000000000000 < a0) = false := decide_eq_false c2
    clear c2
    obtain rfl := Option.some.inj H
    go_enter Try.func60, Try.ntmps60
    go_wp2
    go_ret
    exact ⟨by first | rfl | (simp; done) | (simp [*]; done), by repeat (first | exact Drawn0.refl _ | apply Drawn0.step)⟩
/-! ### sheet_total: function 54 -/
def sheet_total.f (l0 : List Int) : Option (Int × Bool) := (num_Sum.f l0).bind fun bt170 => (if bt170.2 = true then ((sheet_far.f bt170.1).bind fun t172 => (some (bt170.1, !t172))) else (some (bt170.1, false)))
set_option maxHeartbeats 8000000 in
set_option maxRecDepth 100000 in
theorem sheet_total.calls (A0 : Option Addr) (c0 : Nat) (l0 : List Int) (r1 : Int) (r2 : Bool) (w : World) (hr0 : Kd.C (Kd.int .i64) w A0 l0.length l0) (hc0 : l0.length ≤ c0) (h : sheet_total.f l0 = some (r1, r2)) :
    Calls Try.prog 54 #[.slice A0 l0.length c0] w fun e w' => e = .returned (.tuple #[.int .i64 r1, .bool r2]) ∧ Drawn0 w w' := by
  have HR0 := Aside0.mk hr0
  have HC0 := Aside0.mk hc0
  clear hr0 hc0
  have H : ((num_Sum.f l0).bind fun bt170 => (if bt170.2 = true then ((sheet_far.f bt170.1).bind fun t172 => (some (bt170.1, !t172))) else (some (bt170.1, false)))) = some (r1, r2) := h
  clear h
  replace H := Option.bind_eq_some_iff.mp H
  obtain ⟨⟨t170, t171⟩, A20, H⟩ := H
  replace H : (if t171 = true then ((sheet_far.f t170).bind fun t172 => (some (t170, !t172))) else (some (t170, false))) = some (r1, r2) := H
  have A2 := Aside0.mk A20
  clear A20
  by_cases c3 : t171 = true
  · subst c3
    have H1 : ((sheet_far.f t170).bind fun t172 => (some (t170, !t172))) = some (r1, r2) := by rw [if_pos rfl] at H; exact H
    clear H
    have H := H1
    clear H1
    replace H := Option.bind_eq_some_iff.mp H
    obtain ⟨t172, A40, H⟩ := H
    replace H : (some (t170, !t172)) = some (r1, r2) := H
    have A4 := Aside0.mk A40
    clear A40
    simp only [Option.some.injEq, Prod.mk.injEq] at H
    obtain ⟨rfl, rfl⟩ := H
    go_enter Try.func54, Try.ntmps54
    go_wp2_with (first | ((with_reducible refine gate_callee (f := 81) rfl ?_); refine goesL_ (some 6) rfl rfl Try.func81 (by kernel_rfl) rfl #[.slice A0 l0.length c0] rfl (by (try simp only [List.map_toArray, List.map_cons, List.map_nil]); first | done | rfl | (simp only [List.length_drop, List.length_take]; rfl)) ?_; (with_reducible refine (num_Sum.calls _ _ l0 t170 true _ ?side1 ?side2 A2.out).mono ?_); (case side1 => repeat (first | exact HR0.out | (with_reducible refine Kd.C_alloc ?_ _) | (with_reducible refine Kd.C_drewN ?_ _) | (with_reducible refine Kd.C_drew ?_))); (case side2 => exact HC0.out); rintro e w' ⟨rfl, ⟨nd, rfl⟩⟩; refine ⟨_, rfl, ?_⟩) | (go_at_call 60; (with_reducible refine (sheet_far.calls t170 t172 _ A4.out).mono ?_); rintro e w' ⟨rfl, ⟨nd, rfl⟩⟩))
    go_ret2
    exact ⟨by first | rfl | (simp; done) | (simp [*]; done), by repeat (first | exact Drawn0.refl _ | apply Drawn0.step)⟩
  · replace c3 := Bool.eq_false_iff.mpr c3
    subst c3
    have H1 : (some (t170, false)) = some (r1, r2) := by rw [if_neg (show ¬ (false = true) by decide)] at H; exact H
    clear H
    have H := H1
    clear H1
    simp only [Option.some.injEq, Prod.mk.injEq] at H
    obtain ⟨rfl, rfl⟩ := H
    go_enter Try.func54, Try.ntmps54
    go_wp2_with (first | ((with_reducible refine gate_callee (f := 81) rfl ?_); refine goesL_ (some 6) rfl rfl Try.func81 (by kernel_rfl) rfl #[.slice A0 l0.length c0] rfl (by (try simp only [List.map_toArray, List.map_cons, List.map_nil]); first | done | rfl | (simp only [List.length_drop, List.length_take]; rfl)) ?_; (with_reducible refine (num_Sum.calls _ _ l0 t170 false _ ?side1 ?side2 A2.out).mono ?_); (case side1 => repeat (first | exact HR0.out | (with_reducible refine Kd.C_alloc ?_ _) | (with_reducible refine Kd.C_drewN ?_ _) | (with_reducible refine Kd.C_drew ?_))); (case side2 => exact HC0.out); rintro e w' ⟨rfl, ⟨nd, rfl⟩⟩; refine ⟨_, rfl, ?_⟩))
    go_ret2
    exact ⟨by first | rfl | (simp; done) | (simp [*]; done), by repeat (first | exact Drawn0.refl _ | apply Drawn0.step)⟩
/-! ### sheet_Base: function 27 -/
def sheet_Base.l0 : Nat → List Int → List (S34) → Int → Int → Option (Int × Int)
  | 0, _, _, _, _ => none
  | k + 1, x4, x11, x12, x13 => if x13 < x12 then (if 0 ≤ x13 then (if x13 < (x11.length : Int) then (if x13 < (x4.length : Int) then (sheet_Base.l0 k (x4.set (x13 : Int).toNat ((rd_T34 x11 x13).f2)) x11 x12 (wrap64 (x13 + 1))) else (none)) else (none)) else (none)) else ((sheet_total.f x4).bind fun bt179 => (if bt179.2 = true then (some (bt179.1, 0)) else (some (0, 4))))
def sheet_Base.f (k : Nat) (l0 : List (S34)) : Option (Int × Int) := if 0 ≤ (l0.length : Int) then (if ((l0.length : Int) : Int).toNat ≤ 35184372088832 then (sheet_Base.l0 k (List.replicate ((l0.length : Int) : Int).toNat 0) l0 (l0.length : Int) 0) else (none)) else (none)
theorem sheet_Base.mono_l : ∀ k, (∀ y0 y1 y2 y3, LeO (sheet_Base.l0 k y0 y1 y2 y3) (sheet_Base.l0 (k + 1) y0 y1 y2 y3))
  | 0 => fun _ _ _ _ r h => by simp [sheet_Base.l0] at h
  | k + 1 => by
    have ih0 := sheet_Base.mono_l k
    · intro y0 y1 y2 y3
      unfold sheet_Base.l0
      repeat' first
      | (with_reducible exact ih0 _ _ _ _)
      | (with_reducible exact LeO.refl _)
      | (with_reducible exact LeO.none _)
      | (with_reducible refine LeO.ite ?_ ?_)
      | (with_reducible refine LeO.bind ?_ (fun _ => ?_))
      | exact ih0 _ _ _ _
      | exact LeO.none _
      | refine LeO.ite ?_ ?_
      | refine LeO.bind ?_ (fun _ => ?_)
theorem sheet_Base.mono : ∀ a0 k, LeO (sheet_Base.f k a0) (sheet_Base.f (k + 1) a0) := by
  intro a0 k
  have ih0 := sheet_Base.mono_l k
  unfold sheet_Base.f
  repeat' first
      | (with_reducible exact ih0 _ _ _ _)
      | (with_reducible exact LeO.refl _)
      | (with_reducible exact LeO.none _)
      | (with_reducible refine LeO.ite ?_ ?_)
      | (with_reducible refine LeO.bind ?_ (fun _ => ?_))
      | exact ih0 _ _ _ _
      | exact LeO.none _
      | refine LeO.ite ?_ ?_
      | refine LeO.bind ?_ (fun _ => ?_)
set_option maxHeartbeats 8000000 in
set_option maxRecDepth 100000 in
theorem sheet_Base.calls (k : Nat) (A0 : Option Addr) (c0 : Nat) (l0 : List (S34)) (r1 : Int) (r2 : Int) (w : World) (hr0 : Kd.C k34 w A0 l0.length l0) (hc0 : l0.length ≤ c0) (h : sheet_Base.f k l0 = some (r1, r2)) :
    Calls Try.prog 27 #[.slice A0 l0.length c0] w fun e w' => e = .returned (.tuple #[.int .i64 r1, .int .i64 r2]) ∧ Below w.heap.size w w' := by
  have hu34 := Try.underlying34
  have HR0 := Aside0.mk hr0
  have HC0 := Aside0.mk hc0
  clear hr0 hc0
  have HB := Aside0.mk (Below.refl w.heap.size w)
  have H : (if 0 ≤ (l0.length : Int) then (if ((l0.length : Int) : Int).toNat ≤ 35184372088832 then (sheet_Base.l0 k (List.replicate ((l0.length : Int) : Int).toNat 0) l0 (l0.length : Int) 0) else (none)) else (none)) = some (r1, r2) := h
  clear h
  by_cases c2 : 0 ≤ (l0.length : Int)
  · rw [if_pos c2] at H
    have c2b0 := eq_true c2
    have c2b1 : decide (0 ≤ (l0.length : Int)) = true := decide_eq_true c2
    clear c2
    by_cases c3 : ((l0.length : Int) : Int).toNat ≤ 35184372088832
    · rw [if_pos c3] at H
      have c3b0 := eq_true c3
      have c3b1 : decide (((l0.length : Int) : Int).toNat ≤ 35184372088832) = true := decide_eq_true c3
      clear c3
      obtain ⟨y173, hy173⟩ : ∃ y_ : List Int, y_ = (List.replicate ((l0.length : Int) : Int).toNat 0) := ⟨_, rfl⟩
      replace H : (sheet_Base.l0 k y173 l0 (l0.length : Int) 0) = some (r1, r2) := by first | (rw [hy173]; with_reducible exact H) | (have H2_ := (Option.bind_some _ _).symm.trans H; rw [hy173]; with_reducible exact H2_) | (have H2_ := (Option.bind_some _ _).symm.trans H; with_reducible exact H2_) | with_reducible exact H | (rw [hy173]; exact H) | exact H
      have Ny173 := Aside0.mk hy173
      clear hy173
      have H' := Aside0.mk H
      clear H
      go_enter Try.func27, Try.ntmps27
      go_wp2_with (first | ((with_reducible refine gate_dst (N := 10) rfl ?_); refine Kd.R_make (Kd.int .i64) _ 3 rfl (N := 10) rfl 67 _ _ rfl (l0.length : Int) rfl rfl Try.underlying67 (.int .i64 0) 8 info3 rfl (by decide) (by omega) 0 (ok := fun _ => True) (okp := fun _ => True) rfl (fun _ hk => hk) trivial (of_decide_eq_true (by first | (with_reducible assumption) | assumption)) (Nat.le_trans (Nat.mul_le_mul_right _ (of_decide_eq_true (by first | (with_reducible assumption) | assumption) : (l0.length : Int).toNat ≤ 35184372088832)) (by omega)) (Below.refl _ _) (Nat.le_refl _) ?_; intro v174 w4 ho5 hb hg_ hnew_; clear hg_ hnew_; (first | rw [← Ny173.out] at ho5 | (simp only [Int.reduceToNat] at ho5; rw [← Ny173.out] at ho5)); have n0_ := Aside0.mk (Kd.R_lower ho5 (below_size (by repeat (first | (with_reducible first | exact HB.out | apply below_alloc | apply pw_below_drewN | apply below_drew1) | exact HB.out)))); have n1_ := Aside0.mk (below_step (by repeat (first | (with_reducible first | exact HB.out | apply below_alloc | apply pw_below_drewN | apply below_drew1) | exact HB.out)) hb); clear HB; have HO175 := n0_; have HB := n1_; clear n0_ n1_; clear hb ho5))
      go_loopg [13] k (fun kq v13 w' => ∃ (x4_1 : List Int) (x13_1 : Int), v13 = .int .i64 x13_1 ∧ Aside0 (sheet_Base.l0 kq x4_1 l0 (l0.length : Int) x13_1 = some (r1, r2)) ∧ Aside0 (kq ≤ k) ∧ Aside0 (Kd.R (Kd.int .i64) 3 w' w.heap.size (fun _ => True) v174 x4_1) ∧ Aside0 (Below w.heap.size w w'))
      case atStart => exact ⟨(y173), (0), (by first | rfl | (simp; done) | (simp [*]; done)), H', ⟨Nat.le_refl _⟩, ⟨by (with_reducible repeat (first | apply Kd.R_alloc | apply Kd.R_drewN | apply Kd.R_drew)); exact HO175.out⟩, ⟨by repeat (first | (with_reducible first | exact HB.out | apply below_alloc | apply pw_below_drewN | apply below_drew1) | exact HB.out)⟩⟩
      case round =>
        clear H'
        try clear c2
        try clear c2b0
        try clear c2b1
        try clear p2
        try clear c3
        try clear c3b0
        try clear c3b1
        obtain ⟨x4_1, x13_1, rfl, HA, HK1, HO_4, HB⟩ := hrel
        cases gk with
        | zero => exact absurd HA.out (by simp [sheet_Base.l0])
        | succ k1 =>
          have H := HA.out
          clear HA
          simp only [sheet_Base.l0] at H
          by_cases c6 : x13_1 < (l0.length : Int)
          · rw [if_pos c6] at H
            have c6b0 : decide (x13_1 < (l0.length : Int)) = true := decide_eq_true c6
            clear c6
            by_cases c7 : 0 ≤ x13_1
            · rw [if_pos c7] at H
              have c7b0 : decide (0 ≤ x13_1) = true := decide_eq_true c7
              clear c7
              by_cases c8 : x13_1 < (l0.length : Int)
              · rw [if_pos c8] at H
                have c8b0 : decide (x13_1 < (l0.length : Int)) = true := decide_eq_true c8
                clear c8
                by_cases c9 : x13_1 < (x4_1.length : Int)
                · rw [if_pos c9] at H
                  have c9b0 : decide (x13_1 < (x4_1.length : Int)) = true := decide_eq_true c9
                  clear c9
                  obtain ⟨y178, hy178⟩ : ∃ y_ : List Int, y_ = (x4_1.set (x13_1 : Int).toNat ((rd_T34 l0 x13_1).f2)) := ⟨_, rfl⟩
                  replace H : (sheet_Base.l0 k1 y178 l0 (l0.length : Int) (wrap64 (x13_1 + 1))) = some (r1, r2) := by first | (rw [hy178]; with_reducible exact H) | (have H2_ := (Option.bind_some _ _).symm.trans H; rw [hy178]; with_reducible exact H2_) | (have H2_ := (Option.bind_some _ _).symm.trans H; with_reducible exact H2_) | with_reducible exact H | (rw [hy178]; exact H) | exact H
                  have Ny178 := Aside0.mk hy178
                  clear hy178
                  have H' := Aside0.mk H
                  clear H
                  have p176 : 0 ≤ (x13_1 : Int) := of_decide_eq_true (by first | (with_reducible assumption) | assumption)
                  have q176 : x13_1 < (l0.length : Int) := of_decide_eq_true (by first | (with_reducible assumption) | assumption)
                  obtain ⟨ad176, e176, hx176_0, hx176_1, hx176_2, hx176_3, hx176_4, hx176_5, hx176_6⟩ := at_T34 HR0.out x13_1 p176 q176
                  cases e176
                  replace hx176_0 := (HB.out.cell (World.block_lt_of_cell? w _ hx176_0)).trans hx176_0
                  replace hx176_1 := (HB.out.cell (World.block_lt_of_cell? w _ hx176_1)).trans hx176_1
                  replace hx176_2 := (HB.out.cell (World.block_lt_of_cell? w _ hx176_2)).trans hx176_2
                  replace hx176_3 := (HB.out.cell (World.block_lt_of_cell? w _ hx176_3)).trans hx176_3
                  replace hx176_4 := (HB.out.cell (World.block_lt_of_cell? w _ hx176_4)).trans hx176_4
                  replace hx176_5 := (HB.out.cell (World.block_lt_of_cell? w _ hx176_5)).trans hx176_5
                  replace hx176_6 := (HB.out.cell (World.block_lt_of_cell? w _ hx176_6)).trans hx176_6
                  replace p176 := eq_true p176
                  replace q176 := eq_true q176
                  go_wp2_with (first | ((with_reducible refine gate_dst (N := 6) rfl ?_); refine box_event ?hg (N := 6) ?hd (cs := #[.string (⟨#[]⟩ : ByteArray), .string (⟨#[]⟩ : ByteArray), .string (⟨#[]⟩ : ByteArray), .string (⟨#[]⟩ : ByteArray), .string (⟨#[]⟩ : ByteArray), .int .i64 0, .int .i64 0]) (t := 34) ?hr ?_; (case hd => rfl); (case hg => rfl); (case hr => first | (go_simp; done) | (go_simp; rfl)); intro gb177 hg w11 hbox hb; have n0_ := Aside0.mk (Kd.R_below (by (with_reducible repeat (first | apply Kd.R_alloc | apply Kd.R_drewN | apply Kd.R_drew)); exact HO_4.out) hb); have n1_ := Aside0.mk (below_step (by repeat (first | (with_reducible first | exact HB.out | apply below_alloc | apply pw_below_drewN | apply below_drew1) | exact HB.out)) hb); have n2_ := Aside0.mk (hbox); have n3_ := Aside0.mk ((by rw [hg]; exact (below_size (by repeat (first | (with_reducible first | exact HB.out | apply below_alloc | apply pw_below_drewN | apply below_drew1) | exact HB.out))) : w.heap.size ≤ gb177)); have n4_ := Aside0.mk ((by rw [hg]; exact (below_size (by repeat (first | (with_reducible first | exact HB.out | apply below_alloc | apply pw_below_drewN | apply below_drew1) | exact HB.out))) : w.heap.size ≤ gb177)); clear HO_4; clear HB; have HO_4 := n0_; have HB := n1_; have BK177 := n2_; have GW177 := n3_; have GE177 := n4_; clear n0_ n1_ n2_ n3_ n4_; clear hb hbox hg; have hcz12_0 : w11.cell? ⟨gb177, 0, none⟩ = some (.string (⟨#[]⟩ : ByteArray)) := (blk_cell BK177.out 0).trans rfl; have hcz12_1 : w11.cell? ⟨gb177, 1, none⟩ = some (.string (⟨#[]⟩ : ByteArray)) := (blk_cell BK177.out 1).trans rfl; have hcz12_2 : w11.cell? ⟨gb177, 2, none⟩ = some (.string (⟨#[]⟩ : ByteArray)) := (blk_cell BK177.out 2).trans rfl; have hcz12_3 : w11.cell? ⟨gb177, 3, none⟩ = some (.string (⟨#[]⟩ : ByteArray)) := (blk_cell BK177.out 3).trans rfl; have hcz12_4 : w11.cell? ⟨gb177, 4, none⟩ = some (.string (⟨#[]⟩ : ByteArray)) := (blk_cell BK177.out 4).trans rfl; have hcz12_5 : w11.cell? ⟨gb177, 5, none⟩ = some (.int .i64 0) := (blk_cell BK177.out 5).trans rfl; have hcz12_6 : w11.cell? ⟨gb177, 6, none⟩ = some (.int .i64 0) := (blk_cell BK177.out 6).trans rfl; have hfz12_0 := blk_frozen BK177.out 0; have hfz12_1 := blk_frozen BK177.out 1; have hfz12_2 := blk_frozen BK177.out 2; have hfz12_3 := blk_frozen BK177.out 3; have hfz12_4 := blk_frozen BK177.out 4; have hfz12_5 := blk_frozen BK177.out 5; have hfz12_6 := blk_frozen BK177.out 6) | ((with_reducible refine gate_store (t := 34) (p := 6) rfl ?_); refine store_event (t := 34) (p := 6) (v := ?vo_w13) (w1 := (((((((w11.setCell ⟨gb177, 0, none⟩ (.string ((rd_T34 l0 x13_1).f0.f0))).setCell ⟨gb177, 1, none⟩ (.string ((rd_T34 l0 x13_1).f0.f1))).setCell ⟨gb177, 2, none⟩ (.string ((rd_T34 l0 x13_1).f0.f2))).setCell ⟨gb177, 3, none⟩ (.string ((rd_T34 l0 x13_1).f0.f3))).setCell ⟨gb177, 4, none⟩ (.string ((rd_T34 l0 x13_1).f0.f4))).setCell ⟨gb177, 5, none⟩ (.int .i64 ((rd_T34 l0 x13_1).f1))).setCell ⟨gb177, 6, none⟩ (.int .i64 ((rd_T34 l0 x13_1).f2)))) ?hg ?ho ?hn ?hr ?_; (case ho => rfl); (case hg => rfl); (case hn => rfl); (case hr => first | (go_simp; done) | (go_simp; rfl)); intro w13 hw; have n0_ : Aside0 (Kd.R (Kd.int .i64) 3 w13 w.heap.size (fun _ => True) v174 x4_1) := ⟨(by rw [hw]; exact (by (with_reducible repeat (first | apply Kd.R_alloc | apply Kd.R_drewN | apply Kd.R_drew)); exact Kd.R_mono (Kd.R_far (p := ⟨gb177, 6, none⟩) (Kd.R_far (p := ⟨gb177, 5, none⟩) (Kd.R_far (p := ⟨gb177, 4, none⟩) (Kd.R_far (p := ⟨gb177, 3, none⟩) (Kd.R_far (p := ⟨gb177, 2, none⟩) (Kd.R_far (p := ⟨gb177, 1, none⟩) (Kd.R_far (p := ⟨gb177, 0, none⟩) (Kd.R_types HO_4.out BK177.out (by decide)) (fun _ hk => hk.2) (.string ((rd_T34 l0 x13_1).f0.f0))) (fun _ hk => hk.2) (.string ((rd_T34 l0 x13_1).f0.f1))) (fun _ hk => hk.2) (.string ((rd_T34 l0 x13_1).f0.f2))) (fun _ hk => hk.2) (.string ((rd_T34 l0 x13_1).f0.f3))) (fun _ hk => hk.2) (.string ((rd_T34 l0 x13_1).f0.f4))) (fun _ hk => hk.2) (.int .i64 ((rd_T34 l0 x13_1).f1))) (fun _ hk => hk.2) (.int .i64 ((rd_T34 l0 x13_1).f2))) (fun _ hk => trivial)))⟩; have n1_ : Aside0 (w13.heap[gb177]? = some (.cells #[.string ((rd_T34 l0 x13_1).f0.f0), .string ((rd_T34 l0 x13_1).f0.f1), .string ((rd_T34 l0 x13_1).f0.f2), .string ((rd_T34 l0 x13_1).f0.f3), .string ((rd_T34 l0 x13_1).f0.f4), .int .i64 ((rd_T34 l0 x13_1).f1), .int .i64 ((rd_T34 l0 x13_1).f2)] 34 (0, 0))) := ⟨(by rw [hw]; exact (by (with_reducible repeat (first | refine blk_drewN ?_ _ | refine blk_drew ?_ | refine blk_alloc ?_ _)); refine blk_put (cs := #[.string ((rd_T34 l0 x13_1).f0.f0), .string ((rd_T34 l0 x13_1).f0.f1), .string ((rd_T34 l0 x13_1).f0.f2), .string ((rd_T34 l0 x13_1).f0.f3), .string ((rd_T34 l0 x13_1).f0.f4), .int .i64 ((rd_T34 l0 x13_1).f1), .int .i64 0]) ?_ 6 _ rfl; (with_reducible repeat (first | refine blk_drewN ?_ _ | refine blk_drew ?_ | refine blk_alloc ?_ _)); refine blk_put (cs := #[.string ((rd_T34 l0 x13_1).f0.f0), .string ((rd_T34 l0 x13_1).f0.f1), .string ((rd_T34 l0 x13_1).f0.f2), .string ((rd_T34 l0 x13_1).f0.f3), .string ((rd_T34 l0 x13_1).f0.f4), .int .i64 0, .int .i64 0]) ?_ 5 _ rfl; (with_reducible repeat (first | refine blk_drewN ?_ _ | refine blk_drew ?_ | refine blk_alloc ?_ _)); refine blk_put (cs := #[.string ((rd_T34 l0 x13_1).f0.f0), .string ((rd_T34 l0 x13_1).f0.f1), .string ((rd_T34 l0 x13_1).f0.f2), .string ((rd_T34 l0 x13_1).f0.f3), .string (⟨#[]⟩ : ByteArray), .int .i64 0, .int .i64 0]) ?_ 4 _ rfl; (with_reducible repeat (first | refine blk_drewN ?_ _ | refine blk_drew ?_ | refine blk_alloc ?_ _)); refine blk_put (cs := #[.string ((rd_T34 l0 x13_1).f0.f0), .string ((rd_T34 l0 x13_1).f0.f1), .string ((rd_T34 l0 x13_1).f0.f2), .string (⟨#[]⟩ : ByteArray), .string (⟨#[]⟩ : ByteArray), .int .i64 0, .int .i64 0]) ?_ 3 _ rfl; (with_reducible repeat (first | refine blk_drewN ?_ _ | refine blk_drew ?_ | refine blk_alloc ?_ _)); refine blk_put (cs := #[.string ((rd_T34 l0 x13_1).f0.f0), .string ((rd_T34 l0 x13_1).f0.f1), .string (⟨#[]⟩ : ByteArray), .string (⟨#[]⟩ : ByteArray), .string (⟨#[]⟩ : ByteArray), .int .i64 0, .int .i64 0]) ?_ 2 _ rfl; (with_reducible repeat (first | refine blk_drewN ?_ _ | refine blk_drew ?_ | refine blk_alloc ?_ _)); refine blk_put (cs := #[.string ((rd_T34 l0 x13_1).f0.f0), .string (⟨#[]⟩ : ByteArray), .string (⟨#[]⟩ : ByteArray), .string (⟨#[]⟩ : ByteArray), .string (⟨#[]⟩ : ByteArray), .int .i64 0, .int .i64 0]) ?_ 1 _ rfl; (with_reducible repeat (first | refine blk_drewN ?_ _ | refine blk_drew ?_ | refine blk_alloc ?_ _)); refine blk_put (cs := #[.string (⟨#[]⟩ : ByteArray), .string (⟨#[]⟩ : ByteArray), .string (⟨#[]⟩ : ByteArray), .string (⟨#[]⟩ : ByteArray), .string (⟨#[]⟩ : ByteArray), .int .i64 0, .int .i64 0]) ?_ 0 _ rfl; (with_reducible repeat (first | refine blk_drewN ?_ _ | refine blk_drew ?_ | refine blk_alloc ?_ _)); exact BK177.out))⟩; have n2_ : Aside0 (Below w.heap.size w w13) := ⟨(by rw [hw]; exact (by repeat (first | (with_reducible first | exact HB.out | apply below_alloc | apply pw_below_drewN | apply below_drew1 | refine below_set ?_ GE177.out) | exact HB.out)))⟩; clear hw; clear HO_4; clear BK177; clear HB; have HO_4 := n0_; have BK177 := n1_; have HB := n2_; clear n0_ n1_ n2_; have hcz14_0 : w13.cell? ⟨gb177, 0, none⟩ = some (.string ((rd_T34 l0 x13_1).f0.f0)) := (blk_cell BK177.out 0).trans rfl; have hcz14_1 : w13.cell? ⟨gb177, 1, none⟩ = some (.string ((rd_T34 l0 x13_1).f0.f1)) := (blk_cell BK177.out 1).trans rfl; have hcz14_2 : w13.cell? ⟨gb177, 2, none⟩ = some (.string ((rd_T34 l0 x13_1).f0.f2)) := (blk_cell BK177.out 2).trans rfl; have hcz14_3 : w13.cell? ⟨gb177, 3, none⟩ = some (.string ((rd_T34 l0 x13_1).f0.f3)) := (blk_cell BK177.out 3).trans rfl; have hcz14_4 : w13.cell? ⟨gb177, 4, none⟩ = some (.string ((rd_T34 l0 x13_1).f0.f4)) := (blk_cell BK177.out 4).trans rfl; have hcz14_5 : w13.cell? ⟨gb177, 5, none⟩ = some (.int .i64 ((rd_T34 l0 x13_1).f1)) := (blk_cell BK177.out 5).trans rfl; have hcz14_6 : w13.cell? ⟨gb177, 6, none⟩ = some (.int .i64 ((rd_T34 l0 x13_1).f2)) := (blk_cell BK177.out 6).trans rfl; have hfz14_0 := blk_frozen BK177.out 0; have hfz14_1 := blk_frozen BK177.out 1; have hfz14_2 := blk_frozen BK177.out 2; have hfz14_3 := blk_frozen BK177.out 3; have hfz14_4 := blk_frozen BK177.out 4; have hfz14_5 := blk_frozen BK177.out 5; have hfz14_6 := blk_frozen BK177.out 6; have p10 : 0 ≤ (x13_1 : Int) := of_decide_eq_true (by first | (with_reducible assumption) | assumption); have q10 : (x13_1 : Int) < ((x4_1.length : Int) : Int) := of_decide_eq_true (by first | (with_reducible assumption) | assumption); obtain ⟨go10, co10, eo10, gb10, gl10, cl10, HG10⟩ := Kd.R_form HO_4.out (by omega); (first | cases eo10 | (injection eo10 with ea_ en_ ec_; (first | subst ea_ | (injection ea_ with ea_; subst ea_)); subst ec_; clear en_)); have GB10 := Aside0.mk gb10; have GG10 := Aside0.mk HG10; clear gb10 gl10 HG10; obtain ⟨hx10_0, hf10_0⟩ := Kd.R_celln 0 HO_4.out (x13_1 : Int) p10 q10; replace p10 := eq_true p10; replace q10 := eq_true q10; obtain ⟨hy15_, hz15_⟩ := Kd.R_celln 0 HO_4.out (x13_1 : Int) (of_decide_eq_true (by first | (with_reducible assumption) | assumption)) (of_decide_eq_true (by first | (with_reducible assumption) | assumption)); have HP15 := Kd.R_putg HO_4.out (x13_1 : Int) ((rd_T34 l0 x13_1).f2)) | ((with_reducible refine gate_store (t := 3) (p := 22) rfl ?_); refine store_event (t := 3) (p := 22) (v := ?vo_w16) (w1 := (w13.setCell ⟨go10, (x13_1 : Int).toNat, none⟩ (.int .i64 ((rd_T34 l0 x13_1).f2)))) ?hg ?ho ?hn ?hr ?_; (case ho => rfl); (case hg => rfl); (case hn => rfl); (case hr => first | (go_simp; done) | (go_simp; rfl)); intro w16 hw; have hg : w13.grownBy w16 (some go10) := (by rw [hw]; exact HP15.2); have hp_ : Kd.R (Kd.int .i64) 3 w16 w.heap.size (fun _ => True) (.slice (some ⟨go10, 0, none⟩) x4_1.length co10) y178 := (by rw [hw, Ny178.out]; exact HP15.1); clear HP15; have n0_ := Aside0.mk (hp_); have n1_ := Aside0.mk (blk_grown (g := gb177) (o := .cells #[.string ((rd_T34 l0 x13_1).f0.f0), .string ((rd_T34 l0 x13_1).f0.f1), .string ((rd_T34 l0 x13_1).f0.f2), .string ((rd_T34 l0 x13_1).f0.f3), .string ((rd_T34 l0 x13_1).f0.f4), .int .i64 ((rd_T34 l0 x13_1).f1), .int .i64 ((rd_T34 l0 x13_1).f2)] 34 (0, 0)) (by (with_reducible repeat (first | refine blk_drewN ?_ _ | refine blk_drew ?_ | refine blk_alloc ?_ _)); exact BK177.out) hg (Kd.R_ne HO_4.out BK177.out (by decide))); have n2_ := Aside0.mk ((by rw [hw]; exact below_set (HB.out) GB10.out : Below w.heap.size w w16)); clear HO_4; clear BK177; clear HB; have HO_4 := n0_; have BK177 := n1_; have HB := n2_; clear n0_ n1_ n2_; clear hg hw hp_))
                  go_roundg k1
                  case measure => have := HK1.out; omega
                  case rel => exact ⟨(y178), (wrap64 (x13_1 + 1)), (by first | rfl | (simp; done) | (simp [*]; done)), H', ⟨by have := HK1.out; omega⟩, ⟨by (with_reducible repeat (first | apply Kd.R_alloc | apply Kd.R_drewN | apply Kd.R_drew)); exact HO_4.out⟩, ⟨by repeat (first | (with_reducible first | exact HB.out | apply below_alloc | apply pw_below_drewN | apply below_drew1 | refine below_set ?_ GE177.out) | exact HB.out)⟩⟩
                · rw [if_neg c9] at H
                  exact absurd H (by simp)
              · rw [if_neg c8] at H
                exact absurd H (by simp)
            · rw [if_neg c7] at H
              exact absurd H (by simp)
          · rw [if_neg c6] at H
            have c6b0 : decide (x13_1 < (l0.length : Int)) = false := decide_eq_false c6
            clear c6
            replace H := Option.bind_eq_some_iff.mp H
            obtain ⟨⟨t179, t180⟩, A170, H⟩ := H
            replace H : (if t180 = true then (some (t179, 0)) else (some (0, 4))) = some (r1, r2) := H
            have A17 := Aside0.mk A170
            clear A170
            by_cases c18 : t180 = true
            · subst c18
              have H1 : (some (t179, 0)) = some (r1, r2) := by rw [if_pos rfl] at H; exact H
              clear H
              have H := H1
              clear H1
              simp only [Option.some.injEq, Prod.mk.injEq] at H
              obtain ⟨rfl, rfl⟩ := H
              obtain ⟨Ao19, co19, eo19⟩ := Kd.R_slice HO_4.out
              subst eo19
              go_wp2_with (first | ((with_reducible refine gate_callee (f := 54) rfl ?_); refine goesL_ (some 26) rfl rfl Try.func54 (by kernel_rfl) rfl #[.slice Ao19 x4_1.length co19] rfl (by (try simp only [List.map_toArray, List.map_cons, List.map_nil]); first | done | rfl | (simp only [List.length_drop, List.length_take]; rfl)) ?_; (with_reducible refine (sheet_total.calls _ _ x4_1 t179 true _ ?side1 ?side2 A17.out).mono ?_); (case side1 => repeat (first | exact (Kd.R_reads' HO_4.out).2.2 | (with_reducible refine Kd.C_alloc ?_ _) | (with_reducible refine Kd.C_drewN ?_ _) | (with_reducible refine Kd.C_drew ?_))); (case side2 => exact (Kd.R_reads' HO_4.out).2.1); rintro e w' ⟨rfl, ⟨nd, rfl⟩⟩; refine ⟨_, rfl, ?_⟩))
              go_ret2
              exact ⟨by first | rfl | (simp [errW_none, errW_some] <;> rfl) | (simp [*, errW_none, errW_some] <;> rfl), by repeat (first | (with_reducible first | exact HB.out | apply below_alloc | apply pw_below_drewN | apply below_drew1) | exact HB.out)⟩
            · replace c18 := Bool.eq_false_iff.mpr c18
              subst c18
              have H1 : (some (0, 4)) = some (r1, r2) := by rw [if_neg (show ¬ (false = true) by decide)] at H; exact H
              clear H
              have H := H1
              clear H1
              simp only [Option.some.injEq, Prod.mk.injEq] at H
              obtain ⟨rfl, rfl⟩ := H
              obtain ⟨Ao20, co20, eo20⟩ := Kd.R_slice HO_4.out
              subst eo20
              go_wp2_with (first | ((with_reducible refine gate_callee (f := 54) rfl ?_); refine goesL_ (some 26) rfl rfl Try.func54 (by kernel_rfl) rfl #[.slice Ao20 x4_1.length co20] rfl (by (try simp only [List.map_toArray, List.map_cons, List.map_nil]); first | done | rfl | (simp only [List.length_drop, List.length_take]; rfl)) ?_; (with_reducible refine (sheet_total.calls _ _ x4_1 t179 false _ ?side1 ?side2 A17.out).mono ?_); (case side1 => repeat (first | exact (Kd.R_reads' HO_4.out).2.2 | (with_reducible refine Kd.C_alloc ?_ _) | (with_reducible refine Kd.C_drewN ?_ _) | (with_reducible refine Kd.C_drew ?_))); (case side2 => exact (Kd.R_reads' HO_4.out).2.1); rintro e w' ⟨rfl, ⟨nd, rfl⟩⟩; refine ⟨_, rfl, ?_⟩))
              go_ret2
              exact ⟨by first | rfl | (simp [errW_none, errW_some] <;> rfl) | (simp [*, errW_none, errW_some] <;> rfl), by repeat (first | (with_reducible first | exact HB.out | apply below_alloc | apply pw_below_drewN | apply below_drew1) | exact HB.out)⟩
    · rw [if_neg c3] at H
      exact absurd H (by simp)
  · rw [if_neg c2] at H
    exact absurd H (by simp)
end Go.Proofs.Ytmflggbpiadkjaa.P
namespace Go.Proofs.Ytmflggbpiadkjaa.P
open Go.RowKit Go.Sort Go.Proofs.YtmflggbpiadkjaaW.PrintWords Go.Proofs.YtmflggbpiadkjaaW.PrintLast Go.Proofs.Ytmflggbpiadkjaa.Op
set_option linter.unusedVariables false
set_option linter.unusedSimpArgs false
theorem elimK_right (cur diff : ByteArray) (m : List ByteArray) (l : List S34) : RightL (elimK cur diff m l).1 := by
  unfold elimK
  repeat' split
  all_goals first | exact right_ofK _ | exact ⟨fun c hc => by simp at hc, List.Pairwise.nil⟩
theorem elimK_none (cur diff : ByteArray) (m : List ByteArray) (l : List S34) (h : (elimK cur diff m l).2 ≠ 0) : (elimK cur diff m l).1 = [] := by
  unfold elimK at h ⊢
  by_cases h1 : rightB l = true
  · rw [if_pos h1] at h ⊢
    by_cases h2 : monB cur = true
    · rw [if_pos h2] at h ⊢
      by_cases h3 : codeB diff = true
      · rw [if_pos h3] at h ⊢
        by_cases h4 : (prK (inK m l)).2 = 0
        · rw [if_pos h4] at h ⊢
          rcases ofK_code (elCells cur diff (inK m l) (prK (inK m l)).1) with h5 | h5
          · exact absurd h5 h
          · rw [h5]
        · rw [if_neg h4]
      · rw [if_neg h3]
    · rw [if_neg h2]
  · rw [if_neg h1]
/-! ### Same -/
theorem same_l0 (l : List S34) (hl : l.length ≤ 1000000) : ∀ (n i : Nat), l.length - i = n → i ≤ l.length → Ev (fun k => accountingref19_Same.l0 k l l (i : Int)) true := by
  intro n
  induction n with
  | zero =>
    intro i hn hi
    refine Ev.step (fun k => accountingref19_Same.l0.eq_2 _ _ _ k) ?_
    simp only [if_neg (show ¬ ((i : Int) < (l.length : Int)) by omega)]
    exact Ev.now _
  | succ n ih =>
    intro i hn hi
    have hil : i < l.length := by omega
    have hw : wrap64 ((i : Int) + 1) = ((i + 1 : Nat) : Int) := by rw [w64 (by omega) (by omega)]; omega
    refine Ev.step (fun k => accountingref19_Same.l0.eq_2 _ _ _ k) ?_
    simp only [if_pos (show ((i : Int) < (l.length : Int)) by omega), if_pos (show (0 : Int) ≤ (i : Int) by omega), hw, BEq.rfl, Bool.not_true, Bool.or_false, Bool.false_eq_true, if_false]
    exact ih (i + 1) (by omega) (by omega)
theorem same_ev (l : List S34) (hl : l.length ≤ 1000000) : Ev (fun k => accountingref19_Same.f k l l) true := by
  unfold accountingref19_Same.f
  simp only [if_true]
  exact same_l0 l hl _ 0 rfl (Nat.zero_le _)
end Go.Proofs.Ytmflggbpiadkjaa.P
namespace Go.Proofs.Ytmflggbpiadkjaa.P
open Go.RowKit Go.Proofs.YtmflggbpiadkjaaW.PrintWords Go.Proofs.YtmflggbpiadkjaaW.PrintLast
set_option maxRecDepth 100000 in
theorem livesi60 : accountinglaw44_lives.f 60 = some true := by kernel_rfl
theorem livesi_ev : Ev (fun k => accountinglaw44_lives.f k) true := Ev.of (fun k => accountinglaw44_lives.mono k) livesi60
end Go.Proofs.Ytmflggbpiadkjaa.P
namespace Go.Proofs.Ytmflggbpiadkjaa.Pure
set_option linter.unusedVariables false
set_option linter.unusedSimpArgs false
open Go.RowKit Go.Proofs.Ytmflggbpiadkjaa.P Go.Proofs.Ytmflggbpiadkjaa.Op Go.Proofs.YtmflggbpiadkjaaW.PrintWords Go.Proofs.YtmflggbpiadkjaaW.PrintLast
theorem gone_end (l : List S34) (cur diff : ByteArray) (m : List ByteArray) (h : (FitL fit34) l) (hc : cur.size ≤ maxLen) (hm : (FitL (fun s : ByteArray => s.size ≤ maxLen)) m) (hl : l.length ≤ 200) (hml : m.length ≤ 100) (hne : hasB m ⟨#[]⟩ = false) :
    Ev (fun k => (interco_Eliminate.f k l cur diff m).bind fun bt862 => (if bt862.2 = 0 then ((accountingref19_Add.f k l bt862.1).bind fun bt867 => (if bt867.2 = 0 then ((accountingref44_Inside.f k l m).bind fun bt872 => ((interco_Inside.f k bt867.1 m).bind fun bt878 => (if (bt878.1.length : Int) = 0 then ((accountinglaw44_without.f k bt867.1 diff).bind fun t884 => ((accountinglaw44_without.f k bt872.2 diff).bind fun t887 => ((accountingref19_Same.f k t884 t887).bind fun t890 => (if t890 = true then ((accountinglaw44_lives.f k).bind fun t891 => (some t891)) else (some false))))) else (some false)))) else ((accountinglaw44_lives.f k).bind fun t871 => (some t871)))) else (if (bt862.1.length : Int) = 0 then ((accountinglaw44_lives.f k).bind fun t866 => (some t866)) else (some false)))) true := by
  have hlv : Ev (fun k => (accountinglaw44_lives.f k).bind fun t => some t) true := Ev.bind livesi_ev (Ev.now _)
  have hfm := fitM_of h hm (by omega)
  refine Ev.bind (elim_ev cur diff m l (by omega) hfm hc) ?_
  by_cases h0 : (elimK cur diff m l).2 = 0
  · simp only [if_pos h0]
    have hsl := elimK_len cur diff m l (by omega)
    have hsr := elimK_right cur diff m l
    have hE : rightB l = true ∧ elimK cur diff m l = ofK (elCells cur diff (inK m l) (prK (inK m l)).1) := by
      unfold elimK at h0 ⊢
      by_cases h1 : rightB l = true
      · rw [if_pos h1] at h0 ⊢
        by_cases h2 : monB cur = true
        · rw [if_pos h2] at h0 ⊢
          by_cases h3 : codeB diff = true
          · rw [if_pos h3] at h0 ⊢
            by_cases h4 : (prK (inK m l)).2 = 0
            · rw [if_pos h4]; exact ⟨h1, rfl⟩
            · rw [if_neg h4] at h0; exact absurd h0 h4
          · rw [if_neg h3] at h0; cases h0
        · rw [if_neg h2] at h0; cases h0
      · rw [if_neg h1] at h0; cases h0
    have hR := (right_iff l).1 hE.1
    have hsum : ∀ k, sumA (elimK cur diff m l).1 k = sumA (elCells cur diff (inK m l) (prK (inK m l)).1) k ∧ sumB (elimK cur diff m l).1 k = sumB (elCells cur diff (inK m l) (prK (inK m l)).1) k := fun k => by
      rw [hE.2] at h0 ⊢
      exact ps_ofK h0 (isK k)
    have hkeys : ∀ c ∈ (elimK cur diff m l).1, c.f0.f0.size ≤ maxLen ∧ c.f0.f3.size ≤ maxLen := fun c hcm => by
      rw [hE.2] at hcm
      obtain ⟨d, hd, e⟩ := of_keys hcm
      rw [← e]
      rcases List.mem_append.1 hd with hd | hd
      · obtain ⟨x, hx, rfl⟩ := List.mem_map.1 hd
        exact hfm.2.2 x (List.mem_filter.1 hx).1
      · obtain ⟨p, hp, rfl⟩ := List.mem_map.1 hd
        obtain ⟨x, hx, e2⟩ := prK_names hp
        have hxs := hfm.2.2 x (List.mem_filter.1 hx).1
        refine ⟨?_, by unfold maxLen; exact Nat.zero_le _⟩
        show p.f0.size ≤ maxLen
        rcases e2 with e2 | e2
        · rw [e2]; exact hxs.1
        · rw [e2]; exact hxs.2
    generalize (elimK cur diff m l).1 = s at hsl hsr hsum hkeys ⊢
    refine Ev.bind (refaddI_ev l s (by omega)) ?_
    have hadd : addI l s = ofK (l ++ s) := by unfold addI; rw [if_pos ⟨hE.1, (right_iff s).2 hsr⟩]
    rw [hadd]
    by_cases h1 : (ofK (l ++ s)).2 = 0
    · simp only [if_pos h1]
      have hle := ofK_le (l ++ s)
      rw [List.length_append] at hle
      have hol := out_le m l
      refine Ev.bind (refinside_ev m l (by omega) (by omega)) ?_
      refine Ev.bind (inside_ev m (ofK (l ++ s)).1 (by omega) ⟨by omega, hm.2, fun c hcm => ?_⟩) ?_
      · obtain ⟨d, hd, e⟩ := of_keys hcm
        rw [← e]
        rcases List.mem_append.1 hd with hd | hd
        · exact hfm.2.2 d hd
        · exact hkeys d hd
      · simp only [gone_in hsum hne h1, List.length_nil, Int.natCast_zero, if_true]
        refine Ev.bind (wo_ev _ diff (by omega)) ?_
        refine Ev.bind (wo_ev _ diff (by omega)) ?_
        rw [gone_wo hR hsum hne h1]
        refine Ev.bind (same_ev _ (by have := List.length_filter_le (woB diff) (outK m l); unfold woK; omega)) ?_
        simp only [if_true]
        exact hlv
    · simp only [if_neg h1]; exact hlv
  · simp only [if_neg h0, elimK_none cur diff m l h0, List.length_nil, Int.natCast_zero, if_true]
    exact hlv
theorem gone_l0 (l : List S34) (cur diff : ByteArray) (m : List ByteArray) (h : (FitL fit34) l) (hc : cur.size ≤ maxLen) (hm : (FitL (fun s : ByteArray => s.size ≤ maxLen)) m) (hl : l.length ≤ 200) (hml : m.length ≤ 100) : ∀ (n i : Nat), m.length - i = n → i ≤ m.length → (∀ j, (hj : j < m.length) → j < i → m[j].toList ≠ []) → Ev (fun k => accountinglaw44_IntercoGone.l0 k l cur diff m (i : Int)) true := by
  intro n
  induction n with
  | zero =>
    intro i hn hi hu
    refine Ev.step (fun k => accountinglaw44_IntercoGone.l0.eq_2 _ _ _ _ _ k) ?_
    simp only [if_neg (show ¬ ((i : Int) < (m.length : Int)) by omega)]
    refine gone_end l cur diff m h hc hm hl hml ?_
    unfold hasB
    rw [List.any_eq_false]
    intro s hs e
    obtain ⟨j, hj, rfl⟩ := List.mem_iff_getElem.1 hs
    have e := beq_iff_eq.1 e
    refine hu j hj (by omega) (e.trans ?_)
    exact (ByteArray.toList_eq _).trans rfl
  | succ n ih =>
    intro i hn hi hu
    have hil : i < m.length := by omega
    have hw : wrap64 ((i : Int) + 1) = ((i + 1 : Nat) : Int) := by rw [w64 (by omega) (by omega)]; omega
    refine Ev.step (fun k => accountinglaw44_IntercoGone.l0.eq_2 _ _ _ _ _ k) ?_
    simp only [if_pos (show ((i : Int) < (m.length : Int)) by omega), if_pos (show (0 : Int) ≤ (i : Int) by omega), hw, rdB_at hil]
    by_cases c : m[i].toList = []
    · simp only [if_pos c]; exact Ev.now _
    · simp only [if_neg c]
      refine ih (i + 1) (by omega) (by omega) (fun j hj hji => ?_)
      rcases Nat.lt_or_ge j i with h9 | h9
      · exact hu j hj h9
      · obtain rfl : j = i := by omega
        exact c
theorem IntercoGone : accountinglaw44_IntercoGone.Pure := by
  intro l cur diff m h hc hd hm
  refine Ev.rounds ?_
  unfold accountinglaw44_IntercoGone.f accountinglaw44_large.f
  by_cases hl : (l.length : Int) > 200
  · simp only [if_pos hl, Option.bind_some, if_true]; exact Ev.now _
  simp only [if_neg hl, Option.bind_some, decide_eq_true_eq]
  by_cases hl2 : (m.length : Int) > 100
  · simp only [if_pos hl2]; exact Ev.now _
  simp only [if_neg hl2]
  exact gone_l0 l cur diff m h hc hm (by omega) (by omega) _ 0 rfl (Nat.zero_le _) (fun j _ h9 => absurd h9 (by omega))
end Go.Proofs.Ytmflggbpiadkjaa.Pure
