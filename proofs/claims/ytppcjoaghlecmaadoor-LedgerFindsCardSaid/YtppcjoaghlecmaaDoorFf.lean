/- Texts of mine and of the print, joined: Px52, SpecFi, HandKn0, HandEt0, HandLedgerFinds, SayLedgerFinds, PureLedgerFinds. -/
import Derived.Test.YtppcjoaghlecmaaDoorFa
import Derived.Test.YtppcjoaghlecmaaDoorFd
import Derived.Test.YtppcjoaghlecmaaDoorFe
import Derived.BigQuiet
namespace Go.Proofs.YtppcjoaghlecmaaDoor.P
open Go.RowKit Go.Proofs.YtppcjoaghlecmaaDoorW.PrintWords Go.Proofs.YtppcjoaghlecmaaDoorW.PrintLast Go.Proofs.YtppcjoaghlecmaaDoorW.PrintMore
attribute [local go_sem] max2_int min2_int max_two min_two max_three min_three max_four min_four
set_option linter.unusedVariables false
set_option linter.unusedSimpArgs false
def accountingref20_Post.j0 : Nat → List (S29) → Bool → Int → ByteArray → Int → Int → Int → ByteArray → ByteArray → Int → List (S109) → Option ((List (S29)) × Int)
 | 0, _, _, _, _, _, _, _, _, _, _, _ => none
 | k + 1, x0, x39, x349000, x349001, x349002, x349003, x349004, x349005, x349006, x349007, x349008 => if x39 = true then (some (x0, 17)) else (if (x0.length : Int) ≥ 4000 then (some (x0, 9)) else ((some (([] : List (S29)) : List (S29))).bind fun y352 => (if y352.length + x0.length < 1256584717458 then ((some (y352 ++ x0 : List (S29))).bind fun y355 => ((some (([(⟨x349000, x349001, x349002, x349003, x349004, x349005, x349006, x349007, x349008⟩ : S29)] : List (S29)) : List (S29))).bind fun y358 => (if y355.length + y358.length < 1256584717458 then (some ((y355 ++ y358), 0)) else (none)))) else (none))))
def accountingref20_Post.f (k : Nat) (l0 : List (S29)) (a1_0 : Int) (a1_1 : ByteArray) (a1_2 : Int) (a1_3 : Int) (a1_4 : Int) (a1_5 : ByteArray) (a1_6 : ByteArray) (a1_7 : Int) (l1_8 : List (S109)) : Option ((List (S29)) × Int) := (accountingref12_Check.f k a1_0 a1_1 a1_2 a1_3 a1_4 a1_5 a1_6 a1_7 l1_8).bind fun bt349 => (if bt349.2 = 0 then (if a1_0 = (wrap64 ((l0.length : Int) + 1)) then (if (l0.length : Int) > 0 then (if 0 ≤ (wrap64 ((l0.length : Int) - 1)) then (if (wrap64 ((l0.length : Int) - 1)) < (l0.length : Int) then (accountingref20_Post.j0 k l0 (decide (a1_2 < ((rd_T29 l0 (wrap64 ((l0.length : Int) - 1))).f2))) a1_0 a1_1 a1_2 a1_3 a1_4 a1_5 a1_6 a1_7 l1_8) else (none)) else (none)) else (accountingref20_Post.j0 k l0 false a1_0 a1_1 a1_2 a1_3 a1_4 a1_5 a1_6 a1_7 l1_8)) else (accountingref20_Post.j0 k l0 true a1_0 a1_1 a1_2 a1_3 a1_4 a1_5 a1_6 a1_7 l1_8)) else (some (l0, bt349.2)))
def accountingref20_Post.T4 : Bool × List (List Nat × List Nat) := (true, [([], []), ([0], [0]), ([], []), ([2], [2]), ([3], [3]), ([1, 4], [1, 4]), ([5], [5]), ([6], [6]), ([7, 6], [6, 7]), ([8, 6], [6, 8]), ([9, 6, 6], [6, 9]), ([10], [10]), ([11, 10], [10, 11]), ([10], [10]), ([10], [10]), ([14, 10], [10, 14]), ([15, 10], [10, 15]), ([13, 16, 10], [10, 13, 16]), ([17, 10], [10, 17]), ([18, 10], [10, 18]), ([12, 19, 10], [10, 12, 19]), ([10, 20, 6], [6, 10, 20]), ([6, 21], [6, 21])])
def accountingref20_Post.B4 : List Nat := [0, 1, 0, 4, 12, 31, 63, 127, 255, 511, 1023, 2047, 4095, 2047, 2047, 18431, 51199, 124927, 255999, 518143, 1048575, 2097151, 4194303]
theorem accountingref20_Post.tab4 : rtab .any (opsOf Tryd.f29 4) = accountingref20_Post.T4 := by kernel_rfl
theorem accountingref20_Post.bits4 : waitsOk accountingref20_Post.T4.2 accountingref20_Post.B4 = true := by kernel_rfl
def accountingref20_Post.T8 : Bool × List (List Nat × List Nat) := (true, [([], []), ([], []), ([0, 1], [0, 1]), ([], []), ([3], [3]), ([2, 4, 2], [2, 4]), ([5, 5, 0, 1, 2, 3, 4, 5], [5]), ([6, 0, 1, 2, 3, 4, 5, 6], [])])
def accountingref20_Post.B8 : List Nat := [0, 0, 3, 0, 8, 31, 63, 127]
theorem accountingref20_Post.tab8 : rtab .any (opsOf Tryd.f29 8) = accountingref20_Post.T8 := by kernel_rfl
theorem accountingref20_Post.bits8 : waitsOk accountingref20_Post.T8.2 accountingref20_Post.B8 = true := by kernel_rfl
set_option maxHeartbeats 8000000 in
set_option maxRecDepth 100000 in
theorem accountingref20_Post.calls (k : Nat) (P0_ : Nat → Prop) (A0 : Option Addr) (c0 : Nat) (l0 : List (S29)) (a1_0 : Int) (a1_1 : ByteArray) (a1_2 : Int) (a1_3 : Int) (a1_4 : Int) (a1_5 : ByteArray) (a1_6 : ByteArray) (a1_7 : Int) (P1_8_ : Nat → Prop) (A1_8 : Option Addr) (c1_8 : Nat) (l1_8 : List (S109)) (r1 : List (S29)) (r2 : Int) (w : World) (hs0 : Kd.V k29 29 w w.heap.size (fun k_ => P0_ k_) (.slice A0 l0.length c0) l0) (hs1_8 : Kd.V k109 109 w w.heap.size (fun k_ => P1_8_ k_) (.slice A1_8 l1_8.length c1_8) l1_8) (h : accountingref20_Post.f k l0 a1_0 a1_1 a1_2 a1_3 a1_4 a1_5 a1_6 a1_7 l1_8 = some (r1, r2)) :
  Calls Tryd.prog 29 #[.slice A0 l0.length c0, .agg #[.int .i64 a1_0, .string a1_1, .int .i64 a1_2, .int .i64 a1_3, .int .i64 a1_4, .string a1_5, .string a1_6, .int .i64 a1_7, .slice A1_8 l1_8.length c1_8]] w fun e w' => ∃ v0_ : Value, e = .returned (.tuple #[v0_, .int .i64 r2]) ∧ Kd.V k29 29 w' w.heap.size (fun k_ => ((P0_ k_ ∨ P1_8_ k_) ∨ w.heap.size ≤ k_)) v0_ r1 ∧ Below w.heap.size w w' := by
 have hu29 := Tryd.underlying29
 have HO0 := Aside0.mk (show Kd.V k29 29 w w.heap.size (fun k_ => ((P0_ k_ ∨ P1_8_ k_) ∨ w.heap.size ≤ k_)) (.slice A0 l0.length c0) l0 from Kd.V_mono hs0 (fun k_ hk => .inl (.inl hk)))
 have HO1_8 := Aside0.mk (show Kd.V k109 109 w w.heap.size (fun k_ => ((P0_ k_ ∨ P1_8_ k_) ∨ w.heap.size ≤ k_)) (.slice A1_8 l1_8.length c1_8) l1_8 from Kd.V_mono hs1_8 (fun k_ hk => .inl (.inr hk)))
 have HB := Aside0.mk (Below.refl w.heap.size w)
 have H : ((accountingref12_Check.f k a1_0 a1_1 a1_2 a1_3 a1_4 a1_5 a1_6 a1_7 l1_8).bind fun bt349 => (if bt349.2 = 0 then (if a1_0 = (wrap64 ((l0.length : Int) + 1)) then (if (l0.length : Int) > 0 then (if 0 ≤ (wrap64 ((l0.length : Int) - 1)) then (if (wrap64 ((l0.length : Int) - 1)) < (l0.length : Int) then (accountingref20_Post.j0 k l0 (decide (a1_2 < ((rd_T29 l0 (wrap64 ((l0.length : Int) - 1))).f2))) a1_0 a1_1 a1_2 a1_3 a1_4 a1_5 a1_6 a1_7 l1_8) else (none)) else (none)) else (accountingref20_Post.j0 k l0 false a1_0 a1_1 a1_2 a1_3 a1_4 a1_5 a1_6 a1_7 l1_8)) else (accountingref20_Post.j0 k l0 true a1_0 a1_1 a1_2 a1_3 a1_4 a1_5 a1_6 a1_7 l1_8)) else (some (l0, bt349.2)))) = some (r1, r2) := h
 clear h
 replace H := Option.bind_eq_some_iff.mp H
 obtain ⟨⟨t349, t350⟩, A30, H⟩ := H
 try dsimp only at H
 have A3 := Aside0.mk A30
 clear A30
 by_cases c4 : t350 = 0
 ·rw [if_pos c4] at H
  have c4b0 : (t350 == 0) = true := beq_iff_eq.mpr c4
  have c4b1 : (t350 != 0) = false := bne_eq_false_iff_eq.mpr c4
  clear c4
  have HC5 := Aside0.mk H
  clear H
  go_enter Tryd.func29, Tryd.ntmps29
  go_upto_region 4 with (first | ((with_reducible refine gate_dst (N := 3) rfl ?_); (try (refine gate_guard (by rfl) ?_; dsimp only)); refine box_event ?hg (N := 3) ?hd (cs := #[.int .i64 a1_0, .string a1_1, .int .i64 a1_2, .int .i64 a1_3, .int .i64 a1_4, .string a1_5, .string a1_6, .int .i64 a1_7, .slice A1_8 l1_8.length c1_8]) (t := 29) ?hr ?_; (case hd => rfl); (case hg => rfl); (case hr => first | (go_simp; done) | (go_simp; rfl)); intro gb348 hg w6 hbox hb; have n0_ := Aside0.mk (Kd.V_below (Kd.V_elderB (by (with_reducible repeat (first | apply Kd.V_alloc | apply Kd.V_drewN | apply Kd.V_drew)); exact HO0.out) gb348 (Nat.le_of_eq hg.symm)) hb); have n1_ := Aside0.mk (Kd.V_below (Kd.V_elderB (by (with_reducible repeat (first | apply Kd.V_alloc | apply Kd.V_drewN | apply Kd.V_drew)); exact HO1_8.out) gb348 (Nat.le_of_eq hg.symm)) hb); have n2_ := Aside0.mk (below_step (bw_) hb); have n3_ := Aside0.mk (hbox); have n4_ := Aside0.mk (gw_ (w := w) hg); have n5_ := Aside0.mk (gw_ (w := w) hg); clear HO0; clear HO1_8; clear HB; have HO0 := n0_; have HO1_8 := n1_; have HB := n2_; have BK348 := n3_; have GW348 := n4_; have GE348 := n5_; clear n0_ n1_ n2_ n3_ n4_ n5_; clear hb hbox hg; obtain ⟨hcz7_0, hcz7_1, hcz7_2, hcz7_3, hcz7_4, hcz7_5, hcz7_6, hcz7_7, hcz7_8⟩ := bc9_ (w := w6) BK348.out; obtain ⟨hfz7_0, hfz7_1, hfz7_2, hfz7_3, hfz7_4, hfz7_5, hfz7_6, hfz7_7, hfz7_8⟩ := bf9_ BK348.out) | ((with_reducible refine gate_callee (f := 53) rfl ?_); refine goesL_ (some 10) rfl rfl Tryd.func53 (by kernel_rfl) rfl #[.agg #[.int .i64 a1_0, .string a1_1, .int .i64 a1_2, .int .i64 a1_3, .int .i64 a1_4, .string a1_5, .string a1_6, .int .i64 a1_7, .slice A1_8 l1_8.length c1_8]] rfl ml_ ?_; (with_reducible refine (accountingref12_Check.calls k a1_0 a1_1 a1_2 a1_3 a1_4 a1_5 a1_6 a1_7 _ _ l1_8 t349 t350 _ ?side1 ?side2 A3.out).mono ?_); (case side1 => repeat (first | exact (Kd.V_reads' HO1_8.out).2.2 | (with_reducible refine Kd.C_alloc ?_ _) | (with_reducible refine Kd.C_drewN ?_ _) | (with_reducible refine Kd.C_drew ?_))); (case side2 => exact (Kd.V_reads' HO1_8.out).2.1); rintro e w8 ⟨rfl, hb⟩; refine ⟨_, rfl, ?_⟩; have n0_ := Aside0.mk (Kd.V_below (by (with_reducible repeat (first | apply Kd.V_alloc | apply Kd.V_drewN | apply Kd.V_drew)); exact HO0.out) hb); have n1_ := Aside0.mk (Kd.V_below (by (with_reducible repeat (first | apply Kd.V_alloc | apply Kd.V_drewN | apply Kd.V_drew)); exact HO1_8.out) hb); have n2_ := Aside0.mk (bb_ BK348 hb); have n3_ := Aside0.mk (below_step (bwx_) hb); clear HO0; clear HO1_8; clear BK348; clear HB; have HO0 := n0_; have HO1_8 := n1_; have BK348 := n2_; have HB := n3_; clear n0_ n1_ n2_ n3_; (try clear hb); (try clear hb2); (try clear hk); (try clear hi)))
  (try simp only [Act.put, List.setIfInBounds_toArray, List.set_cons_zero, List.set_cons_succ])
  go_cut [39] (fun v39 wc => ∃ (kq : Nat) (x39_4 : Bool), v39 = .bool x39_4 ∧ Aside0 (accountingref20_Post.j0 kq l0 x39_4 a1_0 a1_1 a1_2 a1_3 a1_4 a1_5 a1_6 a1_7 l1_8 = some (r1, r2)) ∧ Aside0 (kq ≤ k) ∧ Aside0 (Kd.V k29 29 wc w.heap.size (fun k_ => ((P0_ k_ ∨ P1_8_ k_) ∨ w.heap.size ≤ k_) ∧ k_ ≠ gb348) (.slice A0 l0.length c0) l0) ∧ Aside0 (Kd.V k109 109 wc w.heap.size (fun k_ => ((P0_ k_ ∨ P1_8_ k_) ∨ w.heap.size ≤ k_) ∧ k_ ≠ gb348) (.slice A1_8 l1_8.length c1_8) l1_8) ∧ Aside0 (wc.heap[gb348]? = some (.cells #[.int .i64 a1_0, .string a1_1, .int .i64 a1_2, .int .i64 a1_3, .int .i64 a1_4, .string a1_5, .string a1_6, .int .i64 a1_7, (.slice A1_8 l1_8.length c1_8)] 29 (0, 0))) ∧ Aside0 (Below w.heap.size w wc))
  case first =>
   have H := HC5.out
   clear HC5
   by_cases c9 : a1_0 = (wrap64 ((l0.length : Int) + 1))
   rotate_left
   ·rw [if_neg c9] at H
    have c9b0 : (a1_0 == (wrap64 ((l0.length : Int) + 1))) = false := beq_eq_false_iff_ne.mpr c9
    have c9b1 : (a1_0 != (wrap64 ((l0.length : Int) + 1))) = true := bne_iff_ne.mpr c9
    (first | rw [c9b0] | (simp only [i64_w, i32_w]; rw [c9b0]) | skip)
    have H' := Aside0.mk H
    clear H
    try go_wp2
    have n0_ := Aside0.mk (Kd.V_drew HO0.out)
    have n1_ := Aside0.mk (Kd.V_drew HO1_8.out)
    have n2_ := Aside0.mk (blk_drew BK348.out)
    have n3_ := Aside0.mk (below_drew1 HB.out)
    clear HO0
    clear HO1_8
    clear BK348
    clear HB
    have HO0 := n0_
    have HO1_8 := n1_
    have BK348 := n2_
    have HB := n3_
    clear n0_ n1_ n2_ n3_
    refine start_ (n := 23) (S := fun w' => w'.cell? ⟨gb348, 0, none⟩ = some (.int .i64 a1_0) ∧ w'.cell? ⟨gb348, 1, none⟩ = some (.string a1_1) ∧ w'.cell? ⟨gb348, 2, none⟩ = some (.int .i64 a1_2) ∧ w'.cell? ⟨gb348, 3, none⟩ = some (.int .i64 a1_3) ∧ w'.cell? ⟨gb348, 4, none⟩ = some (.int .i64 a1_4) ∧ w'.cell? ⟨gb348, 5, none⟩ = some (.string a1_5) ∧ w'.cell? ⟨gb348, 6, none⟩ = some (.string a1_6) ∧ w'.cell? ⟨gb348, 7, none⟩ = some (.int .i64 a1_7) ∧ w'.cell? ⟨gb348, 8, none⟩ = some (.slice A1_8 l1_8.length c1_8)) (ds := []) #[false, false, false, false, false, false, false, false, false, false, false, false, false, false, false, false, false, false, false, false, false, false, false] (by kernel_rfl) rfl rfl ⟨(blk_cell BK348.out 0).trans rfl, (blk_cell BK348.out 1).trans rfl, (blk_cell BK348.out 2).trans rfl, (blk_cell BK348.out 3).trans rfl, (blk_cell BK348.out 4).trans rfl, (blk_cell BK348.out 5).trans rfl, (blk_cell BK348.out 6).trans rfl, (blk_cell BK348.out 7).trans rfl, (blk_cell BK348.out 8).trans rfl⟩ (fun hHeld => ?_); refine with_tabW accountingref20_Post.tab4 accountingref20_Post.bits4 (fun HT_ HW_ => ?_)
    generalize w8.drew = w16 at HO0 HO1_8 BK348 HB hHeld ⊢
    refine pu_ 0 (some 17) (btz 23 1) HT_ ?_
    refine pu_ 2 (some 19) (btz 23 5) HT_ ?_
    refine pu_ 3 (some 20) (btz 23 13) HT_ ?_
    refine pu_ 4 (some 21) (btz 23 29) HT_ ?_
    refine ta_ 1 (some 18) (btz 23 31) HT_ HW_ hHeld rfl rfl (by rintro w' ⟨s0, s1, s2, s3, s4, s5, s6, s7, s8⟩; go_simp; with_reducible rfl) ?_
    refine pu_ 5 (some 22) (btz 23 63) HT_ ?_
    refine pu_ 6 (some 23) (btz 23 127) HT_ ?_
    refine un_ 7 (some 24) (btz 23 255) HT_ ?_
    refine un_ 8 (some 25) (btz 23 511) HT_ ?_
    refine un_ 9 (some 26) (btz 23 1023) HT_ ?_
    refine un_ 10 (some 27) (btz 23 2047) HT_ ?_
    refine un_ 11 (some 28) (btz 23 4095) HT_ ?_
    refine un_ 12 (some 29) (btz 23 8191) HT_ ?_
    refine un_ 13 (some 30) (btz 23 16383) HT_ ?_
    refine un_ 14 (some 31) (btz 23 32767) HT_ ?_
    refine un_ 15 (some 32) (btz 23 65535) HT_ ?_
    refine un_ 16 (some 33) (btz 23 131071) HT_ ?_
    refine un_ 17 (some 34) (btz 23 262143) HT_ ?_
    refine un_ 18 (some 35) (btz 23 524287) HT_ ?_
    refine un_ 19 (some 36) (btz 23 1048575) HT_ ?_
    refine un_ 20 (some 37) (btz 23 2097151) HT_ ?_
    refine un_ 21 (some 38) (btz 23 4194303) HT_ ?_
    refine pu_ 22 (some 39) (btz 23 8388607) HT_ ?_
    refine done_ (done_of HT_.out (by kernel_rfl)) ?_
    try go_wp2
    go_meet
    case rel => exact ⟨_, (true), sm_, H', ⟨by first | omega | exact Nat.le_refl _⟩, ⟨by (with_reducible repeat (first | apply Kd.V_alloc | apply Kd.V_drewN | apply Kd.V_drew)); exact HO0.out⟩, ⟨by (with_reducible repeat (first | apply Kd.V_alloc | apply Kd.V_drewN | apply Kd.V_drew)); exact HO1_8.out⟩, ⟨by (with_reducible repeat (first | refine blk_drewN ?_ _ | refine blk_drew ?_ | refine blk_alloc ?_ _)); exact BK348.out⟩, ⟨bwx_⟩⟩
   rw [if_pos c9] at H
   have c9b0 : (a1_0 == (wrap64 ((l0.length : Int) + 1))) = true := beq_iff_eq.mpr c9
   have c9b1 : (a1_0 != (wrap64 ((l0.length : Int) + 1))) = false := bne_eq_false_iff_eq.mpr c9
   clear c9
   (first | rw [c9b0] | (simp only [i64_w, i32_w]; rw [c9b0]) | skip)
   by_cases c10 : (l0.length : Int) > 0
   rotate_left
   ·rw [if_neg c10] at H
    have c10b0 : decide (0 < (l0.length : Int)) = false := decide_eq_false c10
    have c10b1 : decide (0 < l0.length) = false := decide_eq_false (by omega)
    clear c10
    have H' := Aside0.mk H
    clear H
    try go_wp2
    have n0_ := Aside0.mk (Kd.V_drew HO0.out)
    have n1_ := Aside0.mk (Kd.V_drew HO1_8.out)
    have n2_ := Aside0.mk (blk_drew BK348.out)
    have n3_ := Aside0.mk (below_drew1 HB.out)
    clear HO0
    clear HO1_8
    clear BK348
    clear HB
    have HO0 := n0_
    have HO1_8 := n1_
    have BK348 := n2_
    have HB := n3_
    clear n0_ n1_ n2_ n3_
    refine start_ (n := 23) (S := fun w' => w'.cell? ⟨gb348, 0, none⟩ = some (.int .i64 a1_0) ∧ w'.cell? ⟨gb348, 1, none⟩ = some (.string a1_1) ∧ w'.cell? ⟨gb348, 2, none⟩ = some (.int .i64 a1_2) ∧ w'.cell? ⟨gb348, 3, none⟩ = some (.int .i64 a1_3) ∧ w'.cell? ⟨gb348, 4, none⟩ = some (.int .i64 a1_4) ∧ w'.cell? ⟨gb348, 5, none⟩ = some (.string a1_5) ∧ w'.cell? ⟨gb348, 6, none⟩ = some (.string a1_6) ∧ w'.cell? ⟨gb348, 7, none⟩ = some (.int .i64 a1_7) ∧ w'.cell? ⟨gb348, 8, none⟩ = some (.slice A1_8 l1_8.length c1_8)) (ds := []) #[false, false, false, false, false, false, false, false, false, false, false, false, false, false, false, false, false, false, false, false, false, false, false] (by kernel_rfl) rfl rfl ⟨(blk_cell BK348.out 0).trans rfl, (blk_cell BK348.out 1).trans rfl, (blk_cell BK348.out 2).trans rfl, (blk_cell BK348.out 3).trans rfl, (blk_cell BK348.out 4).trans rfl, (blk_cell BK348.out 5).trans rfl, (blk_cell BK348.out 6).trans rfl, (blk_cell BK348.out 7).trans rfl, (blk_cell BK348.out 8).trans rfl⟩ (fun hHeld => ?_); refine with_tabW accountingref20_Post.tab4 accountingref20_Post.bits4 (fun HT_ HW_ => ?_)
    generalize w8.drew = w15 at HO0 HO1_8 BK348 HB hHeld ⊢
    refine pu_ 0 (some 17) (btz 23 1) HT_ ?_
    refine pu_ 2 (some 19) (btz 23 5) HT_ ?_
    refine pu_ 3 (some 20) (btz 23 13) HT_ ?_
    refine pu_ 4 (some 21) (btz 23 29) HT_ ?_
    refine ta_ 1 (some 18) (btz 23 31) HT_ HW_ hHeld rfl rfl (by rintro w' ⟨s0, s1, s2, s3, s4, s5, s6, s7, s8⟩; go_simp; with_reducible rfl) ?_
    refine pu_ 5 (some 22) (btz 23 63) HT_ ?_
    refine pu_ 6 (some 23) (btz 23 127) HT_ ?_
    refine pu_ 7 (some 24) (btz 23 255) HT_ ?_
    refine pu_ 8 (some 25) (btz 23 511) HT_ ?_
    refine pu_ 9 (some 26) (btz 23 1023) HT_ ?_
    refine pu_ 10 (some 27) (btz 23 2047) HT_ ?_
    refine un_ 11 (some 28) (btz 23 4095) HT_ ?_
    refine un_ 12 (some 29) (btz 23 8191) HT_ ?_
    refine un_ 13 (some 30) (btz 23 16383) HT_ ?_
    refine un_ 14 (some 31) (btz 23 32767) HT_ ?_
    refine un_ 15 (some 32) (btz 23 65535) HT_ ?_
    refine un_ 16 (some 33) (btz 23 131071) HT_ ?_
    refine un_ 17 (some 34) (btz 23 262143) HT_ ?_
    refine un_ 18 (some 35) (btz 23 524287) HT_ ?_
    refine un_ 19 (some 36) (btz 23 1048575) HT_ ?_
    refine un_ 20 (some 37) (btz 23 2097151) HT_ ?_
    refine pu_ 21 (some 38) (btz 23 4194303) HT_ ?_
    refine pu_ 22 (some 39) (btz 23 8388607) HT_ ?_
    refine done_ (done_of HT_.out (by kernel_rfl)) ?_
    try go_wp2
    go_meet
    case rel => exact ⟨_, (false), sm_, H', ⟨by first | omega | exact Nat.le_refl _⟩, ⟨by (with_reducible repeat (first | apply Kd.V_alloc | apply Kd.V_drewN | apply Kd.V_drew)); exact HO0.out⟩, ⟨by (with_reducible repeat (first | apply Kd.V_alloc | apply Kd.V_drewN | apply Kd.V_drew)); exact HO1_8.out⟩, ⟨by (with_reducible repeat (first | refine blk_drewN ?_ _ | refine blk_drew ?_ | refine blk_alloc ?_ _)); exact BK348.out⟩, ⟨bwx_⟩⟩
   rw [if_pos c10] at H
   have c10b0 : decide (0 < (l0.length : Int)) = true := decide_eq_true c10
   have c10b1 : decide (0 < l0.length) = true := decide_eq_true (by omega)
   clear c10
   obtain ⟨ji11, hji11⟩ : ∃ j_ : Int, (wrap64 ((l0.length : Int) - 1)) = j_ := ⟨_, rfl⟩
   replace H : (if 0 ≤ (ji11) then (if (ji11) < (l0.length : Int) then (accountingref20_Post.j0 k l0 (decide (a1_2 < ((rd_T29 l0 (ji11)).f2))) a1_0 a1_1 a1_2 a1_3 a1_4 a1_5 a1_6 a1_7 l1_8) else (none)) else (none)) = some (r1, r2) := by first | (rw [hji11] at H; exact H) | (simp only [hji11] at H ⊢; exact H)
   have hji11w : (IntKind.i64.wrap ((l0.length : Int) - 1)) = ji11 := (i64_w _).trans hji11
   by_cases c12 : 0 ≤ (ji11)
   rotate_left
   ·rw [if_neg c12] at H
    exact absurd H (by simp)
   rw [if_pos c12] at H
   have c12b0 : decide (0 ≤ (ji11)) = true := decide_eq_true c12
   clear c12
   by_cases c13 : (ji11) < (l0.length : Int)
   rotate_left
   ·rw [if_neg c13] at H
    exact absurd H (by simp)
   rw [if_pos c13] at H
   have c13b0 : decide ((ji11) < (l0.length : Int)) = true := decide_eq_true c13
   clear c13
   have H' := Aside0.mk H
   clear H
   try go_wp2
   have n0_ := Aside0.mk (Kd.V_drew HO0.out)
   have n1_ := Aside0.mk (Kd.V_drew HO1_8.out)
   have n2_ := Aside0.mk (blk_drew BK348.out)
   have n3_ := Aside0.mk (below_drew1 HB.out)
   clear HO0
   clear HO1_8
   clear BK348
   clear HB
   have HO0 := n0_
   have HO1_8 := n1_
   have BK348 := n2_
   have HB := n3_
   clear n0_ n1_ n2_ n3_
   have p351 : 0 ≤ ((ji11) : Int) := odt_
   have q351 : (ji11) < (l0.length : Int) := odt_
   obtain ⟨ad351, A351_8, c351_8, e351, hx351_0, hx351_1, hx351_2, hx351_3, hx351_4, hx351_5, hx351_6, hx351_7, hx351_8, hl351_8, hi351_8⟩ := at_T29 (Kd.V_reads' HO0.out).2.2 (ji11) p351 q351
   cases e351
   obtain ⟨ce351, hce351, hMe351, hcc351⟩ := Kd.V_get HO0.out z29 (ji11) p351 (by first | exact q351 | exact odt_ | (have e_ := (Kd.V_reads' HO0.out).1; omega))
   obtain ⟨ua351_8, uc351_8, rfl, ul351_8, ge351_8⟩ := k29_openF hMe351
   have hv351_8 := hcc351 8 _ rfl
   rw [add_field _ _ 8 (by omega)] at hv351_8
   replace hv351_8 := Option.some.inj (hv351_8.symm.trans hx351_8)
   injection hv351_8 with hva_ hvn_ hvc_
   rw [hva_] at ge351_8
   rw [hvc_] at ul351_8
   have HL351_8 := Aside0.mk (show Kd.V k109 109 _ w.heap.size _ _ ((rd_T29 l0 (ji11)).f8) from Kd.V_mk ul351_8 ge351_8)
   clear hva_ hvn_ hvc_ ge351_8 ul351_8
   clear hcc351 hce351
   have HR351_8 := Aside0.mk hi351_8
   have HC351_8 := Aside0.mk hl351_8
   clear hi351_8 hl351_8
   replace p351 := eq_true p351
   replace q351 := eq_true q351
   refine start_ (n := 23) (S := fun w' => w'.cell? ⟨gb348, 0, none⟩ = some (.int .i64 a1_0) ∧ w'.cell? ⟨gb348, 1, none⟩ = some (.string a1_1) ∧ w'.cell? ⟨gb348, 2, none⟩ = some (.int .i64 a1_2) ∧ w'.cell? ⟨gb348, 3, none⟩ = some (.int .i64 a1_3) ∧ w'.cell? ⟨gb348, 4, none⟩ = some (.int .i64 a1_4) ∧ w'.cell? ⟨gb348, 5, none⟩ = some (.string a1_5) ∧ w'.cell? ⟨gb348, 6, none⟩ = some (.string a1_6) ∧ w'.cell? ⟨gb348, 7, none⟩ = some (.int .i64 a1_7) ∧ w'.cell? ⟨gb348, 8, none⟩ = some (.slice A1_8 l1_8.length c1_8) ∧ w'.cell? (ad351.add (((ji11)).toNat * 9)) = some (.int .i64 ((rd_T29 l0 (ji11)).f0)) ∧ w'.cell? ⟨(ad351.add (((ji11)).toNat * 9)).block, (ad351.add (((ji11)).toNat * 9)).off + 1, none⟩ = some (.string ((rd_T29 l0 (ji11)).f1)) ∧ w'.cell? ⟨(ad351.add (((ji11)).toNat * 9)).block, (ad351.add (((ji11)).toNat * 9)).off + 2, none⟩ = some (.int .i64 ((rd_T29 l0 (ji11)).f2)) ∧ w'.cell? ⟨(ad351.add (((ji11)).toNat * 9)).block, (ad351.add (((ji11)).toNat * 9)).off + 3, none⟩ = some (.int .i64 ((rd_T29 l0 (ji11)).f3)) ∧ w'.cell? ⟨(ad351.add (((ji11)).toNat * 9)).block, (ad351.add (((ji11)).toNat * 9)).off + 4, none⟩ = some (.int .i64 ((rd_T29 l0 (ji11)).f4)) ∧ w'.cell? ⟨(ad351.add (((ji11)).toNat * 9)).block, (ad351.add (((ji11)).toNat * 9)).off + 5, none⟩ = some (.string ((rd_T29 l0 (ji11)).f5)) ∧ w'.cell? ⟨(ad351.add (((ji11)).toNat * 9)).block, (ad351.add (((ji11)).toNat * 9)).off + 6, none⟩ = some (.string ((rd_T29 l0 (ji11)).f6)) ∧ w'.cell? ⟨(ad351.add (((ji11)).toNat * 9)).block, (ad351.add (((ji11)).toNat * 9)).off + 7, none⟩ = some (.int .i64 ((rd_T29 l0 (ji11)).f7)) ∧ w'.cell? ⟨(ad351.add (((ji11)).toNat * 9)).block, (ad351.add (((ji11)).toNat * 9)).off + 8, none⟩ = some (.slice A351_8 ((rd_T29 l0 (ji11)).f8).length c351_8)) (ds := []) #[false, false, false, false, false, false, false, false, false, false, false, false, false, false, false, false, false, false, false, false, false, false, false] (by kernel_rfl) rfl rfl ⟨(blk_cell BK348.out 0).trans rfl, (blk_cell BK348.out 1).trans rfl, (blk_cell BK348.out 2).trans rfl, (blk_cell BK348.out 3).trans rfl, (blk_cell BK348.out 4).trans rfl, (blk_cell BK348.out 5).trans rfl, (blk_cell BK348.out 6).trans rfl, (blk_cell BK348.out 7).trans rfl, (blk_cell BK348.out 8).trans rfl, hx351_0, hx351_1, hx351_2, hx351_3, hx351_4, hx351_5, hx351_6, hx351_7, hx351_8⟩ (fun hHeld => ?_); refine with_tabW accountingref20_Post.tab4 accountingref20_Post.bits4 (fun HT_ HW_ => ?_)
   generalize w8.drew = w14 at HO0 HO1_8 BK348 HB HL351_8 HR351_8 hx351_0 hx351_1 hx351_2 hx351_3 hx351_4 hx351_5 hx351_6 hx351_7 hx351_8 hHeld ⊢
   refine pu_ 0 (some 17) (btz 23 1) HT_ ?_
   refine pu_ 2 (some 19) (btz 23 5) HT_ ?_
   refine pu_ 3 (some 20) (btz 23 13) HT_ ?_
   refine pu_ 4 (some 21) (btz 23 29) HT_ ?_
   refine ta_ 1 (some 18) (btz 23 31) HT_ HW_ hHeld rfl rfl (by rintro w' ⟨s0, s1, s2, s3, s4, s5, s6, s7, s8, s9, s10, s11, s12, s13, s14, s15, s16, s17⟩; go_simp; with_reducible rfl) ?_
   refine pu_ 5 (some 22) (btz 23 63) HT_ ?_
   refine pu_ 6 (some 23) (btz 23 127) HT_ ?_
   refine pu_ 7 (some 24) (btz 23 255) HT_ ?_
   refine pu_ 8 (some 25) (btz 23 511) HT_ ?_
   refine pu_ 9 (some 26) (btz 23 1023) HT_ ?_
   refine pu_ 10 (some 27) (btz 23 2047) HT_ ?_
   refine pu_ 11 (some 28) (btz 23 4095) HT_ ?_
   refine pu_ 13 (some 30) (btz 23 12287) HT_ ?_
   refine pu_ 14 (some 31) (btz 23 28671) HT_ ?_
   refine pu_ 15 (some 32) (btz 23 61439) HT_ ?_
   refine pu_ 16 (some 33) (btz 23 126975) HT_ ?_
   refine pu_ 17 (some 34) (btz 23 258047) HT_ ?_
   refine pu_ 18 (some 35) (btz 23 520191) HT_ ?_
   refine ta_ 12 (some 29) (btz 23 524287) HT_ HW_ hHeld rfl rfl (by rintro w' ⟨s0, s1, s2, s3, s4, s5, s6, s7, s8, s9, s10, s11, s12, s13, s14, s15, s16, s17⟩; go_simp; with_reducible rfl) ?_
   refine ta_ 19 (some 36) (btz 23 1048575) HT_ HW_ hHeld rfl rfl (by rintro w' ⟨s0, s1, s2, s3, s4, s5, s6, s7, s8, s9, s10, s11, s12, s13, s14, s15, s16, s17⟩; go_simp; with_reducible rfl) ?_
   refine pu_ 20 (some 37) (btz 23 2097151) HT_ ?_
   refine pu_ 21 (some 38) (btz 23 4194303) HT_ ?_
   refine pu_ 22 (some 39) (btz 23 8388607) HT_ ?_
   refine done_ (done_of HT_.out (by kernel_rfl)) ?_
   try go_wp2
   go_meet
   case rel => exact ⟨_, (decide (a1_2 < ((rd_T29 l0 (ji11)).f2))), (by first | rfl | (simp; done) | (simp only [← hji11] <;> (first | rfl | simp)) | (simp [*]; done)), H', ⟨by first | omega | exact Nat.le_refl _⟩, ⟨by (with_reducible repeat (first | apply Kd.V_alloc | apply Kd.V_drewN | apply Kd.V_drew)); exact HO0.out⟩, ⟨by (with_reducible repeat (first | apply Kd.V_alloc | apply Kd.V_drewN | apply Kd.V_drew)); exact HO1_8.out⟩, ⟨by (with_reducible repeat (first | refine blk_drewN ?_ _ | refine blk_drew ?_ | refine blk_alloc ?_ _)); exact BK348.out⟩, ⟨bwx_⟩⟩
  case rest =>
   clear HC5
   try clear c1
   try clear c2
   try clear p2
   try clear c3
   try clear p3
   try clear q3
   try clear hx3
   try clear c4
   try clear c4b0
   try clear c4b1
   try clear c5
   try clear p6
   try clear c9
   try clear c9b0
   try clear c9b1
   try clear c10
   try clear c10b0
   try clear c10b1
   try clear c12
   try clear c12b0
   try clear c13
   try clear c13b0
   try clear hcz7_0 hcz7_1 hcz7_2 hcz7_3 hcz7_4 hcz7_5 hcz7_6 hcz7_7 hcz7_8
   try clear hfz7_0 hfz7_1 hfz7_2 hfz7_3 hfz7_4 hfz7_5 hfz7_6 hfz7_7 hfz7_8
   try clear hx351_0
   try clear hx351_1
   try clear hx351_2
   try clear hx351_3
   try clear hx351_4
   try clear hx351_5
   try clear hx351_6
   try clear hx351_7
   try clear hx351_8
   try clear p351
   try clear q351
   obtain ⟨kq, x39_4, rfl, HA, HJ4, HO_0, HO_349008, BK348, HB⟩ := hcut
   cases kq with
   | zero => exact absurd HA.out (by simp [accountingref20_Post.j0])
   | succ kj4 =>
    have H := HA.out
    clear HA
    simp only [accountingref20_Post.j0] at H
    by_cases c17 : x39_4 = true
    ·subst c17
     have H1 : (some (l0, 17)) = some (r1, r2) := by rw [if_pos rfl] at H; exact H
     clear H
     have H := H1
     clear H1
     simp only [Option.some.injEq, Prod.mk.injEq] at H
     obtain ⟨rfl, rfl⟩ := H
     go_wp2
     go_ret2
     exact ⟨_, ew_, by (with_reducible repeat (first | apply Kd.V_alloc | apply Kd.V_drewN | apply Kd.V_drew)); exact Kd.V_mono HO_0.out (fun _ hk => hk.1), bwx_⟩
    replace c17 := Bool.eq_false_iff.mpr c17
    subst c17
    have H1 : (if (l0.length : Int) ≥ 4000 then (some (l0, 9)) else ((some (([] : List (S29)) : List (S29))).bind fun y352 => (if y352.length + l0.length < 1256584717458 then ((some (y352 ++ l0 : List (S29))).bind fun y355 => ((some (([(⟨a1_0, a1_1, a1_2, a1_3, a1_4, a1_5, a1_6, a1_7, l1_8⟩ : S29)] : List (S29)) : List (S29))).bind fun y358 => (if y355.length + y358.length < 1256584717458 then (some ((y355 ++ y358), 0)) else (none)))) else (none)))) = some (r1, r2) := by rw [if_neg (show ¬ (false = true) by decide)] at H; exact H
    clear H
    have H := H1
    clear H1
    by_cases c18 : (l0.length : Int) ≥ 4000
    ·rw [if_pos c18] at H
     have c18b0 : decide (4000 ≤ (l0.length : Int)) = true := decide_eq_true c18
     have c18b1 : decide (4000 ≤ l0.length) = true := decide_eq_true (by omega)
     clear c18
     simp only [Option.some.injEq, Prod.mk.injEq] at H
     obtain ⟨rfl, rfl⟩ := H
     go_wp2
     go_ret2
     exact ⟨_, ew_, by (with_reducible repeat (first | apply Kd.V_alloc | apply Kd.V_drewN | apply Kd.V_drew)); exact Kd.V_mono HO_0.out (fun _ hk => hk.1), bwx_⟩
    rw [if_neg c18] at H
    have c18b0 : decide (4000 ≤ (l0.length : Int)) = false := decide_eq_false c18
    have c18b1 : decide (4000 ≤ l0.length) = false := decide_eq_false (by omega)
    clear c18
    obtain ⟨y352, hy352⟩ : ∃ y_ : List (S29), y_ = (([] : List (S29))) := ⟨_, rfl⟩
    replace H : (if y352.length + l0.length < 1256584717458 then ((some (y352 ++ l0 : List (S29))).bind fun y355 => ((some (([(⟨a1_0, a1_1, a1_2, a1_3, a1_4, a1_5, a1_6, a1_7, l1_8⟩ : S29)] : List (S29)) : List (S29))).bind fun y358 => (if y355.length + y358.length < 1256584717458 then (some ((y355 ++ y358), 0)) else (none)))) else (none)) = some (r1, r2) := by first | (rw [hy352]; with_reducible exact H) | (have H2_ := (Option.bind_some _ _).symm.trans H; rw [hy352]; with_reducible exact H2_) | (have H2_ := (Option.bind_some _ _).symm.trans H; with_reducible exact H2_) | with_reducible exact H | (rw [hy352]; exact H) | exact H
    have Ny352 := Aside0.mk hy352
    clear hy352
    by_cases c19 : y352.length + l0.length < 1256584717458
    rotate_left
    ·rw [if_neg c19] at H
     exact absurd H (by simp)
    rw [if_pos c19] at H
    have LMc19 := Aside0.mk c19
    clear c19
    obtain ⟨y355, hy355⟩ : ∃ y_ : List (S29), y_ = (y352 ++ l0) := ⟨_, rfl⟩
    replace H : ((some (([(⟨a1_0, a1_1, a1_2, a1_3, a1_4, a1_5, a1_6, a1_7, l1_8⟩ : S29)] : List (S29)) : List (S29))).bind fun y358 => (if y355.length + y358.length < 1256584717458 then (some ((y355 ++ y358), 0)) else (none))) = some (r1, r2) := by first | (rw [hy355]; with_reducible exact H) | (have H2_ := (Option.bind_some _ _).symm.trans H; rw [hy355]; with_reducible exact H2_) | (have H2_ := (Option.bind_some _ _).symm.trans H; with_reducible exact H2_) | with_reducible exact H | (rw [hy355]; exact H) | exact H
    have Ny355 := Aside0.mk hy355
    clear hy355
    obtain ⟨y358, hy358⟩ : ∃ y_ : List (S29), y_ = (([(⟨a1_0, a1_1, a1_2, a1_3, a1_4, a1_5, a1_6, a1_7, l1_8⟩ : S29)] : List (S29))) := ⟨_, rfl⟩
    replace H : (if y355.length + y358.length < 1256584717458 then (some ((y355 ++ y358), 0)) else (none)) = some (r1, r2) := by first | (rw [hy358]; with_reducible exact H) | (have H2_ := (Option.bind_some _ _).symm.trans H; rw [hy358]; with_reducible exact H2_) | (have H2_ := (Option.bind_some _ _).symm.trans H; with_reducible exact H2_) | with_reducible exact H | (rw [hy358]; exact H) | exact H
    have Ny358 := Aside0.mk hy358
    clear hy358
    by_cases c20 : y355.length + y358.length < 1256584717458
    rotate_left
    ·rw [if_neg c20] at H
     exact absurd H (by simp)
    rw [if_pos c20] at H
    have LMc20 := Aside0.mk c20
    clear c20
    obtain ⟨y361, hy361⟩ : ∃ y_ : List (S29), y_ = (y355 ++ y358) := ⟨_, rfl⟩
    replace H : (some (y361, 0)) = some (r1, r2) := by first | (rw [hy361]; with_reducible exact H) | (have H2_ := (Option.bind_some _ _).symm.trans H; rw [hy361]; with_reducible exact H2_) | (have H2_ := (Option.bind_some _ _).symm.trans H; with_reducible exact H2_) | with_reducible exact H | (rw [hy361]; exact H) | exact H
    have Ny361 := Aside0.mk hy361
    clear hy361
    simp only [Option.some.injEq, Prod.mk.injEq] at H
    obtain ⟨rfl, rfl⟩ := H
    try go_wp2
    have n0_ := Aside0.mk (Kd.V_drew HO_0.out)
    have n1_ := Aside0.mk (Kd.V_drew HO_349008.out)
    have n2_ := Aside0.mk (blk_drew BK348.out)
    have n3_ := Aside0.mk (below_drew1 HB.out)
    clear HO_0
    clear HO_349008
    clear BK348
    clear HB
    have HO_0 := n0_
    have HO_349008 := n1_
    have BK348 := n2_
    have HB := n3_
    clear n0_ n1_ n2_ n3_
    refine start_ (n := 8) (S := fun w' => w'.cell? ⟨gb348, 0, none⟩ = some (.int .i64 a1_0) ∧ w'.cell? ⟨gb348, 1, none⟩ = some (.string a1_1) ∧ w'.cell? ⟨gb348, 2, none⟩ = some (.int .i64 a1_2) ∧ w'.cell? ⟨gb348, 3, none⟩ = some (.int .i64 a1_3) ∧ w'.cell? ⟨gb348, 4, none⟩ = some (.int .i64 a1_4) ∧ w'.cell? ⟨gb348, 5, none⟩ = some (.string a1_5) ∧ w'.cell? ⟨gb348, 6, none⟩ = some (.string a1_6) ∧ w'.cell? ⟨gb348, 7, none⟩ = some (.int .i64 a1_7) ∧ w'.cell? ⟨gb348, 8, none⟩ = some (.slice A1_8 l1_8.length c1_8)) (ds := []) #[false, false, false, false, false, false, false, false] (by kernel_rfl) rfl rfl ⟨(blk_cell BK348.out 0).trans rfl, (blk_cell BK348.out 1).trans rfl, (blk_cell BK348.out 2).trans rfl, (blk_cell BK348.out 3).trans rfl, (blk_cell BK348.out 4).trans rfl, (blk_cell BK348.out 5).trans rfl, (blk_cell BK348.out 6).trans rfl, (blk_cell BK348.out 7).trans rfl, (blk_cell BK348.out 8).trans rfl⟩ (fun hHeld => ?_); refine with_tabW accountingref20_Post.tab8 accountingref20_Post.bits8 (fun HT_ HW_ => ?_)
    generalize wc.drew = w21 at HO_0 HO_349008 BK348 HB hHeld ⊢
    refine pu_ 1 (some 46) (btz 8 2) HT_ ?_
    refine ta_ 3 (some 48) (btz 8 10) HT_ HW_ hHeld rfl rfl (by rintro w' ⟨s0, s1, s2, s3, s4, s5, s6, s7, s8⟩; go_simp; with_reducible rfl) ?_
    refine join_ (σ := Value × Value × Value) 3 #[true, true, true, true, true, false, false, false] (fun s_ => [(45, s_.1), (47, s_.2.1), (49, s_.2.2)]) (fun s_ w' => (w'.cell? ⟨gb348, 0, none⟩ = some (.int .i64 a1_0) ∧ w'.cell? ⟨gb348, 1, none⟩ = some (.string a1_1) ∧ w'.cell? ⟨gb348, 2, none⟩ = some (.int .i64 a1_2) ∧ w'.cell? ⟨gb348, 3, none⟩ = some (.int .i64 a1_3) ∧ w'.cell? ⟨gb348, 4, none⟩ = some (.int .i64 a1_4) ∧ w'.cell? ⟨gb348, 5, none⟩ = some (.string a1_5) ∧ w'.cell? ⟨gb348, 6, none⟩ = some (.string a1_6) ∧ w'.cell? ⟨gb348, 7, none⟩ = some (.int .i64 a1_7) ∧ w'.cell? ⟨gb348, 8, none⟩ = some (.slice A1_8 l1_8.length c1_8)) ∧ (Kd.N k29 29 w' w.heap.size (fun k_ => ((P0_ k_ ∨ P1_8_ k_) ∨ w.heap.size ≤ k_) ∧ some k_ ≠ (s_.2.2 : Value).ownBlock ∧ k_ ≠ gb348) s_.2.1 y355) ∧ (Kd.N k29 29 w' w.heap.size (fun k_ => ((P0_ k_ ∨ P1_8_ k_) ∨ w.heap.size ≤ k_) ∧ some k_ ≠ (s_.2.1 : Value).ownBlock ∧ k_ ≠ gb348) s_.2.2 y358) ∧ (Kd.V k29 29 w' w.heap.size (fun k_ => ((P0_ k_ ∨ P1_8_ k_) ∨ w.heap.size ≤ k_) ∧ some k_ ≠ (s_.2.1 : Value).ownBlock ∧ some k_ ≠ (s_.2.2 : Value).ownBlock ∧ k_ ≠ gb348) (.slice A0 l0.length c0) l0) ∧ (Kd.V k109 109 w' w.heap.size (fun k_ => ((P0_ k_ ∨ P1_8_ k_) ∨ w.heap.size ≤ k_) ∧ some k_ ≠ (s_.2.1 : Value).ownBlock ∧ some k_ ≠ (s_.2.2 : Value).ownBlock ∧ k_ ≠ gb348) (.slice A1_8 l1_8.length c1_8) l1_8) ∧ (w'.heap[gb348]? = some (.cells #[.int .i64 a1_0, .string a1_1, .int .i64 a1_2, .int .i64 a1_3, .int .i64 a1_4, .string a1_5, .string a1_6, .int .i64 a1_7, .slice A1_8 l1_8.length c1_8] 29 (0, 0))) ∧ (Below w.heap.size w w')) ?_ ?_
    rotate_left
    ·intro hCont
     refine two_ (i := 0) (j := 4) (Ni := some 45) (Nj := some 49) #[true, true, false, true, false, false, false, false] #[false, true, false, true, true, false, false, false] rfl rfl rfl rfl (two_of HT_.out (by kernel_rfl)) (by decide) (by decide) (fun K hK => ?_) (fun K hK => ?_)
     ·skip
      refine Kd.N_lit_step k29 _ 29 ?hg (N' := 45) ?hd (xs := ([] : List (S29))) (inner := []) (ok := (fun k_ => ((P0_ k_ ∨ P1_8_ k_) ∨ w.heap.size ≤ k_) ∧ k_ ≠ gb348)) (okp := (fun k_ => ((P0_ k_ ∨ P1_8_ k_) ∨ w.heap.size ≤ k_) ∧ k_ ≠ gb348)) ?hr ?hp (fun _ hk => hk) ((show ∀ k_, w21.heap.size ≤ k_ → (fun k_ => ((P0_ k_ ∨ P1_8_ k_) ∨ w.heap.size ≤ k_) ∧ k_ ≠ gb348) k_ from fun k_ hk => ⟨(.inr (Nat.le_trans (below_size (bwx_)) hk)), Kd.freshB (g := gb348) (o := .cells #[.int .i64 a1_0, .string a1_1, .int .i64 a1_2, .int .i64 a1_3, .int .i64 a1_4, .string a1_5, .string a1_6, .int .i64 a1_7, .slice A1_8 l1_8.length c1_8] 29 (0, 0)) (by (with_reducible repeat (first | refine blk_drewN ?_ _ | refine blk_drew ?_ | refine blk_alloc ?_ _)); exact BK348.out) k_ hk⟩) _ (Nat.le_refl _)) (Below.refl _ _) (Nat.le_refl _) (by simp) ?_; (case hd => rfl); (case hg => rfl); (case hr => first | (go_simp; done) | (go_simp; rfl)); (case hp => exact (Reps.none _ _))
      intro v353 w22 ho23 hb hg_ hnew_
      clear hg_ hnew_
      (first | rw [← Ny352.out] at ho23 | (simp only [Int.reduceToNat] at ho23; rw [← Ny352.out] at ho23))
      have n0_ := Aside0.mk (Kd.V_elder' (by (with_reducible repeat (first | apply Kd.V_alloc | apply Kd.V_drewN | apply Kd.V_drew)); exact HO_0.out) (Kd.N_base ho23) hb)
      have n1_ := Aside0.mk (Kd.V_elder' (by (with_reducible repeat (first | apply Kd.V_alloc | apply Kd.V_drewN | apply Kd.V_drew)); exact HO_349008.out) (Kd.N_base ho23) hb)
      have n2_ := Aside0.mk (Kd.N_lower ho23 (below_size (bwx_)))
      have n3_ := Aside0.mk (bb_ BK348 hb)
      have n4_ := Aside0.mk (below_step (bwx_) hb)
      clear HO_0
      clear HO_349008
      clear BK348
      clear HB
      have HO_0 := n0_
      have HO_349008 := n1_
      have HO354 := n2_
      have BK348 := n3_
      have HB := n4_
      clear n0_ n1_ n2_ n3_ n4_
      clear hb ho23
      refine hK.out _ _ ⟨(blk_cell BK348.out 0).trans rfl, (blk_cell BK348.out 1).trans rfl, (blk_cell BK348.out 2).trans rfl, (blk_cell BK348.out 3).trans rfl, (blk_cell BK348.out 4).trans rfl, (blk_cell BK348.out 5).trans rfl, (blk_cell BK348.out 6).trans rfl, (blk_cell BK348.out 7).trans rfl, (blk_cell BK348.out 8).trans rfl⟩ (fun hHeld => ?_)
      clear hK K
      refine norm_ (a' := ?_) ?_ ?_
      rotate_left
      ·show Act.put _ (some 45) _ = _
       simp only [Act.put, List.setIfInBounds_toArray, List.set_cons_zero, List.set_cons_succ, i64_w, i32_w]
       rfl
      refine two_ (i := 2) (j := 4) (Ni := some 47) (Nj := some 49) #[true, true, true, true, false, false, false, false] #[true, true, false, true, true, false, false, false] rfl rfl rfl rfl (two_of HT_.out (by kernel_rfl)) (by decide) (by decide) (fun K hK => ?_) (fun K hK => ?_)
      ·skip
       refine Kd.N_append_rows_step k29 (w0 := w) w.heap.size (by rfl) (.tmp 45) (.tmp 46) 22 29 (.agg #[(.int .i64 0), (.string ⟨#[]⟩), (.int .i64 0), (.int .i64 0), (.int .i64 0), (.string ⟨#[]⟩), (.string ⟨#[]⟩), (.int .i64 0), (.slice none 0 0)]) 112 rfl Tryd.underlying22 info29 rfl (by decide) (by omega) v353 y352 l0 _ _ _ (fun k_ => ((P0_ k_ ∨ P1_8_ k_) ∨ w.heap.size ≤ k_) ∧ k_ ≠ gb348) (fun k_ => ((fun k_ => ((P0_ k_ ∨ P1_8_ k_) ∨ w.heap.size ≤ k_) ∧ k_ ≠ gb348)) k_ ∧ some k_ ≠ (v353 : Value).ownBlock) rfl rfl ?aO ?aR (fun _ hk => hk) ?aF ?aB ?aS ?aL ?_
       (case aR => exact (by skip; exact Kd.V_F (Kd.V_mono (ok' := (fun k_ => ((fun k_ => ((P0_ k_ ∨ P1_8_ k_) ∨ w.heap.size ≤ k_) ∧ k_ ≠ gb348)) k_ ∧ some k_ ≠ (v353 : Value).ownBlock)) (HO_0.out) (fun k_ hk => ⟨⟨hk.1.1, hk.1.2⟩, hk.2⟩))))
       (case aB => exact (bwx_))
       (case aF => exact (fun k_ hk => ⟨(.inr (Nat.le_trans (below_size (bwx_)) hk)), Kd.freshB (g := gb348) (o := .cells #[.int .i64 a1_0, .string a1_1, .int .i64 a1_2, .int .i64 a1_3, .int .i64 a1_4, .string a1_5, .string a1_6, .int .i64 a1_7, .slice A1_8 l1_8.length c1_8] 29 (0, 0)) (by (with_reducible repeat (first | refine blk_drewN ?_ _ | refine blk_drew ?_ | refine blk_alloc ?_ _)); exact BK348.out) k_ hk⟩))
       (case aO => exact (by (with_reducible repeat (first | apply Kd.N_alloc | apply Kd.N_drewN | apply Kd.N_drew)); exact HO354.out))
       (case aS => exact (below_size (bwx_)))
       (case aL => have := LMc19.out; omega)
       intro v356 w24 ho hb hg hat
       rw [← Ny355.out] at ho
       have n0_ := Aside0.mk (Kd.V_afterv (ok := (fun k_ => ((P0_ k_ ∨ P1_8_ k_) ∨ w.heap.size ≤ k_) ∧ k_ ≠ gb348)) (by (with_reducible repeat (first | apply Kd.V_alloc | apply Kd.V_drewN | apply Kd.V_drew)); exact HO_0.out) hg hat)
       have n1_ := Aside0.mk (Kd.V_afterv (ok := (fun k_ => ((P0_ k_ ∨ P1_8_ k_) ∨ w.heap.size ≤ k_) ∧ k_ ≠ gb348)) (by (with_reducible repeat (first | apply Kd.V_alloc | apply Kd.V_drewN | apply Kd.V_drew)); exact HO_349008.out) hg hat)
       have n2_ := Aside0.mk (blk_grown (g := gb348) (o := .cells #[.int .i64 a1_0, .string a1_1, .int .i64 a1_2, .int .i64 a1_3, .int .i64 a1_4, .string a1_5, .string a1_6, .int .i64 a1_7, .slice A1_8 l1_8.length c1_8] 29 (0, 0)) (by (with_reducible repeat (first | refine blk_drewN ?_ _ | refine blk_drew ?_ | refine blk_alloc ?_ _)); exact BK348.out) hg (Kd.N_away HO354.out (fun _ hk => hk.2)))
       have n3_ := Aside0.mk (hb)
       have n4_ := Aside0.mk (ho)
       clear HO_0
       clear HO_349008
       clear BK348
       clear HB
       clear HO354
       have HO_0 := n0_
       have HO_349008 := n1_
       have BK348 := n2_
       have HB := n3_
       have HO357 := n4_
       clear n0_ n1_ n2_ n3_ n4_
       clear ho hb hg hat
       refine hK.out _ _ ⟨(blk_cell BK348.out 0).trans rfl, (blk_cell BK348.out 1).trans rfl, (blk_cell BK348.out 2).trans rfl, (blk_cell BK348.out 3).trans rfl, (blk_cell BK348.out 4).trans rfl, (blk_cell BK348.out 5).trans rfl, (blk_cell BK348.out 6).trans rfl, (blk_cell BK348.out 7).trans rfl, (blk_cell BK348.out 8).trans rfl⟩ (fun hHeld => ?_)
       clear hK K
       refine norm_ (a' := ?_) ?_ ?_
       rotate_left
       ·show Act.put _ (some 47) _ = _
        simp only [Act.put, List.setIfInBounds_toArray, List.set_cons_zero, List.set_cons_succ, i64_w, i32_w]
        rfl
       refine one_ (i := 4) (N := some 49) #[true, true, true, true, true, false, false, false] rfl rfl (one_of HT_.out (by kernel_rfl)) (by decide) (fun K hK => ?_)
       refine Kd.N_lit_step k29 _ 29 ?hg (N' := 49) ?hd (xs := ([(⟨a1_0, a1_1, a1_2, a1_3, a1_4, a1_5, a1_6, a1_7, l1_8⟩ : S29)] : List (S29))) (inner := [.int .i64 a1_0, .string a1_1, .int .i64 a1_2, .int .i64 a1_3, .int .i64 a1_4, .string a1_5, .string a1_6, .int .i64 a1_7, .slice A1_8 l1_8.length c1_8]) (ok := (fun k_ => ((P0_ k_ ∨ P1_8_ k_) ∨ w.heap.size ≤ k_) ∧ some k_ ≠ (v356 : Value).ownBlock ∧ k_ ≠ gb348)) (okp := (fun k_ => ((P0_ k_ ∨ P1_8_ k_) ∨ w.heap.size ≤ k_) ∧ some k_ ≠ (v356 : Value).ownBlock ∧ k_ ≠ gb348)) ?hr ?hp (fun _ hk => hk) ((show ∀ k_, w24.heap.size ≤ k_ → (fun k_ => ((P0_ k_ ∨ P1_8_ k_) ∨ w.heap.size ≤ k_) ∧ some k_ ≠ (v356 : Value).ownBlock ∧ k_ ≠ gb348) k_ from fun k_ hk => ⟨(.inr (Nat.le_trans (below_size (bwx_)) hk)), Kd.fresh' (Kd.N_lt (by (with_reducible repeat (first | apply Kd.N_alloc | apply Kd.N_drewN | apply Kd.N_drew)); exact HO357.out)) k_ hk, Kd.freshB (g := gb348) (o := .cells #[.int .i64 a1_0, .string a1_1, .int .i64 a1_2, .int .i64 a1_3, .int .i64 a1_4, .string a1_5, .string a1_6, .int .i64 a1_7, .slice A1_8 l1_8.length c1_8] 29 (0, 0)) (by (with_reducible repeat (first | refine blk_drewN ?_ _ | refine blk_drew ?_ | refine blk_alloc ?_ _)); exact BK348.out) k_ hk⟩) _ (Nat.le_refl _)) (Below.refl _ _) (Nat.le_refl _) (by simp) ?_; (case hd => rfl); (case hg => rfl); (case hr => first | (go_simp; done) | (go_simp; rfl)); (case hp => exact (Reps.c9 (show Kd.FK k29 _ _ (⟨a1_0, a1_1, a1_2, a1_3, a1_4, a1_5, a1_6, a1_7, l1_8⟩ : S29) [.int .i64 a1_0, .string a1_1, .int .i64 a1_2, .int .i64 a1_3, .int .i64 a1_4, .string a1_5, .string a1_6, .int .i64 a1_7, .slice A1_8 l1_8.length c1_8] from (k29_mkF _ _ (⟨a1_0, a1_1, a1_2, a1_3, a1_4, a1_5, a1_6, a1_7, l1_8⟩ : S29) (Kd.V_reads' (Kd.V_mono (ok' := (fun k_ => ((P0_ k_ ∨ P1_8_ k_) ∨ w.heap.size ≤ k_) ∧ some k_ ≠ (v356 : Value).ownBlock ∧ k_ ≠ gb348)) (HO_349008.out) (fun k_ hk => ⟨hk.1.1, ⟨hk.2, hk.1.2⟩⟩))).2.1 (Kd.V_F (Kd.V_mono (ok' := (fun k_ => ((P0_ k_ ∨ P1_8_ k_) ∨ w.heap.size ≤ k_) ∧ some k_ ≠ (v356 : Value).ownBlock ∧ k_ ≠ gb348)) (HO_349008.out) (fun k_ hk => ⟨hk.1.1, ⟨hk.2, hk.1.2⟩⟩))))) (Reps.none _ _)))
       intro v359 w25 ho26 hb hg_ hnew_
       clear hg_ hnew_
       (first | rw [← Ny358.out] at ho26 | (simp only [Int.reduceToNat] at ho26; rw [← Ny358.out] at ho26))
       have n0_ := Aside0.mk (Kd.V_elder' (by (with_reducible repeat (first | apply Kd.V_alloc | apply Kd.V_drewN | apply Kd.V_drew)); exact HO_0.out) (Kd.N_base ho26) hb)
       have n1_ := Aside0.mk (Kd.V_elder' (by (with_reducible repeat (first | apply Kd.V_alloc | apply Kd.V_drewN | apply Kd.V_drew)); exact HO_349008.out) (Kd.N_base ho26) hb)
       have n2_ := Aside0.mk (Kd.N_elder' (by (with_reducible repeat (first | apply Kd.N_alloc | apply Kd.N_drewN | apply Kd.N_drew)); exact HO357.out) (Kd.N_base ho26) hb)
       have n3_ := Aside0.mk (Kd.N_lower ho26 (below_size (bwx_)))
       have n4_ := Aside0.mk (bb_ BK348 hb)
       have n5_ := Aside0.mk (below_step (bwx_) hb)
       clear HO_0
       clear HO_349008
       clear HO357
       clear BK348
       clear HB
       have HO_0 := n0_
       have HO_349008 := n1_
       have HO357 := n2_
       have HO360 := n3_
       have BK348 := n4_
       have HB := n5_
       clear n0_ n1_ n2_ n3_ n4_ n5_
       clear hb ho26
       refine hK.out _ _ ⟨(blk_cell BK348.out 0).trans rfl, (blk_cell BK348.out 1).trans rfl, (blk_cell BK348.out 2).trans rfl, (blk_cell BK348.out 3).trans rfl, (blk_cell BK348.out 4).trans rfl, (blk_cell BK348.out 5).trans rfl, (blk_cell BK348.out 6).trans rfl, (blk_cell BK348.out 7).trans rfl, (blk_cell BK348.out 8).trans rfl⟩ (fun hHeld => ?_)
       clear hK K
       refine norm_ (a' := ?_) ?_ ?_
       rotate_left
       ·show Act.put _ (some 49) _ = _
        simp only [Act.put, List.setIfInBounds_toArray, List.set_cons_zero, List.set_cons_succ, i64_w, i32_w]
        rfl
       exact norm_ (by simp only [putAll, Act.put, List.setIfInBounds_toArray, List.set_cons_zero, List.set_cons_succ]) (hCont (v353, v356, v359) _ ⟨hHeld, (by (with_reducible repeat (first | apply Kd.N_alloc | apply Kd.N_drewN | apply Kd.N_drew)); exact Kd.N_mono HO357.out (fun _ hk => ⟨hk.1.1, ⟨hk.2, hk.1.2⟩⟩)), (by (with_reducible repeat (first | apply Kd.N_alloc | apply Kd.N_drewN | apply Kd.N_drew)); exact HO360.out), (by (with_reducible repeat (first | apply Kd.V_alloc | apply Kd.V_drewN | apply Kd.V_drew)); exact Kd.V_mono HO_0.out (fun _ hk => ⟨hk.1.1.1, ⟨hk.1.2, ⟨hk.2, hk.1.1.2⟩⟩⟩)), (by (with_reducible repeat (first | apply Kd.V_alloc | apply Kd.V_drewN | apply Kd.V_drew)); exact Kd.V_mono HO_349008.out (fun _ hk => ⟨hk.1.1.1, ⟨hk.1.2, ⟨hk.2, hk.1.1.2⟩⟩⟩)), (by (with_reducible repeat (first | refine blk_drewN ?_ _ | refine blk_drew ?_ | refine blk_alloc ?_ _)); exact BK348.out), (bwx_)⟩)
      ·skip
       refine Kd.N_lit_step k29 _ 29 ?hg (N' := 49) ?hd (xs := ([(⟨a1_0, a1_1, a1_2, a1_3, a1_4, a1_5, a1_6, a1_7, l1_8⟩ : S29)] : List (S29))) (inner := [.int .i64 a1_0, .string a1_1, .int .i64 a1_2, .int .i64 a1_3, .int .i64 a1_4, .string a1_5, .string a1_6, .int .i64 a1_7, .slice A1_8 l1_8.length c1_8]) (ok := (fun k_ => ((P0_ k_ ∨ P1_8_ k_) ∨ w.heap.size ≤ k_) ∧ some k_ ≠ (v353 : Value).ownBlock ∧ k_ ≠ gb348)) (okp := (fun k_ => ((P0_ k_ ∨ P1_8_ k_) ∨ w.heap.size ≤ k_) ∧ some k_ ≠ (v353 : Value).ownBlock ∧ k_ ≠ gb348)) ?hr ?hp (fun _ hk => hk) ((show ∀ k_, w22.heap.size ≤ k_ → (fun k_ => ((P0_ k_ ∨ P1_8_ k_) ∨ w.heap.size ≤ k_) ∧ some k_ ≠ (v353 : Value).ownBlock ∧ k_ ≠ gb348) k_ from fun k_ hk => ⟨(.inr (Nat.le_trans (below_size (bwx_)) hk)), Kd.fresh' (Kd.N_lt (by (with_reducible repeat (first | apply Kd.N_alloc | apply Kd.N_drewN | apply Kd.N_drew)); exact HO354.out)) k_ hk, Kd.freshB (g := gb348) (o := .cells #[.int .i64 a1_0, .string a1_1, .int .i64 a1_2, .int .i64 a1_3, .int .i64 a1_4, .string a1_5, .string a1_6, .int .i64 a1_7, .slice A1_8 l1_8.length c1_8] 29 (0, 0)) (by (with_reducible repeat (first | refine blk_drewN ?_ _ | refine blk_drew ?_ | refine blk_alloc ?_ _)); exact BK348.out) k_ hk⟩) _ (Nat.le_refl _)) (Below.refl _ _) (Nat.le_refl _) (by simp) ?_; (case hd => rfl); (case hg => rfl); (case hr => first | (go_simp; done) | (go_simp; rfl)); (case hp => exact (Reps.c9 (show Kd.FK k29 _ _ (⟨a1_0, a1_1, a1_2, a1_3, a1_4, a1_5, a1_6, a1_7, l1_8⟩ : S29) [.int .i64 a1_0, .string a1_1, .int .i64 a1_2, .int .i64 a1_3, .int .i64 a1_4, .string a1_5, .string a1_6, .int .i64 a1_7, .slice A1_8 l1_8.length c1_8] from (k29_mkF _ _ (⟨a1_0, a1_1, a1_2, a1_3, a1_4, a1_5, a1_6, a1_7, l1_8⟩ : S29) (Kd.V_reads' (Kd.V_mono (ok' := (fun k_ => ((P0_ k_ ∨ P1_8_ k_) ∨ w.heap.size ≤ k_) ∧ some k_ ≠ (v353 : Value).ownBlock ∧ k_ ≠ gb348)) (HO_349008.out) (fun k_ hk => ⟨hk.1.1, ⟨hk.2, hk.1.2⟩⟩))).2.1 (Kd.V_F (Kd.V_mono (ok' := (fun k_ => ((P0_ k_ ∨ P1_8_ k_) ∨ w.heap.size ≤ k_) ∧ some k_ ≠ (v353 : Value).ownBlock ∧ k_ ≠ gb348)) (HO_349008.out) (fun k_ hk => ⟨hk.1.1, ⟨hk.2, hk.1.2⟩⟩))))) (Reps.none _ _)))
       intro v359 w24 ho25 hb hg_ hnew_
       clear hg_ hnew_
       (first | rw [← Ny358.out] at ho25 | (simp only [Int.reduceToNat] at ho25; rw [← Ny358.out] at ho25))
       have n0_ := Aside0.mk (Kd.V_elder' (by (with_reducible repeat (first | apply Kd.V_alloc | apply Kd.V_drewN | apply Kd.V_drew)); exact HO_0.out) (Kd.N_base ho25) hb)
       have n1_ := Aside0.mk (Kd.V_elder' (by (with_reducible repeat (first | apply Kd.V_alloc | apply Kd.V_drewN | apply Kd.V_drew)); exact HO_349008.out) (Kd.N_base ho25) hb)
       have n2_ := Aside0.mk (Kd.N_elder' (by (with_reducible repeat (first | apply Kd.N_alloc | apply Kd.N_drewN | apply Kd.N_drew)); exact HO354.out) (Kd.N_base ho25) hb)
       have n3_ := Aside0.mk (Kd.N_lower ho25 (below_size (bwx_)))
       have n4_ := Aside0.mk (bb_ BK348 hb)
       have n5_ := Aside0.mk (below_step (bwx_) hb)
       clear HO_0
       clear HO_349008
       clear HO354
       clear BK348
       clear HB
       have HO_0 := n0_
       have HO_349008 := n1_
       have HO354 := n2_
       have HO360 := n3_
       have BK348 := n4_
       have HB := n5_
       clear n0_ n1_ n2_ n3_ n4_ n5_
       clear hb ho25
       refine hK.out _ _ ⟨(blk_cell BK348.out 0).trans rfl, (blk_cell BK348.out 1).trans rfl, (blk_cell BK348.out 2).trans rfl, (blk_cell BK348.out 3).trans rfl, (blk_cell BK348.out 4).trans rfl, (blk_cell BK348.out 5).trans rfl, (blk_cell BK348.out 6).trans rfl, (blk_cell BK348.out 7).trans rfl, (blk_cell BK348.out 8).trans rfl⟩ (fun hHeld => ?_)
       clear hK K
       refine norm_ (a' := ?_) ?_ ?_
       rotate_left
       ·show Act.put _ (some 49) _ = _
        simp only [Act.put, List.setIfInBounds_toArray, List.set_cons_zero, List.set_cons_succ, i64_w, i32_w]
        rfl
       refine one_ (i := 2) (N := some 47) #[true, true, true, true, true, false, false, false] rfl rfl (one_of HT_.out (by kernel_rfl)) (by decide) (fun K hK => ?_)
       refine Kd.N_append_rows_step k29 (w0 := w) w.heap.size (by rfl) (.tmp 45) (.tmp 46) 22 29 (.agg #[(.int .i64 0), (.string ⟨#[]⟩), (.int .i64 0), (.int .i64 0), (.int .i64 0), (.string ⟨#[]⟩), (.string ⟨#[]⟩), (.int .i64 0), (.slice none 0 0)]) 112 rfl Tryd.underlying22 info29 rfl (by decide) (by omega) v353 y352 l0 _ _ _ (fun k_ => ((P0_ k_ ∨ P1_8_ k_) ∨ w.heap.size ≤ k_) ∧ some k_ ≠ (v359 : Value).ownBlock ∧ k_ ≠ gb348) (fun k_ => ((fun k_ => ((P0_ k_ ∨ P1_8_ k_) ∨ w.heap.size ≤ k_) ∧ some k_ ≠ (v359 : Value).ownBlock ∧ k_ ≠ gb348)) k_ ∧ some k_ ≠ (v353 : Value).ownBlock) rfl rfl ?aO ?aR (fun _ hk => hk) ?aF ?aB ?aS ?aL ?_
       (case aR => exact (by skip; exact Kd.V_F (Kd.V_mono (ok' := (fun k_ => ((fun k_ => ((P0_ k_ ∨ P1_8_ k_) ∨ w.heap.size ≤ k_) ∧ some k_ ≠ (v359 : Value).ownBlock ∧ k_ ≠ gb348)) k_ ∧ some k_ ≠ (v353 : Value).ownBlock)) (HO_0.out) (fun k_ hk => ⟨⟨hk.1.1.1, ⟨hk.2, hk.1.1.2⟩⟩, hk.1.2⟩))))
       (case aB => exact (bwx_))
       (case aF => exact (fun k_ hk => ⟨(.inr (Nat.le_trans (below_size (bwx_)) hk)), Kd.fresh' (Kd.N_lt (by (with_reducible repeat (first | apply Kd.N_alloc | apply Kd.N_drewN | apply Kd.N_drew)); exact HO360.out)) k_ hk, Kd.freshB (g := gb348) (o := .cells #[.int .i64 a1_0, .string a1_1, .int .i64 a1_2, .int .i64 a1_3, .int .i64 a1_4, .string a1_5, .string a1_6, .int .i64 a1_7, .slice A1_8 l1_8.length c1_8] 29 (0, 0)) (by (with_reducible repeat (first | refine blk_drewN ?_ _ | refine blk_drew ?_ | refine blk_alloc ?_ _)); exact BK348.out) k_ hk⟩))
       (case aO => exact (by (with_reducible repeat (first | apply Kd.N_alloc | apply Kd.N_drewN | apply Kd.N_drew)); exact Kd.N_mono HO354.out (fun _ hk => ⟨hk.1.1, ⟨hk.2, hk.1.2⟩⟩)))
       (case aS => exact (below_size (bwx_)))
       (case aL => have := LMc19.out; omega)
       intro v356 w26 ho hb hg hat
       rw [← Ny355.out] at ho
       have n0_ := Aside0.mk (Kd.V_afterv (ok := (fun k_ => ((P0_ k_ ∨ P1_8_ k_) ∨ w.heap.size ≤ k_) ∧ some k_ ≠ (v359 : Value).ownBlock ∧ k_ ≠ gb348)) (by (with_reducible repeat (first | apply Kd.V_alloc | apply Kd.V_drewN | apply Kd.V_drew)); exact Kd.V_mono HO_0.out (fun _ hk => ⟨⟨hk.1.1.1, ⟨hk.2, hk.1.1.2⟩⟩, hk.1.2⟩)) hg hat)
       have n1_ := Aside0.mk (Kd.V_afterv (ok := (fun k_ => ((P0_ k_ ∨ P1_8_ k_) ∨ w.heap.size ≤ k_) ∧ some k_ ≠ (v359 : Value).ownBlock ∧ k_ ≠ gb348)) (by (with_reducible repeat (first | apply Kd.V_alloc | apply Kd.V_drewN | apply Kd.V_drew)); exact Kd.V_mono HO_349008.out (fun _ hk => ⟨⟨hk.1.1.1, ⟨hk.2, hk.1.1.2⟩⟩, hk.1.2⟩)) hg hat)
       have n2_ := Aside0.mk (blk_grown (g := gb348) (o := .cells #[.int .i64 a1_0, .string a1_1, .int .i64 a1_2, .int .i64 a1_3, .int .i64 a1_4, .string a1_5, .string a1_6, .int .i64 a1_7, .slice A1_8 l1_8.length c1_8] 29 (0, 0)) (by (with_reducible repeat (first | refine blk_drewN ?_ _ | refine blk_drew ?_ | refine blk_alloc ?_ _)); exact BK348.out) hg (Kd.N_away HO354.out (fun _ hk => hk.1.2)))
       have n3_ := Aside0.mk (Kd.N_afterv (ok := (fun k_ => ((P0_ k_ ∨ P1_8_ k_) ∨ w.heap.size ≤ k_) ∧ k_ ≠ gb348)) (by (with_reducible repeat (first | apply Kd.N_alloc | apply Kd.N_drewN | apply Kd.N_drew)); exact Kd.N_mono HO360.out (fun _ hk => ⟨⟨hk.1, hk.2.2⟩, hk.2.1⟩)) hg hat)
       have n4_ := Aside0.mk (hb)
       have n5_ := Aside0.mk (ho)
       clear HO_0
       clear HO_349008
       clear BK348
       clear HO360
       clear HB
       clear HO354
       have HO_0 := n0_
       have HO_349008 := n1_
       have BK348 := n2_
       have HO360 := n3_
       have HB := n4_
       have HO357 := n5_
       clear n0_ n1_ n2_ n3_ n4_ n5_
       clear ho hb hg hat
       refine hK.out _ _ ⟨(blk_cell BK348.out 0).trans rfl, (blk_cell BK348.out 1).trans rfl, (blk_cell BK348.out 2).trans rfl, (blk_cell BK348.out 3).trans rfl, (blk_cell BK348.out 4).trans rfl, (blk_cell BK348.out 5).trans rfl, (blk_cell BK348.out 6).trans rfl, (blk_cell BK348.out 7).trans rfl, (blk_cell BK348.out 8).trans rfl⟩ (fun hHeld => ?_)
       clear hK K
       refine norm_ (a' := ?_) ?_ ?_
       rotate_left
       ·show Act.put _ (some 47) _ = _
        simp only [Act.put, List.setIfInBounds_toArray, List.set_cons_zero, List.set_cons_succ, i64_w, i32_w]
        rfl
       exact norm_ (by simp only [putAll, Act.put, List.setIfInBounds_toArray, List.set_cons_zero, List.set_cons_succ]) (hCont (v353, v356, v359) _ ⟨hHeld, (by (with_reducible repeat (first | apply Kd.N_alloc | apply Kd.N_drewN | apply Kd.N_drew)); exact HO357.out), (by (with_reducible repeat (first | apply Kd.N_alloc | apply Kd.N_drewN | apply Kd.N_drew)); exact Kd.N_mono HO360.out (fun _ hk => ⟨hk.1.1, ⟨hk.2, hk.1.2⟩⟩)), (by (with_reducible repeat (first | apply Kd.V_alloc | apply Kd.V_drewN | apply Kd.V_drew)); exact Kd.V_mono HO_0.out (fun _ hk => ⟨hk.1.1, ⟨hk.2, ⟨hk.1.2.1, hk.1.2.2⟩⟩⟩)), (by (with_reducible repeat (first | apply Kd.V_alloc | apply Kd.V_drewN | apply Kd.V_drew)); exact Kd.V_mono HO_349008.out (fun _ hk => ⟨hk.1.1, ⟨hk.2, ⟨hk.1.2.1, hk.1.2.2⟩⟩⟩)), (by (with_reducible repeat (first | refine blk_drewN ?_ _ | refine blk_drew ?_ | refine blk_alloc ?_ _)); exact BK348.out), (bwx_)⟩)
     ·skip
      refine Kd.N_lit_step k29 _ 29 ?hg (N' := 49) ?hd (xs := ([(⟨a1_0, a1_1, a1_2, a1_3, a1_4, a1_5, a1_6, a1_7, l1_8⟩ : S29)] : List (S29))) (inner := [.int .i64 a1_0, .string a1_1, .int .i64 a1_2, .int .i64 a1_3, .int .i64 a1_4, .string a1_5, .string a1_6, .int .i64 a1_7, .slice A1_8 l1_8.length c1_8]) (ok := (fun k_ => ((P0_ k_ ∨ P1_8_ k_) ∨ w.heap.size ≤ k_) ∧ k_ ≠ gb348)) (okp := (fun k_ => ((P0_ k_ ∨ P1_8_ k_) ∨ w.heap.size ≤ k_) ∧ k_ ≠ gb348)) ?hr ?hp (fun _ hk => hk) ((show ∀ k_, w21.heap.size ≤ k_ → (fun k_ => ((P0_ k_ ∨ P1_8_ k_) ∨ w.heap.size ≤ k_) ∧ k_ ≠ gb348) k_ from fun k_ hk => ⟨(.inr (Nat.le_trans (below_size (bwx_)) hk)), Kd.freshB (g := gb348) (o := .cells #[.int .i64 a1_0, .string a1_1, .int .i64 a1_2, .int .i64 a1_3, .int .i64 a1_4, .string a1_5, .string a1_6, .int .i64 a1_7, .slice A1_8 l1_8.length c1_8] 29 (0, 0)) (by (with_reducible repeat (first | refine blk_drewN ?_ _ | refine blk_drew ?_ | refine blk_alloc ?_ _)); exact BK348.out) k_ hk⟩) _ (Nat.le_refl _)) (Below.refl _ _) (Nat.le_refl _) (by simp) ?_; (case hd => rfl); (case hg => rfl); (case hr => first | (go_simp; done) | (go_simp; rfl)); (case hp => exact (Reps.c9 (show Kd.FK k29 _ _ (⟨a1_0, a1_1, a1_2, a1_3, a1_4, a1_5, a1_6, a1_7, l1_8⟩ : S29) [.int .i64 a1_0, .string a1_1, .int .i64 a1_2, .int .i64 a1_3, .int .i64 a1_4, .string a1_5, .string a1_6, .int .i64 a1_7, .slice A1_8 l1_8.length c1_8] from (k29_mkF _ _ (⟨a1_0, a1_1, a1_2, a1_3, a1_4, a1_5, a1_6, a1_7, l1_8⟩ : S29) (Kd.V_reads' (Kd.V_mono (ok' := (fun k_ => ((P0_ k_ ∨ P1_8_ k_) ∨ w.heap.size ≤ k_) ∧ k_ ≠ gb348)) (HO_349008.out) (fun k_ hk => ⟨hk.1, hk.2⟩))).2.1 (Kd.V_F (Kd.V_mono (ok' := (fun k_ => ((P0_ k_ ∨ P1_8_ k_) ∨ w.heap.size ≤ k_) ∧ k_ ≠ gb348)) (HO_349008.out) (fun k_ hk => ⟨hk.1, hk.2⟩))))) (Reps.none _ _)))
      intro v359 w22 ho23 hb hg_ hnew_
      clear hg_ hnew_
      (first | rw [← Ny358.out] at ho23 | (simp only [Int.reduceToNat] at ho23; rw [← Ny358.out] at ho23))
      have n0_ := Aside0.mk (Kd.V_elder' (by (with_reducible repeat (first | apply Kd.V_alloc | apply Kd.V_drewN | apply Kd.V_drew)); exact HO_0.out) (Kd.N_base ho23) hb)
      have n1_ := Aside0.mk (Kd.V_elder' (by (with_reducible repeat (first | apply Kd.V_alloc | apply Kd.V_drewN | apply Kd.V_drew)); exact HO_349008.out) (Kd.N_base ho23) hb)
      have n2_ := Aside0.mk (Kd.N_lower ho23 (below_size (bwx_)))
      have n3_ := Aside0.mk (bb_ BK348 hb)
      have n4_ := Aside0.mk (below_step (bwx_) hb)
      clear HO_0
      clear HO_349008
      clear BK348
      clear HB
      have HO_0 := n0_
      have HO_349008 := n1_
      have HO360 := n2_
      have BK348 := n3_
      have HB := n4_
      clear n0_ n1_ n2_ n3_ n4_
      clear hb ho23
      refine hK.out _ _ ⟨(blk_cell BK348.out 0).trans rfl, (blk_cell BK348.out 1).trans rfl, (blk_cell BK348.out 2).trans rfl, (blk_cell BK348.out 3).trans rfl, (blk_cell BK348.out 4).trans rfl, (blk_cell BK348.out 5).trans rfl, (blk_cell BK348.out 6).trans rfl, (blk_cell BK348.out 7).trans rfl, (blk_cell BK348.out 8).trans rfl⟩ (fun hHeld => ?_)
      clear hK K
      refine norm_ (a' := ?_) ?_ ?_
      rotate_left
      ·show Act.put _ (some 49) _ = _
       simp only [Act.put, List.setIfInBounds_toArray, List.set_cons_zero, List.set_cons_succ, i64_w, i32_w]
       rfl
      refine one_ (i := 0) (N := some 45) #[true, true, false, true, true, false, false, false] rfl rfl (one_of HT_.out (by kernel_rfl)) (by decide) (fun K hK => ?_)
      refine Kd.N_lit_step k29 _ 29 ?hg (N' := 45) ?hd (xs := ([] : List (S29))) (inner := []) (ok := (fun k_ => ((P0_ k_ ∨ P1_8_ k_) ∨ w.heap.size ≤ k_) ∧ some k_ ≠ (v359 : Value).ownBlock ∧ k_ ≠ gb348)) (okp := (fun k_ => ((P0_ k_ ∨ P1_8_ k_) ∨ w.heap.size ≤ k_) ∧ some k_ ≠ (v359 : Value).ownBlock ∧ k_ ≠ gb348)) ?hr ?hp (fun _ hk => hk) ((show ∀ k_, w22.heap.size ≤ k_ → (fun k_ => ((P0_ k_ ∨ P1_8_ k_) ∨ w.heap.size ≤ k_) ∧ some k_ ≠ (v359 : Value).ownBlock ∧ k_ ≠ gb348) k_ from fun k_ hk => ⟨(.inr (Nat.le_trans (below_size (bwx_)) hk)), Kd.fresh' (Kd.N_lt (by (with_reducible repeat (first | apply Kd.N_alloc | apply Kd.N_drewN | apply Kd.N_drew)); exact HO360.out)) k_ hk, Kd.freshB (g := gb348) (o := .cells #[.int .i64 a1_0, .string a1_1, .int .i64 a1_2, .int .i64 a1_3, .int .i64 a1_4, .string a1_5, .string a1_6, .int .i64 a1_7, .slice A1_8 l1_8.length c1_8] 29 (0, 0)) (by (with_reducible repeat (first | refine blk_drewN ?_ _ | refine blk_drew ?_ | refine blk_alloc ?_ _)); exact BK348.out) k_ hk⟩) _ (Nat.le_refl _)) (Below.refl _ _) (Nat.le_refl _) (by simp) ?_; (case hd => rfl); (case hg => rfl); (case hr => first | (go_simp; done) | (go_simp; rfl)); (case hp => exact (Reps.none _ _))
      intro v353 w24 ho25 hb hg_ hnew_
      clear hg_ hnew_
      (first | rw [← Ny352.out] at ho25 | (simp only [Int.reduceToNat] at ho25; rw [← Ny352.out] at ho25))
      have n0_ := Aside0.mk (Kd.V_elder' (by (with_reducible repeat (first | apply Kd.V_alloc | apply Kd.V_drewN | apply Kd.V_drew)); exact HO_0.out) (Kd.N_base ho25) hb)
      have n1_ := Aside0.mk (Kd.V_elder' (by (with_reducible repeat (first | apply Kd.V_alloc | apply Kd.V_drewN | apply Kd.V_drew)); exact HO_349008.out) (Kd.N_base ho25) hb)
      have n2_ := Aside0.mk (Kd.N_elder' (by (with_reducible repeat (first | apply Kd.N_alloc | apply Kd.N_drewN | apply Kd.N_drew)); exact HO360.out) (Kd.N_base ho25) hb)
      have n3_ := Aside0.mk (Kd.N_lower ho25 (below_size (bwx_)))
      have n4_ := Aside0.mk (bb_ BK348 hb)
      have n5_ := Aside0.mk (below_step (bwx_) hb)
      clear HO_0
      clear HO_349008
      clear HO360
      clear BK348
      clear HB
      have HO_0 := n0_
      have HO_349008 := n1_
      have HO360 := n2_
      have HO354 := n3_
      have BK348 := n4_
      have HB := n5_
      clear n0_ n1_ n2_ n3_ n4_ n5_
      clear hb ho25
      refine hK.out _ _ ⟨(blk_cell BK348.out 0).trans rfl, (blk_cell BK348.out 1).trans rfl, (blk_cell BK348.out 2).trans rfl, (blk_cell BK348.out 3).trans rfl, (blk_cell BK348.out 4).trans rfl, (blk_cell BK348.out 5).trans rfl, (blk_cell BK348.out 6).trans rfl, (blk_cell BK348.out 7).trans rfl, (blk_cell BK348.out 8).trans rfl⟩ (fun hHeld => ?_)
      clear hK K
      refine norm_ (a' := ?_) ?_ ?_
      rotate_left
      ·show Act.put _ (some 45) _ = _
       simp only [Act.put, List.setIfInBounds_toArray, List.set_cons_zero, List.set_cons_succ, i64_w, i32_w]
       rfl
      refine one_ (i := 2) (N := some 47) #[true, true, true, true, true, false, false, false] rfl rfl (one_of HT_.out (by kernel_rfl)) (by decide) (fun K hK => ?_)
      refine Kd.N_append_rows_step k29 (w0 := w) w.heap.size (by rfl) (.tmp 45) (.tmp 46) 22 29 (.agg #[(.int .i64 0), (.string ⟨#[]⟩), (.int .i64 0), (.int .i64 0), (.int .i64 0), (.string ⟨#[]⟩), (.string ⟨#[]⟩), (.int .i64 0), (.slice none 0 0)]) 112 rfl Tryd.underlying22 info29 rfl (by decide) (by omega) v353 y352 l0 _ _ _ (fun k_ => ((P0_ k_ ∨ P1_8_ k_) ∨ w.heap.size ≤ k_) ∧ some k_ ≠ (v359 : Value).ownBlock ∧ k_ ≠ gb348) (fun k_ => ((fun k_ => ((P0_ k_ ∨ P1_8_ k_) ∨ w.heap.size ≤ k_) ∧ some k_ ≠ (v359 : Value).ownBlock ∧ k_ ≠ gb348)) k_ ∧ some k_ ≠ (v353 : Value).ownBlock) rfl rfl ?aO ?aR (fun _ hk => hk) ?aF ?aB ?aS ?aL ?_
      (case aR => exact (by skip; exact Kd.V_F (Kd.V_mono (ok' := (fun k_ => ((fun k_ => ((P0_ k_ ∨ P1_8_ k_) ∨ w.heap.size ≤ k_) ∧ some k_ ≠ (v359 : Value).ownBlock ∧ k_ ≠ gb348)) k_ ∧ some k_ ≠ (v353 : Value).ownBlock)) (HO_0.out) (fun k_ hk => ⟨⟨hk.1.1.1, ⟨hk.1.2, hk.1.1.2⟩⟩, hk.2⟩))))
      (case aB => exact (bwx_))
      (case aF => exact (fun k_ hk => ⟨(.inr (Nat.le_trans (below_size (bwx_)) hk)), Kd.fresh' (Kd.N_lt (by (with_reducible repeat (first | apply Kd.N_alloc | apply Kd.N_drewN | apply Kd.N_drew)); exact HO360.out)) k_ hk, Kd.freshB (g := gb348) (o := .cells #[.int .i64 a1_0, .string a1_1, .int .i64 a1_2, .int .i64 a1_3, .int .i64 a1_4, .string a1_5, .string a1_6, .int .i64 a1_7, .slice A1_8 l1_8.length c1_8] 29 (0, 0)) (by (with_reducible repeat (first | refine blk_drewN ?_ _ | refine blk_drew ?_ | refine blk_alloc ?_ _)); exact BK348.out) k_ hk⟩))
      (case aO => exact (by (with_reducible repeat (first | apply Kd.N_alloc | apply Kd.N_drewN | apply Kd.N_drew)); exact HO354.out))
      (case aS => exact (below_size (bwx_)))
      (case aL => have := LMc19.out; omega)
      intro v356 w26 ho hb hg hat
      rw [← Ny355.out] at ho
      have n0_ := Aside0.mk (Kd.V_afterv (ok := (fun k_ => ((P0_ k_ ∨ P1_8_ k_) ∨ w.heap.size ≤ k_) ∧ some k_ ≠ (v359 : Value).ownBlock ∧ k_ ≠ gb348)) (by (with_reducible repeat (first | apply Kd.V_alloc | apply Kd.V_drewN | apply Kd.V_drew)); exact Kd.V_mono HO_0.out (fun _ hk => ⟨⟨hk.1.1.1, ⟨hk.1.2, hk.1.1.2⟩⟩, hk.2⟩)) hg hat)
      have n1_ := Aside0.mk (Kd.V_afterv (ok := (fun k_ => ((P0_ k_ ∨ P1_8_ k_) ∨ w.heap.size ≤ k_) ∧ some k_ ≠ (v359 : Value).ownBlock ∧ k_ ≠ gb348)) (by (with_reducible repeat (first | apply Kd.V_alloc | apply Kd.V_drewN | apply Kd.V_drew)); exact Kd.V_mono HO_349008.out (fun _ hk => ⟨⟨hk.1.1.1, ⟨hk.1.2, hk.1.1.2⟩⟩, hk.2⟩)) hg hat)
      have n2_ := Aside0.mk (blk_grown (g := gb348) (o := .cells #[.int .i64 a1_0, .string a1_1, .int .i64 a1_2, .int .i64 a1_3, .int .i64 a1_4, .string a1_5, .string a1_6, .int .i64 a1_7, .slice A1_8 l1_8.length c1_8] 29 (0, 0)) (by (with_reducible repeat (first | refine blk_drewN ?_ _ | refine blk_drew ?_ | refine blk_alloc ?_ _)); exact BK348.out) hg (Kd.N_away HO354.out (fun _ hk => hk.2.2)))
      have n3_ := Aside0.mk (Kd.N_afterv (ok := (fun k_ => ((P0_ k_ ∨ P1_8_ k_) ∨ w.heap.size ≤ k_) ∧ k_ ≠ gb348)) (by (with_reducible repeat (first | apply Kd.N_alloc | apply Kd.N_drewN | apply Kd.N_drew)); exact HO360.out) hg hat)
      have n4_ := Aside0.mk (hb)
      have n5_ := Aside0.mk (ho)
      clear HO_0
      clear HO_349008
      clear BK348
      clear HO360
      clear HB
      clear HO354
      have HO_0 := n0_
      have HO_349008 := n1_
      have BK348 := n2_
      have HO360 := n3_
      have HB := n4_
      have HO357 := n5_
      clear n0_ n1_ n2_ n3_ n4_ n5_
      clear ho hb hg hat
      refine hK.out _ _ ⟨(blk_cell BK348.out 0).trans rfl, (blk_cell BK348.out 1).trans rfl, (blk_cell BK348.out 2).trans rfl, (blk_cell BK348.out 3).trans rfl, (blk_cell BK348.out 4).trans rfl, (blk_cell BK348.out 5).trans rfl, (blk_cell BK348.out 6).trans rfl, (blk_cell BK348.out 7).trans rfl, (blk_cell BK348.out 8).trans rfl⟩ (fun hHeld => ?_)
      clear hK K
      refine norm_ (a' := ?_) ?_ ?_
      rotate_left
      ·show Act.put _ (some 47) _ = _
       simp only [Act.put, List.setIfInBounds_toArray, List.set_cons_zero, List.set_cons_succ, i64_w, i32_w]
       rfl
      exact norm_ (by simp only [putAll, Act.put, List.setIfInBounds_toArray, List.set_cons_zero, List.set_cons_succ]) (hCont (v353, v356, v359) _ ⟨hHeld, (by (with_reducible repeat (first | apply Kd.N_alloc | apply Kd.N_drewN | apply Kd.N_drew)); exact HO357.out), (by (with_reducible repeat (first | apply Kd.N_alloc | apply Kd.N_drewN | apply Kd.N_drew)); exact Kd.N_mono HO360.out (fun _ hk => ⟨hk.1.1, ⟨hk.2, hk.1.2⟩⟩)), (by (with_reducible repeat (first | apply Kd.V_alloc | apply Kd.V_drewN | apply Kd.V_drew)); exact Kd.V_mono HO_0.out (fun _ hk => ⟨hk.1.1, ⟨hk.2, ⟨hk.1.2.1, hk.1.2.2⟩⟩⟩)), (by (with_reducible repeat (first | apply Kd.V_alloc | apply Kd.V_drewN | apply Kd.V_drew)); exact Kd.V_mono HO_349008.out (fun _ hk => ⟨hk.1.1, ⟨hk.2, ⟨hk.1.2.1, hk.1.2.2⟩⟩⟩)), (by (with_reducible repeat (first | refine blk_drewN ?_ _ | refine blk_drew ?_ | refine blk_alloc ?_ _)); exact BK348.out), (bwx_)⟩)
    rintro ⟨v353, v356, v359⟩ w27 ⟨hS_, h0_, h1_, h2_, h3_, h4_, h5_⟩
    have n0_ : Aside0 (Kd.N k29 29 w27 w.heap.size (fun k_ => ((P0_ k_ ∨ P1_8_ k_) ∨ w.heap.size ≤ k_) ∧ some k_ ≠ (v359 : Value).ownBlock ∧ k_ ≠ gb348) v356 y355) := ⟨h0_⟩
    have n1_ : Aside0 (Kd.N k29 29 w27 w.heap.size (fun k_ => ((P0_ k_ ∨ P1_8_ k_) ∨ w.heap.size ≤ k_) ∧ some k_ ≠ (v356 : Value).ownBlock ∧ k_ ≠ gb348) v359 y358) := ⟨h1_⟩
    have n2_ : Aside0 (Kd.V k29 29 w27 w.heap.size (fun k_ => ((P0_ k_ ∨ P1_8_ k_) ∨ w.heap.size ≤ k_) ∧ some k_ ≠ (v356 : Value).ownBlock ∧ some k_ ≠ (v359 : Value).ownBlock ∧ k_ ≠ gb348) (.slice A0 l0.length c0) l0) := ⟨h2_⟩
    have n3_ : Aside0 (Kd.V k109 109 w27 w.heap.size (fun k_ => ((P0_ k_ ∨ P1_8_ k_) ∨ w.heap.size ≤ k_) ∧ some k_ ≠ (v356 : Value).ownBlock ∧ some k_ ≠ (v359 : Value).ownBlock ∧ k_ ≠ gb348) (.slice A1_8 l1_8.length c1_8) l1_8) := ⟨h3_⟩
    have n4_ : Aside0 (w27.heap[gb348]? = some (.cells #[.int .i64 a1_0, .string a1_1, .int .i64 a1_2, .int .i64 a1_3, .int .i64 a1_4, .string a1_5, .string a1_6, .int .i64 a1_7, .slice A1_8 l1_8.length c1_8] 29 (0, 0))) := ⟨h4_⟩
    have n5_ : Aside0 (Below w.heap.size w w27) := ⟨h5_⟩
    clear HO_0
    clear HO_349008
    clear BK348
    clear HB
    clear h0_ h1_ h2_ h3_ h4_ h5_
    have HO357 := n0_
    have HO360 := n1_
    have HO_0 := n2_
    have HO_349008 := n3_
    have BK348 := n4_
    have HB := n5_
    clear n0_ n1_ n2_ n3_ n4_ n5_
    have hHeld : w27.cell? ⟨gb348, 0, none⟩ = some (.int .i64 a1_0) ∧ w27.cell? ⟨gb348, 1, none⟩ = some (.string a1_1) ∧ w27.cell? ⟨gb348, 2, none⟩ = some (.int .i64 a1_2) ∧ w27.cell? ⟨gb348, 3, none⟩ = some (.int .i64 a1_3) ∧ w27.cell? ⟨gb348, 4, none⟩ = some (.int .i64 a1_4) ∧ w27.cell? ⟨gb348, 5, none⟩ = some (.string a1_5) ∧ w27.cell? ⟨gb348, 6, none⟩ = some (.string a1_6) ∧ w27.cell? ⟨gb348, 7, none⟩ = some (.int .i64 a1_7) ∧ w27.cell? ⟨gb348, 8, none⟩ = some (.slice A1_8 l1_8.length c1_8) := hS_
    obtain ⟨Ao29, co29, eo29⟩ := Kd.N_slice HO360.out
    (first | subst eo29 | (injection eo29 with f1_ f2_ f3_; have f4_ := f1_.symm; have f5_ := f3_.symm; clear f1_ f2_ f3_; subst f4_; subst f5_))
    refine norm_ (a' := ?_) ?_ ?_
    rotate_left
    ·simp only [putAll, Act.put, List.setIfInBounds_toArray, List.set_cons_zero, List.set_cons_succ]
     rfl
    refine one_ (i := 5) (N := some 50) #[true, true, true, true, true, true, false, false] rfl rfl (one_of HT_.out (by kernel_rfl)) (by decide) (fun K hK => ?_)
    refine Kd.N_append_rows_step k29 (w0 := w) w.heap.size (by rfl) (.tmp 47) (.tmp 49) 22 29 (.agg #[(.int .i64 0), (.string ⟨#[]⟩), (.int .i64 0), (.int .i64 0), (.int .i64 0), (.string ⟨#[]⟩), (.string ⟨#[]⟩), (.int .i64 0), (.slice none 0 0)]) 112 rfl Tryd.underlying22 info29 rfl (by decide) (by omega) v356 y355 y358 _ _ _ (fun k_ => ((P0_ k_ ∨ P1_8_ k_) ∨ w.heap.size ≤ k_) ∧ k_ ≠ gb348) (fun k_ => ((fun k_ => ((P0_ k_ ∨ P1_8_ k_) ∨ w.heap.size ≤ k_) ∧ k_ ≠ gb348)) k_ ∧ some k_ ≠ (v356 : Value).ownBlock) rfl rfl ?aO ?aR (fun _ hk => hk) ?aF ?aB ?aS ?aL ?_
    (case aR => exact (by skip; exact Kd.N_F (Kd.N_mono (ok' := (fun k_ => ((fun k_ => ((P0_ k_ ∨ P1_8_ k_) ∨ w.heap.size ≤ k_) ∧ k_ ≠ gb348)) k_ ∧ some k_ ≠ (v356 : Value).ownBlock)) (HO360.out) (fun k_ hk => ⟨⟨hk.1, hk.2.2⟩, hk.2.1⟩))))
    (case aB => exact (bwx_))
    (case aF => exact (fun k_ hk => ⟨(.inr (Nat.le_trans (below_size (bwx_)) hk)), Kd.freshB (g := gb348) (o := .cells #[.int .i64 a1_0, .string a1_1, .int .i64 a1_2, .int .i64 a1_3, .int .i64 a1_4, .string a1_5, .string a1_6, .int .i64 a1_7, .slice A1_8 l1_8.length c1_8] 29 (0, 0)) (by (with_reducible repeat (first | refine blk_drewN ?_ _ | refine blk_drew ?_ | refine blk_alloc ?_ _)); exact BK348.out) k_ hk⟩))
    (case aO => exact (by (with_reducible repeat (first | apply Kd.N_alloc | apply Kd.N_drewN | apply Kd.N_drew)); exact Kd.N_mono HO357.out (fun _ hk => ⟨hk.1, hk.2.2⟩)))
    (case aS => exact (below_size (bwx_)))
    (case aL => have := LMc20.out; omega)
    intro v362 w28 ho hb hg hat
    rw [← Ny361.out] at ho
    have n0_ := Aside0.mk (Kd.V_afterv (ok := (fun k_ => ((P0_ k_ ∨ P1_8_ k_) ∨ w.heap.size ≤ k_) ∧ some k_ ≠ (.slice Ao29 y358.length co29 : Value).ownBlock ∧ k_ ≠ gb348)) (by (with_reducible repeat (first | apply Kd.V_alloc | apply Kd.V_drewN | apply Kd.V_drew)); exact Kd.V_mono HO_0.out (fun _ hk => ⟨⟨hk.1, ⟨hk.2.2.1, hk.2.2.2⟩⟩, hk.2.1⟩)) hg hat)
    have n1_ := Aside0.mk (Kd.V_afterv (ok := (fun k_ => ((P0_ k_ ∨ P1_8_ k_) ∨ w.heap.size ≤ k_) ∧ some k_ ≠ (.slice Ao29 y358.length co29 : Value).ownBlock ∧ k_ ≠ gb348)) (by (with_reducible repeat (first | apply Kd.V_alloc | apply Kd.V_drewN | apply Kd.V_drew)); exact Kd.V_mono HO_349008.out (fun _ hk => ⟨⟨hk.1, ⟨hk.2.2.1, hk.2.2.2⟩⟩, hk.2.1⟩)) hg hat)
    have n2_ := Aside0.mk (blk_grown (g := gb348) (o := .cells #[.int .i64 a1_0, .string a1_1, .int .i64 a1_2, .int .i64 a1_3, .int .i64 a1_4, .string a1_5, .string a1_6, .int .i64 a1_7, .slice A1_8 l1_8.length c1_8] 29 (0, 0)) (by (with_reducible repeat (first | refine blk_drewN ?_ _ | refine blk_drew ?_ | refine blk_alloc ?_ _)); exact BK348.out) hg (Kd.N_away HO357.out (fun _ hk => hk.2.2)))
    have n3_ := Aside0.mk (Kd.N_afterv (ok := (fun k_ => ((P0_ k_ ∨ P1_8_ k_) ∨ w.heap.size ≤ k_) ∧ k_ ≠ gb348)) (by (with_reducible repeat (first | apply Kd.N_alloc | apply Kd.N_drewN | apply Kd.N_drew)); exact Kd.N_mono HO360.out (fun _ hk => ⟨⟨hk.1, hk.2.2⟩, hk.2.1⟩)) hg hat)
    have n4_ := Aside0.mk (hb)
    have n5_ := Aside0.mk (ho)
    clear HO_0
    clear HO_349008
    clear BK348
    clear HO360
    clear HB
    clear HO357
    have HO_0 := n0_
    have HO_349008 := n1_
    have BK348 := n2_
    have HO360 := n3_
    have HB := n4_
    have HO363 := n5_
    clear n0_ n1_ n2_ n3_ n4_ n5_
    clear ho hb hg hat
    refine hK.out _ _ ⟨(blk_cell BK348.out 0).trans rfl, (blk_cell BK348.out 1).trans rfl, (blk_cell BK348.out 2).trans rfl, (blk_cell BK348.out 3).trans rfl, (blk_cell BK348.out 4).trans rfl, (blk_cell BK348.out 5).trans rfl, (blk_cell BK348.out 6).trans rfl, (blk_cell BK348.out 7).trans rfl, (blk_cell BK348.out 8).trans rfl⟩ (fun hHeld => ?_)
    clear hK K
    refine norm_ (a' := ?_) ?_ ?_
    rotate_left
    ·show Act.put _ (some 50) _ = _
     simp only [Act.put, List.setIfInBounds_toArray, List.set_cons_zero, List.set_cons_succ, i64_w, i32_w]
     rfl
    refine pu_ 6 (some 4) (btz 8 127) HT_ ?_
    refine pu_ 7 (some 5) (btz 8 255) HT_ ?_
    refine done_ (done_of HT_.out (by kernel_rfl)) ?_
    try go_wp2
    go_ret2
    exact ⟨_, ew_, Kd.N_V (by (with_reducible repeat (first | apply Kd.N_alloc | apply Kd.N_drewN | apply Kd.N_drew)); exact Kd.N_mono HO363.out (fun _ hk => hk.1)), bwx_⟩
 ·rw [if_neg c4] at H
  have c4b0 : (t350 == 0) = false := beq_eq_false_iff_ne.mpr c4
  have c4b1 : (t350 != 0) = true := bne_iff_ne.mpr c4
  simp only [Option.some.injEq, Prod.mk.injEq] at H
  obtain ⟨rfl, rfl⟩ := H
  go_enter Tryd.func29, Tryd.ntmps29
  go_wp2_with (first | ((with_reducible refine gate_dst (N := 3) rfl ?_); (try (refine gate_guard (by rfl) ?_; dsimp only)); refine box_event ?hg (N := 3) ?hd (cs := #[.int .i64 a1_0, .string a1_1, .int .i64 a1_2, .int .i64 a1_3, .int .i64 a1_4, .string a1_5, .string a1_6, .int .i64 a1_7, .slice A1_8 l1_8.length c1_8]) (t := 29) ?hr ?_; (case hd => rfl); (case hg => rfl); (case hr => first | (go_simp; done) | (go_simp; rfl)); intro gb348 hg w30 hbox hb; have n0_ := Aside0.mk (Kd.V_below (Kd.V_elderB (by (with_reducible repeat (first | apply Kd.V_alloc | apply Kd.V_drewN | apply Kd.V_drew)); exact HO0.out) gb348 (Nat.le_of_eq hg.symm)) hb); have n1_ := Aside0.mk (Kd.V_below (Kd.V_elderB (by (with_reducible repeat (first | apply Kd.V_alloc | apply Kd.V_drewN | apply Kd.V_drew)); exact HO1_8.out) gb348 (Nat.le_of_eq hg.symm)) hb); have n2_ := Aside0.mk (below_step (bw_) hb); have n3_ := Aside0.mk (hbox); have n4_ := Aside0.mk (gw_ (w := w) hg); have n5_ := Aside0.mk (gw_ (w := w) hg); clear HO0; clear HO1_8; clear HB; have HO0 := n0_; have HO1_8 := n1_; have HB := n2_; have BK348 := n3_; have GW348 := n4_; have GE348 := n5_; clear n0_ n1_ n2_ n3_ n4_ n5_; clear hb hbox hg; obtain ⟨hcz31_0, hcz31_1, hcz31_2, hcz31_3, hcz31_4, hcz31_5, hcz31_6, hcz31_7, hcz31_8⟩ := bc9_ (w := w30) BK348.out; obtain ⟨hfz31_0, hfz31_1, hfz31_2, hfz31_3, hfz31_4, hfz31_5, hfz31_6, hfz31_7, hfz31_8⟩ := bf9_ BK348.out) | ((with_reducible refine gate_callee (f := 53) rfl ?_); refine goesL_ (some 10) rfl rfl Tryd.func53 (by kernel_rfl) rfl #[.agg #[.int .i64 a1_0, .string a1_1, .int .i64 a1_2, .int .i64 a1_3, .int .i64 a1_4, .string a1_5, .string a1_6, .int .i64 a1_7, .slice A1_8 l1_8.length c1_8]] rfl ml_ ?_; (with_reducible refine (accountingref12_Check.calls k a1_0 a1_1 a1_2 a1_3 a1_4 a1_5 a1_6 a1_7 _ _ l1_8 t349 t350 _ ?side1 ?side2 A3.out).mono ?_); (case side1 => repeat (first | exact (Kd.V_reads' HO1_8.out).2.2 | (with_reducible refine Kd.C_alloc ?_ _) | (with_reducible refine Kd.C_drewN ?_ _) | (with_reducible refine Kd.C_drew ?_))); (case side2 => exact (Kd.V_reads' HO1_8.out).2.1); rintro e w32 ⟨rfl, hb⟩; refine ⟨_, rfl, ?_⟩; have n0_ := Aside0.mk (Kd.V_below (by (with_reducible repeat (first | apply Kd.V_alloc | apply Kd.V_drewN | apply Kd.V_drew)); exact HO0.out) hb); have n1_ := Aside0.mk (Kd.V_below (by (with_reducible repeat (first | apply Kd.V_alloc | apply Kd.V_drewN | apply Kd.V_drew)); exact HO1_8.out) hb); have n2_ := Aside0.mk (bb_ BK348 hb); have n3_ := Aside0.mk (below_step (bwx_) hb); clear HO0; clear HO1_8; clear BK348; clear HB; have HO0 := n0_; have HO1_8 := n1_; have BK348 := n2_; have HB := n3_; clear n0_ n1_ n2_ n3_; (try clear hb); (try clear hb2); (try clear hk); (try clear hi)))
  go_ret2
  exact ⟨_, ew_, by (with_reducible repeat (first | apply Kd.V_alloc | apply Kd.V_drewN | apply Kd.V_drew)); exact Kd.V_mono HO0.out (fun _ hk => hk.1), bwx_⟩
end Go.Proofs.YtppcjoaghlecmaaDoor.P
namespace Go.Proofs.YtppcjoaghlecmaaDoor.P
open Go.RowKit Go.Sort Go.Proofs.YtppcjoaghlecmaaDoorW.PrintWords Go.Proofs.YtppcjoaghlecmaaDoorW.PrintLast Go.Proofs.YtppcjoaghlecmaaDoorW.PrintMore
set_option linter.unusedVariables false
set_option linter.unusedSimpArgs false
theorem rpost_j0 (E : List S29) (x : S29) (hl : E.length ≤ 1000) (b : Bool) : Ev (fun k => accountingref20_Post.j0 k E b x.f0 x.f1 x.f2 x.f3 x.f4 x.f5 x.f6 x.f7 x.f8) (if b = true then (E, 17) else (E ++ [x], 0)) := by
 refine Ev.step (fun k => accountingref20_Post.j0.eq_2 _ _ _ _ _ _ _ _ _ _ _ k) ?_
 cases b
 ·simp only [Bool.false_eq_true, if_false, if_neg (show ¬ (E.length : Int) ≥ 4000 by omega), Option.bind_some, List.length_nil, List.nil_append, List.length_cons, if_pos (show 0 + E.length < 1256584717458 by omega), if_pos (show E.length + (0 + 1) < 1256584717458 by omega)]
  exact Ev.now _
 ·exact Ev.now _
theorem rpost_ev (E : List S29) (x : S29) (hx : ShortEn x) (hl : E.length ≤ 1000) : ∃ c, Ev (fun k => accountingref20_Post.f k E x.f0 x.f1 x.f2 x.f3 x.f4 x.f5 x.f6 x.f7 x.f8) (postE E x, c) := by
 have hc := rchk_ev x hx
 by_cases h0 : (chkE x).2 = 0
 ·by_cases h1 : x.f0 = (E.length : Int) + 1
  ·have hw : wrap64 ((E.length : Int) + 1) = (E.length : Int) + 1 := w64t (by omega) (by omega)
   have key : ∀ b, ahead E x = b → (if b = true then ((E, 17) : List S29 × Int) else (E ++ [x], 0)) = (postE E x, if b = true then 17 else 0) := by
    intro b hb
    have hpc : postC E x = if b = true then 17 else 0 := by
     unfold postC
     rw [if_neg (fun h => h h0), hb]
     cases b
     ·rw [if_neg (by simp [h1]), if_neg (by omega)]; rfl
     ·rw [if_pos (Or.inr rfl)]; rfl
    unfold postE
    rw [hpc]
    cases b <;> rfl
   refine ⟨if ahead E x = true then 17 else 0, ?_⟩
   rw [← key _ rfl]
   unfold accountingref20_Post.f
   refine Ev.bind hc ?_
   simp only [if_pos h0, hw, if_pos h1]
   by_cases h2 : E.length = 0
   ·have hE : E = [] := List.length_eq_zero_iff.1 h2
    have ha : ahead E x = false := by rw [hE]; rfl
    simp only [if_neg (show ¬ (E.length : Int) > 0 by omega)]
    rw [ha]
    exact rpost_j0 E x hl false
   ·have hm : wrap64 ((E.length : Int) - 1) = ((E.length - 1 : Nat) : Int) := by rw [w64t (by omega) (by omega)]; omega
    have ha : ahead E x = decide (x.f2 < (E[E.length - 1]'(by omega)).f2) := by
     unfold ahead
     rw [List.getLast?_eq_getElem?, List.getElem?_eq_getElem (by omega)]
    simp only [if_pos (show (E.length : Int) > 0 by omega), hm, if_pos (show (0 : Int) ≤ ((E.length - 1 : Nat) : Int) by omega), if_pos (show ((E.length - 1 : Nat) : Int) < (E.length : Int) by omega), rd29 (show E.length - 1 < E.length by omega)]
    rw [ha]
    exact rpost_j0 E x hl _
  ·have hw : wrap64 ((E.length : Int) + 1) = (E.length : Int) + 1 := w64t (by omega) (by omega)
   have hp : postE E x = E := by
    have hpc : postC E x = 17 := by
     unfold postC
     rw [if_neg (fun h => h h0), if_pos (Or.inl h1)]
    unfold postE
    rw [hpc]
    rfl
   refine ⟨17, ?_⟩
   rw [hp]
   unfold accountingref20_Post.f
   refine Ev.bind hc ?_
   simp only [if_pos h0, hw, if_neg h1]
   exact rpost_j0 E x hl true
 ·have hp : postE E x = E := by
   have hpc : postC E x = (chkE x).2 := by
    unfold postC
    rw [if_pos h0]
   unfold postE
   rw [hpc, if_neg h0]
  refine ⟨(chkE x).2, ?_⟩
  rw [hp]
  unfold accountingref20_Post.f
  refine Ev.bind hc ?_
  simp only [if_neg h0]
  exact Ev.now _
def NumE (E : List S29) : Prop := ∀ (j : Nat) (x : S29), E[j]? = some x → x.f0 = (j : Int) + 1
theorem num_post {E : List S29} (h : NumE E) (x : S29) : NumE (postE E x) := by
 unfold postE
 by_cases hc : postC E x = 0
 ·rw [if_pos hc]
  intro j y hy
  rcases Nat.lt_or_ge j E.length with hlt | hge
  ·rw [List.getElem?_append_left hlt] at hy
   exact h j y hy
  ·have hj : j = E.length := by
    have := (List.getElem?_eq_some_iff.1 hy).1
    simp at this
    omega
   subst hj
   obtain rfl : x = y := by simpa using hy
   unfold postC at hc
   by_cases h0 : (chkE x).2 ≠ 0
   ·rw [if_pos h0] at hc; exact absurd hc h0
   ·rw [if_neg h0] at hc
    by_cases h1 : x.f0 ≠ (E.length : Int) + 1 ∨ ahead E x = true
    ·rw [if_pos h1] at hc; omega
    ·simp only [not_or, ne_eq, Decidable.not_not] at h1
     exact h1.1
 ·rw [if_neg hc]
  exact h
theorem play_num (l : List S29) : NumE (playE l) := by
 have : ∀ (l E : List S29), NumE E → NumE (l.foldl postE E) := by
  intro l
  induction l with
  | nil => exact fun E h => h
  | cons x r ih => exact fun E h => ih _ (num_post h x)
 exact this l [] (fun j x h => by simp at h)
def hitE (key : S40) (x : S29) : Bool := (rawL x).any (fun y => matchK key y.f0)
def fdE (E : List S29) (q : Qy) (key : S40) : List S29 := (E.filter (selB q)).filter (hitE key)
theorem find_fd (E : List S29) (q : Qy) (key : S40) : findE E q key = (fdE E q key).map S29.f0 := rfl
theorem fd_sub (E : List S29) (q : Qy) (key : S40) : List.Sublist (fdE E q key) E := (List.filter_sublist).trans List.filter_sublist
theorem num_pair {E : List S29} (h : NumE E) : E.Pairwise (fun a b => a.f0 < b.f0) := by
 rw [List.pairwise_iff_getElem]
 intro i j hi hj hij
 have h1 := h i _ (List.getElem?_eq_getElem hi)
 have h2 := h j _ (List.getElem?_eq_getElem hj)
 omega
theorem fd_pair {E : List S29} (h : NumE E) (q : Qy) (key : S40) : (fdE E q key).Pairwise (fun a b => a.f0 < b.f0) := (num_pair h).sublist (fd_sub E q key)
theorem fd_at {E : List S29} (h : NumE E) {q : Qy} {key : S40} {x : S29} (hx : x ∈ fdE E q key) : ∃ j : Nat, ∃ hj : j < E.length, x.f0 = (j : Int) + 1 ∧ E[j] = x := by
 obtain ⟨j, hj, e⟩ := List.mem_iff_getElem.1 ((fd_sub E q key).subset hx)
 exact ⟨j, hj, h j x (by rw [List.getElem?_eq_getElem hj, e]), e⟩
def pkC (key : S40) (F : List S29) : List S112 := (F.map (fun x => pickK key (ofK (rawL x)).1)).flatten
theorem pk_take {F : List S29} {i : Nat} (key : S40) (h : i < F.length) : pkC key (F.take (i + 1)) = pkC key (F.take i) ++ pickK key (ofK (rawL F[i])).1 := by
 unfold pkC
 rw [List.take_add_one, List.getElem?_eq_getElem h, List.map_append, List.flatten_append]
 simp
theorem ps_pick (P : S40 → Bool) (key : S40) : ∀ (l : List S112), psA P (pickK key l) = psA (fun k => P k && matchK key k) l ∧ psB P (pickK key l) = psB (fun k => P k && matchK key k) l
 | [] => ⟨rfl, rfl⟩
 | c :: r => by
  have ih := ps_pick P key r
  unfold pickK at ih ⊢
  cases hm : matchK key c.f0
  ·rw [List.filter_cons_of_neg (by simp [hm]), psA_cons, psB_cons, ih.1, ih.2]
   simp [hm]
  ·rw [List.filter_cons_of_pos (by simp [hm]), psA_cons, psB_cons, psA_cons, psB_cons, ih.1, ih.2]
   simp [hm]
theorem raw_ok {x : S29} (h : (chkE x).2 = 0) : (ofK (rawL x)).2 = 0 := in_ok (raw_in h) (by have := (good_raw h).2.1; omega)
theorem right_pick {l : List S112} (key : S40) (h : RightL l) : RightL (pickK key l) := by
 refine ⟨fun c hc => h.1 c (List.mem_filter.1 hc).1, ?_⟩
 have : List.Sublist ((pickK key l).map S112.f0) (l.map S112.f0) := (List.filter_sublist).map _
 exact List.Pairwise.sublist this h.2
theorem ps_found {P : S40 → Bool} (key : S40) {E : List S29} (hg : GoodE E) (q : Qy) : psA P (pkC key (fdE E q key)) = psA (fun k => P k && matchK key k) (selC E q) ∧ psB P (pkC key (fdE E q key)) = psB (fun k => P k && matchK key k) (selC E q) := by
 induction E with
 | nil => exact ⟨rfl, rfl⟩
 | cons x r ih =>
  have h1 := ih (fun y hy => hg y (by simp [hy]))
  have hx := hg x (by simp)
  have hz : hitE key x = false → psA (fun k => P k && matchK key k) (rawL x) = 0 ∧ psB (fun k => P k && matchK key k) (rawL x) = 0 := by
   intro hh
   unfold hitE at hh
   rw [List.any_eq_false] at hh
   have : ∀ c ∈ rawL x, (P c.f0 && matchK key c.f0) = false := fun c hc => by
    have := hh c hc
    simp only [Bool.not_eq_true] at this
    rw [this, Bool.and_false]
   exact ⟨psA_zero this, psB_zero this⟩
  have hp := ps_pick P key (ofK (rawL x)).1
  have ho := ps_ofK (raw_ok hx) (fun k => P k && matchK key k)
  rw [selC_cons]
  cases hs : selB q x
  ·have e : fdE (x :: r) q key = fdE r q key := by unfold fdE; simp [hs]
   rw [e, h1.1, h1.2]
   simp
  ·cases hh : hitE key x
   ·have e : fdE (x :: r) q key = fdE r q key := by unfold fdE; simp [hs, hh]
    have := hz hh
    rw [e, h1.1, h1.2, if_pos rfl, psA_append, psB_append, this.1, this.2]
    constructor <;> omega
   ·have e : fdE (x :: r) q key = x :: fdE r q key := by unfold fdE; simp [hs, hh]
    rw [e, if_pos rfl, psA_append, psB_append]
    have e2 : pkC key (x :: fdE r q key) = pickK key (ofK (rawL x)).1 ++ pkC key (fdE r q key) := by unfold pkC; simp
    rw [e2, psA_append, psB_append, h1.1, h1.2, hp.1, hp.2, ho.1, ho.2]
    exact ⟨rfl, rfl⟩
theorem found_of {E : List S29} (hg : GoodE E) (hn : lnsE E ≤ 400) (q : Qy) (key : S40) : ofK (pkC key (fdE E q key)) = (pickK key (sheetE E q).1, 0) := by
 show ofK (pkC key (fdE E q key)) = (pickK key (ofK (selC E q)).1, 0)
 rw [← ofK_right (right_pick key (right_ofK (selC E q)))]
 refine ofK_congr (fun k => ?_)
 have h1 := ps_found (P := isK k) key hg q
 have h2 := ps_pick (isK k) key (ofK (selC E q)).1
 have h3 := ps_sheet hg hn q (fun y => isK k y && matchK key y)
 unfold sheetE at h3
 rw [sumA_ps, sumB_ps, sumA_ps, sumB_ps, h1.1, h1.2, h2.1, h2.2, h3.1, h3.2]
 exact ⟨rfl, rfl⟩
theorem pick_le (key : S40) (l : List S112) : (pickK key l).length ≤ l.length := List.length_filter_le _ _
theorem pk_len (key : S40) : ∀ (F : List S29), GoodE F → (pkC key F).length ≤ F.length * 100
 | [], _ => by simp [pkC]
 | x :: r, h => by
  have h1 := pk_len key r (fun y hy => h y (by simp [hy]))
  have h2 := pick_le key (ofK (rawL x)).1
  have h3 := ofK_le (rawL x)
  have h4 := (good_raw (h x (by simp))).2.1
  have e2 : pkC key (x :: r) = pickK key (ofK (rawL x)).1 ++ pkC key r := by unfold pkC; simp
  rw [e2, List.length_append, List.length_cons]
  omega
theorem okS_pk {F : List S29} (key : S40) (hg : GoodE F) (hl : F.length ≤ 1000) : OkS (pkC key F) := by
 refine ⟨by have := pk_len key F hg; omega, fun c hc => ?_⟩
 unfold pkC at hc
 obtain ⟨l, hl2, hc⟩ := List.mem_flatten.1 hc
 obtain ⟨x, hx, rfl⟩ := List.mem_map.1 hl2
 exact (okS_ofK (okS_raw (hg x hx))).2 c (List.mem_filter.1 hc).1
end Go.Proofs.YtppcjoaghlecmaaDoor.P
namespace Go.Proofs.YtppcjoaghlecmaaDoor.P
open Go.RowKit Go.Sort Go.Proofs.YtppcjoaghlecmaaDoorW.PrintWords Go.Proofs.YtppcjoaghlecmaaDoorW.PrintLast Go.Proofs.YtppcjoaghlecmaaDoorW.PrintMore Go.Maps Go.ChangeShapes Go.WideShapes Go.WideMaps Go.Shelf
set_option linter.unusedVariables false
set_option linter.unusedSimpArgs false
structure Slb (w : World) (B : Nat) (A : Option Addr) (n c : Nat) (l : List S112) : Prop where
 len : l.length = n
 le : n ≤ c
 v : Kd.V k112 112 w 0 (fun k => B ≤ k) (.slice A n c) l
theorem Slb.below {w w' : World} {B : Nat} {A : Option Addr} {n c : Nat} {l : List S112} (h : Slb w B A n c l) (hb : Below w.heap.size w w') : Slb w' B A n c l := ⟨h.len, h.le, Kd.V_below h.v hb⟩
theorem Slb.sl {w : World} {B : Nat} {A : Option Addr} {n c : Nat} {l : List S112} (h : Slb w B A n c l) : Sl w A n c l := ⟨h.len, h.le, Kd.V_mono h.v (fun _ _ => trivial)⟩
structure Erl (w0 w : World) (g : Nat) (q : Qy) (v : Value) (l : List S29) : Prop where
 row : Kd.N k29 29 w w0.heap.size (fun _ => True) v l
 box : w.heap[g]? = some (.cells #[.string q.e, .int .i64 q.a, .int .i64 q.z, .int .i64 q.b] 24 (0, 0))
 bel : Below w0.heap.size w0 w
theorem Erl.below {w0 w w' : World} {g : Nat} {q : Qy} {v : Value} {l : List S29} (h : Erl w0 w g q v l) (hb : Below w.heap.size w w') : Erl w0 w' g q v l := ⟨Kd.N_below h.row hb, blk_below h.box hb, below_then h.bel h.bel.size hb⟩
structure Lat (w0 w : World) (p m g B : Nat) (q : Qy) (l : List S29) (j : Nat) (C0 : List S112) (E : List S29) (A : Option Addr) (c : Nat) (s : List S112) : Prop where
 live : LiveE w0 w p m E
 good : GoodE E
 sel : selC E q = C0
 lns : lnsE E ≤ lnsE (l.take j)
 len : E.length ≤ j
 box : w.heap[g]? = some (.cells #[.string q.e, .int .i64 q.a, .int .i64 q.z, .int .i64 q.b] 24 (0, 0))
 sl : Slb w B A s.length c s
theorem Lat.below {w0 w w' : World} {p m g B : Nat} {q : Qy} {l : List S29} {j : Nat} {C0 : List S112} {E : List S29} {A : Option Addr} {c : Nat} {s : List S112} (h : Lat w0 w p m g B q l j C0 E A c s) (hb : Below w.heap.size w w') : Lat w0 w' p m g B q l j C0 E A c s := ⟨h.live.below hb, h.good, h.sel, h.lns, h.len, blk_below h.box hb, h.sl.below hb⟩
theorem Sl.empty (W : World) (A : Option Addr) : Sl W A 0 0 [] := ⟨rfl, Nat.le_refl _, Kd.V_mk (xs := ([] : List S112)) (Nat.le_refl _) (fun W' _ => ⟨rfl, by simp, fun h => absurd h (Nat.lt_irrefl 0)⟩)⟩
structure Ent (w0 w : World) (p m g : Nat) (q : Qy) (E : List S29) (A6 : Option Addr) (c6 : Nat) (s : List S112) (A8 : Option Addr) (c8 : Nat) (t : List S112) : Prop where
 live : LiveE w0 w p m E
 box : w.heap[g]? = some (.cells #[.string nilB, .int .i64 q.a, .int .i64 q.z, .int .i64 q.b] 24 (0, 0))
 all : Sl w A6 s.length c6 s
 sum : Sl w A8 t.length c8 t
theorem Ent.below {w0 w w' : World} {p m g : Nat} {q : Qy} {E : List S29} {A6 : Option Addr} {c6 : Nat} {s : List S112} {A8 : Option Addr} {c8 : Nat} {t : List S112} (h : Ent w0 w p m g q E A6 c6 s A8 c8 t) (hb : Below w.heap.size w w') : Ent w0 w' p m g q E A6 c6 s A8 c8 t := ⟨h.live.below hb, blk_below h.box hb, h.all.below hb, h.sum.below hb⟩
theorem pick_is {w : World} {A : Option Addr} {n c : Nat} {l : List S112} (h : Sl w A n c l) (hl : l.length ≤ 1000000) (key : S40) (r1 : List S112) (hf : pickK key l = r1) :
  Calls Tryd.prog 30 #[.slice A n c, .agg #[.string key.f0, .string key.f1, .string key.f2, .string key.f3, .string key.f4]] w fun e w' => ∃ A' c', e = .returned (.slice A' r1.length c') ∧ Kd.R k112 112 w' w.heap.size (fun _ => True) (.slice A' r1.length c') r1 ∧ Below w.heap.size w w' := by
 obtain ⟨k, hk⟩ := (pick_ev l key hl).rounds
 rw [hf] at hk
 have e1 := h.len
 subst e1
 refine (sheet_Pick.calls k A c l key.f0 key.f1 key.f2 key.f3 key.f4 r1 w h.C h.le hk).mono ?_
 rintro e w' ⟨v, rfl, hr, hb⟩
 obtain ⟨A', c', rfl⟩ := Kd.R_slice hr
 exact ⟨A', c', rfl, hr, hb⟩
theorem of_is {w : World} {A : Option Addr} {n c : Nat} {l : List S112} (h : Sl w A n c l) (hok : OkS l) (r1 : List S112) (r2 : Int) (hf : ofK l = (r1, r2)) :
  Calls Tryd.prog 31 #[.slice A n c] w fun e w' => ∃ A' c', e = .returned (.tuple #[.slice A' r1.length c', .int .i64 r2]) ∧ Sl w' A' r1.length c' r1 ∧ Below w.heap.size w w' := by
 have e1 := h.len
 subst e1
 refine (sheet_Of.calls A c l r1 r2 w h.C h.le (by unfold sheet_Of.f; rw [if_pos hok, hf])).mono ?_
 rintro e w' ⟨v, rfl, hr, hb⟩
 obtain ⟨A', c', rfl, hs⟩ := Sl.of hr
 exact ⟨A', c', rfl, hs, hb⟩
theorem cell_keep {w w' : World} {a : Addr} {v : Value} (h : w.cell? a = some v) (hb : Below w.heap.size w w') : w'.cell? a = some v := by
 by_cases hlt : a.block < w.heap.size
 ·rw [World.cell?_of_block (hb.block a.block hlt)]
  exact h
 unfold World.cell? at h
 rw [Array.getElem?_eq_none (by omega)] at h
 cases h
structure Se (g : Nat) (w : World) (A : Option Addr) (n c : Nat) (l : List S29) : Prop where
 len : l.length = n
 le : n ≤ c
 lt : g < w.heap.size
 v : Kd.V k29 29 w 0 (fun k => k ≠ g) (.slice A n c) l
theorem Se.below {g : Nat} {w w' : World} {A : Option Addr} {n c : Nat} {l : List S29} (h : Se g w A n c l) (hb : Below w.heap.size w w') : Se g w' A n c l := ⟨h.len, h.le, Nat.lt_of_lt_of_le h.lt hb.size, Kd.V_below h.v hb⟩
theorem Se.empty (W : World) (A : Option Addr) (g : Nat) (hg : g < W.heap.size) : Se g W A 0 0 [] := ⟨rfl, Nat.le_refl _, hg, Kd.V_mk (xs := ([] : List S29)) (Nat.le_refl _) (fun W' _ => ⟨rfl, by simp, fun h => absurd h (Nat.lt_irrefl 0)⟩)⟩
structure Sf (g S : Nat) (w : World) (A : Option Addr) (c : Nat) (l : List S29) : Prop where
 le : l.length ≤ c
 sz : S ≤ w.heap.size
 f : Kd.F k29 w (fun k => k ≠ g ∧ k < S) A l.length l
theorem Sf.of {g : Nat} {w : World} {A : Option Addr} {c : Nat} {l : List S29} (h : Se g w A l.length c l) : Sf g w.heap.size w A c l := ⟨h.le, Nat.le_refl _, fun W' hW => (Kd.V_F h.v) W' (fun k hk hlt => hW k ⟨hk, hlt⟩ hlt)⟩
theorem Sf.below {g S : Nat} {w w' : World} {A : Option Addr} {c : Nat} {l : List S29} (h : Sf g S w A c l) (hb : Below w.heap.size w w') : Sf g S w' A c l := ⟨h.le, Nat.le_trans h.sz hb.size, Kd.F_below h.f hb⟩
theorem Sf.grown {g S : Nat} {w w' : World} {A : Option Addr} {c : Nat} {l : List S29} {v : Value} (h : Sf g S w A c l) (hg : w.grownBy w' v.ownBlock) (hr : ∀ k, v.ownBlock = some k → k = g ∨ S ≤ k) : Sf g S w' A c l := ⟨h.le, Nat.le_trans h.sz hg.size, Kd.F_step h.f (fun k hk hlt => hg.block k hlt (fun e => by
 rcases hr k e.symm with h1 | h1
 ·exact hk.1 h1
 ·have := hk.2; omega))⟩
theorem Sf.C {g S : Nat} {w : World} {A : Option Addr} {c : Nat} {l : List S29} (h : Sf g S w A c l) : Kd.C k29 w A l.length l := Kd.F_now h.f
theorem rpost_is {g : Nat} {w : World} {A : Option Addr} {n c : Nat} {E : List S29} (h : Se g w A n c E) (hl : E.length ≤ 1000) (x : S29) (A8 : Option Addr) (c8 : Nat) (B : Nat) (hB : B ≤ g) (hF : Kd.F k109 w (fun k => k < B) A8 x.f8.length x.f8) (hc : x.f8.length ≤ c8) (hs : ShortEn x) :
  Calls Tryd.prog 29 #[.slice A n c, enV x A8 c8] w fun e w' => ∃ A' c' r, e = .returned (.tuple #[.slice A' (postE E x).length c', .int .i64 r]) ∧ Se g w' A' (postE E x).length c' (postE E x) ∧ Below w.heap.size w w' := by
 obtain ⟨r, hr⟩ := rpost_ev E x hs hl
 obtain ⟨k, hk⟩ := hr.rounds
 have e1 := h.len
 subst e1
 refine (accountingref20_Post.calls k (fun k => k ≠ g) A c E x.f0 x.f1 x.f2 x.f3 x.f4 x.f5 x.f6 x.f7 (fun k => k ≠ g) A8 c8 x.f8 (postE E x) r w h.v (Kd.V_mk hc (Kd.F_mono hF (fun k hk => by omega))) hk).mono ?_
 rintro e w' ⟨v, rfl, hv, hb⟩
 obtain ⟨A', c', rfl⟩ := Kd.V_slice hv
 exact ⟨A', c', r, rfl, ⟨rfl, (Kd.V_reads' hv).2.1, Nat.lt_of_lt_of_le h.lt hb.size, Kd.V_mono hv (fun k hk => by have := h.lt; omega)⟩, hb⟩
theorem Sl.ofR {w : World} {base : Nat} {ok : Nat → Prop} {A : Option Addr} {n c : Nat} {l : List S112} (h : Kd.R k112 112 w base ok (.slice A n c) l) (hn : l.length = n) : Sl w A n c l := by
 subst hn
 exact ⟨rfl, (Kd.R_reads' h).2.1, Kd.V_mono (Kd.R_V h) (fun _ _ => trivial)⟩
structure Sn (w : World) (A : Option Addr) (n c : Nat) (l : List Int) : Prop where
 len : l.length = n
 le : n ≤ c
 v : Kd.C (Kd.int .i64) w A n l
theorem Sn.below {w w' : World} {A : Option Addr} {n c : Nat} {l : List Int} (h : Sn w A n c l) (hb : Below w.heap.size w w') : Sn w' A n c l := ⟨h.len, h.le, Kd.C_below h.v hb⟩
theorem LiveE.findx {w0 w : World} {p m : Nat} {E : List S29} (h : LiveE w0 w p m E) (hg : GoodE E) (hl : E.length ≤ 1000) (e : ByteArray) (a z b : Int) (key : S40) (ns : List Int) (hn : findE E ⟨e, a, z, b⟩ key = ns) :
  Calls Tryd.prog 24 #[.pointer (some ⟨p, 0, none⟩), .agg #[.string e, .int .i64 a, .int .i64 z, .int .i64 b], .agg #[.string key.f0, .string key.f1, .string key.f2, .string key.f3, .string key.f4]] w fun e w' => ∃ A c, e = .returned (.slice A ns.length c) ∧ Sn w' A ns.length c ns ∧ Below w.heap.size w w' := by
 refine (h.find hg hl ⟨e, a, z, b⟩ key).mono ?_
 rintro e w' ⟨v, rfl, hr, hb, _⟩
 rw [hn] at hr
 obtain ⟨A, c, rfl, hc, hC⟩ := Kd.R_reads hr
 exact ⟨A, c, rfl, ⟨rfl, hc, hC⟩, hb⟩
structure Fnd (w0 w : World) (bk : Nat) (key : S40) (A8 : Option Addr) (c8 : Nat) (s : List S112) (A10 : Option Addr) (c10 : Nat) (ns : List Int) : Prop where
 bel : Below w0.heap.size w0 w
 bk : w.heap[bk]? = some (.cells #[.string key.f0, .string key.f1, .string key.f2, .string key.f3, .string key.f4] 40 (0, 0))
 all : Sl w A8 s.length c8 s
 nos : Sn w A10 ns.length c10 ns
theorem Fnd.below {w0 w w' : World} {bk : Nat} {key : S40} {A8 : Option Addr} {c8 : Nat} {s : List S112} {A10 : Option Addr} {c10 : Nat} {ns : List Int} (h : Fnd w0 w bk key A8 c8 s A10 c10 ns) (hb : Below w.heap.size w w') : Fnd w0 w' bk key A8 c8 s A10 c10 ns := ⟨below_then h.bel h.bel.size hb, blk_below h.bk hb, h.all.below hb, h.nos.below hb⟩
theorem R_empty0 (W : World) (base : Nat) (hb : base ≤ W.heap.size) : Kd.R k112 112 (W.alloc (.cells #[] 112)) base (fun _ => True) (.slice (some ⟨W.heap.size, 0, none⟩) 0 0) [] := by
 refine ⟨fun _ _ => trivial, [], ?_, rfl, fun j p hj => by simp at hj⟩
 have h := World.ownsRow_lit (base := base) (e := 112) (size := 7) W #[] 0 hb (by decide) (by simp)
 have h2 : (W.alloc (.cells #[] 112)).ownsRow base 112 7 (.slice (some ⟨W.heap.size, 0, none⟩) 0 0) 0 [] := by simpa using h
 exact h2
theorem int_at {w : World} {A : Option Addr} {n : Nat} {xs : List Int} (h : Kd.C (Kd.int .i64) w A n xs) {i : Nat} (hi : i < xs.length) : ∃ ad, A = some ad ∧ w.cell? (ad.add i) = some (.int .i64 xs[i]) := by
 have hn := h.1
 obtain ⟨ad, c, e, _, hK, hc⟩ := Kd.C_get h (0 : Int) (i : Int) (by omega) (by omega)
 refine ⟨ad, e, ?_⟩
 have hx : xs.getD (i : Int).toNat 0 = xs[i] := by simp [hi]
 rw [hx] at hK
 obtain rfl : c = [.int .i64 xs[i]] := hK
 have := hc 0 _ rfl
 rw [Int.toNat_natCast, show (Kd.int .i64).sz = 1 from rfl, Nat.mul_one, Nat.add_zero] at this
 exact this
theorem nos_at {w0 w : World} {bk : Nat} {key : S40} {A8 : Option Addr} {c8 : Nat} {s : List S112} {A10 : Option Addr} {c10 : Nat} {F E : List S29} (h : Fnd w0 w bk key A8 c8 s A10 c10 (F.map S29.f0)) (hA : ∀ x ∈ F, ∃ j : Nat, ∃ hj : j < E.length, x.f0 = (j : Int) + 1 ∧ E[j] = x) {i : Nat} (hi : i < F.length) : ∃ (ad : Addr) (j : Nat) (hj : j < E.length), A10 = some ad ∧ w.cell? (ad.add i) = some (.int .i64 ((j : Int) + 1)) ∧ E[j] = F[i] ∧ (F[i]).f0 = (j : Int) + 1 := by
 obtain ⟨j, hj, h1, h2⟩ := hA _ (List.getElem_mem hi)
 obtain ⟨ad, e, hc⟩ := int_at h.nos.v (i := i) (by rw [List.length_map]; exact hi)
 rw [List.getElem_map, h1] at hc
 exact ⟨ad, j, hj, e, hc, h2, h1⟩
def accountinglaw20_LedgerFinds.f (l : List S29) (a1_0 : ByteArray) (a1_1 a1_2 a1_3 : Int) (a2_0 a2_1 a2_2 a2_3 a2_4 : ByteArray) : Option Bool := if ∀ x ∈ l, okEn x then some true else none
set_option maxHeartbeats 8000000 in
set_option maxRecDepth 100000 in
theorem ledgerFinds_calls (A : Option Addr) (c : Nat) (l : List S29) (q : Qy) (key : S40) (w : World) (hC : Kd.C k29 w A l.length l) (hc : l.length ≤ c) (hok : ∀ x ∈ l, okEn x) (hT : Tab w) :
  Calls Tryd.prog 7 #[.slice A l.length c, qyV q, keV key] w fun e w' => e = .returned (.bool true) ∧ Below w.heap.size w w' := by
 have HC := Aside0.mk hC
 have Hc := Aside0.mk hc
 have HT := Aside0.mk hT
 have HOK := Aside0.mk hok
 clear hC hc hT hok
 unfold qyV keV
 obtain ⟨lb, hlb⟩ : ∃ lb, largeB l = lb := ⟨_, rfl⟩
 have HLB := Aside0.mk hlb
 clear hlb
 have HB1 := Aside0.mk (below_alloc (below_alloc (Below.refl w.heap.size w) (.cells #[.string q.e, .int .i64 q.a, .int .i64 q.z, .int .i64 q.b] 24)) (.cells #[.string key.f0, .string key.f1, .string key.f2, .string key.f3, .string key.f4] 40))
 have HBQ := Aside0.mk (blk_alloc (blk_new w (.cells #[.string q.e, .int .i64 q.a, .int .i64 q.z, .int .i64 q.b] 24)) (.cells #[.string key.f0, .string key.f1, .string key.f2, .string key.f3, .string key.f4] 40))
 have HBK := Aside0.mk (show ((w.alloc (.cells #[.string q.e, .int .i64 q.a, .int .i64 q.z, .int .i64 q.b] 24)).alloc (.cells #[.string key.f0, .string key.f1, .string key.f2, .string key.f3, .string key.f4] 40)).heap[w.heap.size + 1]? = some (.cells #[.string key.f0, .string key.f1, .string key.f2, .string key.f3, .string key.f4] 40 (0, 0)) from by have := blk_new (w.alloc (.cells #[.string q.e, .int .i64 q.a, .int .i64 q.z, .int .i64 q.b] 24)) (.cells #[.string key.f0, .string key.f1, .string key.f2, .string key.f3, .string key.f4] 40); rw [World.size_alloc] at this; exact this)
 cases lb
 ·have HN := Aside0.mk (large_no HLB.out)
  have HLL := Aside0.mk (show l.length ≤ 40 from HN.out.1)
  have HFE := Aside0.mk (fun x hx => fit_E (HOK.out x hx))
  have HSE := Aside0.mk (fun x hx => fit_short (HOK.out x hx))
  obtain ⟨E, hE⟩ : ∃ E, playE l = E := ⟨_, rfl⟩
  have HG := Aside0.mk (show GoodE E from hE ▸ play_good l)
  have HNU := Aside0.mk (show NumE E from hE ▸ play_num l)
  have HLN := Aside0.mk (show lnsE E ≤ 400 from by have := play_lns l; have := HN.out.2.1; rw [← hE]; unfold lnsE at *; omega)
  have HEL := Aside0.mk (show E.length ≤ 40 from by have := play_len l; have := HN.out.1; rw [← hE]; omega)
  have HEF := Aside0.mk (show ∀ x ∈ E, FitE x from fun x hx => HFE.out x (play_mem x (hE ▸ hx)))
  have HE := Aside0.mk hE
  clear hE
  obtain ⟨s, hs⟩ : ∃ s, (sheetE E ⟨q.e, q.a, q.z, q.b⟩).1 = s := ⟨_, rfl⟩
  obtain ⟨F, hF⟩ : ∃ F, fdE E ⟨q.e, q.a, q.z, q.b⟩ key = F := ⟨_, rfl⟩
  obtain ⟨ns, hns⟩ : ∃ ns, F.map S29.f0 = ns := ⟨_, rfl⟩
  have HFN := Aside0.mk (show findE E ⟨q.e, q.a, q.z, q.b⟩ key = ns from by rw [find_fd, hF]; exact hns)
  have HFL := Aside0.mk (show F.length ≤ 40 from by have := (fd_sub E ⟨q.e, q.a, q.z, q.b⟩ key).length_le; rw [hF] at this; have := HEL.out; omega)
  have HFG := Aside0.mk (show GoodE F from fun x hx => HG.out x ((fd_sub E ⟨q.e, q.a, q.z, q.b⟩ key).subset (hF ▸ hx)))
  have HFA := Aside0.mk (show ∀ x ∈ F, ∃ j : Nat, ∃ hj : j < E.length, x.f0 = (j : Int) + 1 ∧ E[j] = x from fun x hx => fd_at HNU.out (hF ▸ hx))
  have HFP := Aside0.mk (show F.Pairwise (fun a b => a.f0 < b.f0) from hF ▸ fd_pair HNU.out _ key)
  have HOF := Aside0.mk (show ofK (pkC key F) = (pickK key s, 0) from by rw [← hF, ← hs]; exact found_of HG.out HLN.out _ key)
  have HSL := Aside0.mk (show s.length ≤ 1000000 from hs ▸ sheet_len HG.out (by have := HEL.out; omega) _)
  have HS := Aside0.mk hs
  have HNS := Aside0.mk hns
  have HNL := Aside0.mk (show ns.length = F.length from by rw [← hns, List.length_map])
  clear hs hF hns
  go_enter Tryd.func7, Tryd.ntmps7
  go_upto_region 6 with (first
   | (go_at_call 16; (with_reducible refine (large_is A c l false _ (Kd.C_below HC.out HB1.out) Hc.out HOK.out HLB.out).mono ?_); rintro e w2 ⟨rfl, hb⟩; have HB2 := Aside0.mk (below_then HB1.out HB1.out.size hb); have HBQ2 := Aside0.mk (blk_below HBQ.out hb); have HBK2 := Aside0.mk (blk_below HBK.out hb); clear hb)
   | (go_at_call 18; (with_reducible refine (posts_calls A c l _ (Kd.C_below HC.out HB2.out) Hc.out (by have := HLL.out; omega) HFE.out (HT.out.below HB2.out)).mono ?_); rw [HE.out]; rintro e w4 ⟨p, m, rfl, h4⟩; have HL4 := Aside0.mk h4; have HB4 := Aside0.mk (below_then HB2.out HB2.out.size h4.bel); have HBK4 := Aside0.mk (blk_below HBK2.out h4.bel); have hbq := blk_below HBQ2.out h4.bel; have HBQ4 := Aside0.mk hbq; obtain ⟨x0, x1, x2, x3⟩ := qy_kept hbq w4 (Below.refl _ _); clear h4 hbq)
   | (go_at_call 19; (with_reducible refine (HL4.out.sheetx HG.out HLN.out (by have := HEL.out; omega) q.e q.a q.z q.b HS.out).mono ?_); rintro e w5 ⟨A5, c5, rfl, hs5, hb5, h5⟩; have HL5 := Aside0.mk h5; have HS5 := Aside0.mk hs5; have HB5 := Aside0.mk (below_then HB4.out HB4.out.size hb5); have hbk := blk_below HBK4.out hb5; have HBK5 := Aside0.mk hbk; have hbq := blk_below HBQ4.out hb5; clear x0 x1 x2 x3; obtain ⟨x0, x1, x2, x3⟩ := qy_kept hbq w5 (Below.refl _ _); obtain ⟨y0, y1, y2, y3, y4⟩ := ke_kept hbk w5 (Below.refl _ _); clear hs5 hb5 h5 hbk hbq)
   | (go_at_call 24; (with_reducible refine (HL5.out.findx HG.out (by have := HEL.out; omega) q.e q.a q.z q.b key ns HFN.out).mono ?_); rintro e w6 ⟨A6, c6, rfl, hn6, hb6⟩; have HF6 := Aside0.mk (show Fnd w w6 (w.heap.size + 1) key A5 c5 s A6 c6 ns from ⟨below_then HB5.out HB5.out.size hb6, blk_below HBK5.out hb6, HS5.out.below hb6, hn6⟩); clear hn6 hb6 x0 x1 x2 x3 y0 y1 y2 y3 y4))
  obtain ⟨bk, hbk⟩ : ∃ bk, w.heap.size + 1 = bk := ⟨_, rfl⟩
  rw [hbk] at HF6
  try rw [hbk]
  have HW6 := Aside0.mk (show w.heap.size ≤ w6.heap.size from HF6.out.bel.size)
  have hb7 : Below w6.heap.size w6 ((w6.alloc (.cells #[] 112)).alloc (.cells #[] 29)) := below_alloc (below_alloc (Below.refl _ _) _) _
  have HF7 := Aside0.mk hb7
  have HR7 := Aside0.mk (Kd.R_alloc (R_empty0 w6 w6.heap.size (Nat.le_refl _)) (.cells #[] 29))
  have HS7 := Aside0.mk (Se.empty ((w6.alloc (.cells #[] 112)).alloc (.cells #[] 29)) (some ⟨w6.heap.size + 1, 0, none⟩) w6.heap.size (by simp only [World.size_alloc]; omega))
  clear hb7 hbk HL4 HL5 HS5 HB4 HB5 HBK4 HBK5 HBQ4 HB2 HBQ2 HBK2
  have hll := HLL.out
  go_upto_region 8 with (fail)
  go_wp2
  go_loopw [12, 13] (fun v12 v13 wr => ∃ (i : Nat) (A12 : Option Addr) (c12 : Nat) (D : List S29), i ≤ l.length ∧ v13 = .int .i64 i ∧ v12 = .slice A12 D.length c12 ∧ Aside0 (playE (l.take i) = D) ∧ Aside0 (Below w6.heap.size w6 wr) ∧ Aside0 (Se w6.heap.size wr A12 D.length c12 D) ∧ Aside0 (Kd.R k112 112 wr w6.heap.size (fun _ => True) (.slice (some ⟨w6.heap.size, 0, none⟩) 0 0) [])) (fun _ v13 _ => l.length - (intOf v13).toNat)
  case atStart => exact ⟨0, some ⟨w6.heap.size + 1, 0, none⟩, 0, [], Nat.zero_le _, rfl, by simp, ⟨rfl⟩, HF7, HS7, HR7⟩
  case round =>
   clear HF7 HS7 HR7
   obtain ⟨i, A12, c12, D, hi, rfl, rfl, HD, HW8, HS8, HR8⟩ := hrel
   rename World => wo
   have HF8 := Aside0.mk (HF6.out.below HW8.out)
   by_cases hlt : i < l.length
   ·have d1 : decide ((i : Int) < (l.length : Int)) = true := decide_eq_true (by omega)
    have d2 : decide (i < l.length) = true := decide_eq_true hlt
    have p0 : (0 : Int) ≤ (i : Int) := by omega
    have p1 : (i : Int) < (l.length : Int) := by omega
    obtain ⟨ad, A8, c8, e, z0, z1, z2, z3, z4, z5, z6, z7, z8, l8, g8⟩ := at_T29 HC.out (i : Int) p0 p1
    have hbw := HF8.out.bel
    replace z0 := cell_keep z0 hbw
    replace z1 := cell_keep z1 hbw
    replace z2 := cell_keep z2 hbw
    replace z3 := cell_keep z3 hbw
    replace z4 := cell_keep z4 hbw
    replace z5 := cell_keep z5 hbw
    replace z6 := cell_keep z6 hbw
    replace z7 := cell_keep z7 hbw
    replace z8 := cell_keep z8 hbw
    replace g8 := Kd.F_below (Kd.C_F k109_heap g8) hbw
    clear hbw
    cases e
    rw [Int.toNat_natCast] at z0 z1 z2 z3 z4 z5 z6 z7 z8
    obtain ⟨x, hx⟩ : ∃ x, rd_T29 l (i : Int) = x := ⟨_, rfl⟩
    have hxi : l[i] = x := by rw [← hx]; simp [rd_T29, hlt]
    rw [hx] at z0 z1 z2 z3 z4 z5 z6 z7 z8 l8 g8
    have HXS := Aside0.mk (HSE.out x (by rw [← hxi]; exact List.getElem_mem _))
    have HDL := Aside0.mk (show D.length ≤ 1000 from by have := play_len (l.take i); rw [HD.out, List.length_take] at this; omega)
    have HD2 := Aside0.mk (show playE (l.take (i + 1)) = postE D x from by rw [play_take hlt, HD.out, hxi])
    have HG8 := Aside0.mk g8
    have HL8 := Aside0.mk l8
    clear hx hxi g8 l8
    obtain ⟨D2, hD2⟩ : ∃ D2, postE D x = D2 := ⟨_, rfl⟩
    have HPO := Aside0.mk (rpost_is HS8.out HDL.out x A8 c8 w.heap.size HW6.out HG8.out HL8.out HXS.out)
    rw [hD2] at HPO HD2
    clear hD2
    go_wp2_with (go_at_call 29; (with_reducible refine HPO.out.mono ?_); rintro e w9 ⟨A9, c9, r9, rfl, hs9, hb9⟩; have HS9 := Aside0.mk hs9; have HF9 := Aside0.mk (below_then HW8.out HW8.out.size hb9); have HR9 := Aside0.mk (Kd.R_below HR8.out hb9); clear hs9 hb9)
    go_roundw
    case rel => exact ⟨i + 1, A9, c9, D2, by omega, by go_num, rfl, HD2, HF9, HS9, HR9⟩
    case measure => simp [intOf]; omega
   obtain rfl : i = l.length := by omega
   have d1 : decide ((l.length : Int) < (l.length : Int)) = false := decide_eq_false (by omega)
   have hDE : D = E := by
    have := HD.out
    rw [List.take_length, HE.out] at this
    exact this.symm
   subst hDE
   have hfl := HFL.out
   have hnl := HNL.out
   have hel := HEL.out
   go_wp2
   go_loopw [11, 14] (fun v11 v14 wr => ∃ (i : Nat) (A11 : Option Addr) (c11 : Nat) (t : List S112), i ≤ F.length ∧ v14 = .int .i64 i ∧ v11 = .slice A11 t.length c11 ∧ Aside0 (pkC key (F.take i) = t) ∧ Aside0 (Below w6.heap.size w6 wr) ∧ Aside0 (Sf w6.heap.size wo.heap.size wr A12 c12 D) ∧ Aside0 (∀ k, (Value.slice A11 t.length c11).ownBlock = some k → k = w6.heap.size ∨ wo.heap.size ≤ k) ∧ Aside0 (Kd.R k112 112 wr w6.heap.size (fun _ => True) (.slice A11 t.length c11) t)) (fun _ v14 _ => F.length - (intOf v14).toNat)
   case atStart => exact ⟨0, some ⟨w6.heap.size, 0, none⟩, 0, [], Nat.zero_le _, rfl, by simp, ⟨rfl⟩, HW8, ⟨Sf.of HS8.out⟩, ⟨fun k hk => .inl (Option.some.inj hk).symm⟩, HR8⟩
   case round =>
    clear HF8 HS8 HR8 HD HW8
    obtain ⟨i, A11, c11, t, hi, rfl, rfl, HTT, HW8, HS8, HO8, HR8⟩ := hrel
    rename World => wq
    have HF8 := Aside0.mk (HF6.out.below HW8.out)
    by_cases hlt : i < F.length
    rotate_left
    ·obtain rfl : i = F.length := by omega
     have d1 : decide ((F.length : Int) < (ns.length : Int)) = false := decide_eq_false (by omega)
     have d2 : decide (F.length < ns.length) = false := decide_eq_false (by omega)
     have ht : pkC key F = t := by
      have := HTT.out
      rwa [List.take_length] at this
     obtain ⟨pk, hpk⟩ : ∃ pk, pickK key s = pk := ⟨_, rfl⟩
     have HOT := Aside0.mk (show ofK t = (pk, 0) from by rw [← ht, ← hpk]; exact HOF.out)
     have HPK := Aside0.mk hpk
     have HPL := Aside0.mk (show pk.length ≤ 1000000 from by
      have h1 := pick_le key s
      have h2 := HSL.out
      rw [hpk] at h1
      omega)
     have HSR := Aside0.mk (Sl.ofR HR8.out rfl)
     have HOS := Aside0.mk (show OkS t from ht ▸ okS_pk key HFG.out (by have := HFL.out; omega))
     clear ht hpk hnl
     go_wp2_with (first
      | (go_at_call 31; (with_reducible refine (of_is HSR.out HOS.out pk 0 HOT.out).mono ?_); rintro e wa ⟨Aa, ca, rfl, hsa, hba⟩; have HSA := Aside0.mk hsa; have HFA := Aside0.mk (HF8.out.below hba); obtain ⟨y0, y1, y2, y3, y4⟩ := ke_kept HFA.out.bk wa (Below.refl _ _); clear hsa hba)
      | (go_at_call 30; (with_reducible refine (pick_is HFA.out.all HSL.out key pk HPK.out).mono ?_); rintro e wb ⟨Ab, cb, rfl, hrb, hbb⟩; have HPB := Aside0.mk (Sl.ofR hrb rfl); have HFB := Aside0.mk (HFA.out.below hbb); have HSB := Aside0.mk (HSA.out.below hbb); clear hrb hbb y0 y1 y2 y3 y4)
      | (go_at_call 21; (with_reducible refine (same_is HPB.out HSB.out HPL.out).mono ?_); rintro e wc ⟨rfl, hbc⟩; have HFC := Aside0.mk (HFB.out.below hbc); clear hbc)
      | (go_at_call 17; (with_reducible refine (lives_calls _ (HT.out.below HFC.out.bel)).mono ?_); rintro e wd ⟨rfl, hbd⟩; have HBD := Aside0.mk hbd; clear hbd))
     go_ret
     exact ⟨rfl, below_then HFC.out.bel HFC.out.bel.size HBD.out⟩
    have d1 : decide ((i : Int) < (ns.length : Int)) = true := decide_eq_true (by omega)
    have d2 : decide (i < ns.length) = true := decide_eq_true (by omega)
    have p0 : (0 : Int) ≤ (i : Int) := by omega
    have p1 : (i : Int) < (ns.length : Int) := by omega
    obtain ⟨adn, j, hj, e, hcn, hEj, hFj⟩ := nos_at (HNS.out ▸ HF8.out) HFA.out hlt
    subst e
    have d3 : decide ((j : Int) + 1 < 1) = false := decide_eq_false (by omega)
    have d4 : decide ((D.length : Int) < (j : Int) + 1) = false := decide_eq_false (by omega)
    have r0 : (0 : Int) ≤ (j : Int) := by omega
    have r1 : (j : Int) < (D.length : Int) := by omega
    have HEJ := Aside0.mk hEj
    have HFJ := Aside0.mk hFj
    clear hEj hFj
    go_upto_region 15 with (fail)
    go_cut [57, 58, 59, 60, 61, 62, 63, 64, 65, 66, 67, 68, 69, 70, 71, 72, 73, 74, 75, 76, 77, 78, 79, 80, 81, 82, 83, 84, 85, 86] (fun _ _ _ _ _ _ _ _ _ _ _ _ _ _ _ _ _ _ _ _ _ _ _ _ _ _ _ _ _ v86 wc => v86 = .bool false ∧ ∃ n, wc = wq.drewN n)
    case first =>
     by_cases h0 : i = 0
     ·subst h0
      have e1 : decide ((0 : Int) < ((0 : Nat) : Int)) = false := decide_eq_false (by omega)
      have hcn0 : wq.cell? adn = some (.int .i64 ((j : Int) + 1)) := by
       rw [← hcn]
       rfl
      clear hcn
      go_big_quiet (fail)
      go_wp2_with fail
      go_meet
      case rel => exact ⟨rfl, nq, rfl⟩
     obtain ⟨k, rfl⟩ : ∃ k, i = k + 1 := ⟨i - 1, by omega⟩
     obtain ⟨adn', j', hj', e', hcn', hEj', hFj'⟩ := nos_at (HNS.out ▸ HF8.out) HFA.out (show k < F.length by omega)
     obtain rfl : adn = adn' := Option.some.inj e'
     have hjj : (j' : Int) + 1 < (j : Int) + 1 := by
      have h1 := List.pairwise_iff_getElem.1 HFP.out k (k + 1) (by omega) hlt (by omega)
      rw [hFj', HFJ.out] at h1
      exact h1
     have e1 : decide ((0 : Int) < ((k + 1 : Nat) : Int)) = true := decide_eq_true (by omega)
     have e1' : decide ((0 : Int) < (k : Int) + 1) = true := decide_eq_true (by omega)
     have e2 : decide ((j : Int) + 1 ≤ (j' : Int) + 1) = false := decide_eq_false (by omega)
     have e3 : decide ((j : Int) ≤ (j' : Int)) = false := decide_eq_false (by omega)
     have e4 : decide (j ≤ j') = false := decide_eq_false (by omega)
     have hcn1 : wq.cell? ⟨adn.block, adn.off + (k + 1), none⟩ = some (.int .i64 ((j : Int) + 1)) := by
      rw [← hcn]
      rfl
     clear hEj' hFj' e' hjj hcn
     go_big_quiet (fail)
     go_wp2_with fail
     go_meet
     case rel => exact ⟨rfl, nq, rfl⟩
    case rest =>
     obtain ⟨rfl, n5, rfl⟩ := hcut
     clear hnl
     obtain ⟨w8, hw8⟩ : ∃ w8, wq.drewN n5 = w8 := ⟨_, rfl⟩
     have hb5 := pw_below_drewN (Below.refl wq.heap.size wq) n5
     have hcn5 : (wq.drewN n5).cell? (adn.add i) = some (.int .i64 ((j : Int) + 1)) := hcn
     rw [hw8] at hb5 hcn5
     have HF9 := Aside0.mk (HF8.out.below hb5)
     have HW9 := Aside0.mk (below_then HW8.out HW8.out.size hb5)
     have HS9 := Aside0.mk (HS8.out.below hb5)
     have HR9 := Aside0.mk (Kd.R_below HR8.out hb5)
     rw [hw8]
     clear HF8 HW8 HS8 HR8 hb5 hw8 hcn
     have q0 : (0 : Int) ≤ (j : Int) := by omega
     obtain ⟨adD, A7, c7, e, z0, z1, z2, z3, z4, z5, z6, z7, z8, l8, g8⟩ := at_T29 HS9.out.C (j : Int) q0 r1
     subst e
     rw [Int.toNat_natCast] at z0 z1 z2 z3 z4 z5 z6 z7 z8
     obtain ⟨x, hx⟩ : ∃ x, rd_T29 D (j : Int) = x := ⟨_, rfl⟩
     have hxj : D[j] = x := by rw [← hx]; simp [rd_T29, hj]
     rw [hx] at z0 z1 z2 z3 z4 z5 z6 z7 z8 l8 g8
     have hxF : F[i] = x := HEJ.out.symm.trans hxj
     have hxD : x ∈ D := hxj ▸ List.getElem_mem _
     have HXE := Aside0.mk (HEF.out x hxD)
     have HG8 := Aside0.mk g8
     have HL8 := Aside0.mk l8
     have HCK := Aside0.mk (HG.out x hxD)
     obtain ⟨s1, hs1⟩ : ∃ s1, (ofK (rawL x)).1 = s1 := ⟨_, rfl⟩
     have HCE := Aside0.mk (show cellsE x = (s1, 0) from by
      have := raw_ok HCK.out
      unfold cellsE
      rw [if_pos HCK.out, ← hs1, ← this])
     have HL1 := Aside0.mk (show s1.length ≤ 1000 from by
      have h1 := ofK_le (rawL x)
      have h2 := raw_len x
      have h3 := (head_len (chk_two HCK.out).1).2.1
      rw [hs1] at h1
      omega)
     obtain ⟨p1, hp1⟩ : ∃ p1, pickK key s1 = p1 := ⟨_, rfl⟩
     have HP1 := Aside0.mk hp1
     have HPL := Aside0.mk (show p1.length ≤ 1000 from by
      have h1 := pick_le key s1
      have h2 := HL1.out
      rw [hp1] at h1
      omega)
     have HTK := Aside0.mk (show pkC key (F.take (i + 1)) = t ++ p1 from by rw [pk_take key hlt, HTT.out, hxF, hs1, hp1])
     have HTL := Aside0.mk (show t.length ≤ 4000 from by
      have h1 := pk_len key (F.take i) (fun y hy => HFG.out y (List.mem_of_mem_take hy))
      have h2 := HFL.out
      rw [HTT.out, List.length_take] at h1
      omega)
     clear hx hxj hxF hxD g8 l8 hs1 hp1
     go_wp2_with (first
      | (go_at_call 25; (with_reducible refine (cells_is x A7 c7 s1 0 _ (Kd.C_below HG8.out (Below.refl _ _)) HL8.out HXE.out (HT.out.below HF9.out.bel) HCE.out).mono ?_); rintro e wa ⟨Aa, ca, rfl, hsa, hba⟩; have HSA := Aside0.mk hsa; have HFA := Aside0.mk (HF9.out.below hba); have HWA := Aside0.mk (below_then HW9.out HW9.out.size hba); have HDA := Aside0.mk (HS9.out.below hba); have HRA := Aside0.mk (Kd.R_below HR9.out hba); obtain ⟨y0, y1, y2, y3, y4⟩ := ke_kept HFA.out.bk wa (Below.refl _ _); clear hsa hba hcn5 z0 z1 z2 z3 z4 z5 z6 z7 z8)
      | (go_at_call 30; (with_reducible refine (pick_is HSA.out (by have := HL1.out; omega) key p1 HP1.out).mono ?_); rintro e wb ⟨Ab, cb, rfl, hrb, hbb⟩; have HPB := Aside0.mk hrb; have HWB := Aside0.mk (below_then HWA.out HWA.out.size hbb); have HDB := Aside0.mk (HDA.out.below hbb); have HRB := Aside0.mk (Kd.R_below HRA.out hbb); clear hrb hbb y0 y1 y2 y3 y4)
      | ((with_reducible refine gate_builtin (b := .append) (xs := #[.tmp 101, .tmp 104]) rfl ?_); at_builtin; refine Kd.R_append_rows k112 (w0 := w6) w6.heap.size rfl (.tmp 101) (.tmp 104) 32 112 (.agg #[(.string ⟨#[]⟩), (.string ⟨#[]⟩), (.string ⟨#[]⟩), (.string ⟨#[]⟩), (.string ⟨#[]⟩), (.int .i64 0), (.int .i64 0)]) 96 rfl Tryd.underlying32 info112 rfl (by decide) (by omega) _ t p1 Ab p1.length cb (fun _ => True) (fun _ => False) rfl rfl HRB.out (Kd.R_reads' HPB.out).2.2 (fun _ _ h => h) (fun _ h => h.elim) (fun _ _ => trivial) HWB.out HWB.out.size (by have h1 := HTL.out; have h2 := HPL.out; omega) ?_; intro v7 w7 ho hb hg hv; have HO7 := Aside0.mk ho; have HB7 := Aside0.mk hb; have HG7 := Aside0.mk hg; have HV7 := Aside0.mk hv; clear ho hb hg hv))
     obtain ⟨Av, cv, e7⟩ := Kd.R_slice HO7.out
     subst e7
     go_roundw
     case rel =>
      refine ⟨i + 1, Av, cv, t ++ p1, by omega, by go_num, rfl, HTK, HB7, ⟨HDB.out.grown HG7.out HO8.out⟩, ⟨fun k hk => ?_⟩, HO7⟩
      rcases HV7.out with e | ⟨b, e, hb⟩
      ·rw [e] at hk
       exact HO8.out k hk
      ·rw [e] at hk
       cases hk
       have := HDB.out.sz
       right
       omega
     case measure => simp [intOf]; omega
 ·go_enter Tryd.func7, Tryd.ntmps7
  go_wp2_with (first | (go_at_call 16; refine (large_is A c l true _ (Kd.C_below HC.out HB1.out) Hc.out HOK.out HLB.out).mono ?_; rintro e w2 ⟨rfl, hb⟩; have HB2 := Aside0.mk (below_then HB1.out HB1.out.size hb); clear hb) | (go_at_call 17; refine (lives_calls _ (HT.out.below HB2.out)).mono ?_; rintro e w3 ⟨rfl, hb⟩; have HB3 := Aside0.mk hb; clear hb))
  go_ret
  exact ⟨rfl, below_then HB2.out HB2.out.size HB3.out⟩
theorem accountinglaw20_LedgerFinds.calls (A0 : Option Addr) (c0 : Nat) (l0 : List S29) (a1_0 : ByteArray) (a1_1 a1_2 a1_3 : Int) (a2_0 a2_1 a2_2 a2_3 a2_4 : ByteArray) (r : Bool) (w : World) (hr0 : Kd.C k29 w A0 l0.length l0) (hc0 : l0.length ≤ c0) (h : accountinglaw20_LedgerFinds.f l0 a1_0 a1_1 a1_2 a1_3 a2_0 a2_1 a2_2 a2_3 a2_4 = some r) (hT : Tab w) :
  Calls Tryd.prog 7 #[.slice A0 l0.length c0, .agg #[.string a1_0, .int .i64 a1_1, .int .i64 a1_2, .int .i64 a1_3], .agg #[.string a2_0, .string a2_1, .string a2_2, .string a2_3, .string a2_4]] w fun e w' => e = .returned (.bool r) ∧ Below w.heap.size w w' := by
 unfold accountinglaw20_LedgerFinds.f at h
 split at h
 ·rename_i hok
  obtain rfl := Option.some.inj h
  exact ledgerFinds_calls A0 c0 l0 ⟨a1_0, a1_1, a1_2, a1_3⟩ ⟨a2_0, a2_1, a2_2, a2_3, a2_4⟩ w hr0 hc0 hok hT
 ·cases h
end Go.Proofs.YtppcjoaghlecmaaDoor.P
namespace Go.Proofs.YtppcjoaghlecmaaDoor.P
open Go.RowKit Go.Proofs.YtppcjoaghlecmaaDoorW.PrintWords Go.Proofs.YtppcjoaghlecmaaDoorW.PrintLast
open Go.Proofs.YtppcjoaghlecmaaDoor.Op
def accountinglaw20_LedgerFinds.Pure : Prop := ∀ (l0 : List (S29)) (a1 : S24) (a2 : S40), (FitL fit29) l0 → fit24 a1 → fit40 a2 → accountinglaw20_LedgerFinds.f l0 a1.f0 a1.f1 a1.f2 a1.f3 a2.f0 a2.f1 a2.f2 a2.f3 a2.f4 = some true
end Go.Proofs.YtppcjoaghlecmaaDoor.P
namespace Go.Proofs.YtppcjoaghlecmaaDoor.Pure
open Go.RowKit Go.Proofs.YtppcjoaghlecmaaDoor.P Go.Proofs.YtppcjoaghlecmaaDoor.Op Go.Proofs.YtppcjoaghlecmaaDoorW.PrintWords Go.Proofs.YtppcjoaghlecmaaDoorW.PrintLast
theorem LedgerFinds : accountinglaw20_LedgerFinds.Pure := by
 intro l q key hl _ _
 unfold accountinglaw20_LedgerFinds.f
 exact if_pos (fun x hx => fit_ok (hl.2 x hx))
end Go.Proofs.YtppcjoaghlecmaaDoor.Pure
