/- Texts of mine and of the print, joined: Px14, Px20, Px10, Px11, Px12, Px15, Srt, SrtA, HandCmp, HandKey, HandSum, HandTot, HandRgs, HandRgt. -/
import Derived.Test.YtppcjoaghlecmaaDoorLa
import Derived.Sort.LotA
import Derived.Shelf.SlSortCmp.KitK
import Derived.Sort.WalkB2
import Derived.Sort.WalkB12
import Derived.Deep.LoopGhost
import Derived.Lib.Bytealg
import Derived.Lib.Strings
import Derived.Laws.Externs
import Derived.BigQuiet
namespace Go.Proofs.YtppcjoaghlecmaaDoor.P
open Go.RowKit Go.Proofs.YtppcjoaghlecmaaDoorW.PrintWords Go.Proofs.YtppcjoaghlecmaaDoorW.PrintLast Go.Proofs.YtppcjoaghlecmaaDoorW.PrintMore
attribute [local go_sem] max2_int min2_int max_two min_two max_three min_three max_four min_four
set_option linter.unusedVariables false
set_option linter.unusedSimpArgs false
def dims_Right.l0 : Nat → List (S213) → List (S213) → Int → Int → Option (Bool)
 | 0, _, _, _, _ => none
 | k + 1, x0, x8, x9, x10 => if x10 < x9 then (if 0 ≤ x10 then (if x10 < (x8.length : Int) then ((dims_codes.f ((rd_T213 x8 x10).f0) ((rd_T213 x8 x10).f1)).bind fun t131 => (if t131 = true then (if x10 > 0 then (if 0 ≤ (wrap64 (x10 - 1)) then (if (wrap64 (x10 - 1)) < (x0.length : Int) then (if ((Op.bytesLess (((rd_T213 x0 (wrap64 (x10 - 1))).f0).toList) (((rd_T213 x8 x10).f0).toList)) = true) then (dims_Right.l0 k x0 x8 x9 (wrap64 (x10 + 1))) else (some false)) else (none)) else (none)) else (dims_Right.l0 k x0 x8 x9 (wrap64 (x10 + 1)))) else (some false))) else (none)) else (none)) else (some true)
def dims_Right.f (k : Nat) (l0 : List (S213)) : Option (Bool) := if (l0.length : Int) > 6 then (some false) else (dims_Right.l0 k l0 l0 (l0.length : Int) 0)
theorem dims_Right.mono_l : ∀ k, (∀ y0 y1 y2 y3, LeO (dims_Right.l0 k y0 y1 y2 y3) (dims_Right.l0 (k + 1) y0 y1 y2 y3))
 | 0 => fun _ _ _ _ r h => by simp [dims_Right.l0] at h
 | k + 1 => by
  have ih0 := dims_Right.mono_l k
  ·intro y0 y1 y2 y3
   unfold dims_Right.l0
   repeat' first
   | (with_reducible exact ih0 _ _ _ _)
   | (with_reducible exact LeO.refl _)
   | (with_reducible exact LeO.none _)
   | (with_reducible refine LeO.ite ?_ ?_)
   | (with_reducible refine LeO.bind ?_ (fun _ => ?_))
   | exact ih0 _ _ _ _
   | exact LeO.none _
   | refine LeO.ite ?_ ?_
   | refine LeO.bind ?_ (fun _ => ?_)
theorem dims_Right.mono : ∀ a0 k, LeO (dims_Right.f k a0) (dims_Right.f (k + 1) a0) := by
 intro a0 k
 have ih0 := dims_Right.mono_l k
 unfold dims_Right.f
 repeat' first
   | (with_reducible exact ih0 _ _ _ _)
   | (with_reducible exact LeO.refl _)
   | (with_reducible exact LeO.none _)
   | (with_reducible refine LeO.ite ?_ ?_)
   | (with_reducible refine LeO.bind ?_ (fun _ => ?_))
   | exact ih0 _ _ _ _
   | exact LeO.none _
   | refine LeO.ite ?_ ?_
   | refine LeO.bind ?_ (fun _ => ?_)
def dims_Right.T6 : Bool × List (List Nat × List Nat) := (true, [([], []), ([0], [0]), ([1], [1]), ([2, 1], [2]), ([3], [3]), ([4, 3], [3, 4]), ([5, 3, 3], [3, 5]), ([6], [6]), ([6], [6]), ([8, 6], [6, 8]), ([7, 9, 6], [6, 7, 9]), ([10, 6], [6, 10]), ([11, 6], [6, 11]), ([6], [6]), ([13, 6], [6, 13]), ([12, 14, 6], [6, 12, 14]), ([6, 15, 3], [3, 6, 15]), ([3, 16], [3, 16])])
def dims_Right.B6 : List Nat := [0, 1, 3, 7, 15, 31, 63, 127, 127, 383, 1023, 2047, 4095, 127, 8319, 32767, 65535, 131071]
theorem dims_Right.tab6 : rtab .any (opsOf Tryd.f129 6) = dims_Right.T6 := by kernel_rfl
theorem dims_Right.bits6 : waitsOk dims_Right.T6.2 dims_Right.B6 = true := by kernel_rfl
set_option maxHeartbeats 8000000 in
set_option maxRecDepth 100000 in
theorem dims_Right.calls (k : Nat) (A0 : Option Addr) (c0 : Nat) (l0 : List (S213)) (r : Bool) (w : World) (hr0 : Kd.C k213 w A0 l0.length l0) (hc0 : l0.length ≤ c0) (h : dims_Right.f k l0 = some r) :
  Calls Tryd.prog 129 #[.slice A0 l0.length c0] w fun e w' => e = .returned (.bool r) ∧ Below w.heap.size w w' := by
 have hu213 := Tryd.underlying213
 have HR0 := Aside0.mk hr0
 have HC0 := Aside0.mk hc0
 clear hr0 hc0
 have HB := Aside0.mk (Below.refl w.heap.size w)
 have H : (if (l0.length : Int) > 6 then (some false) else (dims_Right.l0 k l0 l0 (l0.length : Int) 0)) = some r := h
 clear h
 by_cases c2 : (l0.length : Int) > 6
 ·rw [if_pos c2] at H
  have c2b0 : decide (6 < (l0.length : Int)) = true := decide_eq_true c2
  have c2b1 : decide (6 < l0.length) = true := decide_eq_true (by omega)
  clear c2
  obtain rfl := Option.some.inj H
  go_enter Tryd.func129, Tryd.ntmps129
  go_wp2
  go_ret
  exact ⟨by first | rfl | (simp [errW_none, errW_some] <;> rfl) | (simp [*, errW_none, errW_some] <;> rfl), by repeat (first | (with_reducible first | exact HB.out | apply below_alloc | apply pw_below_drewN | apply below_drew1) | exact HB.out)⟩
 ·rw [if_neg c2] at H
  have c2b0 : decide (6 < (l0.length : Int)) = false := decide_eq_false c2
  have c2b1 : decide (6 < l0.length) = false := decide_eq_false (by omega)
  clear c2
  have H' := Aside0.mk H
  clear H
  go_enter Tryd.func129, Tryd.ntmps129
  go_wp2
  go_loopg [10] k (fun kq v10 w' => ∃ (x10_1 : Int), v10 = .int .i64 x10_1 ∧ Aside0 (dims_Right.l0 kq l0 l0 (l0.length : Int) x10_1 = some r) ∧ Aside0 (kq ≤ k) ∧ Aside0 (Below w.heap.size w w'))
  case atStart => exact ⟨(0), (by first | rfl | (simp; done) | (simp [*]; done)), H', ⟨Nat.le_refl _⟩, ⟨by repeat (first | (with_reducible first | exact HB.out | apply below_alloc | apply pw_below_drewN | apply below_drew1) | exact HB.out)⟩⟩
  case round =>
   clear H'
   try clear c1
   try clear c2
   try clear c2b0
   try clear c2b1
   try clear p2
   obtain ⟨x10_1, rfl, HA, HK1, HB⟩ := hrel
   cases gk with
   | zero => exact absurd HA.out (by simp [dims_Right.l0])
   | succ k1 =>
    have H := HA.out
    clear HA
    simp only [dims_Right.l0] at H
    by_cases c3 : x10_1 < (l0.length : Int)
    ·rw [if_pos c3] at H
     have c3b0 : decide (x10_1 < (l0.length : Int)) = true := decide_eq_true c3
     clear c3
     by_cases c4 : 0 ≤ x10_1
     ·rw [if_pos c4] at H
      have c4b0 : decide (0 ≤ x10_1) = true := decide_eq_true c4
      clear c4
      by_cases c5 : x10_1 < (l0.length : Int)
      ·rw [if_pos c5] at H
       have c5b0 : decide (x10_1 < (l0.length : Int)) = true := decide_eq_true c5
       clear c5
       replace H := Option.bind_eq_some_iff.mp H
       obtain ⟨t131, A60, H⟩ := H
       try dsimp only at H
       have A6 := Aside0.mk A60
       clear A60
       by_cases c7 : t131 = true
       ·subst c7
        have H1 : (if x10_1 > 0 then (if 0 ≤ (wrap64 (x10_1 - 1)) then (if (wrap64 (x10_1 - 1)) < (l0.length : Int) then (if ((Op.bytesLess (((rd_T213 l0 (wrap64 (x10_1 - 1))).f0).toList) (((rd_T213 l0 x10_1).f0).toList)) = true) then (dims_Right.l0 k1 l0 l0 (l0.length : Int) (wrap64 (x10_1 + 1))) else (some false)) else (none)) else (none)) else (dims_Right.l0 k1 l0 l0 (l0.length : Int) (wrap64 (x10_1 + 1)))) = some r := by rw [if_pos rfl] at H; exact H
        clear H
        have H := H1
        clear H1
        by_cases c8 : x10_1 > 0
        ·rw [if_pos c8] at H
         have c8b0 : decide (0 < x10_1) = true := decide_eq_true c8
         clear c8
         obtain ⟨ji9, hji9⟩ : ∃ j_ : Int, (wrap64 (x10_1 - 1)) = j_ := ⟨_, rfl⟩
         replace H : (if 0 ≤ (ji9) then (if (ji9) < (l0.length : Int) then (if ((Op.bytesLess (((rd_T213 l0 (ji9)).f0).toList) (((rd_T213 l0 x10_1).f0).toList)) = true) then (dims_Right.l0 k1 l0 l0 (l0.length : Int) (wrap64 (x10_1 + 1))) else (some false)) else (none)) else (none)) = some r := by first | (rw [hji9] at H; exact H) | (simp only [hji9] at H ⊢; exact H)
         (try rw [hji9] at A6)
         have hji9w : (IntKind.i64.wrap (x10_1 - 1)) = ji9 := (i64_w _).trans hji9
         by_cases c10 : 0 ≤ (ji9)
         ·rw [if_pos c10] at H
          have c10b0 : decide (0 ≤ (ji9)) = true := decide_eq_true c10
          clear c10
          by_cases c11 : (ji9) < (l0.length : Int)
          ·rw [if_pos c11] at H
           have c11b0 : decide ((ji9) < (l0.length : Int)) = true := decide_eq_true c11
           clear c11
           by_cases c12 : ((Op.bytesLess (((rd_T213 l0 (ji9)).f0).toList) (((rd_T213 l0 x10_1).f0).toList)) = true)
           ·rw [if_pos c12] at H
            have c12b0 : (Op.bytesLess (((rd_T213 l0 (ji9)).f0).toList) (((rd_T213 l0 x10_1).f0).toList)) = true := c12
            clear c12
            have H' := Aside0.mk H
            clear H
            have p129 : 0 ≤ (x10_1 : Int) := of_decide_eq_true (by first | (with_reducible assumption) | assumption)
            have q129 : x10_1 < (l0.length : Int) := of_decide_eq_true (by first | (with_reducible assumption) | assumption)
            obtain ⟨ad129, e129, hx129_0, hx129_1⟩ := at_T213 HR0.out x10_1 p129 q129
            cases e129
            replace hx129_0 := (HB.out.cell (World.block_lt_of_cell? w _ hx129_0)).trans hx129_0
            replace hx129_1 := (HB.out.cell (World.block_lt_of_cell? w _ hx129_1)).trans hx129_1
            replace p129 := eq_true p129
            replace q129 := eq_true q129
            try go_wp2_with (first | ((with_reducible refine gate_dst (N := 4) rfl ?_); refine box_event ?hg (N := 4) ?hd (cs := #[.string (⟨#[]⟩ : ByteArray), .string (⟨#[]⟩ : ByteArray)]) (t := 213) ?hr ?_; (case hd => rfl); (case hg => rfl); (case hr => first | (go_simp; done) | (go_simp; rfl)); intro gb130 hg w13 hbox hb; have n0_ := Aside0.mk (below_step (by repeat (first | (with_reducible first | exact HB.out | apply below_alloc | apply pw_below_drewN | apply below_drew1) | exact HB.out)) hb); have n1_ := Aside0.mk (hbox); have n2_ := Aside0.mk ((by rw [hg]; exact (below_size (by repeat (first | (with_reducible first | exact HB.out | apply below_alloc | apply pw_below_drewN | apply below_drew1) | exact HB.out))) : w.heap.size ≤ gb130)); have n3_ := Aside0.mk ((by rw [hg]; exact (below_size (by repeat (first | (with_reducible first | exact HB.out | apply below_alloc | apply pw_below_drewN | apply below_drew1) | exact HB.out))) : w.heap.size ≤ gb130)); clear HB; have HB := n0_; have BK130 := n1_; have GW130 := n2_; have GE130 := n3_; clear n0_ n1_ n2_ n3_; clear hb hbox hg; have hcz14_0 : w13.cell? ⟨gb130, 0, none⟩ = some (.string (⟨#[]⟩ : ByteArray)) := (blk_cell BK130.out 0).trans rfl; have hcz14_1 : w13.cell? ⟨gb130, 1, none⟩ = some (.string (⟨#[]⟩ : ByteArray)) := (blk_cell BK130.out 1).trans rfl; have hfz14_0 := blk_frozen BK130.out 0; have hfz14_1 := blk_frozen BK130.out 1))
            have n0_ : Aside0 (((w13.setCell ⟨gb130, 0, none⟩ (.string ((rd_T213 l0 x10_1).f0))).setCell ⟨gb130, 1, none⟩ (.string ((rd_T213 l0 x10_1).f1))).heap[gb130]? = some (.cells #[.string ((rd_T213 l0 x10_1).f0), .string ((rd_T213 l0 x10_1).f1)] 213 (0, 0))) := ⟨by (with_reducible repeat (first | refine blk_drewN ?_ _ | refine blk_drew ?_ | refine blk_alloc ?_ _)); refine blk_put (cs := #[.string ((rd_T213 l0 x10_1).f0), .string (⟨#[]⟩ : ByteArray)]) ?_ 1 _ rfl; (with_reducible repeat (first | refine blk_drewN ?_ _ | refine blk_drew ?_ | refine blk_alloc ?_ _)); refine blk_put (cs := #[.string (⟨#[]⟩ : ByteArray), .string (⟨#[]⟩ : ByteArray)]) ?_ 0 _ rfl; (with_reducible repeat (first | refine blk_drewN ?_ _ | refine blk_drew ?_ | refine blk_alloc ?_ _)); exact BK130.out⟩
            have n1_ : Aside0 (Below w.heap.size w ((w13.setCell ⟨gb130, 0, none⟩ (.string ((rd_T213 l0 x10_1).f0))).setCell ⟨gb130, 1, none⟩ (.string ((rd_T213 l0 x10_1).f1)))) := ⟨by repeat (first | (with_reducible first | exact HB.out | apply below_alloc | apply pw_below_drewN | apply below_drew1 | refine below_set ?_ GE130.out) | exact HB.out)⟩
            (try clear BK130)
            (try clear HB)
            generalize ((w13.setCell ⟨gb130, 0, none⟩ (.string ((rd_T213 l0 x10_1).f0))).setCell ⟨gb130, 1, none⟩ (.string ((rd_T213 l0 x10_1).f1))) = w15 at n0_ n1_ ⊢
            have BK130 := n0_
            have HB := n1_
            clear n0_ n1_
            have n0_ := Aside0.mk (blk_drew BK130.out)
            have n1_ := Aside0.mk (below_drew1 HB.out)
            clear BK130
            clear HB
            have BK130 := n0_
            have HB := n1_
            clear n0_ n1_
            have p132 : 0 ≤ ((ji9) : Int) := of_decide_eq_true (by first | (with_reducible assumption) | assumption)
            have q132 : (ji9) < (l0.length : Int) := of_decide_eq_true (by first | (with_reducible assumption) | assumption)
            obtain ⟨ad132, e132, hx132_0, hx132_1⟩ := at_T213 HR0.out (ji9) p132 q132
            have hw132_1 := hx132_1
            have hw132_0 := hx132_0
            obtain rfl : ad129 = ad132 := (by injection e132)
            replace hx132_0 := (HB.out.cell (World.block_lt_of_cell? w _ hx132_0)).trans hx132_0
            replace hx132_1 := (HB.out.cell (World.block_lt_of_cell? w _ hx132_1)).trans hx132_1
            replace p132 := eq_true p132
            replace q132 := eq_true q132
            refine start_ (n := 18) (S := fun w' => w'.cell? ⟨gb130, 0, none⟩ = some (.string ((rd_T213 l0 x10_1).f0)) ∧ w'.cell? ⟨gb130, 1, none⟩ = some (.string ((rd_T213 l0 x10_1).f1)) ∧ w'.cell? (ad129.add (((ji9)).toNat * 2)) = some (.string ((rd_T213 l0 (ji9)).f0)) ∧ w'.cell? ⟨(ad129.add (((ji9)).toNat * 2)).block, (ad129.add (((ji9)).toNat * 2)).off + 1, none⟩ = some (.string ((rd_T213 l0 (ji9)).f1))) (ds := []) #[false, false, false, false, false, false, false, false, false, false, false, false, false, false, false, false, false, false] (by kernel_rfl) rfl rfl ⟨(blk_cell BK130.out 0).trans rfl, (blk_cell BK130.out 1).trans rfl, ((HB.out.cell (World.block_lt_of_cell? w _ hw132_0)).trans hw132_0), ((HB.out.cell (World.block_lt_of_cell? w _ hw132_1)).trans hw132_1)⟩ (fun hHeld => ?_); refine with_tabW dims_Right.tab6 dims_Right.bits6 (fun HT_ HW_ => ?_)
            generalize w15.drew = w16 at BK130 HB hx132_0 hx132_1 hHeld ⊢
            refine take_ (i := 0) (N := some 15) (v := ?_) (a' := ?_) #[true, false, false, false, false, false, false, false, false, false, false, false, false, false, false, false, false, false] rfl rfl (take_ofW HT_.out HW_.out (by kernel_rfl)) (fun _ _ _ h => h) (Or.inl ⟨by rfl, ?_⟩) hHeld ?_ ?_
            rotate_left
            ·rintro w' ⟨s0, s1, s2, s3⟩
             go_simp
             with_reducible rfl
            rotate_left
            ·simp only [Act.put, List.setIfInBounds_toArray, List.set_cons_zero, List.set_cons_succ, i64_w, i32_w]
             rfl
            refine one_ (i := 1) (N := some 16) #[true, true, false, false, false, false, false, false, false, false, false, false, false, false, false, false, false, false] rfl rfl (one_of HT_.out (by kernel_rfl)) (by decide) (fun K hK => ?_)
            refine goes_ Tryd.func158 (by kernel_rfl) rfl #[.agg #[.string ((rd_T213 l0 x10_1).f0), .string ((rd_T213 l0 x10_1).f1)]] (by rfl) rfl rfl (by (try simp only [List.map_toArray, List.map_cons, List.map_nil]); first | done | rfl | (simp only [List.length_drop, List.length_take]; rfl)) ?_
            with_reducible refine (dims_codes.calls ((rd_T213 l0 x10_1).f0) ((rd_T213 l0 x10_1).f1) true _ A6.out).mono ?_
            rintro e w17 ⟨rfl, hb⟩
            refine ⟨_, rfl, ?_⟩
            have n0_ := Aside0.mk (blk_below (g := gb130) (o := .cells #[.string ((rd_T213 l0 x10_1).f0), .string ((rd_T213 l0 x10_1).f1)] 213 (0, 0)) (by (with_reducible repeat (first | refine blk_drewN ?_ _ | refine blk_drew ?_ | refine blk_alloc ?_ _)); exact BK130.out) hb)
            have n1_ := Aside0.mk (below_step (by repeat (first | (with_reducible first | exact HB.out | apply below_alloc | apply pw_below_drewN | apply below_drew1 | refine below_set ?_ GE130.out) | exact HB.out)) hb)
            clear BK130
            clear HB
            have BK130 := n0_
            have HB := n1_
            clear n0_ n1_
            (try clear hb)
            (try clear hb2)
            (try clear hk)
            (try clear hi)
            refine hK.out _ _ ⟨(blk_cell BK130.out 0).trans rfl, (blk_cell BK130.out 1).trans rfl, ((HB.out.cell (World.block_lt_of_cell? w _ hw132_0)).trans hw132_0), ((HB.out.cell (World.block_lt_of_cell? w _ hw132_1)).trans hw132_1)⟩ (fun hHeld => ?_)
            clear hK K
            refine norm_ (a' := ?_) ?_ ?_
            rotate_left
            ·show Act.put _ (some 16) _ = _
             simp only [Act.put, List.setIfInBounds_toArray, List.set_cons_zero, List.set_cons_succ, i64_w, i32_w]
             rfl
            refine pure_ (i := 2) (N := some 17) (v := ?_) (a' := ?_) #[true, true, true, false, false, false, false, false, false, false, false, false, false, false, false, false, false, false] rfl rfl (any_of HT_.out (by kernel_rfl)) (fun _ _ _ h => h) (Or.inl ⟨by rfl, ?_⟩) ?_ ?_
            rotate_left
            ·intro w'
             go_simp
             with_reducible rfl
            rotate_left
            ·simp only [Act.put, List.setIfInBounds_toArray, List.set_cons_zero, List.set_cons_succ, i64_w, i32_w]
             rfl
            refine pure_ (i := 3) (N := some 18) (v := ?_) (a' := ?_) #[true, true, true, true, false, false, false, false, false, false, false, false, false, false, false, false, false, false] rfl rfl (any_of HT_.out (by kernel_rfl)) (fun _ _ _ h => h) (Or.inl ⟨by rfl, ?_⟩) ?_ ?_
            rotate_left
            ·intro w'
             go_simp
             with_reducible rfl
            rotate_left
            ·simp only [Act.put, List.setIfInBounds_toArray, List.set_cons_zero, List.set_cons_succ, i64_w, i32_w]
             rfl
            refine pure_ (i := 4) (N := some 19) (v := ?_) (a' := ?_) #[true, true, true, true, true, false, false, false, false, false, false, false, false, false, false, false, false, false] rfl rfl (any_of HT_.out (by kernel_rfl)) (fun _ _ _ h => h) (Or.inl ⟨by rfl, ?_⟩) ?_ ?_
            rotate_left
            ·intro w'
             go_simp
             with_reducible rfl
            rotate_left
            ·simp only [Act.put, List.setIfInBounds_toArray, List.set_cons_zero, List.set_cons_succ, i64_w, i32_w]
             rfl
            refine pure_ (i := 5) (N := some 20) (v := ?_) (a' := ?_) #[true, true, true, true, true, true, false, false, false, false, false, false, false, false, false, false, false, false] rfl rfl (any_of HT_.out (by kernel_rfl)) (fun _ _ _ h => h) (Or.inl ⟨by rfl, ?_⟩) ?_ ?_
            rotate_left
            ·intro w'
             go_simp
             with_reducible rfl
            rotate_left
            ·simp only [Act.put, List.setIfInBounds_toArray, List.set_cons_zero, List.set_cons_succ, i64_w, i32_w]
             rfl
            refine pure_ (i := 6) (N := some 21) (v := ?_) (a' := ?_) #[true, true, true, true, true, true, true, false, false, false, false, false, false, false, false, false, false, false] rfl rfl (any_of HT_.out (by kernel_rfl)) (fun _ _ _ h => h) (Or.inl ⟨by rfl, ?_⟩) ?_ ?_
            rotate_left
            ·intro w'
             go_simp
             with_reducible rfl
            rotate_left
            ·simp only [Act.put, List.setIfInBounds_toArray, List.set_cons_zero, List.set_cons_succ, i64_w, i32_w]
             rfl
            refine pure_ (i := 7) (N := some 22) (v := ?_) (a' := ?_) #[true, true, true, true, true, true, true, true, false, false, false, false, false, false, false, false, false, false] rfl rfl (any_of HT_.out (by kernel_rfl)) (fun _ _ _ h => h) (Or.inl ⟨by rfl, ?_⟩) ?_ ?_
            rotate_left
            ·intro w'
             go_simp
             with_reducible rfl
            rotate_left
            ·simp only [Act.put, List.setIfInBounds_toArray, List.set_cons_zero, List.set_cons_succ, i64_w, i32_w]
             rfl
            refine pure_ (i := 8) (N := some 23) (v := ?_) (a' := ?_) #[true, true, true, true, true, true, true, true, true, false, false, false, false, false, false, false, false, false] rfl rfl (any_of HT_.out (by kernel_rfl)) (fun _ _ _ h => h) (Or.inl ⟨by rfl, ?_⟩) ?_ ?_
            rotate_left
            ·intro w'
             go_simp
             with_reducible rfl
            rotate_left
            ·simp only [Act.put, List.setIfInBounds_toArray, List.set_cons_zero, List.set_cons_succ, i64_w, i32_w]
             rfl
            refine pure_ (i := 9) (N := some 24) (v := ?_) (a' := ?_) #[true, true, true, true, true, true, true, true, true, true, false, false, false, false, false, false, false, false] rfl rfl (any_of HT_.out (by kernel_rfl)) (fun _ _ _ h => h) (Or.inl ⟨by rfl, ?_⟩) ?_ ?_
            rotate_left
            ·intro w'
             go_simp
             with_reducible rfl
            rotate_left
            ·simp only [Act.put, List.setIfInBounds_toArray, List.set_cons_zero, List.set_cons_succ, i64_w, i32_w]
             rfl
            refine pure_ (i := 10) (N := some 25) (v := ?_) (a' := ?_) #[true, true, true, true, true, true, true, true, true, true, true, false, false, false, false, false, false, false] rfl rfl (any_of HT_.out (by kernel_rfl)) (fun _ _ _ h => h) (Or.inl ⟨by rfl, ?_⟩) ?_ ?_
            rotate_left
            ·intro w'
             go_simp
             with_reducible rfl
            rotate_left
            ·simp only [Act.put, List.setIfInBounds_toArray, List.set_cons_zero, List.set_cons_succ, i64_w, i32_w]
             rfl
            refine pure_ (i := 11) (N := some 26) (v := ?_) (a' := ?_) #[true, true, true, true, true, true, true, true, true, true, true, true, false, false, false, false, false, false] rfl rfl (any_of HT_.out (by kernel_rfl)) (fun _ _ _ h => h) (Or.inl ⟨by rfl, ?_⟩) ?_ ?_
            rotate_left
            ·intro w'
             go_simp
             with_reducible rfl
            rotate_left
            ·simp only [Act.put, List.setIfInBounds_toArray, List.set_cons_zero, List.set_cons_succ, i64_w, i32_w]
             rfl
            refine pure_ (i := 13) (N := some 28) (v := ?_) (a' := ?_) #[true, true, true, true, true, true, true, true, true, true, true, true, false, true, false, false, false, false] rfl rfl (any_of HT_.out (by kernel_rfl)) (fun _ _ _ h => h) (Or.inl ⟨by rfl, ?_⟩) ?_ ?_
            rotate_left
            ·intro w'
             go_simp
             with_reducible rfl
            rotate_left
            ·simp only [Act.put, List.setIfInBounds_toArray, List.set_cons_zero, List.set_cons_succ, i64_w, i32_w]
             rfl
            refine take_ (i := 12) (N := some 27) (v := ?_) (a' := ?_) #[true, true, true, true, true, true, true, true, true, true, true, true, true, true, false, false, false, false] rfl rfl (take_ofW HT_.out HW_.out (by kernel_rfl)) (fun _ _ _ h => h) (Or.inl ⟨by rfl, ?_⟩) hHeld ?_ ?_
            rotate_left
            ·rintro w' ⟨s0, s1, s2, s3⟩
             go_simp
             with_reducible rfl
            rotate_left
            ·simp only [Act.put, List.setIfInBounds_toArray, List.set_cons_zero, List.set_cons_succ, i64_w, i32_w]
             rfl
            refine take_ (i := 14) (N := some 29) (v := ?_) (a' := ?_) #[true, true, true, true, true, true, true, true, true, true, true, true, true, true, true, false, false, false] rfl rfl (take_ofW HT_.out HW_.out (by kernel_rfl)) (fun _ _ _ h => h) (Or.inl ⟨by rfl, ?_⟩) hHeld ?_ ?_
            rotate_left
            ·rintro w' ⟨s0, s1, s2, s3⟩
             go_simp
             with_reducible rfl
            rotate_left
            ·simp only [Act.put, List.setIfInBounds_toArray, List.set_cons_zero, List.set_cons_succ, i64_w, i32_w]
             rfl
            refine pure_ (i := 15) (N := some 30) (v := ?_) (a' := ?_) #[true, true, true, true, true, true, true, true, true, true, true, true, true, true, true, true, false, false] rfl rfl (any_of HT_.out (by kernel_rfl)) (fun _ _ _ h => h) (Or.inl ⟨by rfl, ?_⟩) ?_ ?_
            rotate_left
            ·intro w'
             go_simp
             with_reducible rfl
            rotate_left
            ·simp only [Act.put, List.setIfInBounds_toArray, List.set_cons_zero, List.set_cons_succ, i64_w, i32_w]
             rfl
            refine pure_ (i := 16) (N := some 31) (v := ?_) (a' := ?_) #[true, true, true, true, true, true, true, true, true, true, true, true, true, true, true, true, true, false] rfl rfl (any_of HT_.out (by kernel_rfl)) (fun _ _ _ h => h) (Or.inl ⟨by rfl, ?_⟩) ?_ ?_
            rotate_left
            ·intro w'
             go_simp
             with_reducible rfl
            rotate_left
            ·simp only [Act.put, List.setIfInBounds_toArray, List.set_cons_zero, List.set_cons_succ, i64_w, i32_w]
             rfl
            refine pure_ (i := 17) (N := some 32) (v := ?_) (a' := ?_) #[true, true, true, true, true, true, true, true, true, true, true, true, true, true, true, true, true, true] rfl rfl (any_of HT_.out (by kernel_rfl)) (fun _ _ _ h => h) (Or.inl ⟨by rfl, ?_⟩) ?_ ?_
            rotate_left
            ·intro w'
             go_simp
             with_reducible rfl
            rotate_left
            ·simp only [Act.put, List.setIfInBounds_toArray, List.set_cons_zero, List.set_cons_succ, i64_w, i32_w]
             rfl
            refine done_ (done_of HT_.out (by kernel_rfl)) ?_
            try go_wp2
            go_roundg k1
            case measure => have := HK1.out; omega
            case rel => exact ⟨(wrap64 (x10_1 + 1)), (by first | rfl | (simp; done) | (simp [*]; done)), H', ⟨by have := HK1.out; omega⟩, ⟨by repeat (first | (with_reducible first | exact HB.out | apply below_alloc | apply pw_below_drewN | apply below_drew1 | refine below_set ?_ GE130.out) | exact HB.out)⟩⟩
           ·rw [if_neg c12] at H
            have c12b0 : (Op.bytesLess (((rd_T213 l0 (ji9)).f0).toList) (((rd_T213 l0 x10_1).f0).toList)) = false := by simpa using c12
            clear c12
            obtain rfl := Option.some.inj H
            have p129 : 0 ≤ (x10_1 : Int) := of_decide_eq_true (by first | (with_reducible assumption) | assumption)
            have q129 : x10_1 < (l0.length : Int) := of_decide_eq_true (by first | (with_reducible assumption) | assumption)
            obtain ⟨ad129, e129, hx129_0, hx129_1⟩ := at_T213 HR0.out x10_1 p129 q129
            cases e129
            replace hx129_0 := (HB.out.cell (World.block_lt_of_cell? w _ hx129_0)).trans hx129_0
            replace hx129_1 := (HB.out.cell (World.block_lt_of_cell? w _ hx129_1)).trans hx129_1
            replace p129 := eq_true p129
            replace q129 := eq_true q129
            try go_wp2_with (first | ((with_reducible refine gate_dst (N := 4) rfl ?_); refine box_event ?hg (N := 4) ?hd (cs := #[.string (⟨#[]⟩ : ByteArray), .string (⟨#[]⟩ : ByteArray)]) (t := 213) ?hr ?_; (case hd => rfl); (case hg => rfl); (case hr => first | (go_simp; done) | (go_simp; rfl)); intro gb130 hg w18 hbox hb; have n0_ := Aside0.mk (below_step (by repeat (first | (with_reducible first | exact HB.out | apply below_alloc | apply pw_below_drewN | apply below_drew1) | exact HB.out)) hb); have n1_ := Aside0.mk (hbox); have n2_ := Aside0.mk ((by rw [hg]; exact (below_size (by repeat (first | (with_reducible first | exact HB.out | apply below_alloc | apply pw_below_drewN | apply below_drew1) | exact HB.out))) : w.heap.size ≤ gb130)); have n3_ := Aside0.mk ((by rw [hg]; exact (below_size (by repeat (first | (with_reducible first | exact HB.out | apply below_alloc | apply pw_below_drewN | apply below_drew1) | exact HB.out))) : w.heap.size ≤ gb130)); clear HB; have HB := n0_; have BK130 := n1_; have GW130 := n2_; have GE130 := n3_; clear n0_ n1_ n2_ n3_; clear hb hbox hg; have hcz19_0 : w18.cell? ⟨gb130, 0, none⟩ = some (.string (⟨#[]⟩ : ByteArray)) := (blk_cell BK130.out 0).trans rfl; have hcz19_1 : w18.cell? ⟨gb130, 1, none⟩ = some (.string (⟨#[]⟩ : ByteArray)) := (blk_cell BK130.out 1).trans rfl; have hfz19_0 := blk_frozen BK130.out 0; have hfz19_1 := blk_frozen BK130.out 1))
            have n0_ : Aside0 (((w18.setCell ⟨gb130, 0, none⟩ (.string ((rd_T213 l0 x10_1).f0))).setCell ⟨gb130, 1, none⟩ (.string ((rd_T213 l0 x10_1).f1))).heap[gb130]? = some (.cells #[.string ((rd_T213 l0 x10_1).f0), .string ((rd_T213 l0 x10_1).f1)] 213 (0, 0))) := ⟨by (with_reducible repeat (first | refine blk_drewN ?_ _ | refine blk_drew ?_ | refine blk_alloc ?_ _)); refine blk_put (cs := #[.string ((rd_T213 l0 x10_1).f0), .string (⟨#[]⟩ : ByteArray)]) ?_ 1 _ rfl; (with_reducible repeat (first | refine blk_drewN ?_ _ | refine blk_drew ?_ | refine blk_alloc ?_ _)); refine blk_put (cs := #[.string (⟨#[]⟩ : ByteArray), .string (⟨#[]⟩ : ByteArray)]) ?_ 0 _ rfl; (with_reducible repeat (first | refine blk_drewN ?_ _ | refine blk_drew ?_ | refine blk_alloc ?_ _)); exact BK130.out⟩
            have n1_ : Aside0 (Below w.heap.size w ((w18.setCell ⟨gb130, 0, none⟩ (.string ((rd_T213 l0 x10_1).f0))).setCell ⟨gb130, 1, none⟩ (.string ((rd_T213 l0 x10_1).f1)))) := ⟨by repeat (first | (with_reducible first | exact HB.out | apply below_alloc | apply pw_below_drewN | apply below_drew1 | refine below_set ?_ GE130.out) | exact HB.out)⟩
            (try clear BK130)
            (try clear HB)
            generalize ((w18.setCell ⟨gb130, 0, none⟩ (.string ((rd_T213 l0 x10_1).f0))).setCell ⟨gb130, 1, none⟩ (.string ((rd_T213 l0 x10_1).f1))) = w20 at n0_ n1_ ⊢
            have BK130 := n0_
            have HB := n1_
            clear n0_ n1_
            have n0_ := Aside0.mk (blk_drew BK130.out)
            have n1_ := Aside0.mk (below_drew1 HB.out)
            clear BK130
            clear HB
            have BK130 := n0_
            have HB := n1_
            clear n0_ n1_
            have p132 : 0 ≤ ((ji9) : Int) := of_decide_eq_true (by first | (with_reducible assumption) | assumption)
            have q132 : (ji9) < (l0.length : Int) := of_decide_eq_true (by first | (with_reducible assumption) | assumption)
            obtain ⟨ad132, e132, hx132_0, hx132_1⟩ := at_T213 HR0.out (ji9) p132 q132
            have hw132_1 := hx132_1
            have hw132_0 := hx132_0
            obtain rfl : ad129 = ad132 := (by injection e132)
            replace hx132_0 := (HB.out.cell (World.block_lt_of_cell? w _ hx132_0)).trans hx132_0
            replace hx132_1 := (HB.out.cell (World.block_lt_of_cell? w _ hx132_1)).trans hx132_1
            replace p132 := eq_true p132
            replace q132 := eq_true q132
            refine start_ (n := 18) (S := fun w' => w'.cell? ⟨gb130, 0, none⟩ = some (.string ((rd_T213 l0 x10_1).f0)) ∧ w'.cell? ⟨gb130, 1, none⟩ = some (.string ((rd_T213 l0 x10_1).f1)) ∧ w'.cell? (ad129.add (((ji9)).toNat * 2)) = some (.string ((rd_T213 l0 (ji9)).f0)) ∧ w'.cell? ⟨(ad129.add (((ji9)).toNat * 2)).block, (ad129.add (((ji9)).toNat * 2)).off + 1, none⟩ = some (.string ((rd_T213 l0 (ji9)).f1))) (ds := []) #[false, false, false, false, false, false, false, false, false, false, false, false, false, false, false, false, false, false] (by kernel_rfl) rfl rfl ⟨(blk_cell BK130.out 0).trans rfl, (blk_cell BK130.out 1).trans rfl, ((HB.out.cell (World.block_lt_of_cell? w _ hw132_0)).trans hw132_0), ((HB.out.cell (World.block_lt_of_cell? w _ hw132_1)).trans hw132_1)⟩ (fun hHeld => ?_); refine with_tabW dims_Right.tab6 dims_Right.bits6 (fun HT_ HW_ => ?_)
            generalize w20.drew = w21 at BK130 HB hx132_0 hx132_1 hHeld ⊢
            refine take_ (i := 0) (N := some 15) (v := ?_) (a' := ?_) #[true, false, false, false, false, false, false, false, false, false, false, false, false, false, false, false, false, false] rfl rfl (take_ofW HT_.out HW_.out (by kernel_rfl)) (fun _ _ _ h => h) (Or.inl ⟨by rfl, ?_⟩) hHeld ?_ ?_
            rotate_left
            ·rintro w' ⟨s0, s1, s2, s3⟩
             go_simp
             with_reducible rfl
            rotate_left
            ·simp only [Act.put, List.setIfInBounds_toArray, List.set_cons_zero, List.set_cons_succ, i64_w, i32_w]
             rfl
            refine one_ (i := 1) (N := some 16) #[true, true, false, false, false, false, false, false, false, false, false, false, false, false, false, false, false, false] rfl rfl (one_of HT_.out (by kernel_rfl)) (by decide) (fun K hK => ?_)
            refine goes_ Tryd.func158 (by kernel_rfl) rfl #[.agg #[.string ((rd_T213 l0 x10_1).f0), .string ((rd_T213 l0 x10_1).f1)]] (by rfl) rfl rfl (by (try simp only [List.map_toArray, List.map_cons, List.map_nil]); first | done | rfl | (simp only [List.length_drop, List.length_take]; rfl)) ?_
            with_reducible refine (dims_codes.calls ((rd_T213 l0 x10_1).f0) ((rd_T213 l0 x10_1).f1) true _ A6.out).mono ?_
            rintro e w22 ⟨rfl, hb⟩
            refine ⟨_, rfl, ?_⟩
            have n0_ := Aside0.mk (blk_below (g := gb130) (o := .cells #[.string ((rd_T213 l0 x10_1).f0), .string ((rd_T213 l0 x10_1).f1)] 213 (0, 0)) (by (with_reducible repeat (first | refine blk_drewN ?_ _ | refine blk_drew ?_ | refine blk_alloc ?_ _)); exact BK130.out) hb)
            have n1_ := Aside0.mk (below_step (by repeat (first | (with_reducible first | exact HB.out | apply below_alloc | apply pw_below_drewN | apply below_drew1 | refine below_set ?_ GE130.out) | exact HB.out)) hb)
            clear BK130
            clear HB
            have BK130 := n0_
            have HB := n1_
            clear n0_ n1_
            (try clear hb)
            (try clear hb2)
            (try clear hk)
            (try clear hi)
            refine hK.out _ _ ⟨(blk_cell BK130.out 0).trans rfl, (blk_cell BK130.out 1).trans rfl, ((HB.out.cell (World.block_lt_of_cell? w _ hw132_0)).trans hw132_0), ((HB.out.cell (World.block_lt_of_cell? w _ hw132_1)).trans hw132_1)⟩ (fun hHeld => ?_)
            clear hK K
            refine norm_ (a' := ?_) ?_ ?_
            rotate_left
            ·show Act.put _ (some 16) _ = _
             simp only [Act.put, List.setIfInBounds_toArray, List.set_cons_zero, List.set_cons_succ, i64_w, i32_w]
             rfl
            refine pure_ (i := 2) (N := some 17) (v := ?_) (a' := ?_) #[true, true, true, false, false, false, false, false, false, false, false, false, false, false, false, false, false, false] rfl rfl (any_of HT_.out (by kernel_rfl)) (fun _ _ _ h => h) (Or.inl ⟨by rfl, ?_⟩) ?_ ?_
            rotate_left
            ·intro w'
             go_simp
             with_reducible rfl
            rotate_left
            ·simp only [Act.put, List.setIfInBounds_toArray, List.set_cons_zero, List.set_cons_succ, i64_w, i32_w]
             rfl
            refine pure_ (i := 3) (N := some 18) (v := ?_) (a' := ?_) #[true, true, true, true, false, false, false, false, false, false, false, false, false, false, false, false, false, false] rfl rfl (any_of HT_.out (by kernel_rfl)) (fun _ _ _ h => h) (Or.inl ⟨by rfl, ?_⟩) ?_ ?_
            rotate_left
            ·intro w'
             go_simp
             with_reducible rfl
            rotate_left
            ·simp only [Act.put, List.setIfInBounds_toArray, List.set_cons_zero, List.set_cons_succ, i64_w, i32_w]
             rfl
            refine pure_ (i := 4) (N := some 19) (v := ?_) (a' := ?_) #[true, true, true, true, true, false, false, false, false, false, false, false, false, false, false, false, false, false] rfl rfl (any_of HT_.out (by kernel_rfl)) (fun _ _ _ h => h) (Or.inl ⟨by rfl, ?_⟩) ?_ ?_
            rotate_left
            ·intro w'
             go_simp
             with_reducible rfl
            rotate_left
            ·simp only [Act.put, List.setIfInBounds_toArray, List.set_cons_zero, List.set_cons_succ, i64_w, i32_w]
             rfl
            refine pure_ (i := 5) (N := some 20) (v := ?_) (a' := ?_) #[true, true, true, true, true, true, false, false, false, false, false, false, false, false, false, false, false, false] rfl rfl (any_of HT_.out (by kernel_rfl)) (fun _ _ _ h => h) (Or.inl ⟨by rfl, ?_⟩) ?_ ?_
            rotate_left
            ·intro w'
             go_simp
             with_reducible rfl
            rotate_left
            ·simp only [Act.put, List.setIfInBounds_toArray, List.set_cons_zero, List.set_cons_succ, i64_w, i32_w]
             rfl
            refine pure_ (i := 6) (N := some 21) (v := ?_) (a' := ?_) #[true, true, true, true, true, true, true, false, false, false, false, false, false, false, false, false, false, false] rfl rfl (any_of HT_.out (by kernel_rfl)) (fun _ _ _ h => h) (Or.inl ⟨by rfl, ?_⟩) ?_ ?_
            rotate_left
            ·intro w'
             go_simp
             with_reducible rfl
            rotate_left
            ·simp only [Act.put, List.setIfInBounds_toArray, List.set_cons_zero, List.set_cons_succ, i64_w, i32_w]
             rfl
            refine pure_ (i := 7) (N := some 22) (v := ?_) (a' := ?_) #[true, true, true, true, true, true, true, true, false, false, false, false, false, false, false, false, false, false] rfl rfl (any_of HT_.out (by kernel_rfl)) (fun _ _ _ h => h) (Or.inl ⟨by rfl, ?_⟩) ?_ ?_
            rotate_left
            ·intro w'
             go_simp
             with_reducible rfl
            rotate_left
            ·simp only [Act.put, List.setIfInBounds_toArray, List.set_cons_zero, List.set_cons_succ, i64_w, i32_w]
             rfl
            refine pure_ (i := 8) (N := some 23) (v := ?_) (a' := ?_) #[true, true, true, true, true, true, true, true, true, false, false, false, false, false, false, false, false, false] rfl rfl (any_of HT_.out (by kernel_rfl)) (fun _ _ _ h => h) (Or.inl ⟨by rfl, ?_⟩) ?_ ?_
            rotate_left
            ·intro w'
             go_simp
             with_reducible rfl
            rotate_left
            ·simp only [Act.put, List.setIfInBounds_toArray, List.set_cons_zero, List.set_cons_succ, i64_w, i32_w]
             rfl
            refine pure_ (i := 9) (N := some 24) (v := ?_) (a' := ?_) #[true, true, true, true, true, true, true, true, true, true, false, false, false, false, false, false, false, false] rfl rfl (any_of HT_.out (by kernel_rfl)) (fun _ _ _ h => h) (Or.inl ⟨by rfl, ?_⟩) ?_ ?_
            rotate_left
            ·intro w'
             go_simp
             with_reducible rfl
            rotate_left
            ·simp only [Act.put, List.setIfInBounds_toArray, List.set_cons_zero, List.set_cons_succ, i64_w, i32_w]
             rfl
            refine pure_ (i := 10) (N := some 25) (v := ?_) (a' := ?_) #[true, true, true, true, true, true, true, true, true, true, true, false, false, false, false, false, false, false] rfl rfl (any_of HT_.out (by kernel_rfl)) (fun _ _ _ h => h) (Or.inl ⟨by rfl, ?_⟩) ?_ ?_
            rotate_left
            ·intro w'
             go_simp
             with_reducible rfl
            rotate_left
            ·simp only [Act.put, List.setIfInBounds_toArray, List.set_cons_zero, List.set_cons_succ, i64_w, i32_w]
             rfl
            refine pure_ (i := 11) (N := some 26) (v := ?_) (a' := ?_) #[true, true, true, true, true, true, true, true, true, true, true, true, false, false, false, false, false, false] rfl rfl (any_of HT_.out (by kernel_rfl)) (fun _ _ _ h => h) (Or.inl ⟨by rfl, ?_⟩) ?_ ?_
            rotate_left
            ·intro w'
             go_simp
             with_reducible rfl
            rotate_left
            ·simp only [Act.put, List.setIfInBounds_toArray, List.set_cons_zero, List.set_cons_succ, i64_w, i32_w]
             rfl
            refine pure_ (i := 13) (N := some 28) (v := ?_) (a' := ?_) #[true, true, true, true, true, true, true, true, true, true, true, true, false, true, false, false, false, false] rfl rfl (any_of HT_.out (by kernel_rfl)) (fun _ _ _ h => h) (Or.inl ⟨by rfl, ?_⟩) ?_ ?_
            rotate_left
            ·intro w'
             go_simp
             with_reducible rfl
            rotate_left
            ·simp only [Act.put, List.setIfInBounds_toArray, List.set_cons_zero, List.set_cons_succ, i64_w, i32_w]
             rfl
            refine take_ (i := 12) (N := some 27) (v := ?_) (a' := ?_) #[true, true, true, true, true, true, true, true, true, true, true, true, true, true, false, false, false, false] rfl rfl (take_ofW HT_.out HW_.out (by kernel_rfl)) (fun _ _ _ h => h) (Or.inl ⟨by rfl, ?_⟩) hHeld ?_ ?_
            rotate_left
            ·rintro w' ⟨s0, s1, s2, s3⟩
             go_simp
             with_reducible rfl
            rotate_left
            ·simp only [Act.put, List.setIfInBounds_toArray, List.set_cons_zero, List.set_cons_succ, i64_w, i32_w]
             rfl
            refine take_ (i := 14) (N := some 29) (v := ?_) (a' := ?_) #[true, true, true, true, true, true, true, true, true, true, true, true, true, true, true, false, false, false] rfl rfl (take_ofW HT_.out HW_.out (by kernel_rfl)) (fun _ _ _ h => h) (Or.inl ⟨by rfl, ?_⟩) hHeld ?_ ?_
            rotate_left
            ·rintro w' ⟨s0, s1, s2, s3⟩
             go_simp
             with_reducible rfl
            rotate_left
            ·simp only [Act.put, List.setIfInBounds_toArray, List.set_cons_zero, List.set_cons_succ, i64_w, i32_w]
             rfl
            refine pure_ (i := 15) (N := some 30) (v := ?_) (a' := ?_) #[true, true, true, true, true, true, true, true, true, true, true, true, true, true, true, true, false, false] rfl rfl (any_of HT_.out (by kernel_rfl)) (fun _ _ _ h => h) (Or.inl ⟨by rfl, ?_⟩) ?_ ?_
            rotate_left
            ·intro w'
             go_simp
             with_reducible rfl
            rotate_left
            ·simp only [Act.put, List.setIfInBounds_toArray, List.set_cons_zero, List.set_cons_succ, i64_w, i32_w]
             rfl
            refine pure_ (i := 16) (N := some 31) (v := ?_) (a' := ?_) #[true, true, true, true, true, true, true, true, true, true, true, true, true, true, true, true, true, false] rfl rfl (any_of HT_.out (by kernel_rfl)) (fun _ _ _ h => h) (Or.inl ⟨by rfl, ?_⟩) ?_ ?_
            rotate_left
            ·intro w'
             go_simp
             with_reducible rfl
            rotate_left
            ·simp only [Act.put, List.setIfInBounds_toArray, List.set_cons_zero, List.set_cons_succ, i64_w, i32_w]
             rfl
            refine pure_ (i := 17) (N := some 32) (v := ?_) (a' := ?_) #[true, true, true, true, true, true, true, true, true, true, true, true, true, true, true, true, true, true] rfl rfl (any_of HT_.out (by kernel_rfl)) (fun _ _ _ h => h) (Or.inl ⟨by rfl, ?_⟩) ?_ ?_
            rotate_left
            ·intro w'
             go_simp
             with_reducible rfl
            rotate_left
            ·simp only [Act.put, List.setIfInBounds_toArray, List.set_cons_zero, List.set_cons_succ, i64_w, i32_w]
             rfl
            refine done_ (done_of HT_.out (by kernel_rfl)) ?_
            try go_wp2
            go_ret
            exact ⟨by first | rfl | (simp [errW_none, errW_some] <;> rfl) | (simp only [← hji9]; first | rfl | (simp [errW_none, errW_some] <;> rfl)) | (simp [*, errW_none, errW_some] <;> rfl), by repeat (first | (with_reducible first | exact HB.out | apply below_alloc | apply pw_below_drewN | apply below_drew1 | refine below_set ?_ GE130.out) | exact HB.out)⟩
          ·rw [if_neg c11] at H
           exact absurd H (by simp)
         ·rw [if_neg c10] at H
          exact absurd H (by simp)
        ·rw [if_neg c8] at H
         have c8b0 : decide (0 < x10_1) = false := decide_eq_false c8
         clear c8
         have H' := Aside0.mk H
         clear H
         have p129 : 0 ≤ (x10_1 : Int) := of_decide_eq_true (by first | (with_reducible assumption) | assumption)
         have q129 : x10_1 < (l0.length : Int) := of_decide_eq_true (by first | (with_reducible assumption) | assumption)
         obtain ⟨ad129, e129, hx129_0, hx129_1⟩ := at_T213 HR0.out x10_1 p129 q129
         cases e129
         replace hx129_0 := (HB.out.cell (World.block_lt_of_cell? w _ hx129_0)).trans hx129_0
         replace hx129_1 := (HB.out.cell (World.block_lt_of_cell? w _ hx129_1)).trans hx129_1
         replace p129 := eq_true p129
         replace q129 := eq_true q129
         try go_wp2_with (first | ((with_reducible refine gate_dst (N := 4) rfl ?_); refine box_event ?hg (N := 4) ?hd (cs := #[.string (⟨#[]⟩ : ByteArray), .string (⟨#[]⟩ : ByteArray)]) (t := 213) ?hr ?_; (case hd => rfl); (case hg => rfl); (case hr => first | (go_simp; done) | (go_simp; rfl)); intro gb130 hg w23 hbox hb; have n0_ := Aside0.mk (below_step (by repeat (first | (with_reducible first | exact HB.out | apply below_alloc | apply pw_below_drewN | apply below_drew1) | exact HB.out)) hb); have n1_ := Aside0.mk (hbox); have n2_ := Aside0.mk ((by rw [hg]; exact (below_size (by repeat (first | (with_reducible first | exact HB.out | apply below_alloc | apply pw_below_drewN | apply below_drew1) | exact HB.out))) : w.heap.size ≤ gb130)); have n3_ := Aside0.mk ((by rw [hg]; exact (below_size (by repeat (first | (with_reducible first | exact HB.out | apply below_alloc | apply pw_below_drewN | apply below_drew1) | exact HB.out))) : w.heap.size ≤ gb130)); clear HB; have HB := n0_; have BK130 := n1_; have GW130 := n2_; have GE130 := n3_; clear n0_ n1_ n2_ n3_; clear hb hbox hg; have hcz24_0 : w23.cell? ⟨gb130, 0, none⟩ = some (.string (⟨#[]⟩ : ByteArray)) := (blk_cell BK130.out 0).trans rfl; have hcz24_1 : w23.cell? ⟨gb130, 1, none⟩ = some (.string (⟨#[]⟩ : ByteArray)) := (blk_cell BK130.out 1).trans rfl; have hfz24_0 := blk_frozen BK130.out 0; have hfz24_1 := blk_frozen BK130.out 1))
         have n0_ : Aside0 (((w23.setCell ⟨gb130, 0, none⟩ (.string ((rd_T213 l0 x10_1).f0))).setCell ⟨gb130, 1, none⟩ (.string ((rd_T213 l0 x10_1).f1))).heap[gb130]? = some (.cells #[.string ((rd_T213 l0 x10_1).f0), .string ((rd_T213 l0 x10_1).f1)] 213 (0, 0))) := ⟨by (with_reducible repeat (first | refine blk_drewN ?_ _ | refine blk_drew ?_ | refine blk_alloc ?_ _)); refine blk_put (cs := #[.string ((rd_T213 l0 x10_1).f0), .string (⟨#[]⟩ : ByteArray)]) ?_ 1 _ rfl; (with_reducible repeat (first | refine blk_drewN ?_ _ | refine blk_drew ?_ | refine blk_alloc ?_ _)); refine blk_put (cs := #[.string (⟨#[]⟩ : ByteArray), .string (⟨#[]⟩ : ByteArray)]) ?_ 0 _ rfl; (with_reducible repeat (first | refine blk_drewN ?_ _ | refine blk_drew ?_ | refine blk_alloc ?_ _)); exact BK130.out⟩
         have n1_ : Aside0 (Below w.heap.size w ((w23.setCell ⟨gb130, 0, none⟩ (.string ((rd_T213 l0 x10_1).f0))).setCell ⟨gb130, 1, none⟩ (.string ((rd_T213 l0 x10_1).f1)))) := ⟨by repeat (first | (with_reducible first | exact HB.out | apply below_alloc | apply pw_below_drewN | apply below_drew1 | refine below_set ?_ GE130.out) | exact HB.out)⟩
         (try clear BK130)
         (try clear HB)
         generalize ((w23.setCell ⟨gb130, 0, none⟩ (.string ((rd_T213 l0 x10_1).f0))).setCell ⟨gb130, 1, none⟩ (.string ((rd_T213 l0 x10_1).f1))) = w25 at n0_ n1_ ⊢
         have BK130 := n0_
         have HB := n1_
         clear n0_ n1_
         have n0_ := Aside0.mk (blk_drew BK130.out)
         have n1_ := Aside0.mk (below_drew1 HB.out)
         clear BK130
         clear HB
         have BK130 := n0_
         have HB := n1_
         clear n0_ n1_
         refine start_ (n := 18) (S := fun w' => w'.cell? ⟨gb130, 0, none⟩ = some (.string ((rd_T213 l0 x10_1).f0)) ∧ w'.cell? ⟨gb130, 1, none⟩ = some (.string ((rd_T213 l0 x10_1).f1))) (ds := []) #[false, false, false, false, false, false, false, false, false, false, false, false, false, false, false, false, false, false] (by kernel_rfl) rfl rfl ⟨(blk_cell BK130.out 0).trans rfl, (blk_cell BK130.out 1).trans rfl⟩ (fun hHeld => ?_); refine with_tabW dims_Right.tab6 dims_Right.bits6 (fun HT_ HW_ => ?_)
         generalize w25.drew = w26 at BK130 HB hHeld ⊢
         refine take_ (i := 0) (N := some 15) (v := ?_) (a' := ?_) #[true, false, false, false, false, false, false, false, false, false, false, false, false, false, false, false, false, false] rfl rfl (take_ofW HT_.out HW_.out (by kernel_rfl)) (fun _ _ _ h => h) (Or.inl ⟨by rfl, ?_⟩) hHeld ?_ ?_
         rotate_left
         ·rintro w' ⟨s0, s1⟩
          go_simp
          with_reducible rfl
         rotate_left
         ·simp only [Act.put, List.setIfInBounds_toArray, List.set_cons_zero, List.set_cons_succ, i64_w, i32_w]
          rfl
         refine one_ (i := 1) (N := some 16) #[true, true, false, false, false, false, false, false, false, false, false, false, false, false, false, false, false, false] rfl rfl (one_of HT_.out (by kernel_rfl)) (by decide) (fun K hK => ?_)
         refine goes_ Tryd.func158 (by kernel_rfl) rfl #[.agg #[.string ((rd_T213 l0 x10_1).f0), .string ((rd_T213 l0 x10_1).f1)]] (by rfl) rfl rfl (by (try simp only [List.map_toArray, List.map_cons, List.map_nil]); first | done | rfl | (simp only [List.length_drop, List.length_take]; rfl)) ?_
         with_reducible refine (dims_codes.calls ((rd_T213 l0 x10_1).f0) ((rd_T213 l0 x10_1).f1) true _ A6.out).mono ?_
         rintro e w27 ⟨rfl, hb⟩
         refine ⟨_, rfl, ?_⟩
         have n0_ := Aside0.mk (blk_below (g := gb130) (o := .cells #[.string ((rd_T213 l0 x10_1).f0), .string ((rd_T213 l0 x10_1).f1)] 213 (0, 0)) (by (with_reducible repeat (first | refine blk_drewN ?_ _ | refine blk_drew ?_ | refine blk_alloc ?_ _)); exact BK130.out) hb)
         have n1_ := Aside0.mk (below_step (by repeat (first | (with_reducible first | exact HB.out | apply below_alloc | apply pw_below_drewN | apply below_drew1 | refine below_set ?_ GE130.out) | exact HB.out)) hb)
         clear BK130
         clear HB
         have BK130 := n0_
         have HB := n1_
         clear n0_ n1_
         (try clear hb)
         (try clear hb2)
         (try clear hk)
         (try clear hi)
         refine hK.out _ _ ⟨(blk_cell BK130.out 0).trans rfl, (blk_cell BK130.out 1).trans rfl⟩ (fun hHeld => ?_)
         clear hK K
         refine norm_ (a' := ?_) ?_ ?_
         rotate_left
         ·show Act.put _ (some 16) _ = _
          simp only [Act.put, List.setIfInBounds_toArray, List.set_cons_zero, List.set_cons_succ, i64_w, i32_w]
          rfl
         refine pure_ (i := 2) (N := some 17) (v := ?_) (a' := ?_) #[true, true, true, false, false, false, false, false, false, false, false, false, false, false, false, false, false, false] rfl rfl (any_of HT_.out (by kernel_rfl)) (fun _ _ _ h => h) (Or.inl ⟨by rfl, ?_⟩) ?_ ?_
         rotate_left
         ·intro w'
          go_simp
          with_reducible rfl
         rotate_left
         ·simp only [Act.put, List.setIfInBounds_toArray, List.set_cons_zero, List.set_cons_succ, i64_w, i32_w]
          rfl
         refine pure_ (i := 3) (N := some 18) (v := ?_) (a' := ?_) #[true, true, true, true, false, false, false, false, false, false, false, false, false, false, false, false, false, false] rfl rfl (any_of HT_.out (by kernel_rfl)) (fun _ _ _ h => h) (Or.inl ⟨by rfl, ?_⟩) ?_ ?_
         rotate_left
         ·intro w'
          go_simp
          with_reducible rfl
         rotate_left
         ·simp only [Act.put, List.setIfInBounds_toArray, List.set_cons_zero, List.set_cons_succ, i64_w, i32_w]
          rfl
         refine pure_ (i := 4) (N := some 19) (v := ?_) (a' := ?_) #[true, true, true, true, true, false, false, false, false, false, false, false, false, false, false, false, false, false] rfl rfl (any_of HT_.out (by kernel_rfl)) (fun _ _ _ h => h) (Or.inl ⟨by rfl, ?_⟩) ?_ ?_
         rotate_left
         ·intro w'
          go_simp
          with_reducible rfl
         rotate_left
         ·simp only [Act.put, List.setIfInBounds_toArray, List.set_cons_zero, List.set_cons_succ, i64_w, i32_w]
          rfl
         refine pure_ (i := 5) (N := some 20) (v := ?_) (a' := ?_) #[true, true, true, true, true, true, false, false, false, false, false, false, false, false, false, false, false, false] rfl rfl (any_of HT_.out (by kernel_rfl)) (fun _ _ _ h => h) (Or.inl ⟨by rfl, ?_⟩) ?_ ?_
         rotate_left
         ·intro w'
          go_simp
          with_reducible rfl
         rotate_left
         ·simp only [Act.put, List.setIfInBounds_toArray, List.set_cons_zero, List.set_cons_succ, i64_w, i32_w]
          rfl
         refine pure_ (i := 6) (N := some 21) (v := ?_) (a' := ?_) #[true, true, true, true, true, true, true, false, false, false, false, false, false, false, false, false, false, false] rfl rfl (any_of HT_.out (by kernel_rfl)) (fun _ _ _ h => h) (Or.inl ⟨by rfl, ?_⟩) ?_ ?_
         rotate_left
         ·intro w'
          go_simp
          with_reducible rfl
         rotate_left
         ·simp only [Act.put, List.setIfInBounds_toArray, List.set_cons_zero, List.set_cons_succ, i64_w, i32_w]
          rfl
         refine pure_ (i := 7) (N := some 22) (v := undef) (a' := ?_) #[true, true, true, true, true, true, true, true, false, false, false, false, false, false, false, false, false, false] rfl rfl (any_of HT_.out (by kernel_rfl)) (fun _ _ _ h => h) (Or.inr ⟨by rfl, rfl⟩) ?_ ?_
         rotate_left
         ·simp only [Act.put, List.setIfInBounds_toArray, List.set_cons_zero, List.set_cons_succ, i64_w, i32_w]
          rfl
         refine pure_ (i := 8) (N := some 23) (v := undef) (a' := ?_) #[true, true, true, true, true, true, true, true, true, false, false, false, false, false, false, false, false, false] rfl rfl (any_of HT_.out (by kernel_rfl)) (fun _ _ _ h => h) (Or.inr ⟨by rfl, rfl⟩) ?_ ?_
         rotate_left
         ·simp only [Act.put, List.setIfInBounds_toArray, List.set_cons_zero, List.set_cons_succ, i64_w, i32_w]
          rfl
         refine pure_ (i := 9) (N := some 24) (v := undef) (a' := ?_) #[true, true, true, true, true, true, true, true, true, true, false, false, false, false, false, false, false, false] rfl rfl (any_of HT_.out (by kernel_rfl)) (fun _ _ _ h => h) (Or.inr ⟨by rfl, rfl⟩) ?_ ?_
         rotate_left
         ·simp only [Act.put, List.setIfInBounds_toArray, List.set_cons_zero, List.set_cons_succ, i64_w, i32_w]
          rfl
         refine pure_ (i := 10) (N := some 25) (v := undef) (a' := ?_) #[true, true, true, true, true, true, true, true, true, true, true, false, false, false, false, false, false, false] rfl rfl (any_of HT_.out (by kernel_rfl)) (fun _ _ _ h => h) (Or.inr ⟨by rfl, rfl⟩) ?_ ?_
         rotate_left
         ·simp only [Act.put, List.setIfInBounds_toArray, List.set_cons_zero, List.set_cons_succ, i64_w, i32_w]
          rfl
         refine pure_ (i := 11) (N := some 26) (v := undef) (a' := ?_) #[true, true, true, true, true, true, true, true, true, true, true, true, false, false, false, false, false, false] rfl rfl (any_of HT_.out (by kernel_rfl)) (fun _ _ _ h => h) (Or.inr ⟨by rfl, rfl⟩) ?_ ?_
         rotate_left
         ·simp only [Act.put, List.setIfInBounds_toArray, List.set_cons_zero, List.set_cons_succ, i64_w, i32_w]
          rfl
         refine pure_ (i := 12) (N := some 27) (v := undef) (a' := ?_) #[true, true, true, true, true, true, true, true, true, true, true, true, true, false, false, false, false, false] rfl rfl (any_of HT_.out (by kernel_rfl)) (fun _ _ _ h => h) (Or.inr ⟨by rfl, rfl⟩) ?_ ?_
         rotate_left
         ·simp only [Act.put, List.setIfInBounds_toArray, List.set_cons_zero, List.set_cons_succ, i64_w, i32_w]
          rfl
         refine pure_ (i := 13) (N := some 28) (v := undef) (a' := ?_) #[true, true, true, true, true, true, true, true, true, true, true, true, true, true, false, false, false, false] rfl rfl (any_of HT_.out (by kernel_rfl)) (fun _ _ _ h => h) (Or.inr ⟨by rfl, rfl⟩) ?_ ?_
         rotate_left
         ·simp only [Act.put, List.setIfInBounds_toArray, List.set_cons_zero, List.set_cons_succ, i64_w, i32_w]
          rfl
         refine pure_ (i := 14) (N := some 29) (v := undef) (a' := ?_) #[true, true, true, true, true, true, true, true, true, true, true, true, true, true, true, false, false, false] rfl rfl (any_of HT_.out (by kernel_rfl)) (fun _ _ _ h => h) (Or.inr ⟨by rfl, rfl⟩) ?_ ?_
         rotate_left
         ·simp only [Act.put, List.setIfInBounds_toArray, List.set_cons_zero, List.set_cons_succ, i64_w, i32_w]
          rfl
         refine pure_ (i := 15) (N := some 30) (v := undef) (a' := ?_) #[true, true, true, true, true, true, true, true, true, true, true, true, true, true, true, true, false, false] rfl rfl (any_of HT_.out (by kernel_rfl)) (fun _ _ _ h => h) (Or.inr ⟨by rfl, rfl⟩) ?_ ?_
         rotate_left
         ·simp only [Act.put, List.setIfInBounds_toArray, List.set_cons_zero, List.set_cons_succ, i64_w, i32_w]
          rfl
         refine pure_ (i := 16) (N := some 31) (v := ?_) (a' := ?_) #[true, true, true, true, true, true, true, true, true, true, true, true, true, true, true, true, true, false] rfl rfl (any_of HT_.out (by kernel_rfl)) (fun _ _ _ h => h) (Or.inl ⟨by rfl, ?_⟩) ?_ ?_
         rotate_left
         ·intro w'
          go_simp
          with_reducible rfl
         rotate_left
         ·simp only [Act.put, List.setIfInBounds_toArray, List.set_cons_zero, List.set_cons_succ, i64_w, i32_w]
          rfl
         refine pure_ (i := 17) (N := some 32) (v := ?_) (a' := ?_) #[true, true, true, true, true, true, true, true, true, true, true, true, true, true, true, true, true, true] rfl rfl (any_of HT_.out (by kernel_rfl)) (fun _ _ _ h => h) (Or.inl ⟨by rfl, ?_⟩) ?_ ?_
         rotate_left
         ·intro w'
          go_simp
          with_reducible rfl
         rotate_left
         ·simp only [Act.put, List.setIfInBounds_toArray, List.set_cons_zero, List.set_cons_succ, i64_w, i32_w]
          rfl
         refine done_ (done_of HT_.out (by kernel_rfl)) ?_
         try go_wp2
         go_roundg k1
         case measure => have := HK1.out; omega
         case rel => exact ⟨(wrap64 (x10_1 + 1)), (by first | rfl | (simp; done) | (simp [*]; done)), H', ⟨by have := HK1.out; omega⟩, ⟨by repeat (first | (with_reducible first | exact HB.out | apply below_alloc | apply pw_below_drewN | apply below_drew1 | refine below_set ?_ GE130.out) | exact HB.out)⟩⟩
       ·replace c7 := Bool.eq_false_iff.mpr c7
        subst c7
        have H1 : (some false) = some r := by rw [if_neg (show ¬ (false = true) by decide)] at H; exact H
        clear H
        have H := H1
        clear H1
        obtain rfl := Option.some.inj H
        have p129 : 0 ≤ (x10_1 : Int) := of_decide_eq_true (by first | (with_reducible assumption) | assumption)
        have q129 : x10_1 < (l0.length : Int) := of_decide_eq_true (by first | (with_reducible assumption) | assumption)
        obtain ⟨ad129, e129, hx129_0, hx129_1⟩ := at_T213 HR0.out x10_1 p129 q129
        cases e129
        replace hx129_0 := (HB.out.cell (World.block_lt_of_cell? w _ hx129_0)).trans hx129_0
        replace hx129_1 := (HB.out.cell (World.block_lt_of_cell? w _ hx129_1)).trans hx129_1
        replace p129 := eq_true p129
        replace q129 := eq_true q129
        try go_wp2_with (first | ((with_reducible refine gate_dst (N := 4) rfl ?_); refine box_event ?hg (N := 4) ?hd (cs := #[.string (⟨#[]⟩ : ByteArray), .string (⟨#[]⟩ : ByteArray)]) (t := 213) ?hr ?_; (case hd => rfl); (case hg => rfl); (case hr => first | (go_simp; done) | (go_simp; rfl)); intro gb130 hg w28 hbox hb; have n0_ := Aside0.mk (below_step (by repeat (first | (with_reducible first | exact HB.out | apply below_alloc | apply pw_below_drewN | apply below_drew1) | exact HB.out)) hb); have n1_ := Aside0.mk (hbox); have n2_ := Aside0.mk ((by rw [hg]; exact (below_size (by repeat (first | (with_reducible first | exact HB.out | apply below_alloc | apply pw_below_drewN | apply below_drew1) | exact HB.out))) : w.heap.size ≤ gb130)); have n3_ := Aside0.mk ((by rw [hg]; exact (below_size (by repeat (first | (with_reducible first | exact HB.out | apply below_alloc | apply pw_below_drewN | apply below_drew1) | exact HB.out))) : w.heap.size ≤ gb130)); clear HB; have HB := n0_; have BK130 := n1_; have GW130 := n2_; have GE130 := n3_; clear n0_ n1_ n2_ n3_; clear hb hbox hg; have hcz29_0 : w28.cell? ⟨gb130, 0, none⟩ = some (.string (⟨#[]⟩ : ByteArray)) := (blk_cell BK130.out 0).trans rfl; have hcz29_1 : w28.cell? ⟨gb130, 1, none⟩ = some (.string (⟨#[]⟩ : ByteArray)) := (blk_cell BK130.out 1).trans rfl; have hfz29_0 := blk_frozen BK130.out 0; have hfz29_1 := blk_frozen BK130.out 1))
        have n0_ : Aside0 (((w28.setCell ⟨gb130, 0, none⟩ (.string ((rd_T213 l0 x10_1).f0))).setCell ⟨gb130, 1, none⟩ (.string ((rd_T213 l0 x10_1).f1))).heap[gb130]? = some (.cells #[.string ((rd_T213 l0 x10_1).f0), .string ((rd_T213 l0 x10_1).f1)] 213 (0, 0))) := ⟨by (with_reducible repeat (first | refine blk_drewN ?_ _ | refine blk_drew ?_ | refine blk_alloc ?_ _)); refine blk_put (cs := #[.string ((rd_T213 l0 x10_1).f0), .string (⟨#[]⟩ : ByteArray)]) ?_ 1 _ rfl; (with_reducible repeat (first | refine blk_drewN ?_ _ | refine blk_drew ?_ | refine blk_alloc ?_ _)); refine blk_put (cs := #[.string (⟨#[]⟩ : ByteArray), .string (⟨#[]⟩ : ByteArray)]) ?_ 0 _ rfl; (with_reducible repeat (first | refine blk_drewN ?_ _ | refine blk_drew ?_ | refine blk_alloc ?_ _)); exact BK130.out⟩
        have n1_ : Aside0 (Below w.heap.size w ((w28.setCell ⟨gb130, 0, none⟩ (.string ((rd_T213 l0 x10_1).f0))).setCell ⟨gb130, 1, none⟩ (.string ((rd_T213 l0 x10_1).f1)))) := ⟨by repeat (first | (with_reducible first | exact HB.out | apply below_alloc | apply pw_below_drewN | apply below_drew1 | refine below_set ?_ GE130.out) | exact HB.out)⟩
        (try clear BK130)
        (try clear HB)
        generalize ((w28.setCell ⟨gb130, 0, none⟩ (.string ((rd_T213 l0 x10_1).f0))).setCell ⟨gb130, 1, none⟩ (.string ((rd_T213 l0 x10_1).f1))) = w30 at n0_ n1_ ⊢
        have BK130 := n0_
        have HB := n1_
        clear n0_ n1_
        have n0_ := Aside0.mk (blk_drew BK130.out)
        have n1_ := Aside0.mk (below_drew1 HB.out)
        clear BK130
        clear HB
        have BK130 := n0_
        have HB := n1_
        clear n0_ n1_
        refine start_ (n := 18) (S := fun w' => w'.cell? ⟨gb130, 0, none⟩ = some (.string ((rd_T213 l0 x10_1).f0)) ∧ w'.cell? ⟨gb130, 1, none⟩ = some (.string ((rd_T213 l0 x10_1).f1))) (ds := []) #[false, false, false, false, false, false, false, false, false, false, false, false, false, false, false, false, false, false] (by kernel_rfl) rfl rfl ⟨(blk_cell BK130.out 0).trans rfl, (blk_cell BK130.out 1).trans rfl⟩ (fun hHeld => ?_); refine with_tabW dims_Right.tab6 dims_Right.bits6 (fun HT_ HW_ => ?_)
        generalize w30.drew = w31 at BK130 HB hHeld ⊢
        refine take_ (i := 0) (N := some 15) (v := ?_) (a' := ?_) #[true, false, false, false, false, false, false, false, false, false, false, false, false, false, false, false, false, false] rfl rfl (take_ofW HT_.out HW_.out (by kernel_rfl)) (fun _ _ _ h => h) (Or.inl ⟨by rfl, ?_⟩) hHeld ?_ ?_
        rotate_left
        ·rintro w' ⟨s0, s1⟩
         go_simp
         with_reducible rfl
        rotate_left
        ·simp only [Act.put, List.setIfInBounds_toArray, List.set_cons_zero, List.set_cons_succ, i64_w, i32_w]
         rfl
        refine one_ (i := 1) (N := some 16) #[true, true, false, false, false, false, false, false, false, false, false, false, false, false, false, false, false, false] rfl rfl (one_of HT_.out (by kernel_rfl)) (by decide) (fun K hK => ?_)
        refine goes_ Tryd.func158 (by kernel_rfl) rfl #[.agg #[.string ((rd_T213 l0 x10_1).f0), .string ((rd_T213 l0 x10_1).f1)]] (by rfl) rfl rfl (by (try simp only [List.map_toArray, List.map_cons, List.map_nil]); first | done | rfl | (simp only [List.length_drop, List.length_take]; rfl)) ?_
        with_reducible refine (dims_codes.calls ((rd_T213 l0 x10_1).f0) ((rd_T213 l0 x10_1).f1) false _ A6.out).mono ?_
        rintro e w32 ⟨rfl, hb⟩
        refine ⟨_, rfl, ?_⟩
        have n0_ := Aside0.mk (blk_below (g := gb130) (o := .cells #[.string ((rd_T213 l0 x10_1).f0), .string ((rd_T213 l0 x10_1).f1)] 213 (0, 0)) (by (with_reducible repeat (first | refine blk_drewN ?_ _ | refine blk_drew ?_ | refine blk_alloc ?_ _)); exact BK130.out) hb)
        have n1_ := Aside0.mk (below_step (by repeat (first | (with_reducible first | exact HB.out | apply below_alloc | apply pw_below_drewN | apply below_drew1 | refine below_set ?_ GE130.out) | exact HB.out)) hb)
        clear BK130
        clear HB
        have BK130 := n0_
        have HB := n1_
        clear n0_ n1_
        (try clear hb)
        (try clear hb2)
        (try clear hk)
        (try clear hi)
        refine hK.out _ _ ⟨(blk_cell BK130.out 0).trans rfl, (blk_cell BK130.out 1).trans rfl⟩ (fun hHeld => ?_)
        clear hK K
        refine norm_ (a' := ?_) ?_ ?_
        rotate_left
        ·show Act.put _ (some 16) _ = _
         simp only [Act.put, List.setIfInBounds_toArray, List.set_cons_zero, List.set_cons_succ, i64_w, i32_w]
         rfl
        refine pure_ (i := 2) (N := some 17) (v := ?_) (a' := ?_) #[true, true, true, false, false, false, false, false, false, false, false, false, false, false, false, false, false, false] rfl rfl (any_of HT_.out (by kernel_rfl)) (fun _ _ _ h => h) (Or.inl ⟨by rfl, ?_⟩) ?_ ?_
        rotate_left
        ·intro w'
         go_simp
         with_reducible rfl
        rotate_left
        ·simp only [Act.put, List.setIfInBounds_toArray, List.set_cons_zero, List.set_cons_succ, i64_w, i32_w]
         rfl
        refine pure_ (i := 3) (N := some 18) (v := ?_) (a' := ?_) #[true, true, true, true, false, false, false, false, false, false, false, false, false, false, false, false, false, false] rfl rfl (any_of HT_.out (by kernel_rfl)) (fun _ _ _ h => h) (Or.inl ⟨by rfl, ?_⟩) ?_ ?_
        rotate_left
        ·intro w'
         go_simp
         with_reducible rfl
        rotate_left
        ·simp only [Act.put, List.setIfInBounds_toArray, List.set_cons_zero, List.set_cons_succ, i64_w, i32_w]
         rfl
        refine pure_ (i := 4) (N := some 19) (v := undef) (a' := ?_) #[true, true, true, true, true, false, false, false, false, false, false, false, false, false, false, false, false, false] rfl rfl (any_of HT_.out (by kernel_rfl)) (fun _ _ _ h => h) (Or.inr ⟨by rfl, rfl⟩) ?_ ?_
        rotate_left
        ·simp only [Act.put, List.setIfInBounds_toArray, List.set_cons_zero, List.set_cons_succ, i64_w, i32_w]
         rfl
        refine pure_ (i := 5) (N := some 20) (v := undef) (a' := ?_) #[true, true, true, true, true, true, false, false, false, false, false, false, false, false, false, false, false, false] rfl rfl (any_of HT_.out (by kernel_rfl)) (fun _ _ _ h => h) (Or.inr ⟨by rfl, rfl⟩) ?_ ?_
        rotate_left
        ·simp only [Act.put, List.setIfInBounds_toArray, List.set_cons_zero, List.set_cons_succ, i64_w, i32_w]
         rfl
        refine pure_ (i := 6) (N := some 21) (v := undef) (a' := ?_) #[true, true, true, true, true, true, true, false, false, false, false, false, false, false, false, false, false, false] rfl rfl (any_of HT_.out (by kernel_rfl)) (fun _ _ _ h => h) (Or.inr ⟨by rfl, rfl⟩) ?_ ?_
        rotate_left
        ·simp only [Act.put, List.setIfInBounds_toArray, List.set_cons_zero, List.set_cons_succ, i64_w, i32_w]
         rfl
        refine pure_ (i := 7) (N := some 22) (v := undef) (a' := ?_) #[true, true, true, true, true, true, true, true, false, false, false, false, false, false, false, false, false, false] rfl rfl (any_of HT_.out (by kernel_rfl)) (fun _ _ _ h => h) (Or.inr ⟨by rfl, rfl⟩) ?_ ?_
        rotate_left
        ·simp only [Act.put, List.setIfInBounds_toArray, List.set_cons_zero, List.set_cons_succ, i64_w, i32_w]
         rfl
        refine pure_ (i := 8) (N := some 23) (v := undef) (a' := ?_) #[true, true, true, true, true, true, true, true, true, false, false, false, false, false, false, false, false, false] rfl rfl (any_of HT_.out (by kernel_rfl)) (fun _ _ _ h => h) (Or.inr ⟨by rfl, rfl⟩) ?_ ?_
        rotate_left
        ·simp only [Act.put, List.setIfInBounds_toArray, List.set_cons_zero, List.set_cons_succ, i64_w, i32_w]
         rfl
        refine pure_ (i := 9) (N := some 24) (v := undef) (a' := ?_) #[true, true, true, true, true, true, true, true, true, true, false, false, false, false, false, false, false, false] rfl rfl (any_of HT_.out (by kernel_rfl)) (fun _ _ _ h => h) (Or.inr ⟨by rfl, rfl⟩) ?_ ?_
        rotate_left
        ·simp only [Act.put, List.setIfInBounds_toArray, List.set_cons_zero, List.set_cons_succ, i64_w, i32_w]
         rfl
        refine pure_ (i := 10) (N := some 25) (v := undef) (a' := ?_) #[true, true, true, true, true, true, true, true, true, true, true, false, false, false, false, false, false, false] rfl rfl (any_of HT_.out (by kernel_rfl)) (fun _ _ _ h => h) (Or.inr ⟨by rfl, rfl⟩) ?_ ?_
        rotate_left
        ·simp only [Act.put, List.setIfInBounds_toArray, List.set_cons_zero, List.set_cons_succ, i64_w, i32_w]
         rfl
        refine pure_ (i := 11) (N := some 26) (v := undef) (a' := ?_) #[true, true, true, true, true, true, true, true, true, true, true, true, false, false, false, false, false, false] rfl rfl (any_of HT_.out (by kernel_rfl)) (fun _ _ _ h => h) (Or.inr ⟨by rfl, rfl⟩) ?_ ?_
        rotate_left
        ·simp only [Act.put, List.setIfInBounds_toArray, List.set_cons_zero, List.set_cons_succ, i64_w, i32_w]
         rfl
        refine pure_ (i := 12) (N := some 27) (v := undef) (a' := ?_) #[true, true, true, true, true, true, true, true, true, true, true, true, true, false, false, false, false, false] rfl rfl (any_of HT_.out (by kernel_rfl)) (fun _ _ _ h => h) (Or.inr ⟨by rfl, rfl⟩) ?_ ?_
        rotate_left
        ·simp only [Act.put, List.setIfInBounds_toArray, List.set_cons_zero, List.set_cons_succ, i64_w, i32_w]
         rfl
        refine pure_ (i := 13) (N := some 28) (v := undef) (a' := ?_) #[true, true, true, true, true, true, true, true, true, true, true, true, true, true, false, false, false, false] rfl rfl (any_of HT_.out (by kernel_rfl)) (fun _ _ _ h => h) (Or.inr ⟨by rfl, rfl⟩) ?_ ?_
        rotate_left
        ·simp only [Act.put, List.setIfInBounds_toArray, List.set_cons_zero, List.set_cons_succ, i64_w, i32_w]
         rfl
        refine pure_ (i := 14) (N := some 29) (v := undef) (a' := ?_) #[true, true, true, true, true, true, true, true, true, true, true, true, true, true, true, false, false, false] rfl rfl (any_of HT_.out (by kernel_rfl)) (fun _ _ _ h => h) (Or.inr ⟨by rfl, rfl⟩) ?_ ?_
        rotate_left
        ·simp only [Act.put, List.setIfInBounds_toArray, List.set_cons_zero, List.set_cons_succ, i64_w, i32_w]
         rfl
        refine pure_ (i := 15) (N := some 30) (v := undef) (a' := ?_) #[true, true, true, true, true, true, true, true, true, true, true, true, true, true, true, true, false, false] rfl rfl (any_of HT_.out (by kernel_rfl)) (fun _ _ _ h => h) (Or.inr ⟨by rfl, rfl⟩) ?_ ?_
        rotate_left
        ·simp only [Act.put, List.setIfInBounds_toArray, List.set_cons_zero, List.set_cons_succ, i64_w, i32_w]
         rfl
        refine pure_ (i := 16) (N := some 31) (v := undef) (a' := ?_) #[true, true, true, true, true, true, true, true, true, true, true, true, true, true, true, true, true, false] rfl rfl (any_of HT_.out (by kernel_rfl)) (fun _ _ _ h => h) (Or.inr ⟨by rfl, rfl⟩) ?_ ?_
        rotate_left
        ·simp only [Act.put, List.setIfInBounds_toArray, List.set_cons_zero, List.set_cons_succ, i64_w, i32_w]
         rfl
        refine pure_ (i := 17) (N := some 32) (v := ?_) (a' := ?_) #[true, true, true, true, true, true, true, true, true, true, true, true, true, true, true, true, true, true] rfl rfl (any_of HT_.out (by kernel_rfl)) (fun _ _ _ h => h) (Or.inl ⟨by rfl, ?_⟩) ?_ ?_
        rotate_left
        ·intro w'
         go_simp
         with_reducible rfl
        rotate_left
        ·simp only [Act.put, List.setIfInBounds_toArray, List.set_cons_zero, List.set_cons_succ, i64_w, i32_w]
         rfl
        refine done_ (done_of HT_.out (by kernel_rfl)) ?_
        try go_wp2
        go_ret
        exact ⟨by first | rfl | (simp [errW_none, errW_some] <;> rfl) | (simp [*, errW_none, errW_some] <;> rfl), by repeat (first | (with_reducible first | exact HB.out | apply below_alloc | apply pw_below_drewN | apply below_drew1 | refine below_set ?_ GE130.out) | exact HB.out)⟩
      ·rw [if_neg c5] at H
       exact absurd H (by simp)
     ·rw [if_neg c4] at H
      exact absurd H (by simp)
    ·rw [if_neg c3] at H
     have c3b0 : decide (x10_1 < (l0.length : Int)) = false := decide_eq_false c3
     clear c3
     obtain rfl := Option.some.inj H
     go_wp2
     go_ret
     exact ⟨by first | rfl | (simp [errW_none, errW_some] <;> rfl) | (simp [*, errW_none, errW_some] <;> rfl), by repeat (first | (with_reducible first | exact HB.out | apply below_alloc | apply pw_below_drewN | apply below_drew1) | exact HB.out)⟩
def dims_Text.l0 : Nat → ByteArray → List (S213) → Int → Int → Option (ByteArray × Int)
 | 0, _, _, _, _ => none
 | k + 1, x2, x9, x10, x11 => if x11 < x10 then (if 0 ≤ x11 then (if x11 < (x9.length : Int) then (if x11 > 0 then (if x2.size + 1 ≤ 9223372036854775807 then (if ((rd_T213 x9 x11).f0).size + 1 ≤ 9223372036854775807 then (if (((rd_T213 x9 x11).f0) ++ (⟨#[61]⟩ : ByteArray)).size + ((rd_T213 x9 x11).f1).size ≤ 9223372036854775807 then (if (x2 ++ (⟨#[44]⟩ : ByteArray)).size + ((((rd_T213 x9 x11).f0) ++ (⟨#[61]⟩ : ByteArray)) ++ ((rd_T213 x9 x11).f1)).size ≤ 9223372036854775807 then (dims_Text.l0 k ((x2 ++ (⟨#[44]⟩ : ByteArray)) ++ ((((rd_T213 x9 x11).f0) ++ (⟨#[61]⟩ : ByteArray)) ++ ((rd_T213 x9 x11).f1))) x9 x10 (wrap64 (x11 + 1))) else (none)) else (none)) else (none)) else (none)) else (if ((rd_T213 x9 x11).f0).size + 1 ≤ 9223372036854775807 then (if (((rd_T213 x9 x11).f0) ++ (⟨#[61]⟩ : ByteArray)).size + ((rd_T213 x9 x11).f1).size ≤ 9223372036854775807 then (if x2.size + ((((rd_T213 x9 x11).f0) ++ (⟨#[61]⟩ : ByteArray)) ++ ((rd_T213 x9 x11).f1)).size ≤ 9223372036854775807 then (dims_Text.l0 k (x2 ++ ((((rd_T213 x9 x11).f0) ++ (⟨#[61]⟩ : ByteArray)) ++ ((rd_T213 x9 x11).f1))) x9 x10 (wrap64 (x11 + 1))) else (none)) else (none)) else (none))) else (none)) else (none)) else (some (x2, 0))
def dims_Text.f (k : Nat) (l0 : List (S213)) : Option (ByteArray × Int) := (dims_Right.f k l0).bind fun t157 => (if t157 = true then (dims_Text.l0 k (⟨#[]⟩ : ByteArray) l0 (l0.length : Int) 0) else (some ((⟨#[]⟩ : ByteArray), 14)))
theorem dims_Text.mono_l : ∀ k, (∀ y0 y1 y2 y3, LeO (dims_Text.l0 k y0 y1 y2 y3) (dims_Text.l0 (k + 1) y0 y1 y2 y3))
 | 0 => fun _ _ _ _ r h => by simp [dims_Text.l0] at h
 | k + 1 => by
  have ih0 := dims_Text.mono_l k
  ·intro y0 y1 y2 y3
   unfold dims_Text.l0
   repeat' first
   | (with_reducible exact ih0 _ _ _ _)
   | (with_reducible exact dims_Right.mono _ _)
   | (with_reducible exact LeO.refl _)
   | (with_reducible exact LeO.none _)
   | (with_reducible refine LeO.ite ?_ ?_)
   | (with_reducible refine LeO.bind ?_ (fun _ => ?_))
   | exact ih0 _ _ _ _
   | exact dims_Right.mono _ _
   | exact LeO.none _
   | refine LeO.ite ?_ ?_
   | refine LeO.bind ?_ (fun _ => ?_)
theorem dims_Text.mono : ∀ a0 k, LeO (dims_Text.f k a0) (dims_Text.f (k + 1) a0) := by
 intro a0 k
 have ih0 := dims_Text.mono_l k
 unfold dims_Text.f
 repeat' first
   | (with_reducible exact ih0 _ _ _ _)
   | (with_reducible exact dims_Right.mono _ _)
   | (with_reducible exact LeO.refl _)
   | (with_reducible exact LeO.none _)
   | (with_reducible refine LeO.ite ?_ ?_)
   | (with_reducible refine LeO.bind ?_ (fun _ => ?_))
   | exact ih0 _ _ _ _
   | exact dims_Right.mono _ _
   | exact LeO.none _
   | refine LeO.ite ?_ ?_
   | refine LeO.bind ?_ (fun _ => ?_)
set_option maxHeartbeats 8000000 in
set_option maxRecDepth 100000 in
theorem dims_Text.calls (k : Nat) (A0 : Option Addr) (c0 : Nat) (l0 : List (S213)) (r1 : ByteArray) (r2 : Int) (w : World) (hr0 : Kd.C k213 w A0 l0.length l0) (hc0 : l0.length ≤ c0) (h : dims_Text.f k l0 = some (r1, r2)) :
  Calls Tryd.prog 98 #[.slice A0 l0.length c0] w fun e w' => e = .returned (.tuple #[.string r1, .int .i64 r2]) ∧ Below w.heap.size w w' := by
 have hu213 := Tryd.underlying213
 have HR0 := Aside0.mk hr0
 have HC0 := Aside0.mk hc0
 clear hr0 hc0
 have HB := Aside0.mk (Below.refl w.heap.size w)
 have H : ((dims_Right.f k l0).bind fun t157 => (if t157 = true then (dims_Text.l0 k (⟨#[]⟩ : ByteArray) l0 (l0.length : Int) 0) else (some ((⟨#[]⟩ : ByteArray), 14)))) = some (r1, r2) := h
 clear h
 replace H := Option.bind_eq_some_iff.mp H
 obtain ⟨t157, A20, H⟩ := H
 try dsimp only at H
 have A2 := Aside0.mk A20
 clear A20
 by_cases c3 : t157 = true
 ·subst c3
  have H1 : (dims_Text.l0 k (⟨#[]⟩ : ByteArray) l0 (l0.length : Int) 0) = some (r1, r2) := by rw [if_pos rfl] at H; exact H
  clear H
  have H := H1
  clear H1
  have H' := Aside0.mk H
  clear H
  go_enter Tryd.func98, Tryd.ntmps98
  go_wp2_with (first | ((with_reducible refine gate_callee (f := 129) rfl ?_); refine goesL_ (some 7) rfl rfl Tryd.func129 (by kernel_rfl) rfl #[.slice A0 l0.length c0] rfl (by (try simp only [List.map_toArray, List.map_cons, List.map_nil]); first | done | rfl | (simp only [List.length_drop, List.length_take]; rfl)) ?_; (with_reducible refine (dims_Right.calls k _ _ l0 true _ ?side1 ?side2 A2.out).mono ?_); (case side1 => repeat (first | exact HR0.out | (with_reducible refine Kd.C_alloc ?_ _) | (with_reducible refine Kd.C_drewN ?_ _) | (with_reducible refine Kd.C_drew ?_))); (case side2 => exact HC0.out); rintro e w4 ⟨rfl, hb⟩; refine ⟨_, rfl, ?_⟩; have n0_ := Aside0.mk (below_step (by repeat (first | (with_reducible first | exact HB.out | apply below_alloc | apply pw_below_drewN | apply below_drew1) | exact HB.out)) hb); clear HB; have HB := n0_; clear n0_; (try clear hb); (try clear hb2); (try clear hk); (try clear hi)))
  go_loopg [2, 11] k (fun kq v2 v11 w' => ∃ (x2_1 : ByteArray) (x11_1 : Int), v2 = .string x2_1 ∧ v11 = .int .i64 x11_1 ∧ Aside0 (dims_Text.l0 kq x2_1 l0 (l0.length : Int) x11_1 = some (r1, r2)) ∧ Aside0 (kq ≤ k) ∧ Aside0 (Below w.heap.size w w'))
  case atStart => exact ⟨((⟨#[]⟩ : ByteArray)), (0), (by first | rfl | (simp; done) | (simp [*]; done)), (by first | rfl | (simp; done) | (simp [*]; done)), H', ⟨Nat.le_refl _⟩, ⟨by repeat (first | (with_reducible first | exact HB.out | apply below_alloc | apply pw_below_drewN | apply below_drew1) | exact HB.out)⟩⟩
  case round =>
   clear H'
   try clear c1
   try clear p2
   try clear c3
   obtain ⟨x2_1, x11_1, rfl, rfl, HA, HK1, HB⟩ := hrel
   cases gk with
   | zero => exact absurd HA.out (by simp [dims_Text.l0])
   | succ k1 =>
    have H := HA.out
    clear HA
    simp only [dims_Text.l0] at H
    by_cases c5 : x11_1 < (l0.length : Int)
    ·rw [if_pos c5] at H
     have c5b0 : decide (x11_1 < (l0.length : Int)) = true := decide_eq_true c5
     clear c5
     by_cases c6 : 0 ≤ x11_1
     ·rw [if_pos c6] at H
      have c6b0 : decide (0 ≤ x11_1) = true := decide_eq_true c6
      clear c6
      by_cases c7 : x11_1 < (l0.length : Int)
      ·rw [if_pos c7] at H
       have c7b0 : decide (x11_1 < (l0.length : Int)) = true := decide_eq_true c7
       clear c7
       by_cases c8 : x11_1 > 0
       ·rw [if_pos c8] at H
        have c8b0 : decide (0 < x11_1) = true := decide_eq_true c8
        clear c8
        by_cases c9 : x2_1.size + 1 ≤ 9223372036854775807
        ·rw [if_pos c9] at H
         have c9b0 := eq_true c9
         have c9b1 : decide (x2_1.size + 1 ≤ 9223372036854775807) = true := decide_eq_true c9
         try have c9b2 : (9223372036854775807 < x2_1.size + 1) = False := eq_false (Nat.not_lt.2 c9)
         by_cases c10 : ((rd_T213 l0 x11_1).f0).size + 1 ≤ 9223372036854775807
         ·rw [if_pos c10] at H
          have c10b0 := eq_true c10
          have c10b1 : decide (((rd_T213 l0 x11_1).f0).size + 1 ≤ 9223372036854775807) = true := decide_eq_true c10
          try have c10b2 : (9223372036854775807 < ((rd_T213 l0 x11_1).f0).size + 1) = False := eq_false (Nat.not_lt.2 c10)
          by_cases c11 : (((rd_T213 l0 x11_1).f0) ++ (⟨#[61]⟩ : ByteArray)).size + ((rd_T213 l0 x11_1).f1).size ≤ 9223372036854775807
          ·rw [if_pos c11] at H
           have c11b0 := eq_true c11
           have c11b1 : decide ((((rd_T213 l0 x11_1).f0) ++ (⟨#[61]⟩ : ByteArray)).size + ((rd_T213 l0 x11_1).f1).size ≤ 9223372036854775807) = true := decide_eq_true c11
           try have c11b2 : (9223372036854775807 < (((rd_T213 l0 x11_1).f0) ++ (⟨#[61]⟩ : ByteArray)).size + ((rd_T213 l0 x11_1).f1).size) = False := eq_false (Nat.not_lt.2 c11)
           by_cases c12 : (x2_1 ++ (⟨#[44]⟩ : ByteArray)).size + ((((rd_T213 l0 x11_1).f0) ++ (⟨#[61]⟩ : ByteArray)) ++ ((rd_T213 l0 x11_1).f1)).size ≤ 9223372036854775807
           ·rw [if_pos c12] at H
            have c12b0 := eq_true c12
            have c12b1 : decide ((x2_1 ++ (⟨#[44]⟩ : ByteArray)).size + ((((rd_T213 l0 x11_1).f0) ++ (⟨#[61]⟩ : ByteArray)) ++ ((rd_T213 l0 x11_1).f1)).size ≤ 9223372036854775807) = true := decide_eq_true c12
            try have c12b2 : (9223372036854775807 < (x2_1 ++ (⟨#[44]⟩ : ByteArray)).size + ((((rd_T213 l0 x11_1).f0) ++ (⟨#[61]⟩ : ByteArray)) ++ ((rd_T213 l0 x11_1).f1)).size) = False := eq_false (Nat.not_lt.2 c12)
            have H' := Aside0.mk H
            clear H
            have p158 : 0 ≤ (x11_1 : Int) := of_decide_eq_true (by first | (with_reducible assumption) | assumption)
            have q158 : x11_1 < (l0.length : Int) := of_decide_eq_true (by first | (with_reducible assumption) | assumption)
            obtain ⟨ad158, e158, hx158_0, hx158_1⟩ := at_T213 HR0.out x11_1 p158 q158
            cases e158
            replace hx158_0 := (HB.out.cell (World.block_lt_of_cell? w _ hx158_0)).trans hx158_0
            replace hx158_1 := (HB.out.cell (World.block_lt_of_cell? w _ hx158_1)).trans hx158_1
            replace p158 := eq_true p158
            replace q158 := eq_true q158
            go_wp2_with (first | ((with_reducible refine gate_dst (N := 5) rfl ?_); refine box_event ?hg (N := 5) ?hd (cs := #[.string (⟨#[]⟩ : ByteArray), .string (⟨#[]⟩ : ByteArray)]) (t := 213) ?hr ?_; (case hd => rfl); (case hg => rfl); (case hr => first | (go_simp; done) | (go_simp; rfl)); intro gb159 hg w13 hbox hb; have n0_ := Aside0.mk (below_step (by repeat (first | (with_reducible first | exact HB.out | apply below_alloc | apply pw_below_drewN | apply below_drew1) | exact HB.out)) hb); have n1_ := Aside0.mk (hbox); have n2_ := Aside0.mk ((by rw [hg]; exact (below_size (by repeat (first | (with_reducible first | exact HB.out | apply below_alloc | apply pw_below_drewN | apply below_drew1) | exact HB.out))) : w.heap.size ≤ gb159)); have n3_ := Aside0.mk ((by rw [hg]; exact (below_size (by repeat (first | (with_reducible first | exact HB.out | apply below_alloc | apply pw_below_drewN | apply below_drew1) | exact HB.out))) : w.heap.size ≤ gb159)); clear HB; have HB := n0_; have BK159 := n1_; have GW159 := n2_; have GE159 := n3_; clear n0_ n1_ n2_ n3_; clear hb hbox hg; have hcz14_0 : w13.cell? ⟨gb159, 0, none⟩ = some (.string (⟨#[]⟩ : ByteArray)) := (blk_cell BK159.out 0).trans rfl; have hcz14_1 : w13.cell? ⟨gb159, 1, none⟩ = some (.string (⟨#[]⟩ : ByteArray)) := (blk_cell BK159.out 1).trans rfl; have hfz14_0 := blk_frozen BK159.out 0; have hfz14_1 := blk_frozen BK159.out 1))
            go_roundg k1
            case measure => have := HK1.out; omega
            case rel => exact ⟨((x2_1 ++ (⟨#[44]⟩ : ByteArray)) ++ ((((rd_T213 l0 x11_1).f0) ++ (⟨#[61]⟩ : ByteArray)) ++ ((rd_T213 l0 x11_1).f1))), (wrap64 (x11_1 + 1)), (by first | rfl | (simp; done) | (simp [*]; done)), (by first | rfl | (simp; done) | (simp [*]; done)), H', ⟨by have := HK1.out; omega⟩, ⟨by repeat (first | (with_reducible first | exact HB.out | apply below_alloc | apply pw_below_drewN | apply below_drew1 | refine below_set ?_ GE159.out) | exact HB.out)⟩⟩
           ·rw [if_neg c12] at H
            exact absurd H (by simp)
          ·rw [if_neg c11] at H
           exact absurd H (by simp)
         ·rw [if_neg c10] at H
          exact absurd H (by simp)
        ·rw [if_neg c9] at H
         exact absurd H (by simp)
       ·rw [if_neg c8] at H
        have c8b0 : decide (0 < x11_1) = false := decide_eq_false c8
        clear c8
        by_cases c15 : ((rd_T213 l0 x11_1).f0).size + 1 ≤ 9223372036854775807
        ·rw [if_pos c15] at H
         have c15b0 := eq_true c15
         have c15b1 : decide (((rd_T213 l0 x11_1).f0).size + 1 ≤ 9223372036854775807) = true := decide_eq_true c15
         try have c15b2 : (9223372036854775807 < ((rd_T213 l0 x11_1).f0).size + 1) = False := eq_false (Nat.not_lt.2 c15)
         by_cases c16 : (((rd_T213 l0 x11_1).f0) ++ (⟨#[61]⟩ : ByteArray)).size + ((rd_T213 l0 x11_1).f1).size ≤ 9223372036854775807
         ·rw [if_pos c16] at H
          have c16b0 := eq_true c16
          have c16b1 : decide ((((rd_T213 l0 x11_1).f0) ++ (⟨#[61]⟩ : ByteArray)).size + ((rd_T213 l0 x11_1).f1).size ≤ 9223372036854775807) = true := decide_eq_true c16
          try have c16b2 : (9223372036854775807 < (((rd_T213 l0 x11_1).f0) ++ (⟨#[61]⟩ : ByteArray)).size + ((rd_T213 l0 x11_1).f1).size) = False := eq_false (Nat.not_lt.2 c16)
          by_cases c17 : x2_1.size + ((((rd_T213 l0 x11_1).f0) ++ (⟨#[61]⟩ : ByteArray)) ++ ((rd_T213 l0 x11_1).f1)).size ≤ 9223372036854775807
          ·rw [if_pos c17] at H
           have c17b0 := eq_true c17
           have c17b1 : decide (x2_1.size + ((((rd_T213 l0 x11_1).f0) ++ (⟨#[61]⟩ : ByteArray)) ++ ((rd_T213 l0 x11_1).f1)).size ≤ 9223372036854775807) = true := decide_eq_true c17
           try have c17b2 : (9223372036854775807 < x2_1.size + ((((rd_T213 l0 x11_1).f0) ++ (⟨#[61]⟩ : ByteArray)) ++ ((rd_T213 l0 x11_1).f1)).size) = False := eq_false (Nat.not_lt.2 c17)
           have H' := Aside0.mk H
           clear H
           have p158 : 0 ≤ (x11_1 : Int) := of_decide_eq_true (by first | (with_reducible assumption) | assumption)
           have q158 : x11_1 < (l0.length : Int) := of_decide_eq_true (by first | (with_reducible assumption) | assumption)
           obtain ⟨ad158, e158, hx158_0, hx158_1⟩ := at_T213 HR0.out x11_1 p158 q158
           cases e158
           replace hx158_0 := (HB.out.cell (World.block_lt_of_cell? w _ hx158_0)).trans hx158_0
           replace hx158_1 := (HB.out.cell (World.block_lt_of_cell? w _ hx158_1)).trans hx158_1
           replace p158 := eq_true p158
           replace q158 := eq_true q158
           go_wp2_with (first | ((with_reducible refine gate_dst (N := 5) rfl ?_); refine box_event ?hg (N := 5) ?hd (cs := #[.string (⟨#[]⟩ : ByteArray), .string (⟨#[]⟩ : ByteArray)]) (t := 213) ?hr ?_; (case hd => rfl); (case hg => rfl); (case hr => first | (go_simp; done) | (go_simp; rfl)); intro gb159 hg w18 hbox hb; have n0_ := Aside0.mk (below_step (by repeat (first | (with_reducible first | exact HB.out | apply below_alloc | apply pw_below_drewN | apply below_drew1) | exact HB.out)) hb); have n1_ := Aside0.mk (hbox); have n2_ := Aside0.mk ((by rw [hg]; exact (below_size (by repeat (first | (with_reducible first | exact HB.out | apply below_alloc | apply pw_below_drewN | apply below_drew1) | exact HB.out))) : w.heap.size ≤ gb159)); have n3_ := Aside0.mk ((by rw [hg]; exact (below_size (by repeat (first | (with_reducible first | exact HB.out | apply below_alloc | apply pw_below_drewN | apply below_drew1) | exact HB.out))) : w.heap.size ≤ gb159)); clear HB; have HB := n0_; have BK159 := n1_; have GW159 := n2_; have GE159 := n3_; clear n0_ n1_ n2_ n3_; clear hb hbox hg; have hcz19_0 : w18.cell? ⟨gb159, 0, none⟩ = some (.string (⟨#[]⟩ : ByteArray)) := (blk_cell BK159.out 0).trans rfl; have hcz19_1 : w18.cell? ⟨gb159, 1, none⟩ = some (.string (⟨#[]⟩ : ByteArray)) := (blk_cell BK159.out 1).trans rfl; have hfz19_0 := blk_frozen BK159.out 0; have hfz19_1 := blk_frozen BK159.out 1))
           go_roundg k1
           case measure => have := HK1.out; omega
           case rel => exact ⟨(x2_1 ++ ((((rd_T213 l0 x11_1).f0) ++ (⟨#[61]⟩ : ByteArray)) ++ ((rd_T213 l0 x11_1).f1))), (wrap64 (x11_1 + 1)), (by first | rfl | (simp; done) | (simp [*]; done)), (by first | rfl | (simp; done) | (simp [*]; done)), H', ⟨by have := HK1.out; omega⟩, ⟨by repeat (first | (with_reducible first | exact HB.out | apply below_alloc | apply pw_below_drewN | apply below_drew1 | refine below_set ?_ GE159.out) | exact HB.out)⟩⟩
          ·rw [if_neg c17] at H
           exact absurd H (by simp)
         ·rw [if_neg c16] at H
          exact absurd H (by simp)
        ·rw [if_neg c15] at H
         exact absurd H (by simp)
      ·rw [if_neg c7] at H
       exact absurd H (by simp)
     ·rw [if_neg c6] at H
      exact absurd H (by simp)
    ·rw [if_neg c5] at H
     have c5b0 : decide (x11_1 < (l0.length : Int)) = false := decide_eq_false c5
     clear c5
     simp only [Option.some.injEq, Prod.mk.injEq] at H
     obtain ⟨rfl, rfl⟩ := H
     go_wp2
     go_ret2
     exact ⟨by first | rfl | (simp [errW_none, errW_some] <;> rfl) | (simp [*, errW_none, errW_some] <;> rfl), by repeat (first | (with_reducible first | exact HB.out | apply below_alloc | apply pw_below_drewN | apply below_drew1) | exact HB.out)⟩
 ·replace c3 := Bool.eq_false_iff.mpr c3
  subst c3
  have H1 : (some ((⟨#[]⟩ : ByteArray), 14)) = some (r1, r2) := by rw [if_neg (show ¬ (false = true) by decide)] at H; exact H
  clear H
  have H := H1
  clear H1
  simp only [Option.some.injEq, Prod.mk.injEq] at H
  obtain ⟨rfl, rfl⟩ := H
  go_enter Tryd.func98, Tryd.ntmps98
  go_wp2_with (first | ((with_reducible refine gate_callee (f := 129) rfl ?_); refine goesL_ (some 7) rfl rfl Tryd.func129 (by kernel_rfl) rfl #[.slice A0 l0.length c0] rfl (by (try simp only [List.map_toArray, List.map_cons, List.map_nil]); first | done | rfl | (simp only [List.length_drop, List.length_take]; rfl)) ?_; (with_reducible refine (dims_Right.calls k _ _ l0 false _ ?side1 ?side2 A2.out).mono ?_); (case side1 => repeat (first | exact HR0.out | (with_reducible refine Kd.C_alloc ?_ _) | (with_reducible refine Kd.C_drewN ?_ _) | (with_reducible refine Kd.C_drew ?_))); (case side2 => exact HC0.out); rintro e w20 ⟨rfl, hb⟩; refine ⟨_, rfl, ?_⟩; have n0_ := Aside0.mk (below_step (by repeat (first | (with_reducible first | exact HB.out | apply below_alloc | apply pw_below_drewN | apply below_drew1) | exact HB.out)) hb); clear HB; have HB := n0_; clear n0_; (try clear hb); (try clear hb2); (try clear hk); (try clear hi)))
  go_ret2
  exact ⟨by first | rfl | (simp [errW_none, errW_some] <;> rfl) | (simp [*, errW_none, errW_some] <;> rfl), by repeat (first | (with_reducible first | exact HB.out | apply below_alloc | apply pw_below_drewN | apply below_drew1) | exact HB.out)⟩
mutual
def days_Date.j1 : Nat → Int → Int → Int → Int → Option (Int × Int × Int × Int)
 | 0, _, _, _, _ => none
 | k + 1, x0, x110000, x110001, x110002 => (days_before.f x110000).bind fun t112 => (days_Date.l1 k (wrap64 (x0 - t112)) x110000 1 x110002)
def days_Date.l1 : Nat → Int → Int → Int → Int → Option (Int × Int × Int × Int)
 | 0, _, _, _, _ => none
 | k + 1, x0, x110000, x110001, x110002 => (days_Length.f x110000 x110001).bind fun t113 => (if x0 ≥ t113 then ((days_Length.f x110000 x110001).bind fun t114 => (days_Date.l1 k (wrap64 (x0 - t114)) x110000 (wrap64 (x110001 + 1)) x110002)) else (some (x110000, x110001, wrap64 (x0 + 1), 0)))
def days_Date.l0 : Nat → Int → Int → Int → Int → Option (Int × Int × Int × Int)
 | 0, _, _, _, _ => none
 | k + 1, x0, x110000, x110001, x110002 => if x110000 < 2199 then ((days_before.f (wrap64 (x110000 + 1))).bind fun t111 => (if t111 ≤ x0 then (days_Date.l0 k x0 (wrap64 (x110000 + 1)) x110001 x110002) else (days_Date.j1 k x0 x110000 x110001 x110002))) else (days_Date.j1 k x0 x110000 x110001 x110002)
end
def days_Date.f (k : Nat) (a0 : Int) : Option (Int × Int × Int × Int) := (days_is.f a0).bind fun t110 => (if t110 = true then (days_Date.l0 k a0 (wrap64 (1900 + (wrap64 (Int.tdiv a0 366)))) 0 0) else (some (0, 0, 0, 11)))
theorem days_Date.mono_l : ∀ k, (∀ y0 y1 y2 y3, LeO (days_Date.j1 k y0 y1 y2 y3) (days_Date.j1 (k + 1) y0 y1 y2 y3)) ∧ (∀ y0 y1 y2 y3, LeO (days_Date.l1 k y0 y1 y2 y3) (days_Date.l1 (k + 1) y0 y1 y2 y3)) ∧ (∀ y0 y1 y2 y3, LeO (days_Date.l0 k y0 y1 y2 y3) (days_Date.l0 (k + 1) y0 y1 y2 y3))
 | 0 => ⟨fun _ _ _ _ r h => by simp [days_Date.j1] at h, fun _ _ _ _ r h => by simp [days_Date.l1] at h, fun _ _ _ _ r h => by simp [days_Date.l0] at h⟩
 | k + 1 => by
  obtain ⟨ih0, ih1, ih2⟩ := days_Date.mono_l k
  refine ⟨?_, ?_, ?_⟩
  ·intro y0 y1 y2 y3
   unfold days_Date.j1
   repeat' first
   | (with_reducible exact ih0 _ _ _ _)
   | (with_reducible exact ih1 _ _ _ _)
   | (with_reducible exact ih2 _ _ _ _)
   | (with_reducible exact LeO.refl _)
   | (with_reducible exact LeO.none _)
   | (with_reducible refine LeO.ite ?_ ?_)
   | (with_reducible refine LeO.bind ?_ (fun _ => ?_))
   | exact ih0 _ _ _ _
   | exact ih1 _ _ _ _
   | exact ih2 _ _ _ _
   | exact LeO.none _
   | refine LeO.ite ?_ ?_
   | refine LeO.bind ?_ (fun _ => ?_)
  ·intro y0 y1 y2 y3
   unfold days_Date.l1
   repeat' first
   | (with_reducible exact ih0 _ _ _ _)
   | (with_reducible exact ih1 _ _ _ _)
   | (with_reducible exact ih2 _ _ _ _)
   | (with_reducible exact LeO.refl _)
   | (with_reducible exact LeO.none _)
   | (with_reducible refine LeO.ite ?_ ?_)
   | (with_reducible refine LeO.bind ?_ (fun _ => ?_))
   | exact ih0 _ _ _ _
   | exact ih1 _ _ _ _
   | exact ih2 _ _ _ _
   | exact LeO.none _
   | refine LeO.ite ?_ ?_
   | refine LeO.bind ?_ (fun _ => ?_)
  ·intro y0 y1 y2 y3
   unfold days_Date.l0
   repeat' first
   | (with_reducible exact ih0 _ _ _ _)
   | (with_reducible exact ih1 _ _ _ _)
   | (with_reducible exact ih2 _ _ _ _)
   | (with_reducible exact LeO.refl _)
   | (with_reducible exact LeO.none _)
   | (with_reducible refine LeO.ite ?_ ?_)
   | (with_reducible refine LeO.bind ?_ (fun _ => ?_))
   | exact ih0 _ _ _ _
   | exact ih1 _ _ _ _
   | exact ih2 _ _ _ _
   | exact LeO.none _
   | refine LeO.ite ?_ ?_
   | refine LeO.bind ?_ (fun _ => ?_)
theorem days_Date.mono : ∀ a0 k, LeO (days_Date.f k a0) (days_Date.f (k + 1) a0) := by
 intro a0 k
 obtain ⟨ih0, ih1, ih2⟩ := days_Date.mono_l k
 unfold days_Date.f
 repeat' first
   | (with_reducible exact ih0 _ _ _ _)
   | (with_reducible exact ih1 _ _ _ _)
   | (with_reducible exact ih2 _ _ _ _)
   | (with_reducible exact LeO.refl _)
   | (with_reducible exact LeO.none _)
   | (with_reducible refine LeO.ite ?_ ?_)
   | (with_reducible refine LeO.bind ?_ (fun _ => ?_))
   | exact ih0 _ _ _ _
   | exact ih1 _ _ _ _
   | exact ih2 _ _ _ _
   | exact LeO.none _
   | refine LeO.ite ?_ ?_
   | refine LeO.bind ?_ (fun _ => ?_)
set_option maxHeartbeats 8000000 in
set_option maxRecDepth 100000 in
theorem days_Date.calls (k : Nat) (a0 : Int) (r1 : Int) (r2 : Int) (r3 : Int) (r4 : Int) (w : World) (h : days_Date.f k a0 = some (r1, r2, r3, r4)) (hT : Tab w) :
  Calls Tryd.prog 125 #[.int .i64 a0] w fun e w' => e = .returned (.tuple #[.agg #[.int .i64 r1, .int .i64 r2, .int .i64 r3], .int .i64 r4]) ∧ Below w.heap.size w w' := by
 have HTB := Aside0.mk hT
 clear hT
 have hu194 := Tryd.underlying194
 have HB := Aside0.mk (Below.refl w.heap.size w)
 have H : ((days_is.f a0).bind fun t110 => (if t110 = true then (days_Date.l0 k a0 (wrap64 (1900 + (wrap64 (Int.tdiv a0 366)))) 0 0) else (some (0, 0, 0, 11)))) = some (r1, r2, r3, r4) := h
 clear h
 replace H := Option.bind_eq_some_iff.mp H
 obtain ⟨t110, A20, H⟩ := H
 try dsimp only at H
 have A2 := Aside0.mk A20
 clear A20
 by_cases c3 : t110 = true
 ·subst c3
  have H1 : (days_Date.l0 k a0 (wrap64 (1900 + (wrap64 (Int.tdiv a0 366)))) 0 0) = some (r1, r2, r3, r4) := by rw [if_pos rfl] at H; exact H
  clear H
  have H := H1
  clear H1
  have HC4 := Aside0.mk H
  clear H
  go_enter Tryd.func125, Tryd.ntmps125
  go_upto_block 0 with (first | ((with_reducible refine gate_dst (N := 2) rfl ?_); refine box_event ?hg (N := 2) ?hd (cs := #[.int .i64 0, .int .i64 0, .int .i64 0]) (t := 194) ?hr ?_; (case hd => rfl); (case hg => rfl); (case hr => first | (go_simp; done) | (go_simp; rfl)); intro gb109 hg w5 hbox hb; have n0_ := Aside0.mk (below_step (by repeat (first | (with_reducible first | exact HB.out | apply below_alloc | apply pw_below_drewN | apply below_drew1) | exact HB.out)) hb); have n1_ := Aside0.mk (hbox); have n2_ := Aside0.mk ((by rw [hg]; exact (below_size (by repeat (first | (with_reducible first | exact HB.out | apply below_alloc | apply pw_below_drewN | apply below_drew1) | exact HB.out))) : w.heap.size ≤ gb109)); have n3_ := Aside0.mk ((by rw [hg]; exact (below_size (by repeat (first | (with_reducible first | exact HB.out | apply below_alloc | apply pw_below_drewN | apply below_drew1) | exact HB.out))) : w.heap.size ≤ gb109)); clear HB; have HB := n0_; have BK109 := n1_; have GW109 := n2_; have GE109 := n3_; clear n0_ n1_ n2_ n3_; clear hb hbox hg) | ((with_reducible refine gate_callee (f := 153) rfl ?_); refine goesL_ (some 5) rfl rfl Tryd.func153 (by kernel_rfl) rfl #[.int .i64 a0] rfl (by (try simp only [List.map_toArray, List.map_cons, List.map_nil]); first | done | rfl | (simp only [List.length_drop, List.length_take]; rfl)) ?_; (with_reducible refine (days_is.calls a0 true _ A2.out).mono ?_); rintro e w' ⟨rfl, ⟨nd, rfl⟩⟩; refine ⟨_, rfl, ?_⟩; have hcz6_0 : w5.cell? ⟨gb109, 0, none⟩ = some (.int .i64 0) := (blk_cell BK109.out 0).trans rfl; have hcz6_1 : w5.cell? ⟨gb109, 1, none⟩ = some (.int .i64 0) := (blk_cell BK109.out 1).trans rfl; have hcz6_2 : w5.cell? ⟨gb109, 2, none⟩ = some (.int .i64 0) := (blk_cell BK109.out 2).trans rfl; have hfz6_0 := blk_frozen BK109.out 0; have hfz6_1 := blk_frozen BK109.out 1; have hfz6_2 := blk_frozen BK109.out 2))
  (try simp only [Act.put, List.setIfInBounds_toArray, List.set_cons_zero, List.set_cons_succ])
  go_cut [] (fun wc => ∃ (kq : Nat) (x110000_3 : Int), Aside0 (days_Date.j1 kq a0 x110000_3 0 0 = some (r1, r2, r3, r4)) ∧ Aside0 (kq ≤ k) ∧ Aside0 (wc.heap[gb109]? = some (.cells #[.int .i64 x110000_3, .int .i64 0, .int .i64 0] 194 (0, 0))) ∧ Aside0 (Below w.heap.size w wc))
  case first =>
   have H := HC4.out
   clear HC4
   have H' := Aside0.mk H
   clear H
   go_wp2
   go_loopg [] k (fun kq w' => ∃ (x110000_1 : Int), Aside0 (days_Date.l0 kq a0 x110000_1 0 0 = some (r1, r2, r3, r4)) ∧ Aside0 (kq ≤ k) ∧ Aside0 (w'.heap[gb109]? = some (.cells #[.int .i64 x110000_1, .int .i64 0, .int .i64 0] 194 (0, 0))) ∧ Aside0 (Below w.heap.size w w'))
   case atStart => exact ⟨(wrap64 (1900 + (wrap64 (Int.tdiv a0 366)))), H', ⟨Nat.le_refl _⟩, ⟨by (with_reducible repeat (first | refine blk_drewN ?_ _ | refine blk_drew ?_ | refine blk_alloc ?_ _)); refine blk_put (cs := #[.int .i64 0, .int .i64 0, .int .i64 0]) ?_ 0 _ rfl; (with_reducible repeat (first | refine blk_drewN ?_ _ | refine blk_drew ?_ | refine blk_alloc ?_ _)); exact BK109.out⟩, ⟨by repeat (first | (with_reducible first | exact HB.out | apply below_alloc | apply pw_below_drewN | apply below_drew1 | refine below_set ?_ GE109.out) | exact HB.out)⟩⟩
   case round =>
    clear H'
    try clear c1
    try clear p2
    try clear c3
    try clear p6
    try clear hcz6_0
    try clear hcz6_1
    try clear hcz6_2
    try clear hfz6_0
    try clear hfz6_1
    try clear hfz6_2
    obtain ⟨x110000_1, HA, HK1, BK109, HB⟩ := hrel
    cases gk with
    | zero => exact absurd HA.out (by simp [days_Date.l0])
    | succ k1 =>
     have H := HA.out
     clear HA
     simp only [days_Date.l0] at H
     by_cases c7 : x110000_1 < 2199
     ·rw [if_pos c7] at H
      have c7b0 : decide (x110000_1 < 2199) = true := decide_eq_true c7
      clear c7
      (first | rw [c7b0] | (simp only [i64_w, i32_w]; rw [c7b0]) | skip)
      replace H := Option.bind_eq_some_iff.mp H
      obtain ⟨t111, A80, H⟩ := H
      try dsimp only at H
      have A8 := Aside0.mk A80
      clear A80
      by_cases c9 : t111 ≤ a0
      ·rw [if_pos c9] at H
       have c9b0 : decide (t111 ≤ a0) = true := decide_eq_true c9
       clear c9
       have H' := Aside0.mk H
       clear H
       have hcz10_0 : wr.cell? ⟨gb109, 0, none⟩ = some (.int .i64 x110000_1) := (blk_cell BK109.out 0).trans rfl
       have hcz10_1 : wr.cell? ⟨gb109, 1, none⟩ = some (.int .i64 0) := (blk_cell BK109.out 1).trans rfl
       have hcz10_2 : wr.cell? ⟨gb109, 2, none⟩ = some (.int .i64 0) := (blk_cell BK109.out 2).trans rfl
       have hfz10_0 := blk_frozen BK109.out 0
       have hfz10_1 := blk_frozen BK109.out 1
       have hfz10_2 := blk_frozen BK109.out 2
       go_wp2_with (first | (go_at_call 154; (with_reducible refine (days_before.calls (wrap64 (x110000_1 + 1)) t111 _ A8.out).mono ?_); rintro e w' ⟨rfl, ⟨nd, rfl⟩⟩))
       go_roundg k1
       case measure => have := HK1.out; omega
       case rel => exact ⟨(wrap64 (x110000_1 + 1)), H', ⟨by have := HK1.out; omega⟩, ⟨by (with_reducible repeat (first | refine blk_drewN ?_ _ | refine blk_drew ?_ | refine blk_alloc ?_ _)); refine blk_put (cs := #[.int .i64 x110000_1, .int .i64 0, .int .i64 0]) ?_ 0 _ rfl; (with_reducible repeat (first | refine blk_drewN ?_ _ | refine blk_drew ?_ | refine blk_alloc ?_ _)); exact BK109.out⟩, ⟨by repeat (first | (with_reducible first | exact HB.out | apply below_alloc | apply pw_below_drewN | apply below_drew1 | refine below_set ?_ GE109.out) | exact HB.out)⟩⟩
      ·rw [if_neg c9] at H
       have c9b0 : decide (t111 ≤ a0) = false := decide_eq_false c9
       clear c9
       have H' := Aside0.mk H
       clear H
       have hcz11_0 : wr.cell? ⟨gb109, 0, none⟩ = some (.int .i64 x110000_1) := (blk_cell BK109.out 0).trans rfl
       have hcz11_1 : wr.cell? ⟨gb109, 1, none⟩ = some (.int .i64 0) := (blk_cell BK109.out 1).trans rfl
       have hcz11_2 : wr.cell? ⟨gb109, 2, none⟩ = some (.int .i64 0) := (blk_cell BK109.out 2).trans rfl
       have hfz11_0 := blk_frozen BK109.out 0
       have hfz11_1 := blk_frozen BK109.out 1
       have hfz11_2 := blk_frozen BK109.out 2
       go_wp2_with (first | (go_at_call 154; (with_reducible refine (days_before.calls (wrap64 (x110000_1 + 1)) t111 _ A8.out).mono ?_); rintro e w' ⟨rfl, ⟨nd, rfl⟩⟩))
       go_meet
       case rel => exact ⟨_, (x110000_1), H', ⟨by have := HK1.out; first | omega | exact Nat.le_refl _⟩, ⟨by (with_reducible repeat (first | refine blk_drewN ?_ _ | refine blk_drew ?_ | refine blk_alloc ?_ _)); exact BK109.out⟩, ⟨by repeat (first | (with_reducible first | exact HB.out | apply below_alloc | apply pw_below_drewN | apply below_drew1 | refine below_set ?_ GE109.out) | exact HB.out)⟩⟩
     ·rw [if_neg c7] at H
      have c7b0 : decide (x110000_1 < 2199) = false := decide_eq_false c7
      clear c7
      (first | rw [c7b0] | (simp only [i64_w, i32_w]; rw [c7b0]) | skip)
      have H' := Aside0.mk H
      clear H
      have hcz12_0 : wr.cell? ⟨gb109, 0, none⟩ = some (.int .i64 x110000_1) := (blk_cell BK109.out 0).trans rfl
      have hcz12_1 : wr.cell? ⟨gb109, 1, none⟩ = some (.int .i64 0) := (blk_cell BK109.out 1).trans rfl
      have hcz12_2 : wr.cell? ⟨gb109, 2, none⟩ = some (.int .i64 0) := (blk_cell BK109.out 2).trans rfl
      have hfz12_0 := blk_frozen BK109.out 0
      have hfz12_1 := blk_frozen BK109.out 1
      have hfz12_2 := blk_frozen BK109.out 2
      go_wp2
      go_meet
      case rel => exact ⟨_, (x110000_1), H', ⟨by have := HK1.out; first | omega | exact Nat.le_refl _⟩, ⟨by (with_reducible repeat (first | refine blk_drewN ?_ _ | refine blk_drew ?_ | refine blk_alloc ?_ _)); exact BK109.out⟩, ⟨by repeat (first | (with_reducible first | exact HB.out | apply below_alloc | apply pw_below_drewN | apply below_drew1 | refine below_set ?_ GE109.out) | exact HB.out)⟩⟩
  case rest =>
   clear HC4
   try clear c1
   try clear p2
   try clear c3
   try clear p6
   try clear c7
   try clear c7b0
   try clear c9
   try clear c9b0
   try clear c12
   try clear hcz10_0
   try clear hcz10_1
   try clear hcz10_2
   try clear hcz11_0
   try clear hcz11_1
   try clear hcz11_2
   try clear hcz12_0
   try clear hcz12_1
   try clear hcz12_2
   try clear hcz6_0
   try clear hcz6_1
   try clear hcz6_2
   try clear hfz10_0
   try clear hfz10_1
   try clear hfz10_2
   try clear hfz11_0
   try clear hfz11_1
   try clear hfz11_2
   try clear hfz12_0
   try clear hfz12_1
   try clear hfz12_2
   try clear hfz6_0
   try clear hfz6_1
   try clear hfz6_2
   try clear p2
   try clear p6
   obtain ⟨kq, x110000_3, HA, HJ3, BK109, HB⟩ := hcut
   cases kq with
   | zero => exact absurd HA.out (by simp [days_Date.j1])
   | succ kj3 =>
    have H := HA.out
    clear HA
    simp only [days_Date.j1] at H
    replace H := Option.bind_eq_some_iff.mp H
    obtain ⟨t112, A130, H⟩ := H
    replace H : (days_Date.l1 kj3 (wrap64 (a0 - t112)) x110000_3 1 0) = some (r1, r2, r3, r4) := H
    have A13 := Aside0.mk A130
    clear A130
    have H' := Aside0.mk H
    clear H
    have hcz14_0 : wc.cell? ⟨gb109, 0, none⟩ = some (.int .i64 x110000_3) := (blk_cell BK109.out 0).trans rfl
    have hcz14_1 : wc.cell? ⟨gb109, 1, none⟩ = some (.int .i64 0) := (blk_cell BK109.out 1).trans rfl
    have hcz14_2 : wc.cell? ⟨gb109, 2, none⟩ = some (.int .i64 0) := (blk_cell BK109.out 2).trans rfl
    have hfz14_0 := blk_frozen BK109.out 0
    have hfz14_1 := blk_frozen BK109.out 1
    have hfz14_2 := blk_frozen BK109.out 2
    go_wp2_with (first | ((with_reducible refine gate_callee (f := 154) rfl ?_); refine goesL_ (some 30) rfl rfl Tryd.func154 (by kernel_rfl) rfl #[.int .i64 x110000_3] rfl (by (try simp only [List.map_toArray, List.map_cons, List.map_nil]); first | done | rfl | (simp only [List.length_drop, List.length_take]; rfl)) ?_; (with_reducible refine (days_before.calls x110000_3 t112 _ A13.out).mono ?_); rintro e w' ⟨rfl, ⟨nd, rfl⟩⟩; refine ⟨_, rfl, ?_⟩))
    go_loopg [0] kj3 (fun kq v0 w' => ∃ (x0_2 : Int) (x110001_2 : Int), v0 = .int .i64 x0_2 ∧ Aside0 (days_Date.l1 kq x0_2 x110000_3 x110001_2 0 = some (r1, r2, r3, r4)) ∧ Aside0 (kq ≤ kj3) ∧ Aside0 (w'.heap[gb109]? = some (.cells #[.int .i64 x110000_3, .int .i64 x110001_2, .int .i64 0] 194 (0, 0))) ∧ Aside0 (Below w.heap.size w w'))
    case atStart => exact ⟨(wrap64 (a0 - t112)), (1), (by first | rfl | (simp; done) | (simp [*]; done)), H', ⟨Nat.le_refl _⟩, ⟨by (with_reducible repeat (first | refine blk_drewN ?_ _ | refine blk_drew ?_ | refine blk_alloc ?_ _)); refine blk_put (cs := #[.int .i64 x110000_3, .int .i64 0, .int .i64 0]) ?_ 1 _ rfl; (with_reducible repeat (first | refine blk_drewN ?_ _ | refine blk_drew ?_ | refine blk_alloc ?_ _)); exact BK109.out⟩, ⟨by repeat (first | (with_reducible first | exact HB.out | apply below_alloc | apply pw_below_drewN | apply below_drew1 | refine below_set ?_ GE109.out) | exact HB.out)⟩⟩
    case round =>
     clear H'
     try clear c1
     try clear p2
     try clear c3
     try clear p6
     try clear c7
     try clear c7b0
     try clear c9
     try clear c9b0
     try clear c12
     try clear hcz10_0
     try clear hcz10_1
     try clear hcz10_2
     try clear hcz11_0
     try clear hcz11_1
     try clear hcz11_2
     try clear hcz12_0
     try clear hcz12_1
     try clear hcz12_2
     try clear hcz14_0
     try clear hcz14_1
     try clear hcz14_2
     try clear hcz6_0
     try clear hcz6_1
     try clear hcz6_2
     try clear hfz10_0
     try clear hfz10_1
     try clear hfz10_2
     try clear hfz11_0
     try clear hfz11_1
     try clear hfz11_2
     try clear hfz12_0
     try clear hfz12_1
     try clear hfz12_2
     try clear hfz14_0
     try clear hfz14_1
     try clear hfz14_2
     try clear hfz6_0
     try clear hfz6_1
     try clear hfz6_2
     try clear p2
     try clear p6
     obtain ⟨x0_2, x110001_2, rfl, HA, HK2, BK109, HB⟩ := hrel
     cases gk with
     | zero => exact absurd HA.out (by simp [days_Date.l1])
     | succ k2 =>
      have H := HA.out
      clear HA
      simp only [days_Date.l1] at H
      replace H := Option.bind_eq_some_iff.mp H
      obtain ⟨t113, A150, H⟩ := H
      try dsimp only at H
      have A15 := Aside0.mk A150
      clear A150
      by_cases c16 : x0_2 ≥ t113
      ·rw [if_pos c16] at H
       have c16b0 : decide (t113 ≤ x0_2) = true := decide_eq_true c16
       clear c16
       replace H := Option.bind_eq_some_iff.mp H
       obtain ⟨t114, A170, H⟩ := H
       try dsimp only at H
       have A17 := Aside0.mk A170
       clear A170
       have H' := Aside0.mk H
       clear H
       have hcz18_0 : wr.cell? ⟨gb109, 0, none⟩ = some (.int .i64 x110000_3) := (blk_cell BK109.out 0).trans rfl
       have hcz18_1 : wr.cell? ⟨gb109, 1, none⟩ = some (.int .i64 x110001_2) := (blk_cell BK109.out 1).trans rfl
       have hcz18_2 : wr.cell? ⟨gb109, 2, none⟩ = some (.int .i64 0) := (blk_cell BK109.out 2).trans rfl
       have hfz18_0 := blk_frozen BK109.out 0
       have hfz18_1 := blk_frozen BK109.out 1
       have hfz18_2 := blk_frozen BK109.out 2
       go_wp2_with (first | ((with_reducible refine gate_callee (f := 155) rfl ?_); refine goesL_ (some 38) rfl rfl Tryd.func155 (by kernel_rfl) rfl #[.int .i64 x110000_3, .int .i64 x110001_2] rfl (by (try simp only [List.map_toArray, List.map_cons, List.map_nil]); first | done | rfl | (simp only [List.length_drop, List.length_take]; rfl)) ?_; (with_reducible refine (days_Length.calls x110000_3 x110001_2 t113 _ A15.out (by first | exact HTB.out | (exact Tab.below HTB.out (by repeat (first | (with_reducible first | exact HB.out | apply below_alloc | apply pw_below_drewN | apply below_drew1 | apply pw_below_drew) | exact HB.out | refine below_set ?_ (Aside0.out (by assumption))))) | (repeat (first | exact HTB.out | apply Tab.alloc | apply Tab.drewN | apply Tab.drew)))).mono ?_); rintro e w' ⟨rfl, ⟨nd, rfl⟩⟩; refine ⟨_, rfl, ?_⟩) | ((with_reducible refine gate_callee (f := 155) rfl ?_); refine goesL_ (some 45) rfl rfl Tryd.func155 (by kernel_rfl) rfl #[.int .i64 x110000_3, .int .i64 x110001_2] rfl (by (try simp only [List.map_toArray, List.map_cons, List.map_nil]); first | done | rfl | (simp only [List.length_drop, List.length_take]; rfl)) ?_; (with_reducible refine (days_Length.calls x110000_3 x110001_2 t114 _ A17.out (by first | exact HTB.out | (exact Tab.below HTB.out (by repeat (first | (with_reducible first | exact HB.out | apply below_alloc | apply pw_below_drewN | apply below_drew1 | apply pw_below_drew) | exact HB.out | refine below_set ?_ (Aside0.out (by assumption))))) | (repeat (first | exact HTB.out | apply Tab.alloc | apply Tab.drewN | apply Tab.drew)))).mono ?_); rintro e w' ⟨rfl, ⟨nd, rfl⟩⟩; refine ⟨_, rfl, ?_⟩))
       go_roundg k2
       case measure => have := HJ3.out; have := HK2.out; omega
       case rel => exact ⟨(wrap64 (x0_2 - t114)), (wrap64 (x110001_2 + 1)), (by first | rfl | (simp; done) | (simp [*]; done)), H', ⟨by have := HJ3.out; have := HK2.out; omega⟩, ⟨by (with_reducible repeat (first | refine blk_drewN ?_ _ | refine blk_drew ?_ | refine blk_alloc ?_ _)); refine blk_put (cs := #[.int .i64 x110000_3, .int .i64 x110001_2, .int .i64 0]) ?_ 1 _ rfl; (with_reducible repeat (first | refine blk_drewN ?_ _ | refine blk_drew ?_ | refine blk_alloc ?_ _)); exact BK109.out⟩, ⟨by repeat (first | (with_reducible first | exact HB.out | apply below_alloc | apply pw_below_drewN | apply below_drew1 | refine below_set ?_ GE109.out) | exact HB.out)⟩⟩
      ·rw [if_neg c16] at H
       have c16b0 : decide (t113 ≤ x0_2) = false := decide_eq_false c16
       clear c16
       simp only [Option.some.injEq, Prod.mk.injEq] at H
       obtain ⟨rfl, rfl, rfl, rfl⟩ := H
       have hcz19_0 : wr.cell? ⟨gb109, 0, none⟩ = some (.int .i64 x110000_3) := (blk_cell BK109.out 0).trans rfl
       have hcz19_1 : wr.cell? ⟨gb109, 1, none⟩ = some (.int .i64 x110001_2) := (blk_cell BK109.out 1).trans rfl
       have hcz19_2 : wr.cell? ⟨gb109, 2, none⟩ = some (.int .i64 0) := (blk_cell BK109.out 2).trans rfl
       have hfz19_0 := blk_frozen BK109.out 0
       have hfz19_1 := blk_frozen BK109.out 1
       have hfz19_2 := blk_frozen BK109.out 2
       go_wp2_with (first | ((with_reducible refine gate_callee (f := 155) rfl ?_); refine goesL_ (some 38) rfl rfl Tryd.func155 (by kernel_rfl) rfl #[.int .i64 x110000_3, .int .i64 x110001_2] rfl (by (try simp only [List.map_toArray, List.map_cons, List.map_nil]); first | done | rfl | (simp only [List.length_drop, List.length_take]; rfl)) ?_; (with_reducible refine (days_Length.calls x110000_3 x110001_2 t113 _ A15.out (by first | exact HTB.out | (exact Tab.below HTB.out (by repeat (first | (with_reducible first | exact HB.out | apply below_alloc | apply pw_below_drewN | apply below_drew1 | apply pw_below_drew) | exact HB.out | refine below_set ?_ (Aside0.out (by assumption))))) | (repeat (first | exact HTB.out | apply Tab.alloc | apply Tab.drewN | apply Tab.drew)))).mono ?_); rintro e w' ⟨rfl, ⟨nd, rfl⟩⟩; refine ⟨_, rfl, ?_⟩))
       refine bodyPost_ret (results_ct rfl _ _ gb109 194 #[.int .i64 x110000_3, .int .i64 x110001_2, .int .i64 (wrap64 (x0_2 + 1))] (0, 0) _ rfl (by (with_reducible repeat (first | refine blk_drewN ?_ _ | refine blk_drew ?_ | refine blk_alloc ?_ _)); refine blk_put (cs := #[.int .i64 x110000_3, .int .i64 x110001_2, .int .i64 (wrap64 (x0_2 + 1))]) ?_ 2 _ rfl; (with_reducible repeat (first | refine blk_drewN ?_ _ | refine blk_drew ?_ | refine blk_alloc ?_ _)); refine blk_put (cs := #[.int .i64 x110000_3, .int .i64 x110001_2, .int .i64 (wrap64 (x0_2 + 1))]) ?_ 1 _ rfl; (with_reducible repeat (first | refine blk_drewN ?_ _ | refine blk_drew ?_ | refine blk_alloc ?_ _)); refine blk_put (cs := #[.int .i64 x110000_3, .int .i64 x110001_2, .int .i64 (wrap64 (x0_2 + 1))]) ?_ 0 _ rfl; (with_reducible repeat (first | refine blk_drewN ?_ _ | refine blk_drew ?_ | refine blk_alloc ?_ _)); refine blk_put (cs := #[.int .i64 x110000_3, .int .i64 x110001_2, .int .i64 0]) ?_ 2 _ rfl; (with_reducible repeat (first | refine blk_drewN ?_ _ | refine blk_drew ?_ | refine blk_alloc ?_ _)); exact BK109.out) Tryd.underlying194 rfl (by kernel_rfl)) rfl ?_
       exact ⟨by first | rfl | (simp [errW_none, errW_some] <;> rfl) | (simp [*, errW_none, errW_some] <;> rfl), by repeat (first | (with_reducible first | exact HB.out | apply below_alloc | apply pw_below_drewN | apply below_drew1 | refine below_set ?_ GE109.out) | exact HB.out)⟩
 ·replace c3 := Bool.eq_false_iff.mpr c3
  subst c3
  have H1 : (some (0, 0, 0, 11)) = some (r1, r2, r3, r4) := by rw [if_neg (show ¬ (false = true) by decide)] at H; exact H
  clear H
  have H := H1
  clear H1
  simp only [Option.some.injEq, Prod.mk.injEq] at H
  obtain ⟨rfl, rfl, rfl, rfl⟩ := H
  go_enter Tryd.func125, Tryd.ntmps125
  go_wp2_with (first | ((with_reducible refine gate_dst (N := 2) rfl ?_); refine box_event ?hg (N := 2) ?hd (cs := #[.int .i64 0, .int .i64 0, .int .i64 0]) (t := 194) ?hr ?_; (case hd => rfl); (case hg => rfl); (case hr => first | (go_simp; done) | (go_simp; rfl)); intro gb109 hg w20 hbox hb; have n0_ := Aside0.mk (below_step (by repeat (first | (with_reducible first | exact HB.out | apply below_alloc | apply pw_below_drewN | apply below_drew1) | exact HB.out)) hb); have n1_ := Aside0.mk (hbox); have n2_ := Aside0.mk ((by rw [hg]; exact (below_size (by repeat (first | (with_reducible first | exact HB.out | apply below_alloc | apply pw_below_drewN | apply below_drew1) | exact HB.out))) : w.heap.size ≤ gb109)); have n3_ := Aside0.mk ((by rw [hg]; exact (below_size (by repeat (first | (with_reducible first | exact HB.out | apply below_alloc | apply pw_below_drewN | apply below_drew1) | exact HB.out))) : w.heap.size ≤ gb109)); clear HB; have HB := n0_; have BK109 := n1_; have GW109 := n2_; have GE109 := n3_; clear n0_ n1_ n2_ n3_; clear hb hbox hg) | ((with_reducible refine gate_callee (f := 153) rfl ?_); refine goesL_ (some 5) rfl rfl Tryd.func153 (by kernel_rfl) rfl #[.int .i64 a0] rfl (by (try simp only [List.map_toArray, List.map_cons, List.map_nil]); first | done | rfl | (simp only [List.length_drop, List.length_take]; rfl)) ?_; (with_reducible refine (days_is.calls a0 false _ A2.out).mono ?_); rintro e w' ⟨rfl, ⟨nd, rfl⟩⟩; refine ⟨_, rfl, ?_⟩; have hcz21_0 : w20.cell? ⟨gb109, 0, none⟩ = some (.int .i64 0) := (blk_cell BK109.out 0).trans rfl; have hcz21_1 : w20.cell? ⟨gb109, 1, none⟩ = some (.int .i64 0) := (blk_cell BK109.out 1).trans rfl; have hcz21_2 : w20.cell? ⟨gb109, 2, none⟩ = some (.int .i64 0) := (blk_cell BK109.out 2).trans rfl; have hfz21_0 := blk_frozen BK109.out 0; have hfz21_1 := blk_frozen BK109.out 1; have hfz21_2 := blk_frozen BK109.out 2))
  refine bodyPost_ret (results_ct rfl _ _ gb109 194 #[.int .i64 0, .int .i64 0, .int .i64 0] (0, 0) _ rfl (by (with_reducible repeat (first | refine blk_drewN ?_ _ | refine blk_drew ?_ | refine blk_alloc ?_ _)); refine blk_put (cs := #[.int .i64 0, .int .i64 0, .int .i64 0]) ?_ 2 _ rfl; (with_reducible repeat (first | refine blk_drewN ?_ _ | refine blk_drew ?_ | refine blk_alloc ?_ _)); refine blk_put (cs := #[.int .i64 0, .int .i64 0, .int .i64 0]) ?_ 1 _ rfl; (with_reducible repeat (first | refine blk_drewN ?_ _ | refine blk_drew ?_ | refine blk_alloc ?_ _)); refine blk_put (cs := #[.int .i64 0, .int .i64 0, .int .i64 0]) ?_ 0 _ rfl; (with_reducible repeat (first | refine blk_drewN ?_ _ | refine blk_drew ?_ | refine blk_alloc ?_ _)); exact BK109.out) Tryd.underlying194 rfl (by kernel_rfl)) rfl ?_
  exact ⟨by first | rfl | (simp [errW_none, errW_some] <;> rfl) | (simp [*, errW_none, errW_some] <;> rfl), by repeat (first | (with_reducible first | exact HB.out | apply below_alloc | apply pw_below_drewN | apply below_drew1 | refine below_set ?_ GE109.out) | exact HB.out)⟩
def entry_isDay.f (k : Nat) (a0 : Int) : Option (Bool) := (days_Date.f k a0).bind fun bt115 => (some (bt115.2.2.2 == 0))
theorem entry_isDay.mono : ∀ a0 k, LeO (entry_isDay.f k a0) (entry_isDay.f (k + 1) a0) := by
 intro a0 k
 unfold entry_isDay.f
 repeat' first
   | (with_reducible exact days_Date.mono _ _)
   | (with_reducible exact LeO.refl _)
   | (with_reducible exact LeO.none _)
   | (with_reducible refine LeO.ite ?_ ?_)
   | (with_reducible refine LeO.bind ?_ (fun _ => ?_))
   | exact days_Date.mono _ _
   | exact LeO.none _
   | refine LeO.ite ?_ ?_
   | refine LeO.bind ?_ (fun _ => ?_)
set_option maxHeartbeats 8000000 in
set_option maxRecDepth 100000 in
theorem entry_isDay.calls (k : Nat) (a0 : Int) (r : Bool) (w : World) (h : entry_isDay.f k a0 = some r) (hT : Tab w) :
  Calls Tryd.prog 132 #[.int .i64 a0] w fun e w' => e = .returned (.bool r) ∧ Below w.heap.size w w' := by
 have HTB := Aside0.mk hT
 clear hT
 have hu194 := Tryd.underlying194
 have HB := Aside0.mk (Below.refl w.heap.size w)
 have H : ((days_Date.f k a0).bind fun bt115 => (some (bt115.2.2.2 == 0))) = some r := h
 clear h
 replace H := Option.bind_eq_some_iff.mp H
 obtain ⟨⟨t115, t116, t117, t118⟩, A20, H⟩ := H
 replace H : (some (t118 == 0)) = some r := H
 have A2 := Aside0.mk A20
 clear A20
 obtain rfl := Option.some.inj H
 go_enter Tryd.func132, Tryd.ntmps132
 go_wp2_with (first | ((with_reducible refine gate_callee (f := 125) rfl ?_); refine goesL_ (some 7) rfl rfl Tryd.func125 (by kernel_rfl) rfl #[.int .i64 a0] rfl (by (try simp only [List.map_toArray, List.map_cons, List.map_nil]); first | done | rfl | (simp only [List.length_drop, List.length_take]; rfl)) ?_; (with_reducible refine (days_Date.calls k a0 t115 t116 t117 t118 _ A2.out (by first | exact HTB.out | (exact Tab.below HTB.out (by repeat (first | (with_reducible first | exact HB.out | apply below_alloc | apply pw_below_drewN | apply below_drew1 | apply pw_below_drew) | exact HB.out | refine below_set ?_ (Aside0.out (by assumption))))) | (repeat (first | exact HTB.out | apply Tab.alloc | apply Tab.drewN | apply Tab.drew)))).mono ?_); rintro e w3 ⟨rfl, hb⟩; refine ⟨_, rfl, ?_⟩; have n0_ := Aside0.mk (below_step (by repeat (first | (with_reducible first | exact HB.out | apply below_alloc | apply pw_below_drewN | apply below_drew1) | exact HB.out)) hb); clear HB; have HB := n0_; clear n0_; (try clear hb); (try clear hb2); (try clear hk); (try clear hi)) | ((with_reducible refine gate_dst (N := 3) rfl ?_); refine box_event ?hg (N := 3) ?hd (cs := #[.int .i64 0, .int .i64 0, .int .i64 0]) (t := 194) ?hr ?_; (case hd => rfl); (case hg => rfl); (case hr => first | (go_simp; done) | (go_simp; rfl)); intro gb119 hg w4 hbox hb; have n0_ := Aside0.mk (below_step (by repeat (first | (with_reducible first | exact HB.out | apply below_alloc | apply pw_below_drewN | apply below_drew1) | exact HB.out)) hb); have n1_ := Aside0.mk (hbox); have n2_ := Aside0.mk ((by rw [hg]; exact (below_size (by repeat (first | (with_reducible first | exact HB.out | apply below_alloc | apply pw_below_drewN | apply below_drew1) | exact HB.out))) : w.heap.size ≤ gb119)); have n3_ := Aside0.mk ((by rw [hg]; exact (below_size (by repeat (first | (with_reducible first | exact HB.out | apply below_alloc | apply pw_below_drewN | apply below_drew1) | exact HB.out))) : w.heap.size ≤ gb119)); clear HB; have HB := n0_; have BK119 := n1_; have GW119 := n2_; have GE119 := n3_; clear n0_ n1_ n2_ n3_; clear hb hbox hg; have hcz5_0 : w4.cell? ⟨gb119, 0, none⟩ = some (.int .i64 0) := (blk_cell BK119.out 0).trans rfl; have hcz5_1 : w4.cell? ⟨gb119, 1, none⟩ = some (.int .i64 0) := (blk_cell BK119.out 1).trans rfl; have hcz5_2 : w4.cell? ⟨gb119, 2, none⟩ = some (.int .i64 0) := (blk_cell BK119.out 2).trans rfl; have hfz5_0 := blk_frozen BK119.out 0; have hfz5_1 := blk_frozen BK119.out 1; have hfz5_2 := blk_frozen BK119.out 2))
 go_ret
 exact ⟨by first | rfl | (simp [errW_none, errW_some] <;> rfl) | (simp [*, errW_none, errW_some] <;> rfl), by repeat (first | (with_reducible first | exact HB.out | apply below_alloc | apply pw_below_drewN | apply below_drew1 | refine below_set ?_ GE119.out) | exact HB.out)⟩
mutual
def entry_head.j0 : Nat → Bool → Int → ByteArray → Int → Int → Int → ByteArray → ByteArray → Int → List (S109) → Option (Int)
 | 0, _, _, _, _, _, _, _, _, _, _ => none
 | k + 1, x3, x121000, x121001, x121002, x121003, x121004, x121005, x121006, x121007, x121008 => if x3 = true then (some 3) else ((words_Code.f x121001).bind fun t121 => (if t121 = true then ((words_Code.f x121006).bind fun t122 => (entry_head.j1 k (!t122) x121000 x121001 x121002 x121003 x121004 x121005 x121006 x121007 x121008)) else (entry_head.j1 k true x121000 x121001 x121002 x121003 x121004 x121005 x121006 x121007 x121008)))
def entry_head.j1 : Nat → Bool → Int → ByteArray → Int → Int → Int → ByteArray → ByteArray → Int → List (S109) → Option (Int)
 | 0, _, _, _, _, _, _, _, _, _, _ => none
 | k + 1, x22, x121000, x121001, x121002, x121003, x121004, x121005, x121006, x121007, x121008 => if x22 = true then (some 7) else ((entry_isDay.f k x121002).bind fun t123 => (if t123 = true then ((entry_isDay.f k x121003).bind fun t124 => (entry_head.j2 k (!t124) x121000 x121001 x121002 x121003 x121004 x121005 x121006 x121007 x121008)) else (entry_head.j2 k true x121000 x121001 x121002 x121003 x121004 x121005 x121006 x121007 x121008)))
def entry_head.j2 : Nat → Bool → Int → ByteArray → Int → Int → Int → ByteArray → ByteArray → Int → List (S109) → Option (Int)
 | 0, _, _, _, _, _, _, _, _, _, _ => none
 | k + 1, x33, x121000, x121001, x121002, x121003, x121004, x121005, x121006, x121007, x121008 => if x33 = true then (some 11) else (if x121004 < 1 then (entry_head.j3 k true x121000 x121001 x121002 x121003 x121004 x121005 x121006 x121007 x121008) else (entry_head.j3 k (decide (x121004 > 7)) x121000 x121001 x121002 x121003 x121004 x121005 x121006 x121007 x121008))
def entry_head.j3 : Nat → Bool → Int → ByteArray → Int → Int → Int → ByteArray → ByteArray → Int → List (S109) → Option (Int)
 | 0, _, _, _, _, _, _, _, _, _, _ => none
 | k + 1, x44, x121000, x121001, x121002, x121003, x121004, x121005, x121006, x121007, x121008 => if x44 = true then (some 10) else ((words_Plain.f x121005).bind fun t125 => (if t125 = true then (if (x121008.length : Int) < 2 then (some 2) else (if (x121008.length : Int) > 100 then (some 9) else (some 0))) else (some 5)))
end
def entry_head.f (k : Nat) (a0_0 : Int) (a0_1 : ByteArray) (a0_2 : Int) (a0_3 : Int) (a0_4 : Int) (a0_5 : ByteArray) (a0_6 : ByteArray) (a0_7 : Int) (l0_8 : List (S109)) : Option (Int) := if a0_0 < 0 then (entry_head.j0 k true a0_0 a0_1 a0_2 a0_3 a0_4 a0_5 a0_6 a0_7 l0_8) else (if a0_0 > 4000 then (entry_head.j0 k true a0_0 a0_1 a0_2 a0_3 a0_4 a0_5 a0_6 a0_7 l0_8) else (if a0_7 < 0 then (entry_head.j0 k true a0_0 a0_1 a0_2 a0_3 a0_4 a0_5 a0_6 a0_7 l0_8) else (entry_head.j0 k (decide (a0_7 > 4000)) a0_0 a0_1 a0_2 a0_3 a0_4 a0_5 a0_6 a0_7 l0_8)))
theorem entry_head.mono_l : ∀ k, (∀ y0 y1 y2 y3 y4 y5 y6 y7 y8 y9, LeO (entry_head.j0 k y0 y1 y2 y3 y4 y5 y6 y7 y8 y9) (entry_head.j0 (k + 1) y0 y1 y2 y3 y4 y5 y6 y7 y8 y9)) ∧ (∀ y0 y1 y2 y3 y4 y5 y6 y7 y8 y9, LeO (entry_head.j1 k y0 y1 y2 y3 y4 y5 y6 y7 y8 y9) (entry_head.j1 (k + 1) y0 y1 y2 y3 y4 y5 y6 y7 y8 y9)) ∧ (∀ y0 y1 y2 y3 y4 y5 y6 y7 y8 y9, LeO (entry_head.j2 k y0 y1 y2 y3 y4 y5 y6 y7 y8 y9) (entry_head.j2 (k + 1) y0 y1 y2 y3 y4 y5 y6 y7 y8 y9)) ∧ (∀ y0 y1 y2 y3 y4 y5 y6 y7 y8 y9, LeO (entry_head.j3 k y0 y1 y2 y3 y4 y5 y6 y7 y8 y9) (entry_head.j3 (k + 1) y0 y1 y2 y3 y4 y5 y6 y7 y8 y9))
 | 0 => ⟨fun _ _ _ _ _ _ _ _ _ _ r h => by simp [entry_head.j0] at h, fun _ _ _ _ _ _ _ _ _ _ r h => by simp [entry_head.j1] at h, fun _ _ _ _ _ _ _ _ _ _ r h => by simp [entry_head.j2] at h, fun _ _ _ _ _ _ _ _ _ _ r h => by simp [entry_head.j3] at h⟩
 | k + 1 => by
  obtain ⟨ih0, ih1, ih2, ih3⟩ := entry_head.mono_l k
  refine ⟨?_, ?_, ?_, ?_⟩
  ·intro y0 y1 y2 y3 y4 y5 y6 y7 y8 y9
   unfold entry_head.j0
   repeat' first
   | (with_reducible exact ih0 _ _ _ _ _ _ _ _ _ _)
   | (with_reducible exact ih1 _ _ _ _ _ _ _ _ _ _)
   | (with_reducible exact ih2 _ _ _ _ _ _ _ _ _ _)
   | (with_reducible exact ih3 _ _ _ _ _ _ _ _ _ _)
   | (with_reducible exact entry_isDay.mono _ _)
   | (with_reducible exact LeO.refl _)
   | (with_reducible exact LeO.none _)
   | (with_reducible refine LeO.ite ?_ ?_)
   | (with_reducible refine LeO.bind ?_ (fun _ => ?_))
   | exact ih0 _ _ _ _ _ _ _ _ _ _
   | exact ih1 _ _ _ _ _ _ _ _ _ _
   | exact ih2 _ _ _ _ _ _ _ _ _ _
   | exact ih3 _ _ _ _ _ _ _ _ _ _
   | exact entry_isDay.mono _ _
   | exact LeO.none _
   | refine LeO.ite ?_ ?_
   | refine LeO.bind ?_ (fun _ => ?_)
  ·intro y0 y1 y2 y3 y4 y5 y6 y7 y8 y9
   unfold entry_head.j1
   repeat' first
   | (with_reducible exact ih0 _ _ _ _ _ _ _ _ _ _)
   | (with_reducible exact ih1 _ _ _ _ _ _ _ _ _ _)
   | (with_reducible exact ih2 _ _ _ _ _ _ _ _ _ _)
   | (with_reducible exact ih3 _ _ _ _ _ _ _ _ _ _)
   | (with_reducible exact entry_isDay.mono _ _)
   | (with_reducible exact LeO.refl _)
   | (with_reducible exact LeO.none _)
   | (with_reducible refine LeO.ite ?_ ?_)
   | (with_reducible refine LeO.bind ?_ (fun _ => ?_))
   | exact ih0 _ _ _ _ _ _ _ _ _ _
   | exact ih1 _ _ _ _ _ _ _ _ _ _
   | exact ih2 _ _ _ _ _ _ _ _ _ _
   | exact ih3 _ _ _ _ _ _ _ _ _ _
   | exact entry_isDay.mono _ _
   | exact LeO.none _
   | refine LeO.ite ?_ ?_
   | refine LeO.bind ?_ (fun _ => ?_)
  ·intro y0 y1 y2 y3 y4 y5 y6 y7 y8 y9
   unfold entry_head.j2
   repeat' first
   | (with_reducible exact ih0 _ _ _ _ _ _ _ _ _ _)
   | (with_reducible exact ih1 _ _ _ _ _ _ _ _ _ _)
   | (with_reducible exact ih2 _ _ _ _ _ _ _ _ _ _)
   | (with_reducible exact ih3 _ _ _ _ _ _ _ _ _ _)
   | (with_reducible exact entry_isDay.mono _ _)
   | (with_reducible exact LeO.refl _)
   | (with_reducible exact LeO.none _)
   | (with_reducible refine LeO.ite ?_ ?_)
   | (with_reducible refine LeO.bind ?_ (fun _ => ?_))
   | exact ih0 _ _ _ _ _ _ _ _ _ _
   | exact ih1 _ _ _ _ _ _ _ _ _ _
   | exact ih2 _ _ _ _ _ _ _ _ _ _
   | exact ih3 _ _ _ _ _ _ _ _ _ _
   | exact entry_isDay.mono _ _
   | exact LeO.none _
   | refine LeO.ite ?_ ?_
   | refine LeO.bind ?_ (fun _ => ?_)
  ·intro y0 y1 y2 y3 y4 y5 y6 y7 y8 y9
   unfold entry_head.j3
   repeat' first
   | (with_reducible exact ih0 _ _ _ _ _ _ _ _ _ _)
   | (with_reducible exact ih1 _ _ _ _ _ _ _ _ _ _)
   | (with_reducible exact ih2 _ _ _ _ _ _ _ _ _ _)
   | (with_reducible exact ih3 _ _ _ _ _ _ _ _ _ _)
   | (with_reducible exact entry_isDay.mono _ _)
   | (with_reducible exact LeO.refl _)
   | (with_reducible exact LeO.none _)
   | (with_reducible refine LeO.ite ?_ ?_)
   | (with_reducible refine LeO.bind ?_ (fun _ => ?_))
   | exact ih0 _ _ _ _ _ _ _ _ _ _
   | exact ih1 _ _ _ _ _ _ _ _ _ _
   | exact ih2 _ _ _ _ _ _ _ _ _ _
   | exact ih3 _ _ _ _ _ _ _ _ _ _
   | exact entry_isDay.mono _ _
   | exact LeO.none _
   | refine LeO.ite ?_ ?_
   | refine LeO.bind ?_ (fun _ => ?_)
theorem entry_head.mono : ∀ a0 a1 a2 a3 a4 a5 a6 a7 a8 k, LeO (entry_head.f k a0 a1 a2 a3 a4 a5 a6 a7 a8) (entry_head.f (k + 1) a0 a1 a2 a3 a4 a5 a6 a7 a8) := by
 intro a0 a1 a2 a3 a4 a5 a6 a7 a8 k
 obtain ⟨ih0, ih1, ih2, ih3⟩ := entry_head.mono_l k
 unfold entry_head.f
 repeat' first
   | (with_reducible exact ih0 _ _ _ _ _ _ _ _ _ _)
   | (with_reducible exact ih1 _ _ _ _ _ _ _ _ _ _)
   | (with_reducible exact ih2 _ _ _ _ _ _ _ _ _ _)
   | (with_reducible exact ih3 _ _ _ _ _ _ _ _ _ _)
   | (with_reducible exact entry_isDay.mono _ _)
   | (with_reducible exact LeO.refl _)
   | (with_reducible exact LeO.none _)
   | (with_reducible refine LeO.ite ?_ ?_)
   | (with_reducible refine LeO.bind ?_ (fun _ => ?_))
   | exact ih0 _ _ _ _ _ _ _ _ _ _
   | exact ih1 _ _ _ _ _ _ _ _ _ _
   | exact ih2 _ _ _ _ _ _ _ _ _ _
   | exact ih3 _ _ _ _ _ _ _ _ _ _
   | exact entry_isDay.mono _ _
   | exact LeO.none _
   | refine LeO.ite ?_ ?_
   | refine LeO.bind ?_ (fun _ => ?_)
set_option maxHeartbeats 8000000 in
set_option maxRecDepth 100000 in
theorem entry_head.calls (k : Nat) (a0_0 : Int) (a0_1 : ByteArray) (a0_2 : Int) (a0_3 : Int) (a0_4 : Int) (a0_5 : ByteArray) (a0_6 : ByteArray) (a0_7 : Int) (A0_8 : Option Addr) (c0_8 : Nat) (l0_8 : List (S109)) (r : Int) (w : World) (hr0_8 : Kd.C k109 w A0_8 l0_8.length l0_8) (hc0_8 : l0_8.length ≤ c0_8) (h : entry_head.f k a0_0 a0_1 a0_2 a0_3 a0_4 a0_5 a0_6 a0_7 l0_8 = some r) (hT : Tab w) :
  Calls Tryd.prog 94 #[.agg #[.int .i64 a0_0, .string a0_1, .int .i64 a0_2, .int .i64 a0_3, .int .i64 a0_4, .string a0_5, .string a0_6, .int .i64 a0_7, .slice A0_8 l0_8.length c0_8]] w fun e w' => e = .returned (.int .i64 r) ∧ Below w.heap.size w w' := by
 have HTB := Aside0.mk hT
 clear hT
 have hu29 := Tryd.underlying29
 have HR0_8 := Aside0.mk hr0_8
 have HC0_8 := Aside0.mk hc0_8
 clear hr0_8 hc0_8
 have HB := Aside0.mk (Below.refl w.heap.size w)
 have H : (if a0_0 < 0 then (entry_head.j0 k true a0_0 a0_1 a0_2 a0_3 a0_4 a0_5 a0_6 a0_7 l0_8) else (if a0_0 > 4000 then (entry_head.j0 k true a0_0 a0_1 a0_2 a0_3 a0_4 a0_5 a0_6 a0_7 l0_8) else (if a0_7 < 0 then (entry_head.j0 k true a0_0 a0_1 a0_2 a0_3 a0_4 a0_5 a0_6 a0_7 l0_8) else (entry_head.j0 k (decide (a0_7 > 4000)) a0_0 a0_1 a0_2 a0_3 a0_4 a0_5 a0_6 a0_7 l0_8)))) = some r := h
 clear h
 have HC2 := Aside0.mk H
 clear H
 go_enter Tryd.func94, Tryd.ntmps94
 go_upto_region 1 with (first | ((with_reducible refine gate_dst (N := 1) rfl ?_); refine box_event ?hg (N := 1) ?hd (cs := #[.int .i64 a0_0, .string a0_1, .int .i64 a0_2, .int .i64 a0_3, .int .i64 a0_4, .string a0_5, .string a0_6, .int .i64 a0_7, .slice A0_8 l0_8.length c0_8]) (t := 29) ?hr ?_; (case hd => rfl); (case hg => rfl); (case hr => first | (go_simp; done) | (go_simp; rfl)); intro gb120 hg w3 hbox hb; have n0_ := Aside0.mk (below_step (by repeat (first | (with_reducible first | exact HB.out | apply below_alloc | apply pw_below_drewN | apply below_drew1) | exact HB.out)) hb); have n1_ := Aside0.mk (hbox); have n2_ := Aside0.mk ((by rw [hg]; exact (below_size (by repeat (first | (with_reducible first | exact HB.out | apply below_alloc | apply pw_below_drewN | apply below_drew1) | exact HB.out))) : w.heap.size ≤ gb120)); have n3_ := Aside0.mk ((by rw [hg]; exact (below_size (by repeat (first | (with_reducible first | exact HB.out | apply below_alloc | apply pw_below_drewN | apply below_drew1) | exact HB.out))) : w.heap.size ≤ gb120)); clear HB; have HB := n0_; have BK120 := n1_; have GW120 := n2_; have GE120 := n3_; clear n0_ n1_ n2_ n3_; clear hb hbox hg))
 (try simp only [Act.put, List.setIfInBounds_toArray, List.set_cons_zero, List.set_cons_succ])
 go_cut [3] (fun v3 wc => ∃ (kq : Nat) (x3_1 : Bool), v3 = .bool x3_1 ∧ Aside0 (entry_head.j0 kq x3_1 a0_0 a0_1 a0_2 a0_3 a0_4 a0_5 a0_6 a0_7 l0_8 = some r) ∧ Aside0 (kq ≤ k) ∧ Aside0 (wc.heap[gb120]? = some (.cells #[.int .i64 a0_0, .string a0_1, .int .i64 a0_2, .int .i64 a0_3, .int .i64 a0_4, .string a0_5, .string a0_6, .int .i64 a0_7, (.slice A0_8 l0_8.length c0_8)] 29 (0, 0))) ∧ Aside0 (Below w.heap.size w wc))
 case first =>
  have H := HC2.out
  clear HC2
  by_cases c4 : a0_0 < 0
  ·rw [if_pos c4] at H
   have c4b0 : decide (a0_0 < 0) = true := decide_eq_true c4
   clear c4
   (first | rw [c4b0] | (simp only [i64_w, i32_w]; rw [c4b0]) | skip)
   have H' := Aside0.mk H
   clear H
   have hcz5_0 : w3.cell? ⟨gb120, 0, none⟩ = some (.int .i64 a0_0) := (blk_cell BK120.out 0).trans rfl
   have hcz5_1 : w3.cell? ⟨gb120, 1, none⟩ = some (.string a0_1) := (blk_cell BK120.out 1).trans rfl
   have hcz5_2 : w3.cell? ⟨gb120, 2, none⟩ = some (.int .i64 a0_2) := (blk_cell BK120.out 2).trans rfl
   have hcz5_3 : w3.cell? ⟨gb120, 3, none⟩ = some (.int .i64 a0_3) := (blk_cell BK120.out 3).trans rfl
   have hcz5_4 : w3.cell? ⟨gb120, 4, none⟩ = some (.int .i64 a0_4) := (blk_cell BK120.out 4).trans rfl
   have hcz5_5 : w3.cell? ⟨gb120, 5, none⟩ = some (.string a0_5) := (blk_cell BK120.out 5).trans rfl
   have hcz5_6 : w3.cell? ⟨gb120, 6, none⟩ = some (.string a0_6) := (blk_cell BK120.out 6).trans rfl
   have hcz5_7 : w3.cell? ⟨gb120, 7, none⟩ = some (.int .i64 a0_7) := (blk_cell BK120.out 7).trans rfl
   have hcz5_8 : w3.cell? ⟨gb120, 8, none⟩ = some (.slice A0_8 l0_8.length c0_8) := (blk_cell BK120.out 8).trans rfl
   have hfz5_0 := blk_frozen BK120.out 0
   have hfz5_1 := blk_frozen BK120.out 1
   have hfz5_2 := blk_frozen BK120.out 2
   have hfz5_3 := blk_frozen BK120.out 3
   have hfz5_4 := blk_frozen BK120.out 4
   have hfz5_5 := blk_frozen BK120.out 5
   have hfz5_6 := blk_frozen BK120.out 6
   have hfz5_7 := blk_frozen BK120.out 7
   have hfz5_8 := blk_frozen BK120.out 8
   go_wp2
   go_meet
   case rel => exact ⟨_, (true), (by first | rfl | (simp; done) | (simp [*]; done)), H', ⟨by first | omega | exact Nat.le_refl _⟩, ⟨by (with_reducible repeat (first | refine blk_drewN ?_ _ | refine blk_drew ?_ | refine blk_alloc ?_ _)); exact BK120.out⟩, ⟨by repeat (first | (with_reducible first | exact HB.out | apply below_alloc | apply pw_below_drewN | apply below_drew1 | refine below_set ?_ GE120.out) | exact HB.out)⟩⟩
  ·rw [if_neg c4] at H
   have c4b0 : decide (a0_0 < 0) = false := decide_eq_false c4
   clear c4
   (first | rw [c4b0] | (simp only [i64_w, i32_w]; rw [c4b0]) | skip)
   by_cases c6 : a0_0 > 4000
   ·rw [if_pos c6] at H
    have c6b0 : decide (4000 < a0_0) = true := decide_eq_true c6
    clear c6
    have H' := Aside0.mk H
    clear H
    have hcz7_0 : w3.cell? ⟨gb120, 0, none⟩ = some (.int .i64 a0_0) := (blk_cell BK120.out 0).trans rfl
    have hcz7_1 : w3.cell? ⟨gb120, 1, none⟩ = some (.string a0_1) := (blk_cell BK120.out 1).trans rfl
    have hcz7_2 : w3.cell? ⟨gb120, 2, none⟩ = some (.int .i64 a0_2) := (blk_cell BK120.out 2).trans rfl
    have hcz7_3 : w3.cell? ⟨gb120, 3, none⟩ = some (.int .i64 a0_3) := (blk_cell BK120.out 3).trans rfl
    have hcz7_4 : w3.cell? ⟨gb120, 4, none⟩ = some (.int .i64 a0_4) := (blk_cell BK120.out 4).trans rfl
    have hcz7_5 : w3.cell? ⟨gb120, 5, none⟩ = some (.string a0_5) := (blk_cell BK120.out 5).trans rfl
    have hcz7_6 : w3.cell? ⟨gb120, 6, none⟩ = some (.string a0_6) := (blk_cell BK120.out 6).trans rfl
    have hcz7_7 : w3.cell? ⟨gb120, 7, none⟩ = some (.int .i64 a0_7) := (blk_cell BK120.out 7).trans rfl
    have hcz7_8 : w3.cell? ⟨gb120, 8, none⟩ = some (.slice A0_8 l0_8.length c0_8) := (blk_cell BK120.out 8).trans rfl
    have hfz7_0 := blk_frozen BK120.out 0
    have hfz7_1 := blk_frozen BK120.out 1
    have hfz7_2 := blk_frozen BK120.out 2
    have hfz7_3 := blk_frozen BK120.out 3
    have hfz7_4 := blk_frozen BK120.out 4
    have hfz7_5 := blk_frozen BK120.out 5
    have hfz7_6 := blk_frozen BK120.out 6
    have hfz7_7 := blk_frozen BK120.out 7
    have hfz7_8 := blk_frozen BK120.out 8
    go_wp2
    go_meet
    case rel => exact ⟨_, (true), (by first | rfl | (simp; done) | (simp [*]; done)), H', ⟨by first | omega | exact Nat.le_refl _⟩, ⟨by (with_reducible repeat (first | refine blk_drewN ?_ _ | refine blk_drew ?_ | refine blk_alloc ?_ _)); exact BK120.out⟩, ⟨by repeat (first | (with_reducible first | exact HB.out | apply below_alloc | apply pw_below_drewN | apply below_drew1 | refine below_set ?_ GE120.out) | exact HB.out)⟩⟩
   ·rw [if_neg c6] at H
    have c6b0 : decide (4000 < a0_0) = false := decide_eq_false c6
    clear c6
    by_cases c8 : a0_7 < 0
    ·rw [if_pos c8] at H
     have c8b0 : decide (a0_7 < 0) = true := decide_eq_true c8
     clear c8
     have H' := Aside0.mk H
     clear H
     have hcz9_0 : w3.cell? ⟨gb120, 0, none⟩ = some (.int .i64 a0_0) := (blk_cell BK120.out 0).trans rfl
     have hcz9_1 : w3.cell? ⟨gb120, 1, none⟩ = some (.string a0_1) := (blk_cell BK120.out 1).trans rfl
     have hcz9_2 : w3.cell? ⟨gb120, 2, none⟩ = some (.int .i64 a0_2) := (blk_cell BK120.out 2).trans rfl
     have hcz9_3 : w3.cell? ⟨gb120, 3, none⟩ = some (.int .i64 a0_3) := (blk_cell BK120.out 3).trans rfl
     have hcz9_4 : w3.cell? ⟨gb120, 4, none⟩ = some (.int .i64 a0_4) := (blk_cell BK120.out 4).trans rfl
     have hcz9_5 : w3.cell? ⟨gb120, 5, none⟩ = some (.string a0_5) := (blk_cell BK120.out 5).trans rfl
     have hcz9_6 : w3.cell? ⟨gb120, 6, none⟩ = some (.string a0_6) := (blk_cell BK120.out 6).trans rfl
     have hcz9_7 : w3.cell? ⟨gb120, 7, none⟩ = some (.int .i64 a0_7) := (blk_cell BK120.out 7).trans rfl
     have hcz9_8 : w3.cell? ⟨gb120, 8, none⟩ = some (.slice A0_8 l0_8.length c0_8) := (blk_cell BK120.out 8).trans rfl
     have hfz9_0 := blk_frozen BK120.out 0
     have hfz9_1 := blk_frozen BK120.out 1
     have hfz9_2 := blk_frozen BK120.out 2
     have hfz9_3 := blk_frozen BK120.out 3
     have hfz9_4 := blk_frozen BK120.out 4
     have hfz9_5 := blk_frozen BK120.out 5
     have hfz9_6 := blk_frozen BK120.out 6
     have hfz9_7 := blk_frozen BK120.out 7
     have hfz9_8 := blk_frozen BK120.out 8
     go_wp2
     go_meet
     case rel => exact ⟨_, (true), (by first | rfl | (simp; done) | (simp [*]; done)), H', ⟨by first | omega | exact Nat.le_refl _⟩, ⟨by (with_reducible repeat (first | refine blk_drewN ?_ _ | refine blk_drew ?_ | refine blk_alloc ?_ _)); exact BK120.out⟩, ⟨by repeat (first | (with_reducible first | exact HB.out | apply below_alloc | apply pw_below_drewN | apply below_drew1 | refine below_set ?_ GE120.out) | exact HB.out)⟩⟩
    ·rw [if_neg c8] at H
     have c8b0 : decide (a0_7 < 0) = false := decide_eq_false c8
     clear c8
     have H' := Aside0.mk H
     clear H
     have hcz10_0 : w3.cell? ⟨gb120, 0, none⟩ = some (.int .i64 a0_0) := (blk_cell BK120.out 0).trans rfl
     have hcz10_1 : w3.cell? ⟨gb120, 1, none⟩ = some (.string a0_1) := (blk_cell BK120.out 1).trans rfl
     have hcz10_2 : w3.cell? ⟨gb120, 2, none⟩ = some (.int .i64 a0_2) := (blk_cell BK120.out 2).trans rfl
     have hcz10_3 : w3.cell? ⟨gb120, 3, none⟩ = some (.int .i64 a0_3) := (blk_cell BK120.out 3).trans rfl
     have hcz10_4 : w3.cell? ⟨gb120, 4, none⟩ = some (.int .i64 a0_4) := (blk_cell BK120.out 4).trans rfl
     have hcz10_5 : w3.cell? ⟨gb120, 5, none⟩ = some (.string a0_5) := (blk_cell BK120.out 5).trans rfl
     have hcz10_6 : w3.cell? ⟨gb120, 6, none⟩ = some (.string a0_6) := (blk_cell BK120.out 6).trans rfl
     have hcz10_7 : w3.cell? ⟨gb120, 7, none⟩ = some (.int .i64 a0_7) := (blk_cell BK120.out 7).trans rfl
     have hcz10_8 : w3.cell? ⟨gb120, 8, none⟩ = some (.slice A0_8 l0_8.length c0_8) := (blk_cell BK120.out 8).trans rfl
     have hfz10_0 := blk_frozen BK120.out 0
     have hfz10_1 := blk_frozen BK120.out 1
     have hfz10_2 := blk_frozen BK120.out 2
     have hfz10_3 := blk_frozen BK120.out 3
     have hfz10_4 := blk_frozen BK120.out 4
     have hfz10_5 := blk_frozen BK120.out 5
     have hfz10_6 := blk_frozen BK120.out 6
     have hfz10_7 := blk_frozen BK120.out 7
     have hfz10_8 := blk_frozen BK120.out 8
     go_wp2
     go_meet
     case rel => exact ⟨_, (decide (a0_7 > 4000)), (by first | rfl | (simp; done) | (simp [*]; done)), H', ⟨by first | omega | exact Nat.le_refl _⟩, ⟨by (with_reducible repeat (first | refine blk_drewN ?_ _ | refine blk_drew ?_ | refine blk_alloc ?_ _)); exact BK120.out⟩, ⟨by repeat (first | (with_reducible first | exact HB.out | apply below_alloc | apply pw_below_drewN | apply below_drew1 | refine below_set ?_ GE120.out) | exact HB.out)⟩⟩
 case rest =>
  clear HC2
  try clear p2
  try clear c4
  try clear c4b0
  try clear c6
  try clear c6b0
  try clear c8
  try clear c8b0
  try clear c9
  try clear hcz10_0
  try clear hcz10_1
  try clear hcz10_2
  try clear hcz10_3
  try clear hcz10_4
  try clear hcz10_5
  try clear hcz10_6
  try clear hcz10_7
  try clear hcz10_8
  try clear hcz5_0
  try clear hcz5_1
  try clear hcz5_2
  try clear hcz5_3
  try clear hcz5_4
  try clear hcz5_5
  try clear hcz5_6
  try clear hcz5_7
  try clear hcz5_8
  try clear hcz7_0
  try clear hcz7_1
  try clear hcz7_2
  try clear hcz7_3
  try clear hcz7_4
  try clear hcz7_5
  try clear hcz7_6
  try clear hcz7_7
  try clear hcz7_8
  try clear hcz9_0
  try clear hcz9_1
  try clear hcz9_2
  try clear hcz9_3
  try clear hcz9_4
  try clear hcz9_5
  try clear hcz9_6
  try clear hcz9_7
  try clear hcz9_8
  try clear hfz10_0
  try clear hfz10_1
  try clear hfz10_2
  try clear hfz10_3
  try clear hfz10_4
  try clear hfz10_5
  try clear hfz10_6
  try clear hfz10_7
  try clear hfz10_8
  try clear hfz5_0
  try clear hfz5_1
  try clear hfz5_2
  try clear hfz5_3
  try clear hfz5_4
  try clear hfz5_5
  try clear hfz5_6
  try clear hfz5_7
  try clear hfz5_8
  try clear hfz7_0
  try clear hfz7_1
  try clear hfz7_2
  try clear hfz7_3
  try clear hfz7_4
  try clear hfz7_5
  try clear hfz7_6
  try clear hfz7_7
  try clear hfz7_8
  try clear hfz9_0
  try clear hfz9_1
  try clear hfz9_2
  try clear hfz9_3
  try clear hfz9_4
  try clear hfz9_5
  try clear hfz9_6
  try clear hfz9_7
  try clear hfz9_8
  obtain ⟨kq, x3_1, rfl, HA, HJ1, BK120, HB⟩ := hcut
  cases kq with
  | zero => exact absurd HA.out (by simp [entry_head.j0])
  | succ kj1 =>
   have H := HA.out
   clear HA
   simp only [entry_head.j0] at H
   by_cases c11 : x3_1 = true
   ·subst c11
    have H1 : (some 3) = some r := by rw [if_pos rfl] at H; exact H
    clear H
    have H := H1
    clear H1
    obtain rfl := Option.some.inj H
    go_wp2
    go_ret
    exact ⟨by first | rfl | (simp [errW_none, errW_some] <;> rfl) | (simp [*, errW_none, errW_some] <;> rfl), by repeat (first | (with_reducible first | exact HB.out | apply below_alloc | apply pw_below_drewN | apply below_drew1 | refine below_set ?_ GE120.out) | exact HB.out)⟩
   ·replace c11 := Bool.eq_false_iff.mpr c11
    subst c11
    have H1 : ((words_Code.f a0_1).bind fun t121 => (if t121 = true then ((words_Code.f a0_6).bind fun t122 => (entry_head.j1 kj1 (!t122) a0_0 a0_1 a0_2 a0_3 a0_4 a0_5 a0_6 a0_7 l0_8)) else (entry_head.j1 kj1 true a0_0 a0_1 a0_2 a0_3 a0_4 a0_5 a0_6 a0_7 l0_8))) = some r := by rw [if_neg (show ¬ (false = true) by decide)] at H; exact H
    clear H
    have H := H1
    clear H1
    have HC12 := Aside0.mk H
    clear H
    go_upto_region 3 with (fail)
    go_cut [22] (fun v22 wc => ∃ (kq : Nat) (x22_11 : Bool), v22 = .bool x22_11 ∧ Aside0 (entry_head.j1 kq x22_11 a0_0 a0_1 a0_2 a0_3 a0_4 a0_5 a0_6 a0_7 l0_8 = some r) ∧ Aside0 (kq ≤ kj1) ∧ Aside0 (wc.heap[gb120]? = some (.cells #[.int .i64 a0_0, .string a0_1, .int .i64 a0_2, .int .i64 a0_3, .int .i64 a0_4, .string a0_5, .string a0_6, .int .i64 a0_7, (.slice A0_8 l0_8.length c0_8)] 29 (0, 0))) ∧ Aside0 (Below w.heap.size w wc))
    case first =>
     have H := HC12.out
     clear HC12
     replace H := Option.bind_eq_some_iff.mp H
     obtain ⟨t121, A130, H⟩ := H
     try dsimp only at H
     have A13 := Aside0.mk A130
     clear A130
     by_cases c14 : t121 = true
     ·subst c14
      have H1 : ((words_Code.f a0_6).bind fun t122 => (entry_head.j1 kj1 (!t122) a0_0 a0_1 a0_2 a0_3 a0_4 a0_5 a0_6 a0_7 l0_8)) = some r := by rw [if_pos rfl] at H; exact H
      clear H
      have H := H1
      clear H1
      replace H := Option.bind_eq_some_iff.mp H
      obtain ⟨t122, A150, H⟩ := H
      replace H : (entry_head.j1 kj1 (!t122) a0_0 a0_1 a0_2 a0_3 a0_4 a0_5 a0_6 a0_7 l0_8) = some r := H
      have A15 := Aside0.mk A150
      clear A150
      have H' := Aside0.mk H
      clear H
      have hcz16_0 : wc.cell? ⟨gb120, 0, none⟩ = some (.int .i64 a0_0) := (blk_cell BK120.out 0).trans rfl
      have hcz16_1 : wc.cell? ⟨gb120, 1, none⟩ = some (.string a0_1) := (blk_cell BK120.out 1).trans rfl
      have hcz16_2 : wc.cell? ⟨gb120, 2, none⟩ = some (.int .i64 a0_2) := (blk_cell BK120.out 2).trans rfl
      have hcz16_3 : wc.cell? ⟨gb120, 3, none⟩ = some (.int .i64 a0_3) := (blk_cell BK120.out 3).trans rfl
      have hcz16_4 : wc.cell? ⟨gb120, 4, none⟩ = some (.int .i64 a0_4) := (blk_cell BK120.out 4).trans rfl
      have hcz16_5 : wc.cell? ⟨gb120, 5, none⟩ = some (.string a0_5) := (blk_cell BK120.out 5).trans rfl
      have hcz16_6 : wc.cell? ⟨gb120, 6, none⟩ = some (.string a0_6) := (blk_cell BK120.out 6).trans rfl
      have hcz16_7 : wc.cell? ⟨gb120, 7, none⟩ = some (.int .i64 a0_7) := (blk_cell BK120.out 7).trans rfl
      have hcz16_8 : wc.cell? ⟨gb120, 8, none⟩ = some (.slice A0_8 l0_8.length c0_8) := (blk_cell BK120.out 8).trans rfl
      have hfz16_0 := blk_frozen BK120.out 0
      have hfz16_1 := blk_frozen BK120.out 1
      have hfz16_2 := blk_frozen BK120.out 2
      have hfz16_3 := blk_frozen BK120.out 3
      have hfz16_4 := blk_frozen BK120.out 4
      have hfz16_5 := blk_frozen BK120.out 5
      have hfz16_6 := blk_frozen BK120.out 6
      have hfz16_7 := blk_frozen BK120.out 7
      have hfz16_8 := blk_frozen BK120.out 8
      go_wp2_with (first | ((with_reducible refine gate_callee (f := 80) rfl ?_); refine goesL_ (some 25) rfl rfl Tryd.func80 (by kernel_rfl) rfl #[.string a0_1] rfl (by (try simp only [List.map_toArray, List.map_cons, List.map_nil]); first | done | rfl | (simp only [List.length_drop, List.length_take]; rfl)) ?_; (with_reducible refine (words_Code.calls a0_1 true _ A13.out).mono ?_); rintro e w' ⟨rfl, ⟨nd, rfl⟩⟩; refine ⟨_, rfl, ?_⟩) | (go_at_call 80; (with_reducible refine (words_Code.calls a0_6 t122 _ A15.out).mono ?_); rintro e w' ⟨rfl, ⟨nd, rfl⟩⟩))
      go_meet
      case rel => exact ⟨_, (!t122), (by first | rfl | (simp; done) | (simp [*]; done)), H', ⟨by have := HJ1.out; first | omega | exact Nat.le_refl _⟩, ⟨by (with_reducible repeat (first | refine blk_drewN ?_ _ | refine blk_drew ?_ | refine blk_alloc ?_ _)); exact BK120.out⟩, ⟨by repeat (first | (with_reducible first | exact HB.out | apply below_alloc | apply pw_below_drewN | apply below_drew1 | refine below_set ?_ GE120.out) | exact HB.out)⟩⟩
     ·replace c14 := Bool.eq_false_iff.mpr c14
      subst c14
      have H1 : (entry_head.j1 kj1 true a0_0 a0_1 a0_2 a0_3 a0_4 a0_5 a0_6 a0_7 l0_8) = some r := by rw [if_neg (show ¬ (false = true) by decide)] at H; exact H
      clear H
      have H := H1
      clear H1
      have H' := Aside0.mk H
      clear H
      have hcz17_0 : wc.cell? ⟨gb120, 0, none⟩ = some (.int .i64 a0_0) := (blk_cell BK120.out 0).trans rfl
      have hcz17_1 : wc.cell? ⟨gb120, 1, none⟩ = some (.string a0_1) := (blk_cell BK120.out 1).trans rfl
      have hcz17_2 : wc.cell? ⟨gb120, 2, none⟩ = some (.int .i64 a0_2) := (blk_cell BK120.out 2).trans rfl
      have hcz17_3 : wc.cell? ⟨gb120, 3, none⟩ = some (.int .i64 a0_3) := (blk_cell BK120.out 3).trans rfl
      have hcz17_4 : wc.cell? ⟨gb120, 4, none⟩ = some (.int .i64 a0_4) := (blk_cell BK120.out 4).trans rfl
      have hcz17_5 : wc.cell? ⟨gb120, 5, none⟩ = some (.string a0_5) := (blk_cell BK120.out 5).trans rfl
      have hcz17_6 : wc.cell? ⟨gb120, 6, none⟩ = some (.string a0_6) := (blk_cell BK120.out 6).trans rfl
      have hcz17_7 : wc.cell? ⟨gb120, 7, none⟩ = some (.int .i64 a0_7) := (blk_cell BK120.out 7).trans rfl
      have hcz17_8 : wc.cell? ⟨gb120, 8, none⟩ = some (.slice A0_8 l0_8.length c0_8) := (blk_cell BK120.out 8).trans rfl
      have hfz17_0 := blk_frozen BK120.out 0
      have hfz17_1 := blk_frozen BK120.out 1
      have hfz17_2 := blk_frozen BK120.out 2
      have hfz17_3 := blk_frozen BK120.out 3
      have hfz17_4 := blk_frozen BK120.out 4
      have hfz17_5 := blk_frozen BK120.out 5
      have hfz17_6 := blk_frozen BK120.out 6
      have hfz17_7 := blk_frozen BK120.out 7
      have hfz17_8 := blk_frozen BK120.out 8
      go_wp2_with (first | ((with_reducible refine gate_callee (f := 80) rfl ?_); refine goesL_ (some 25) rfl rfl Tryd.func80 (by kernel_rfl) rfl #[.string a0_1] rfl (by (try simp only [List.map_toArray, List.map_cons, List.map_nil]); first | done | rfl | (simp only [List.length_drop, List.length_take]; rfl)) ?_; (with_reducible refine (words_Code.calls a0_1 false _ A13.out).mono ?_); rintro e w' ⟨rfl, ⟨nd, rfl⟩⟩; refine ⟨_, rfl, ?_⟩))
      go_meet
      case rel => exact ⟨_, (true), (by first | rfl | (simp; done) | (simp [*]; done)), H', ⟨by have := HJ1.out; first | omega | exact Nat.le_refl _⟩, ⟨by (with_reducible repeat (first | refine blk_drewN ?_ _ | refine blk_drew ?_ | refine blk_alloc ?_ _)); exact BK120.out⟩, ⟨by repeat (first | (with_reducible first | exact HB.out | apply below_alloc | apply pw_below_drewN | apply below_drew1 | refine below_set ?_ GE120.out) | exact HB.out)⟩⟩
    case rest =>
     clear HC12
     try clear c1
     try clear p2
     try clear c4
     try clear c4b0
     try clear c6
     try clear c6b0
     try clear c8
     try clear c8b0
     try clear c9
     try clear c11
     try clear c14
     try clear hcz10_0
     try clear hcz10_1
     try clear hcz10_2
     try clear hcz10_3
     try clear hcz10_4
     try clear hcz10_5
     try clear hcz10_6
     try clear hcz10_7
     try clear hcz10_8
     try clear hcz16_0
     try clear hcz16_1
     try clear hcz16_2
     try clear hcz16_3
     try clear hcz16_4
     try clear hcz16_5
     try clear hcz16_6
     try clear hcz16_7
     try clear hcz16_8
     try clear hcz17_0
     try clear hcz17_1
     try clear hcz17_2
     try clear hcz17_3
     try clear hcz17_4
     try clear hcz17_5
     try clear hcz17_6
     try clear hcz17_7
     try clear hcz17_8
     try clear hcz5_0
     try clear hcz5_1
     try clear hcz5_2
     try clear hcz5_3
     try clear hcz5_4
     try clear hcz5_5
     try clear hcz5_6
     try clear hcz5_7
     try clear hcz5_8
     try clear hcz7_0
     try clear hcz7_1
     try clear hcz7_2
     try clear hcz7_3
     try clear hcz7_4
     try clear hcz7_5
     try clear hcz7_6
     try clear hcz7_7
     try clear hcz7_8
     try clear hcz9_0
     try clear hcz9_1
     try clear hcz9_2
     try clear hcz9_3
     try clear hcz9_4
     try clear hcz9_5
     try clear hcz9_6
     try clear hcz9_7
     try clear hcz9_8
     try clear hfz10_0
     try clear hfz10_1
     try clear hfz10_2
     try clear hfz10_3
     try clear hfz10_4
     try clear hfz10_5
     try clear hfz10_6
     try clear hfz10_7
     try clear hfz10_8
     try clear hfz16_0
     try clear hfz16_1
     try clear hfz16_2
     try clear hfz16_3
     try clear hfz16_4
     try clear hfz16_5
     try clear hfz16_6
     try clear hfz16_7
     try clear hfz16_8
     try clear hfz17_0
     try clear hfz17_1
     try clear hfz17_2
     try clear hfz17_3
     try clear hfz17_4
     try clear hfz17_5
     try clear hfz17_6
     try clear hfz17_7
     try clear hfz17_8
     try clear hfz5_0
     try clear hfz5_1
     try clear hfz5_2
     try clear hfz5_3
     try clear hfz5_4
     try clear hfz5_5
     try clear hfz5_6
     try clear hfz5_7
     try clear hfz5_8
     try clear hfz7_0
     try clear hfz7_1
     try clear hfz7_2
     try clear hfz7_3
     try clear hfz7_4
     try clear hfz7_5
     try clear hfz7_6
     try clear hfz7_7
     try clear hfz7_8
     try clear hfz9_0
     try clear hfz9_1
     try clear hfz9_2
     try clear hfz9_3
     try clear hfz9_4
     try clear hfz9_5
     try clear hfz9_6
     try clear hfz9_7
     try clear hfz9_8
     try clear p2
     obtain ⟨kq, x22_11, rfl, HA, HJ11, BK120, HB⟩ := hcut
     cases kq with
     | zero => exact absurd HA.out (by simp [entry_head.j1])
     | succ kj11 =>
      have H := HA.out
      clear HA
      simp only [entry_head.j1] at H
      by_cases c18 : x22_11 = true
      ·subst c18
       have H1 : (some 7) = some r := by rw [if_pos rfl] at H; exact H
       clear H
       have H := H1
       clear H1
       obtain rfl := Option.some.inj H
       go_wp2
       go_ret
       exact ⟨by first | rfl | (simp [errW_none, errW_some] <;> rfl) | (simp [*, errW_none, errW_some] <;> rfl), by repeat (first | (with_reducible first | exact HB.out | apply below_alloc | apply pw_below_drewN | apply below_drew1 | refine below_set ?_ GE120.out) | exact HB.out)⟩
      ·replace c18 := Bool.eq_false_iff.mpr c18
       subst c18
       have H1 : ((entry_isDay.f kj11 a0_2).bind fun t123 => (if t123 = true then ((entry_isDay.f kj11 a0_3).bind fun t124 => (entry_head.j2 kj11 (!t124) a0_0 a0_1 a0_2 a0_3 a0_4 a0_5 a0_6 a0_7 l0_8)) else (entry_head.j2 kj11 true a0_0 a0_1 a0_2 a0_3 a0_4 a0_5 a0_6 a0_7 l0_8))) = some r := by rw [if_neg (show ¬ (false = true) by decide)] at H; exact H
       clear H
       have H := H1
       clear H1
       have HC19 := Aside0.mk H
       clear H
       go_upto_region 5 with (fail)
       go_cut [33] (fun v33 wc => ∃ (kq : Nat) (x33_18 : Bool), v33 = .bool x33_18 ∧ Aside0 (entry_head.j2 kq x33_18 a0_0 a0_1 a0_2 a0_3 a0_4 a0_5 a0_6 a0_7 l0_8 = some r) ∧ Aside0 (kq ≤ kj11) ∧ Aside0 (wc.heap[gb120]? = some (.cells #[.int .i64 a0_0, .string a0_1, .int .i64 a0_2, .int .i64 a0_3, .int .i64 a0_4, .string a0_5, .string a0_6, .int .i64 a0_7, (.slice A0_8 l0_8.length c0_8)] 29 (0, 0))) ∧ Aside0 (Below w.heap.size w wc))
       case first =>
        have H := HC19.out
        clear HC19
        replace H := Option.bind_eq_some_iff.mp H
        obtain ⟨t123, A200, H⟩ := H
        try dsimp only at H
        have A20 := Aside0.mk A200
        clear A200
        by_cases c21 : t123 = true
        ·subst c21
         have H1 : ((entry_isDay.f kj11 a0_3).bind fun t124 => (entry_head.j2 kj11 (!t124) a0_0 a0_1 a0_2 a0_3 a0_4 a0_5 a0_6 a0_7 l0_8)) = some r := by rw [if_pos rfl] at H; exact H
         clear H
         have H := H1
         clear H1
         replace H := Option.bind_eq_some_iff.mp H
         obtain ⟨t124, A220, H⟩ := H
         replace H : (entry_head.j2 kj11 (!t124) a0_0 a0_1 a0_2 a0_3 a0_4 a0_5 a0_6 a0_7 l0_8) = some r := H
         have A22 := Aside0.mk A220
         clear A220
         have H' := Aside0.mk H
         clear H
         have hcz23_0 : wc.cell? ⟨gb120, 0, none⟩ = some (.int .i64 a0_0) := (blk_cell BK120.out 0).trans rfl
         have hcz23_1 : wc.cell? ⟨gb120, 1, none⟩ = some (.string a0_1) := (blk_cell BK120.out 1).trans rfl
         have hcz23_2 : wc.cell? ⟨gb120, 2, none⟩ = some (.int .i64 a0_2) := (blk_cell BK120.out 2).trans rfl
         have hcz23_3 : wc.cell? ⟨gb120, 3, none⟩ = some (.int .i64 a0_3) := (blk_cell BK120.out 3).trans rfl
         have hcz23_4 : wc.cell? ⟨gb120, 4, none⟩ = some (.int .i64 a0_4) := (blk_cell BK120.out 4).trans rfl
         have hcz23_5 : wc.cell? ⟨gb120, 5, none⟩ = some (.string a0_5) := (blk_cell BK120.out 5).trans rfl
         have hcz23_6 : wc.cell? ⟨gb120, 6, none⟩ = some (.string a0_6) := (blk_cell BK120.out 6).trans rfl
         have hcz23_7 : wc.cell? ⟨gb120, 7, none⟩ = some (.int .i64 a0_7) := (blk_cell BK120.out 7).trans rfl
         have hcz23_8 : wc.cell? ⟨gb120, 8, none⟩ = some (.slice A0_8 l0_8.length c0_8) := (blk_cell BK120.out 8).trans rfl
         have hfz23_0 := blk_frozen BK120.out 0
         have hfz23_1 := blk_frozen BK120.out 1
         have hfz23_2 := blk_frozen BK120.out 2
         have hfz23_3 := blk_frozen BK120.out 3
         have hfz23_4 := blk_frozen BK120.out 4
         have hfz23_5 := blk_frozen BK120.out 5
         have hfz23_6 := blk_frozen BK120.out 6
         have hfz23_7 := blk_frozen BK120.out 7
         have hfz23_8 := blk_frozen BK120.out 8
         go_wp2_with (first | ((with_reducible refine gate_callee (f := 132) rfl ?_); refine goesL_ (some 36) rfl rfl Tryd.func132 (by kernel_rfl) rfl #[.int .i64 a0_2] rfl (by (try simp only [List.map_toArray, List.map_cons, List.map_nil]); first | done | rfl | (simp only [List.length_drop, List.length_take]; rfl)) ?_; (with_reducible refine (entry_isDay.calls kj11 a0_2 true _ A20.out (by first | exact HTB.out | (exact Tab.below HTB.out (by repeat (first | (with_reducible first | exact HB.out | apply below_alloc | apply pw_below_drewN | apply below_drew1 | apply pw_below_drew) | exact HB.out | refine below_set ?_ (Aside0.out (by assumption))))) | (repeat (first | exact HTB.out | apply Tab.alloc | apply Tab.drewN | apply Tab.drew)))).mono ?_); rintro e w24 ⟨rfl, hb⟩; refine ⟨_, rfl, ?_⟩; have n0_ := Aside0.mk (blk_below (g := gb120) (o := .cells #[.int .i64 a0_0, .string a0_1, .int .i64 a0_2, .int .i64 a0_3, .int .i64 a0_4, .string a0_5, .string a0_6, .int .i64 a0_7, .slice A0_8 l0_8.length c0_8] 29 (0, 0)) (by (with_reducible repeat (first | refine blk_drewN ?_ _ | refine blk_drew ?_ | refine blk_alloc ?_ _)); exact BK120.out) hb); have n1_ := Aside0.mk (below_step (by repeat (first | (with_reducible first | exact HB.out | apply below_alloc | apply pw_below_drewN | apply below_drew1 | refine below_set ?_ GE120.out) | exact HB.out)) hb); clear BK120; clear HB; have BK120 := n0_; have HB := n1_; clear n0_ n1_; (try clear hb); (try clear hb2); (try clear hk); (try clear hi); have hcz25_0 : w24.cell? ⟨gb120, 0, none⟩ = some (.int .i64 a0_0) := (blk_cell BK120.out 0).trans rfl; have hcz25_1 : w24.cell? ⟨gb120, 1, none⟩ = some (.string a0_1) := (blk_cell BK120.out 1).trans rfl; have hcz25_2 : w24.cell? ⟨gb120, 2, none⟩ = some (.int .i64 a0_2) := (blk_cell BK120.out 2).trans rfl; have hcz25_3 : w24.cell? ⟨gb120, 3, none⟩ = some (.int .i64 a0_3) := (blk_cell BK120.out 3).trans rfl; have hcz25_4 : w24.cell? ⟨gb120, 4, none⟩ = some (.int .i64 a0_4) := (blk_cell BK120.out 4).trans rfl; have hcz25_5 : w24.cell? ⟨gb120, 5, none⟩ = some (.string a0_5) := (blk_cell BK120.out 5).trans rfl; have hcz25_6 : w24.cell? ⟨gb120, 6, none⟩ = some (.string a0_6) := (blk_cell BK120.out 6).trans rfl; have hcz25_7 : w24.cell? ⟨gb120, 7, none⟩ = some (.int .i64 a0_7) := (blk_cell BK120.out 7).trans rfl; have hcz25_8 : w24.cell? ⟨gb120, 8, none⟩ = some (.slice A0_8 l0_8.length c0_8) := (blk_cell BK120.out 8).trans rfl; have hfz25_0 := blk_frozen BK120.out 0; have hfz25_1 := blk_frozen BK120.out 1; have hfz25_2 := blk_frozen BK120.out 2; have hfz25_3 := blk_frozen BK120.out 3; have hfz25_4 := blk_frozen BK120.out 4; have hfz25_5 := blk_frozen BK120.out 5; have hfz25_6 := blk_frozen BK120.out 6; have hfz25_7 := blk_frozen BK120.out 7; have hfz25_8 := blk_frozen BK120.out 8) | (go_at_call 132; (with_reducible refine (entry_isDay.calls kj11 a0_3 t124 _ A22.out (by first | exact HTB.out | (exact Tab.below HTB.out (by repeat (first | (with_reducible first | exact HB.out | apply below_alloc | apply pw_below_drewN | apply below_drew1 | apply pw_below_drew) | exact HB.out | refine below_set ?_ (Aside0.out (by assumption))))) | (repeat (first | exact HTB.out | apply Tab.alloc | apply Tab.drewN | apply Tab.drew)))).mono ?_); rintro e w26 ⟨rfl, hb⟩; have n0_ := Aside0.mk (blk_below (g := gb120) (o := .cells #[.int .i64 a0_0, .string a0_1, .int .i64 a0_2, .int .i64 a0_3, .int .i64 a0_4, .string a0_5, .string a0_6, .int .i64 a0_7, .slice A0_8 l0_8.length c0_8] 29 (0, 0)) (by (with_reducible repeat (first | refine blk_drewN ?_ _ | refine blk_drew ?_ | refine blk_alloc ?_ _)); exact BK120.out) hb); have n1_ := Aside0.mk (below_step (by repeat (first | (with_reducible first | exact HB.out | apply below_alloc | apply pw_below_drewN | apply below_drew1 | refine below_set ?_ GE120.out) | exact HB.out)) hb); clear BK120; clear HB; have BK120 := n0_; have HB := n1_; clear n0_ n1_; (try clear hb); (try clear hb2); (try clear hk); (try clear hi)))
         go_meet
         case rel => exact ⟨_, (!t124), (by first | rfl | (simp; done) | (simp [*]; done)), H', ⟨by have := HJ1.out; have := HJ11.out; first | omega | exact Nat.le_refl _⟩, ⟨by (with_reducible repeat (first | refine blk_drewN ?_ _ | refine blk_drew ?_ | refine blk_alloc ?_ _)); exact BK120.out⟩, ⟨by repeat (first | (with_reducible first | exact HB.out | apply below_alloc | apply pw_below_drewN | apply below_drew1 | refine below_set ?_ GE120.out) | exact HB.out)⟩⟩
        ·replace c21 := Bool.eq_false_iff.mpr c21
         subst c21
         have H1 : (entry_head.j2 kj11 true a0_0 a0_1 a0_2 a0_3 a0_4 a0_5 a0_6 a0_7 l0_8) = some r := by rw [if_neg (show ¬ (false = true) by decide)] at H; exact H
         clear H
         have H := H1
         clear H1
         have H' := Aside0.mk H
         clear H
         have hcz27_0 : wc.cell? ⟨gb120, 0, none⟩ = some (.int .i64 a0_0) := (blk_cell BK120.out 0).trans rfl
         have hcz27_1 : wc.cell? ⟨gb120, 1, none⟩ = some (.string a0_1) := (blk_cell BK120.out 1).trans rfl
         have hcz27_2 : wc.cell? ⟨gb120, 2, none⟩ = some (.int .i64 a0_2) := (blk_cell BK120.out 2).trans rfl
         have hcz27_3 : wc.cell? ⟨gb120, 3, none⟩ = some (.int .i64 a0_3) := (blk_cell BK120.out 3).trans rfl
         have hcz27_4 : wc.cell? ⟨gb120, 4, none⟩ = some (.int .i64 a0_4) := (blk_cell BK120.out 4).trans rfl
         have hcz27_5 : wc.cell? ⟨gb120, 5, none⟩ = some (.string a0_5) := (blk_cell BK120.out 5).trans rfl
         have hcz27_6 : wc.cell? ⟨gb120, 6, none⟩ = some (.string a0_6) := (blk_cell BK120.out 6).trans rfl
         have hcz27_7 : wc.cell? ⟨gb120, 7, none⟩ = some (.int .i64 a0_7) := (blk_cell BK120.out 7).trans rfl
         have hcz27_8 : wc.cell? ⟨gb120, 8, none⟩ = some (.slice A0_8 l0_8.length c0_8) := (blk_cell BK120.out 8).trans rfl
         have hfz27_0 := blk_frozen BK120.out 0
         have hfz27_1 := blk_frozen BK120.out 1
         have hfz27_2 := blk_frozen BK120.out 2
         have hfz27_3 := blk_frozen BK120.out 3
         have hfz27_4 := blk_frozen BK120.out 4
         have hfz27_5 := blk_frozen BK120.out 5
         have hfz27_6 := blk_frozen BK120.out 6
         have hfz27_7 := blk_frozen BK120.out 7
         have hfz27_8 := blk_frozen BK120.out 8
         go_wp2_with (first | ((with_reducible refine gate_callee (f := 132) rfl ?_); refine goesL_ (some 36) rfl rfl Tryd.func132 (by kernel_rfl) rfl #[.int .i64 a0_2] rfl (by (try simp only [List.map_toArray, List.map_cons, List.map_nil]); first | done | rfl | (simp only [List.length_drop, List.length_take]; rfl)) ?_; (with_reducible refine (entry_isDay.calls kj11 a0_2 false _ A20.out (by first | exact HTB.out | (exact Tab.below HTB.out (by repeat (first | (with_reducible first | exact HB.out | apply below_alloc | apply pw_below_drewN | apply below_drew1 | apply pw_below_drew) | exact HB.out | refine below_set ?_ (Aside0.out (by assumption))))) | (repeat (first | exact HTB.out | apply Tab.alloc | apply Tab.drewN | apply Tab.drew)))).mono ?_); rintro e w28 ⟨rfl, hb⟩; refine ⟨_, rfl, ?_⟩; have n0_ := Aside0.mk (blk_below (g := gb120) (o := .cells #[.int .i64 a0_0, .string a0_1, .int .i64 a0_2, .int .i64 a0_3, .int .i64 a0_4, .string a0_5, .string a0_6, .int .i64 a0_7, .slice A0_8 l0_8.length c0_8] 29 (0, 0)) (by (with_reducible repeat (first | refine blk_drewN ?_ _ | refine blk_drew ?_ | refine blk_alloc ?_ _)); exact BK120.out) hb); have n1_ := Aside0.mk (below_step (by repeat (first | (with_reducible first | exact HB.out | apply below_alloc | apply pw_below_drewN | apply below_drew1 | refine below_set ?_ GE120.out) | exact HB.out)) hb); clear BK120; clear HB; have BK120 := n0_; have HB := n1_; clear n0_ n1_; (try clear hb); (try clear hb2); (try clear hk); (try clear hi)))
         go_meet
         case rel => exact ⟨_, (true), (by first | rfl | (simp; done) | (simp [*]; done)), H', ⟨by have := HJ1.out; have := HJ11.out; first | omega | exact Nat.le_refl _⟩, ⟨by (with_reducible repeat (first | refine blk_drewN ?_ _ | refine blk_drew ?_ | refine blk_alloc ?_ _)); exact BK120.out⟩, ⟨by repeat (first | (with_reducible first | exact HB.out | apply below_alloc | apply pw_below_drewN | apply below_drew1 | refine below_set ?_ GE120.out) | exact HB.out)⟩⟩
       case rest =>
        clear HC19
        try clear c1
        try clear c2
        try clear p2
        try clear c4
        try clear c4b0
        try clear c6
        try clear c6b0
        try clear c8
        try clear c8b0
        try clear c9
        try clear c11
        try clear c13
        try clear c14
        try clear c18
        try clear c21
        try clear hcz10_0
        try clear hcz10_1
        try clear hcz10_2
        try clear hcz10_3
        try clear hcz10_4
        try clear hcz10_5
        try clear hcz10_6
        try clear hcz10_7
        try clear hcz10_8
        try clear hcz16_0
        try clear hcz16_1
        try clear hcz16_2
        try clear hcz16_3
        try clear hcz16_4
        try clear hcz16_5
        try clear hcz16_6
        try clear hcz16_7
        try clear hcz16_8
        try clear hcz17_0
        try clear hcz17_1
        try clear hcz17_2
        try clear hcz17_3
        try clear hcz17_4
        try clear hcz17_5
        try clear hcz17_6
        try clear hcz17_7
        try clear hcz17_8
        try clear hcz23_0
        try clear hcz23_1
        try clear hcz23_2
        try clear hcz23_3
        try clear hcz23_4
        try clear hcz23_5
        try clear hcz23_6
        try clear hcz23_7
        try clear hcz23_8
        try clear hcz25_0
        try clear hcz25_1
        try clear hcz25_2
        try clear hcz25_3
        try clear hcz25_4
        try clear hcz25_5
        try clear hcz25_6
        try clear hcz25_7
        try clear hcz25_8
        try clear hcz27_0
        try clear hcz27_1
        try clear hcz27_2
        try clear hcz27_3
        try clear hcz27_4
        try clear hcz27_5
        try clear hcz27_6
        try clear hcz27_7
        try clear hcz27_8
        try clear hcz5_0
        try clear hcz5_1
        try clear hcz5_2
        try clear hcz5_3
        try clear hcz5_4
        try clear hcz5_5
        try clear hcz5_6
        try clear hcz5_7
        try clear hcz5_8
        try clear hcz7_0
        try clear hcz7_1
        try clear hcz7_2
        try clear hcz7_3
        try clear hcz7_4
        try clear hcz7_5
        try clear hcz7_6
        try clear hcz7_7
        try clear hcz7_8
        try clear hcz9_0
        try clear hcz9_1
        try clear hcz9_2
        try clear hcz9_3
        try clear hcz9_4
        try clear hcz9_5
        try clear hcz9_6
        try clear hcz9_7
        try clear hcz9_8
        try clear hfz10_0
        try clear hfz10_1
        try clear hfz10_2
        try clear hfz10_3
        try clear hfz10_4
        try clear hfz10_5
        try clear hfz10_6
        try clear hfz10_7
        try clear hfz10_8
        try clear hfz16_0
        try clear hfz16_1
        try clear hfz16_2
        try clear hfz16_3
        try clear hfz16_4
        try clear hfz16_5
        try clear hfz16_6
        try clear hfz16_7
        try clear hfz16_8
        try clear hfz17_0
        try clear hfz17_1
        try clear hfz17_2
        try clear hfz17_3
        try clear hfz17_4
        try clear hfz17_5
        try clear hfz17_6
        try clear hfz17_7
        try clear hfz17_8
        try clear hfz23_0
        try clear hfz23_1
        try clear hfz23_2
        try clear hfz23_3
        try clear hfz23_4
        try clear hfz23_5
        try clear hfz23_6
        try clear hfz23_7
        try clear hfz23_8
        try clear hfz25_0
        try clear hfz25_1
        try clear hfz25_2
        try clear hfz25_3
        try clear hfz25_4
        try clear hfz25_5
        try clear hfz25_6
        try clear hfz25_7
        try clear hfz25_8
        try clear hfz27_0
        try clear hfz27_1
        try clear hfz27_2
        try clear hfz27_3
        try clear hfz27_4
        try clear hfz27_5
        try clear hfz27_6
        try clear hfz27_7
        try clear hfz27_8
        try clear hfz5_0
        try clear hfz5_1
        try clear hfz5_2
        try clear hfz5_3
        try clear hfz5_4
        try clear hfz5_5
        try clear hfz5_6
        try clear hfz5_7
        try clear hfz5_8
        try clear hfz7_0
        try clear hfz7_1
        try clear hfz7_2
        try clear hfz7_3
        try clear hfz7_4
        try clear hfz7_5
        try clear hfz7_6
        try clear hfz7_7
        try clear hfz7_8
        try clear hfz9_0
        try clear hfz9_1
        try clear hfz9_2
        try clear hfz9_3
        try clear hfz9_4
        try clear hfz9_5
        try clear hfz9_6
        try clear hfz9_7
        try clear hfz9_8
        try clear p2
        obtain ⟨kq, x33_18, rfl, HA, HJ18, BK120, HB⟩ := hcut
        cases kq with
        | zero => exact absurd HA.out (by simp [entry_head.j2])
        | succ kj18 =>
         have H := HA.out
         clear HA
         simp only [entry_head.j2] at H
         by_cases c29 : x33_18 = true
         ·subst c29
          have H1 : (some 11) = some r := by rw [if_pos rfl] at H; exact H
          clear H
          have H := H1
          clear H1
          obtain rfl := Option.some.inj H
          go_wp2
          go_ret
          exact ⟨by first | rfl | (simp [errW_none, errW_some] <;> rfl) | (simp [*, errW_none, errW_some] <;> rfl), by repeat (first | (with_reducible first | exact HB.out | apply below_alloc | apply pw_below_drewN | apply below_drew1 | refine below_set ?_ GE120.out) | exact HB.out)⟩
         ·replace c29 := Bool.eq_false_iff.mpr c29
          subst c29
          have H1 : (if a0_4 < 1 then (entry_head.j3 kj18 true a0_0 a0_1 a0_2 a0_3 a0_4 a0_5 a0_6 a0_7 l0_8) else (entry_head.j3 kj18 (decide (a0_4 > 7)) a0_0 a0_1 a0_2 a0_3 a0_4 a0_5 a0_6 a0_7 l0_8)) = some r := by rw [if_neg (show ¬ (false = true) by decide)] at H; exact H
          clear H
          have H := H1
          clear H1
          have HC30 := Aside0.mk H
          clear H
          go_upto_region 7 with (fail)
          go_cut [44] (fun v44 wc => ∃ (kq : Nat) (x44_29 : Bool), v44 = .bool x44_29 ∧ Aside0 (entry_head.j3 kq x44_29 a0_0 a0_1 a0_2 a0_3 a0_4 a0_5 a0_6 a0_7 l0_8 = some r) ∧ Aside0 (kq ≤ kj18) ∧ Aside0 (wc.heap[gb120]? = some (.cells #[.int .i64 a0_0, .string a0_1, .int .i64 a0_2, .int .i64 a0_3, .int .i64 a0_4, .string a0_5, .string a0_6, .int .i64 a0_7, (.slice A0_8 l0_8.length c0_8)] 29 (0, 0))) ∧ Aside0 (Below w.heap.size w wc))
          case first =>
           have H := HC30.out
           clear HC30
           by_cases c31 : a0_4 < 1
           ·rw [if_pos c31] at H
            have c31b0 : decide (a0_4 < 1) = true := decide_eq_true c31
            clear c31
            (first | rw [c31b0] | (simp only [i64_w, i32_w]; rw [c31b0]) | skip)
            have H' := Aside0.mk H
            clear H
            have hcz32_0 : wc.cell? ⟨gb120, 0, none⟩ = some (.int .i64 a0_0) := (blk_cell BK120.out 0).trans rfl
            have hcz32_1 : wc.cell? ⟨gb120, 1, none⟩ = some (.string a0_1) := (blk_cell BK120.out 1).trans rfl
            have hcz32_2 : wc.cell? ⟨gb120, 2, none⟩ = some (.int .i64 a0_2) := (blk_cell BK120.out 2).trans rfl
            have hcz32_3 : wc.cell? ⟨gb120, 3, none⟩ = some (.int .i64 a0_3) := (blk_cell BK120.out 3).trans rfl
            have hcz32_4 : wc.cell? ⟨gb120, 4, none⟩ = some (.int .i64 a0_4) := (blk_cell BK120.out 4).trans rfl
            have hcz32_5 : wc.cell? ⟨gb120, 5, none⟩ = some (.string a0_5) := (blk_cell BK120.out 5).trans rfl
            have hcz32_6 : wc.cell? ⟨gb120, 6, none⟩ = some (.string a0_6) := (blk_cell BK120.out 6).trans rfl
            have hcz32_7 : wc.cell? ⟨gb120, 7, none⟩ = some (.int .i64 a0_7) := (blk_cell BK120.out 7).trans rfl
            have hcz32_8 : wc.cell? ⟨gb120, 8, none⟩ = some (.slice A0_8 l0_8.length c0_8) := (blk_cell BK120.out 8).trans rfl
            have hfz32_0 := blk_frozen BK120.out 0
            have hfz32_1 := blk_frozen BK120.out 1
            have hfz32_2 := blk_frozen BK120.out 2
            have hfz32_3 := blk_frozen BK120.out 3
            have hfz32_4 := blk_frozen BK120.out 4
            have hfz32_5 := blk_frozen BK120.out 5
            have hfz32_6 := blk_frozen BK120.out 6
            have hfz32_7 := blk_frozen BK120.out 7
            have hfz32_8 := blk_frozen BK120.out 8
            go_wp2
            go_meet
            case rel => exact ⟨_, (true), (by first | rfl | (simp; done) | (simp [*]; done)), H', ⟨by have := HJ1.out; have := HJ11.out; have := HJ18.out; first | omega | exact Nat.le_refl _⟩, ⟨by (with_reducible repeat (first | refine blk_drewN ?_ _ | refine blk_drew ?_ | refine blk_alloc ?_ _)); exact BK120.out⟩, ⟨by repeat (first | (with_reducible first | exact HB.out | apply below_alloc | apply pw_below_drewN | apply below_drew1 | refine below_set ?_ GE120.out) | exact HB.out)⟩⟩
           ·rw [if_neg c31] at H
            have c31b0 : decide (a0_4 < 1) = false := decide_eq_false c31
            clear c31
            (first | rw [c31b0] | (simp only [i64_w, i32_w]; rw [c31b0]) | skip)
            have H' := Aside0.mk H
            clear H
            have hcz33_0 : wc.cell? ⟨gb120, 0, none⟩ = some (.int .i64 a0_0) := (blk_cell BK120.out 0).trans rfl
            have hcz33_1 : wc.cell? ⟨gb120, 1, none⟩ = some (.string a0_1) := (blk_cell BK120.out 1).trans rfl
            have hcz33_2 : wc.cell? ⟨gb120, 2, none⟩ = some (.int .i64 a0_2) := (blk_cell BK120.out 2).trans rfl
            have hcz33_3 : wc.cell? ⟨gb120, 3, none⟩ = some (.int .i64 a0_3) := (blk_cell BK120.out 3).trans rfl
            have hcz33_4 : wc.cell? ⟨gb120, 4, none⟩ = some (.int .i64 a0_4) := (blk_cell BK120.out 4).trans rfl
            have hcz33_5 : wc.cell? ⟨gb120, 5, none⟩ = some (.string a0_5) := (blk_cell BK120.out 5).trans rfl
            have hcz33_6 : wc.cell? ⟨gb120, 6, none⟩ = some (.string a0_6) := (blk_cell BK120.out 6).trans rfl
            have hcz33_7 : wc.cell? ⟨gb120, 7, none⟩ = some (.int .i64 a0_7) := (blk_cell BK120.out 7).trans rfl
            have hcz33_8 : wc.cell? ⟨gb120, 8, none⟩ = some (.slice A0_8 l0_8.length c0_8) := (blk_cell BK120.out 8).trans rfl
            have hfz33_0 := blk_frozen BK120.out 0
            have hfz33_1 := blk_frozen BK120.out 1
            have hfz33_2 := blk_frozen BK120.out 2
            have hfz33_3 := blk_frozen BK120.out 3
            have hfz33_4 := blk_frozen BK120.out 4
            have hfz33_5 := blk_frozen BK120.out 5
            have hfz33_6 := blk_frozen BK120.out 6
            have hfz33_7 := blk_frozen BK120.out 7
            have hfz33_8 := blk_frozen BK120.out 8
            go_wp2
            go_meet
            case rel => exact ⟨_, (decide (a0_4 > 7)), (by first | rfl | (simp; done) | (simp [*]; done)), H', ⟨by have := HJ1.out; have := HJ11.out; have := HJ18.out; first | omega | exact Nat.le_refl _⟩, ⟨by (with_reducible repeat (first | refine blk_drewN ?_ _ | refine blk_drew ?_ | refine blk_alloc ?_ _)); exact BK120.out⟩, ⟨by repeat (first | (with_reducible first | exact HB.out | apply below_alloc | apply pw_below_drewN | apply below_drew1 | refine below_set ?_ GE120.out) | exact HB.out)⟩⟩
          case rest =>
           clear HC30
           try clear c1
           try clear c2
           try clear p2
           try clear c3
           try clear c4
           try clear c4b0
           try clear c6
           try clear c6b0
           try clear c8
           try clear c8b0
           try clear c9
           try clear c11
           try clear c13
           try clear c14
           try clear c18
           try clear c21
           try clear c29
           try clear c31
           try clear c31b0
           try clear hcz10_0
           try clear hcz10_1
           try clear hcz10_2
           try clear hcz10_3
           try clear hcz10_4
           try clear hcz10_5
           try clear hcz10_6
           try clear hcz10_7
           try clear hcz10_8
           try clear hcz16_0
           try clear hcz16_1
           try clear hcz16_2
           try clear hcz16_3
           try clear hcz16_4
           try clear hcz16_5
           try clear hcz16_6
           try clear hcz16_7
           try clear hcz16_8
           try clear hcz17_0
           try clear hcz17_1
           try clear hcz17_2
           try clear hcz17_3
           try clear hcz17_4
           try clear hcz17_5
           try clear hcz17_6
           try clear hcz17_7
           try clear hcz17_8
           try clear hcz23_0
           try clear hcz23_1
           try clear hcz23_2
           try clear hcz23_3
           try clear hcz23_4
           try clear hcz23_5
           try clear hcz23_6
           try clear hcz23_7
           try clear hcz23_8
           try clear hcz25_0
           try clear hcz25_1
           try clear hcz25_2
           try clear hcz25_3
           try clear hcz25_4
           try clear hcz25_5
           try clear hcz25_6
           try clear hcz25_7
           try clear hcz25_8
           try clear hcz27_0
           try clear hcz27_1
           try clear hcz27_2
           try clear hcz27_3
           try clear hcz27_4
           try clear hcz27_5
           try clear hcz27_6
           try clear hcz27_7
           try clear hcz27_8
           try clear hcz32_0
           try clear hcz32_1
           try clear hcz32_2
           try clear hcz32_3
           try clear hcz32_4
           try clear hcz32_5
           try clear hcz32_6
           try clear hcz32_7
           try clear hcz32_8
           try clear hcz33_0
           try clear hcz33_1
           try clear hcz33_2
           try clear hcz33_3
           try clear hcz33_4
           try clear hcz33_5
           try clear hcz33_6
           try clear hcz33_7
           try clear hcz33_8
           try clear hcz5_0
           try clear hcz5_1
           try clear hcz5_2
           try clear hcz5_3
           try clear hcz5_4
           try clear hcz5_5
           try clear hcz5_6
           try clear hcz5_7
           try clear hcz5_8
           try clear hcz7_0
           try clear hcz7_1
           try clear hcz7_2
           try clear hcz7_3
           try clear hcz7_4
           try clear hcz7_5
           try clear hcz7_6
           try clear hcz7_7
           try clear hcz7_8
           try clear hcz9_0
           try clear hcz9_1
           try clear hcz9_2
           try clear hcz9_3
           try clear hcz9_4
           try clear hcz9_5
           try clear hcz9_6
           try clear hcz9_7
           try clear hcz9_8
           try clear hfz10_0
           try clear hfz10_1
           try clear hfz10_2
           try clear hfz10_3
           try clear hfz10_4
           try clear hfz10_5
           try clear hfz10_6
           try clear hfz10_7
           try clear hfz10_8
           try clear hfz16_0
           try clear hfz16_1
           try clear hfz16_2
           try clear hfz16_3
           try clear hfz16_4
           try clear hfz16_5
           try clear hfz16_6
           try clear hfz16_7
           try clear hfz16_8
           try clear hfz17_0
           try clear hfz17_1
           try clear hfz17_2
           try clear hfz17_3
           try clear hfz17_4
           try clear hfz17_5
           try clear hfz17_6
           try clear hfz17_7
           try clear hfz17_8
           try clear hfz23_0
           try clear hfz23_1
           try clear hfz23_2
           try clear hfz23_3
           try clear hfz23_4
           try clear hfz23_5
           try clear hfz23_6
           try clear hfz23_7
           try clear hfz23_8
           try clear hfz25_0
           try clear hfz25_1
           try clear hfz25_2
           try clear hfz25_3
           try clear hfz25_4
           try clear hfz25_5
           try clear hfz25_6
           try clear hfz25_7
           try clear hfz25_8
           try clear hfz27_0
           try clear hfz27_1
           try clear hfz27_2
           try clear hfz27_3
           try clear hfz27_4
           try clear hfz27_5
           try clear hfz27_6
           try clear hfz27_7
           try clear hfz27_8
           try clear hfz32_0
           try clear hfz32_1
           try clear hfz32_2
           try clear hfz32_3
           try clear hfz32_4
           try clear hfz32_5
           try clear hfz32_6
           try clear hfz32_7
           try clear hfz32_8
           try clear hfz33_0
           try clear hfz33_1
           try clear hfz33_2
           try clear hfz33_3
           try clear hfz33_4
           try clear hfz33_5
           try clear hfz33_6
           try clear hfz33_7
           try clear hfz33_8
           try clear hfz5_0
           try clear hfz5_1
           try clear hfz5_2
           try clear hfz5_3
           try clear hfz5_4
           try clear hfz5_5
           try clear hfz5_6
           try clear hfz5_7
           try clear hfz5_8
           try clear hfz7_0
           try clear hfz7_1
           try clear hfz7_2
           try clear hfz7_3
           try clear hfz7_4
           try clear hfz7_5
           try clear hfz7_6
           try clear hfz7_7
           try clear hfz7_8
           try clear hfz9_0
           try clear hfz9_1
           try clear hfz9_2
           try clear hfz9_3
           try clear hfz9_4
           try clear hfz9_5
           try clear hfz9_6
           try clear hfz9_7
           try clear hfz9_8
           try clear p2
           obtain ⟨kq, x44_29, rfl, HA, HJ29, BK120, HB⟩ := hcut
           cases kq with
           | zero => exact absurd HA.out (by simp [entry_head.j3])
           | succ kj29 =>
            have H := HA.out
            clear HA
            simp only [entry_head.j3] at H
            by_cases c34 : x44_29 = true
            ·subst c34
             have H1 : (some 10) = some r := by rw [if_pos rfl] at H; exact H
             clear H
             have H := H1
             clear H1
             obtain rfl := Option.some.inj H
             go_wp2
             go_ret
             exact ⟨by first | rfl | (simp [errW_none, errW_some] <;> rfl) | (simp [*, errW_none, errW_some] <;> rfl), by repeat (first | (with_reducible first | exact HB.out | apply below_alloc | apply pw_below_drewN | apply below_drew1 | refine below_set ?_ GE120.out) | exact HB.out)⟩
            ·replace c34 := Bool.eq_false_iff.mpr c34
             subst c34
             have H1 : ((words_Plain.f a0_5).bind fun t125 => (if t125 = true then (if (l0_8.length : Int) < 2 then (some 2) else (if (l0_8.length : Int) > 100 then (some 9) else (some 0))) else (some 5))) = some r := by rw [if_neg (show ¬ (false = true) by decide)] at H; exact H
             clear H
             have H := H1
             clear H1
             replace H := Option.bind_eq_some_iff.mp H
             obtain ⟨t125, A350, H⟩ := H
             try dsimp only at H
             have A35 := Aside0.mk A350
             clear A350
             by_cases c36 : t125 = true
             ·subst c36
              have H1 : (if (l0_8.length : Int) < 2 then (some 2) else (if (l0_8.length : Int) > 100 then (some 9) else (some 0))) = some r := by rw [if_pos rfl] at H; exact H
              clear H
              have H := H1
              clear H1
              by_cases c37 : (l0_8.length : Int) < 2
              ·rw [if_pos c37] at H
               have c37b0 : decide ((l0_8.length : Int) < 2) = true := decide_eq_true c37
               have c37b1 : decide (l0_8.length < 2) = true := decide_eq_true (by omega)
               clear c37
               obtain rfl := Option.some.inj H
               have hcz38_0 : wc.cell? ⟨gb120, 0, none⟩ = some (.int .i64 a0_0) := (blk_cell BK120.out 0).trans rfl
               have hcz38_1 : wc.cell? ⟨gb120, 1, none⟩ = some (.string a0_1) := (blk_cell BK120.out 1).trans rfl
               have hcz38_2 : wc.cell? ⟨gb120, 2, none⟩ = some (.int .i64 a0_2) := (blk_cell BK120.out 2).trans rfl
               have hcz38_3 : wc.cell? ⟨gb120, 3, none⟩ = some (.int .i64 a0_3) := (blk_cell BK120.out 3).trans rfl
               have hcz38_4 : wc.cell? ⟨gb120, 4, none⟩ = some (.int .i64 a0_4) := (blk_cell BK120.out 4).trans rfl
               have hcz38_5 : wc.cell? ⟨gb120, 5, none⟩ = some (.string a0_5) := (blk_cell BK120.out 5).trans rfl
               have hcz38_6 : wc.cell? ⟨gb120, 6, none⟩ = some (.string a0_6) := (blk_cell BK120.out 6).trans rfl
               have hcz38_7 : wc.cell? ⟨gb120, 7, none⟩ = some (.int .i64 a0_7) := (blk_cell BK120.out 7).trans rfl
               have hcz38_8 : wc.cell? ⟨gb120, 8, none⟩ = some (.slice A0_8 l0_8.length c0_8) := (blk_cell BK120.out 8).trans rfl
               have hfz38_0 := blk_frozen BK120.out 0
               have hfz38_1 := blk_frozen BK120.out 1
               have hfz38_2 := blk_frozen BK120.out 2
               have hfz38_3 := blk_frozen BK120.out 3
               have hfz38_4 := blk_frozen BK120.out 4
               have hfz38_5 := blk_frozen BK120.out 5
               have hfz38_6 := blk_frozen BK120.out 6
               have hfz38_7 := blk_frozen BK120.out 7
               have hfz38_8 := blk_frozen BK120.out 8
               go_wp2_with (first | ((with_reducible refine gate_callee (f := 126) rfl ?_); refine goesL_ (some 56) rfl rfl Tryd.func126 (by kernel_rfl) rfl #[.string a0_5] rfl (by (try simp only [List.map_toArray, List.map_cons, List.map_nil]); first | done | rfl | (simp only [List.length_drop, List.length_take]; rfl)) ?_; (with_reducible refine (words_Plain.calls a0_5 true _ A35.out).mono ?_); rintro e w' ⟨rfl, ⟨nd, rfl⟩⟩; refine ⟨_, rfl, ?_⟩))
               go_ret
               exact ⟨by first | rfl | (simp [errW_none, errW_some] <;> rfl) | (simp [*, errW_none, errW_some] <;> rfl), by repeat (first | (with_reducible first | exact HB.out | apply below_alloc | apply pw_below_drewN | apply below_drew1 | refine below_set ?_ GE120.out) | exact HB.out)⟩
              ·rw [if_neg c37] at H
               have c37b0 : decide ((l0_8.length : Int) < 2) = false := decide_eq_false c37
               have c37b1 : decide (l0_8.length < 2) = false := decide_eq_false (by omega)
               clear c37
               by_cases c39 : (l0_8.length : Int) > 100
               ·rw [if_pos c39] at H
                have c39b0 : decide (100 < (l0_8.length : Int)) = true := decide_eq_true c39
                have c39b1 : decide (100 < l0_8.length) = true := decide_eq_true (by omega)
                clear c39
                obtain rfl := Option.some.inj H
                have hcz40_0 : wc.cell? ⟨gb120, 0, none⟩ = some (.int .i64 a0_0) := (blk_cell BK120.out 0).trans rfl
                have hcz40_1 : wc.cell? ⟨gb120, 1, none⟩ = some (.string a0_1) := (blk_cell BK120.out 1).trans rfl
                have hcz40_2 : wc.cell? ⟨gb120, 2, none⟩ = some (.int .i64 a0_2) := (blk_cell BK120.out 2).trans rfl
                have hcz40_3 : wc.cell? ⟨gb120, 3, none⟩ = some (.int .i64 a0_3) := (blk_cell BK120.out 3).trans rfl
                have hcz40_4 : wc.cell? ⟨gb120, 4, none⟩ = some (.int .i64 a0_4) := (blk_cell BK120.out 4).trans rfl
                have hcz40_5 : wc.cell? ⟨gb120, 5, none⟩ = some (.string a0_5) := (blk_cell BK120.out 5).trans rfl
                have hcz40_6 : wc.cell? ⟨gb120, 6, none⟩ = some (.string a0_6) := (blk_cell BK120.out 6).trans rfl
                have hcz40_7 : wc.cell? ⟨gb120, 7, none⟩ = some (.int .i64 a0_7) := (blk_cell BK120.out 7).trans rfl
                have hcz40_8 : wc.cell? ⟨gb120, 8, none⟩ = some (.slice A0_8 l0_8.length c0_8) := (blk_cell BK120.out 8).trans rfl
                have hfz40_0 := blk_frozen BK120.out 0
                have hfz40_1 := blk_frozen BK120.out 1
                have hfz40_2 := blk_frozen BK120.out 2
                have hfz40_3 := blk_frozen BK120.out 3
                have hfz40_4 := blk_frozen BK120.out 4
                have hfz40_5 := blk_frozen BK120.out 5
                have hfz40_6 := blk_frozen BK120.out 6
                have hfz40_7 := blk_frozen BK120.out 7
                have hfz40_8 := blk_frozen BK120.out 8
                go_wp2_with (first | ((with_reducible refine gate_callee (f := 126) rfl ?_); refine goesL_ (some 56) rfl rfl Tryd.func126 (by kernel_rfl) rfl #[.string a0_5] rfl (by (try simp only [List.map_toArray, List.map_cons, List.map_nil]); first | done | rfl | (simp only [List.length_drop, List.length_take]; rfl)) ?_; (with_reducible refine (words_Plain.calls a0_5 true _ A35.out).mono ?_); rintro e w' ⟨rfl, ⟨nd, rfl⟩⟩; refine ⟨_, rfl, ?_⟩))
                go_ret
                exact ⟨by first | rfl | (simp [errW_none, errW_some] <;> rfl) | (simp [*, errW_none, errW_some] <;> rfl), by repeat (first | (with_reducible first | exact HB.out | apply below_alloc | apply pw_below_drewN | apply below_drew1 | refine below_set ?_ GE120.out) | exact HB.out)⟩
               ·rw [if_neg c39] at H
                have c39b0 : decide (100 < (l0_8.length : Int)) = false := decide_eq_false c39
                have c39b1 : decide (100 < l0_8.length) = false := decide_eq_false (by omega)
                clear c39
                obtain rfl := Option.some.inj H
                have hcz41_0 : wc.cell? ⟨gb120, 0, none⟩ = some (.int .i64 a0_0) := (blk_cell BK120.out 0).trans rfl
                have hcz41_1 : wc.cell? ⟨gb120, 1, none⟩ = some (.string a0_1) := (blk_cell BK120.out 1).trans rfl
                have hcz41_2 : wc.cell? ⟨gb120, 2, none⟩ = some (.int .i64 a0_2) := (blk_cell BK120.out 2).trans rfl
                have hcz41_3 : wc.cell? ⟨gb120, 3, none⟩ = some (.int .i64 a0_3) := (blk_cell BK120.out 3).trans rfl
                have hcz41_4 : wc.cell? ⟨gb120, 4, none⟩ = some (.int .i64 a0_4) := (blk_cell BK120.out 4).trans rfl
                have hcz41_5 : wc.cell? ⟨gb120, 5, none⟩ = some (.string a0_5) := (blk_cell BK120.out 5).trans rfl
                have hcz41_6 : wc.cell? ⟨gb120, 6, none⟩ = some (.string a0_6) := (blk_cell BK120.out 6).trans rfl
                have hcz41_7 : wc.cell? ⟨gb120, 7, none⟩ = some (.int .i64 a0_7) := (blk_cell BK120.out 7).trans rfl
                have hcz41_8 : wc.cell? ⟨gb120, 8, none⟩ = some (.slice A0_8 l0_8.length c0_8) := (blk_cell BK120.out 8).trans rfl
                have hfz41_0 := blk_frozen BK120.out 0
                have hfz41_1 := blk_frozen BK120.out 1
                have hfz41_2 := blk_frozen BK120.out 2
                have hfz41_3 := blk_frozen BK120.out 3
                have hfz41_4 := blk_frozen BK120.out 4
                have hfz41_5 := blk_frozen BK120.out 5
                have hfz41_6 := blk_frozen BK120.out 6
                have hfz41_7 := blk_frozen BK120.out 7
                have hfz41_8 := blk_frozen BK120.out 8
                go_wp2_with (first | ((with_reducible refine gate_callee (f := 126) rfl ?_); refine goesL_ (some 56) rfl rfl Tryd.func126 (by kernel_rfl) rfl #[.string a0_5] rfl (by (try simp only [List.map_toArray, List.map_cons, List.map_nil]); first | done | rfl | (simp only [List.length_drop, List.length_take]; rfl)) ?_; (with_reducible refine (words_Plain.calls a0_5 true _ A35.out).mono ?_); rintro e w' ⟨rfl, ⟨nd, rfl⟩⟩; refine ⟨_, rfl, ?_⟩))
                go_ret
                exact ⟨by first | rfl | (simp [errW_none, errW_some] <;> rfl) | (simp [*, errW_none, errW_some] <;> rfl), by repeat (first | (with_reducible first | exact HB.out | apply below_alloc | apply pw_below_drewN | apply below_drew1 | refine below_set ?_ GE120.out) | exact HB.out)⟩
             ·replace c36 := Bool.eq_false_iff.mpr c36
              subst c36
              have H1 : (some 5) = some r := by rw [if_neg (show ¬ (false = true) by decide)] at H; exact H
              clear H
              have H := H1
              clear H1
              obtain rfl := Option.some.inj H
              have hcz42_0 : wc.cell? ⟨gb120, 0, none⟩ = some (.int .i64 a0_0) := (blk_cell BK120.out 0).trans rfl
              have hcz42_1 : wc.cell? ⟨gb120, 1, none⟩ = some (.string a0_1) := (blk_cell BK120.out 1).trans rfl
              have hcz42_2 : wc.cell? ⟨gb120, 2, none⟩ = some (.int .i64 a0_2) := (blk_cell BK120.out 2).trans rfl
              have hcz42_3 : wc.cell? ⟨gb120, 3, none⟩ = some (.int .i64 a0_3) := (blk_cell BK120.out 3).trans rfl
              have hcz42_4 : wc.cell? ⟨gb120, 4, none⟩ = some (.int .i64 a0_4) := (blk_cell BK120.out 4).trans rfl
              have hcz42_5 : wc.cell? ⟨gb120, 5, none⟩ = some (.string a0_5) := (blk_cell BK120.out 5).trans rfl
              have hcz42_6 : wc.cell? ⟨gb120, 6, none⟩ = some (.string a0_6) := (blk_cell BK120.out 6).trans rfl
              have hcz42_7 : wc.cell? ⟨gb120, 7, none⟩ = some (.int .i64 a0_7) := (blk_cell BK120.out 7).trans rfl
              have hcz42_8 : wc.cell? ⟨gb120, 8, none⟩ = some (.slice A0_8 l0_8.length c0_8) := (blk_cell BK120.out 8).trans rfl
              have hfz42_0 := blk_frozen BK120.out 0
              have hfz42_1 := blk_frozen BK120.out 1
              have hfz42_2 := blk_frozen BK120.out 2
              have hfz42_3 := blk_frozen BK120.out 3
              have hfz42_4 := blk_frozen BK120.out 4
              have hfz42_5 := blk_frozen BK120.out 5
              have hfz42_6 := blk_frozen BK120.out 6
              have hfz42_7 := blk_frozen BK120.out 7
              have hfz42_8 := blk_frozen BK120.out 8
              go_wp2_with (first | ((with_reducible refine gate_callee (f := 126) rfl ?_); refine goesL_ (some 56) rfl rfl Tryd.func126 (by kernel_rfl) rfl #[.string a0_5] rfl (by (try simp only [List.map_toArray, List.map_cons, List.map_nil]); first | done | rfl | (simp only [List.length_drop, List.length_take]; rfl)) ?_; (with_reducible refine (words_Plain.calls a0_5 false _ A35.out).mono ?_); rintro e w' ⟨rfl, ⟨nd, rfl⟩⟩; refine ⟨_, rfl, ?_⟩))
              go_ret
              exact ⟨by first | rfl | (simp [errW_none, errW_some] <;> rfl) | (simp [*, errW_none, errW_some] <;> rfl), by repeat (first | (with_reducible first | exact HB.out | apply below_alloc | apply pw_below_drewN | apply below_drew1 | refine below_set ?_ GE120.out) | exact HB.out)⟩
def entry_optional.f (a0 : ByteArray) : Option (Bool) := if a0.toList = ([] : List UInt8) then (some true) else ((words_Code.f a0).bind fun t133 => (some t133))
set_option maxHeartbeats 8000000 in
set_option maxRecDepth 100000 in
theorem entry_optional.calls (a0 : ByteArray) (r : Bool) (w : World) (h : entry_optional.f a0 = some r) :
  Calls Tryd.prog 133 #[.string a0] w fun e w' => e = .returned (.bool r) ∧ Drawn0 w w' := by
 have H : (if a0.toList = ([] : List UInt8) then (some true) else ((words_Code.f a0).bind fun t133 => (some t133))) = some r := h
 clear h
 by_cases c2 : a0.toList = ([] : List UInt8)
 ·rw [if_pos c2] at H
  have c2b0 : (a0.toList == ([] : List UInt8)) = true := beq_iff_eq.mpr c2
  have c2b1 : (a0.toList != ([] : List UInt8)) = false := bne_eq_false_iff_eq.mpr c2
  clear c2
  obtain rfl := Option.some.inj H
  go_enter Tryd.func133, Tryd.ntmps133
  go_wp2
  go_ret
  exact ⟨by first | rfl | (simp; done) | (simp [*]; done), by repeat (first | exact Drawn0.refl _ | apply Drawn0.step)⟩
 ·rw [if_neg c2] at H
  have c2b0 : (a0.toList == ([] : List UInt8)) = false := beq_eq_false_iff_ne.mpr c2
  have c2b1 : (a0.toList != ([] : List UInt8)) = true := bne_iff_ne.mpr c2
  replace H := Option.bind_eq_some_iff.mp H
  obtain ⟨t133, A30, H⟩ := H
  replace H : (some t133) = some r := H
  have A3 := Aside0.mk A30
  clear A30
  obtain rfl := Option.some.inj H
  go_enter Tryd.func133, Tryd.ntmps133
  go_wp2_with (first | (go_at_call 80; (with_reducible refine (words_Code.calls a0 t133 _ A3.out).mono ?_); rintro e w' ⟨rfl, ⟨nd, rfl⟩⟩))
  go_ret
  exact ⟨by first | rfl | (simp; done) | (simp [*]; done), by repeat (first | exact Drawn0.refl _ | apply Drawn0.step)⟩
def entry_within.f (a0 : Int) (a1 : Int) : Option (Bool) := if a0 ≥ (wrap64 (-a1)) then (some (decide (a0 ≤ a1))) else (some false)
set_option maxHeartbeats 8000000 in
set_option maxRecDepth 100000 in
theorem entry_within.calls (a0 : Int) (a1 : Int) (r : Bool) (w : World) (h : entry_within.f a0 a1 = some r) :
  Calls Tryd.prog 134 #[.int .i64 a0, .int .i64 a1] w fun e w' => e = .returned (.bool r) ∧ Drawn0 w w' := by
 have H : (if a0 ≥ (wrap64 (-a1)) then (some (decide (a0 ≤ a1))) else (some false)) = some r := h
 clear h
 by_cases c3 : a0 ≥ (wrap64 (-a1))
 ·rw [if_pos c3] at H
  have c3b0 : decide ((wrap64 (-a1)) ≤ a0) = true := decide_eq_true c3
  clear c3
  obtain rfl := Option.some.inj H
  go_enter Tryd.func134, Tryd.ntmps134
  go_wp2
  go_ret
  exact ⟨by first | rfl | (simp; done) | (simp [*]; done), by repeat (first | exact Drawn0.refl _ | apply Drawn0.step)⟩
 ·rw [if_neg c3] at H
  have c3b0 : decide ((wrap64 (-a1)) ≤ a0) = false := decide_eq_false c3
  clear c3
  obtain rfl := Option.some.inj H
  go_enter Tryd.func134, Tryd.ntmps134
  go_wp2
  go_ret
  exact ⟨by first | rfl | (simp; done) | (simp [*]; done), by repeat (first | exact Drawn0.refl _ | apply Drawn0.step)⟩
end Go.Proofs.YtppcjoaghlecmaaDoor.P
namespace Go.Proofs.YtppcjoaghlecmaaDoor.P
open Go.Sort
set_option linter.unusedVariables false
set_option linter.unusedSectionVars false
variable {α : Type} [Inhabited α] {lt : α → α → Bool}
def rotI (a m b t : Nat) : Nat := if a ≤ t ∧ t < a + (b - m) then t + (m - a) else if a + (b - m) ≤ t ∧ t < b then t - (b - m) else t
structure Rot (a m b : Nat) (d e : Array α) : Prop where
 get : ∀ t, e[t]! = d[rotI a m b t]!
 perm : PermIn a b d e
theorem Rot.size {a m b : Nat} {d e : Array α} (h : Rot a m b d e) : e.size = d.size := h.perm.1
def swpN (d : Array α) (a b : Nat) : Nat → Array α
 | 0 => d
 | n + 1 => swp (swpN d a b n) (a + n) (b + n)
theorem swpN_size (d : Array α) (a b : Nat) : ∀ n, (swpN d a b n).size = d.size
 | 0 => rfl
 | n + 1 => by rw [swpN, size_swp, swpN_size d a b n]
theorem swpN_get (d : Array α) (a b : Nat) : ∀ n, a + n ≤ b → b + n ≤ d.size → ∀ t, (swpN d a b n)[t]! = d[if a ≤ t ∧ t < a + n then t + (b - a) else if b ≤ t ∧ t < b + n then t - (b - a) else t]!
 | 0, _, _, t => by
  rw [if_neg (by omega), if_neg (by omega)]
  rfl
 | n + 1, h1, h2, t => by
  have ih := swpN_get d a b n (by omega) (by omega)
  have hs := swpN_size d a b n
  rw [swpN, swp_get _ (by omega) (by omega)]
  by_cases h3 : t = b + n
  ·rw [if_pos h3, ih, if_neg (by omega), if_neg (by omega), if_neg (by omega), if_pos (by omega)]
   congr 1
   omega
  rw [if_neg h3]
  by_cases h4 : t = a + n
  ·rw [if_pos h4, ih, if_neg (by omega), if_neg (by omega), if_pos (by omega)]
   congr 1
   omega
  rw [if_neg h4, ih]
  congr 1
  by_cases h5 : a ≤ t ∧ t < a + n
  ·rw [if_pos h5, if_pos (by omega)]
  rw [if_neg h5]
  by_cases h6 : b ≤ t ∧ t < b + n
  ·rw [if_pos h6, if_neg (by omega), if_pos (by omega)]
  ·rw [if_neg h6, if_neg (by omega), if_neg (by omega)]
theorem swpN_perm (d : Array α) (a b lo hi : Nat) : ∀ n, lo ≤ a → a + n ≤ b → b + n ≤ hi → hi ≤ d.size → PermIn lo hi d (swpN d a b n)
 | 0, _, _, _, _ => permIn_refl _ _ _
 | n + 1, h0, h1, h2, h3 => permIn_trans _ _ _ _ _ (swpN_perm d a b lo hi n h0 (by omega) (by omega) h3) (swp_permIn _ _ _ _ _ (by omega) (by omega) (by omega) (by omega) (by rw [swpN_size]; exact h3))
structure RotSt (a m b i j : Nat) (d e : Array α) : Prop where
 hi : 1 ≤ i ∧ i ≤ m - a
 hj : 1 ≤ j ∧ j ≤ b - m
 get : ∀ t, e[rotI (m - i) m (m + j) t]! = d[rotI a m b t]!
 perm : PermIn a b d e
section
variable {a m b i j : Nat} {d e : Array α}
theorem RotSt.start (d : Array α) (h1 : a < m) (h2 : m < b) : RotSt a m b (m - a) (b - m) d d := by
 refine ⟨by omega, by omega, fun t => ?_, permIn_refl _ _ _⟩
 rw [show m - (m - a) = a by omega, show m + (b - m) = b by omega]
theorem RotSt.left (h : RotSt a m b i j d e) (h1 : a < m) (h2 : m < b) (h3 : b ≤ d.size) (hij : j < i) : RotSt a m b (i - j) j d (swpN e (m - i) m j) := by
 have hi := h.hi
 have hj := h.hj
 have hs := h.perm.1
 refine ⟨by omega, by omega, fun t => ?_, permIn_trans _ _ _ _ _ h.perm (swpN_perm e _ _ _ _ j (by omega) (by omega) (by omega) (by omega))⟩
 rw [← h.get t, swpN_get e _ _ j (by omega) (by omega)]
 congr 1
 unfold rotI
 split <;> split <;> (try split) <;> (try split) <;> (try split) <;> (try split) <;> omega
theorem RotSt.right (h : RotSt a m b i j d e) (h1 : a < m) (h2 : m < b) (h3 : b ≤ d.size) (hij : i < j) : RotSt a m b i (j - i) d (swpN e (m - i) (m + j - i) i) := by
 have hi := h.hi
 have hj := h.hj
 have hs := h.perm.1
 refine ⟨by omega, by omega, fun t => ?_, permIn_trans _ _ _ _ _ h.perm (swpN_perm e _ _ _ _ i (by omega) (by omega) (by omega) (by omega))⟩
 rw [← h.get t, swpN_get e _ _ i (by omega) (by omega)]
 congr 1
 unfold rotI
 split <;> split <;> (try split) <;> (try split) <;> (try split) <;> (try split) <;> omega
theorem RotSt.last (h : RotSt a m b i i d e) (h1 : a < m) (h2 : m < b) (h3 : b ≤ d.size) : Rot a m b d (swpN e (m - i) m i) := by
 have hi := h.hi
 have hj := h.hj
 have hs := h.perm.1
 refine ⟨fun t => ?_, permIn_trans _ _ _ _ _ h.perm (swpN_perm e _ _ _ _ i (by omega) (by omega) (by omega) (by omega))⟩
 rw [← h.get t, swpN_get e _ _ i (by omega) (by omega)]
 congr 1
 unfold rotI
 split <;> split <;> (try split) <;> (try split) <;> (try split) <;> (try split) <;> omega
end
def upN (d : Array α) (a : Nat) : Nat → Array α
 | 0 => d
 | n + 1 => swp (upN d a n) (a + n) (a + n + 1)
theorem upN_size (d : Array α) (a : Nat) : ∀ n, (upN d a n).size = d.size
 | 0 => rfl
 | n + 1 => by rw [upN, size_swp, upN_size d a n]
theorem upN_rot (d : Array α) (a : Nat) : ∀ n, a + n < d.size → Rot a (a + 1) (a + n + 1) d (upN d a n)
 | 0, h => by
  refine ⟨fun t => ?_, permIn_refl _ _ _⟩
  unfold upN
  congr 1
  unfold rotI
  rw [if_neg (by omega)]
  split <;> omega
 | n + 1, h => by
  have ih := upN_rot d a n (by omega)
  have hs := upN_size d a n
  refine ⟨fun t => ?_, permIn_trans _ _ _ _ _ (permIn_mono _ _ _ _ _ _ (Nat.le_refl _) (by omega) (by omega) ih.perm) (swp_permIn _ _ _ _ _ (by omega) (by omega) (by omega) (by omega) (by omega))⟩
  rw [upN, swp_get _ (by omega) (by omega)]
  by_cases h3 : t = a + n + 1
  ·rw [if_pos h3, ih.get]
   congr 1
   unfold rotI
   split <;> (try split) <;> (try split) <;> (try split) <;> omega
  rw [if_neg h3]
  by_cases h4 : t = a + n
  ·rw [if_pos h4, ih.get]
   congr 1
   unfold rotI
   split <;> (try split) <;> (try split) <;> (try split) <;> omega
  rw [if_neg h4, ih.get]
  congr 1
  unfold rotI
  split <;> (try split) <;> (try split) <;> (try split) <;> omega
def downN (d : Array α) (m : Nat) : Nat → Array α
 | 0 => d
 | n + 1 => swp (downN d m n) (m - n) (m - n - 1)
theorem downN_size (d : Array α) (m : Nat) : ∀ n, (downN d m n).size = d.size
 | 0 => rfl
 | n + 1 => by rw [downN, size_swp, downN_size d m n]
theorem downN_rot (d : Array α) (m : Nat) (hm : m < d.size) : ∀ n, n ≤ m → Rot (m - n) m (m + 1) d (downN d m n)
 | 0, _ => by
  refine ⟨fun t => ?_, permIn_refl _ _ _⟩
  unfold rotI
  split
  ·congr 1
   omega
  ·rw [if_neg (by omega)]
   rfl
 | n + 1, hn => by
  have ih := downN_rot d m hm n (by omega)
  have hs := downN_size d m n
  refine ⟨fun t => ?_, permIn_trans _ _ _ _ _ (permIn_mono _ _ _ _ _ _ (by omega) (Nat.le_refl _) (by omega) ih.perm) (swp_permIn _ _ _ _ _ (by omega) (by omega) (by omega) (by omega) (by omega))⟩
  rw [downN, swp_get _ (by omega) (by omega)]
  by_cases h3 : t = m - n - 1
  ·rw [if_pos h3, ih.get]
   congr 1
   unfold rotI
   split <;> (try split) <;> (try split) <;> (try split) <;> omega
  rw [if_neg h3]
  by_cases h4 : t = m - n
  ·rw [if_pos h4, ih.get]
   congr 1
   unfold rotI
   split <;> (try split) <;> (try split) <;> (try split) <;> omega
  rw [if_neg h4, ih.get]
  congr 1
  unfold rotI
  split <;> (try split) <;> (try split) <;> (try split) <;> omega
structure Mrg (lt : α → α → Bool) (a b : Nat) (d d' : Array α) : Prop where
 perm : PermIn a b d d'
 sorted : SortedIn lt a b d'
theorem sorted_sub {a b a' b' : Nat} {d : Array α} (h : SortedIn lt a b d) (ha : a ≤ a') (hb : b' ≤ b) : SortedIn lt a' b' d := fun i j h1 h2 h3 => h i j (by omega) h2 (by omega)
theorem sorted_le (hO : SWO lt) {a b i j : Nat} {d : Array α} (h : SortedIn lt a b d) (h1 : a ≤ i) (h2 : i ≤ j) (h3 : j < b) : lt d[j]! d[i]! = false := by
 rcases Nat.lt_or_eq_of_le h2 with h4 | rfl
 ·exact h i j h1 h4 h3
 ·exact hO.irrefl _
def Crs (lt : α → α → Bool) (a c b : Nat) (d : Array α) : Prop := ∀ i j, a ≤ i → i < c → c ≤ j → j < b → lt d[j]! d[i]! = false
theorem sorted_join {a c b : Nat} {d : Array α} (h1 : SortedIn lt a c d) (h2 : SortedIn lt c b d) (h3 : Crs lt a c b d) : SortedIn lt a b d := by
 intro i j ha hij hb
 by_cases h4 : j < c
 ·exact h1 i j ha hij h4
 by_cases h5 : c ≤ i
 ·exact h2 i j h5 hij hb
 ·exact h3 i j ha (by omega) (by omega) hb
theorem crs_perm {a c b : Nat} {d e f : Array α} (h : Crs lt a c b d) (hac : a ≤ c) (hcb : c ≤ b) (hb : b ≤ d.size) (h1 : PermIn a c d e) (h2 : PermIn c b e f) : Crs lt a c b f := by
 have k1 : Crs lt a c b e := by
  intro i j ha hic hcj hjb
  have := permIn_all d e a c (fun x => lt d[j]! x = false) (by omega) h1 (fun i ha hic => h i j ha hic hcj hjb) i ha hic
  rw [h1.2.1 j (.inr hcj)]
  exact this
 intro i j ha hic hcj hjb
 have := permIn_all e f c b (fun x => lt x e[i]! = false) (by rw [h1.1]; exact hb) h2 (fun j hcj hjb => k1 i j ha hic hcj hjb) j hcj hjb
 rw [h2.2.1 i (.inl hic)]
 exact this
structure Cutd (lt : α → α → Bool) (a s m n b : Nat) (d : Array α) : Prop where
 has : a ≤ s
 hsm : s ≤ m
 hmn : m ≤ n
 hnb : n ≤ b
 lo : SortedIn lt a m d
 hi : SortedIn lt m b d
 c1 : ∀ i j, a ≤ i → i < s → n ≤ j → j < b → lt d[j]! d[i]! = false
 c2 : ∀ i j, s ≤ i → i < m → m ≤ j → j < n → lt d[i]! d[j]! = false
section
variable {a s m n b : Nat} {d e : Array α}
theorem Cutd.runs (h : Cutd lt a s m n b d) (hr : Rot s m n d e) : SortedIn lt a s e ∧ SortedIn lt s (s + (n - m)) e ∧ SortedIn lt (s + (n - m)) n e ∧ SortedIn lt n b e ∧ Crs lt a (s + (n - m)) b e := by
 have h1 := h.has
 have h2 := h.hsm
 have h3 := h.hmn
 have h4 := h.hnb
 have g0 : ∀ t, t < s → e[t]! = d[t]! := fun t ht => by
  rw [hr.get]
  congr 1
  unfold rotI
  rw [if_neg (by omega), if_neg (by omega)]
 have g1 : ∀ t, s ≤ t → t < s + (n - m) → e[t]! = d[t + (m - s)]! := fun t ht ht2 => by
  rw [hr.get]
  congr 1
  unfold rotI
  rw [if_pos (by omega)]
 have g2 : ∀ t, s + (n - m) ≤ t → t < n → e[t]! = d[t - (n - m)]! := fun t ht ht2 => by
  rw [hr.get]
  congr 1
  unfold rotI
  rw [if_neg (by omega), if_pos (by omega)]
 have g3 : ∀ t, n ≤ t → e[t]! = d[t]! := fun t ht => by
  rw [hr.get]
  congr 1
  unfold rotI
  rw [if_neg (by omega), if_neg (by omega)]
 refine ⟨fun i j ha hij hb => ?_, fun i j ha hij hb => ?_, fun i j ha hij hb => ?_, fun i j ha hij hb => ?_, fun i j ha hic hcj hjb => ?_⟩
 ·rw [g0 i (by omega), g0 j (by omega)]
  exact h.lo i j ha hij (by omega)
 ·rw [g1 i (by omega) (by omega), g1 j (by omega) (by omega)]
  exact h.hi _ _ (by omega) (by omega) (by omega)
 ·rw [g2 i (by omega) (by omega), g2 j (by omega) (by omega)]
  exact h.lo _ _ (by omega) (by omega) (by omega)
 ·rw [g3 i (by omega), g3 j (by omega)]
  exact h.hi i j (by omega) hij hb
 ·by_cases c1 : i < s
  ·rw [g0 i c1]
   by_cases c2 : j < n
   ·rw [g2 j hcj c2]
    exact h.lo _ _ ha (by omega) (by omega)
   ·rw [g3 j (by omega)]
    exact h.c1 i j ha c1 (by omega) hjb
  ·rw [g1 i (by omega) hic]
   by_cases c2 : j < n
   ·rw [g2 j hcj c2]
    exact h.c2 _ _ (by omega) (by omega) (by omega) (by omega)
   ·rw [g3 j (by omega)]
    exact h.hi _ _ (by omega) (by omega) hjb
theorem rot_none (h : s = m ∨ m = n) (hsm : s ≤ m) (hmn : m ≤ n) : Rot s m n d d := by
 refine ⟨fun t => ?_, permIn_refl _ _ _⟩
 congr 1
 unfold rotI
 split
 ·omega
 split <;> omega
theorem mrg_first (hO : SWO lt) (hm : a + 1 < b) (hb : b ≤ d.size) (h : SortedIn lt (a + 1) b d) {i : Nat} (h1 : a + 1 ≤ i) (h2 : i ≤ b) (h3 : ∀ t, a + 1 ≤ t → t < i → lt d[t]! d[a]! = true) (h4 : ∀ t, i ≤ t → t < b → lt d[t]! d[a]! = false) : Mrg lt a b d (upN d a (i - 1 - a)) := by
 have hr := upN_rot d a (i - 1 - a) (by omega)
 rw [show a + (i - 1 - a) + 1 = i by omega] at hr
 have hc : Cutd lt a a (a + 1) i b d := ⟨Nat.le_refl _, by omega, h1, h2, fun x y k1 k2 k3 => by omega, h, fun x y k1 k2 _ _ => by omega, fun x y k1 k2 k3 k4 => by
  obtain rfl : x = a := by omega
  exact hO.asymmA (h3 y k3 k4)⟩
 obtain ⟨_, r1, r2, r3, r4⟩ := hc.runs hr
 refine ⟨permIn_mono _ _ _ _ _ _ (Nat.le_refl _) h2 hb hr.perm, sorted_join r1 ?_ r4⟩
 refine sorted_join r2 r3 (fun x y k1 k2 k3 k4 => ?_)
 obtain rfl : x = i - 1 := by omega
 rw [hr.get, hr.get]
 have e1 : rotI a (a + 1) i (i - 1) = a := by unfold rotI; rw [if_neg (by omega), if_pos (by omega)]; omega
 have e2 : rotI a (a + 1) i y = y := by unfold rotI; rw [if_neg (by omega), if_neg (by omega)]
 rw [e1, e2]
 exact h4 y k3 k4
theorem mrg_last (hO : SWO lt) (hm : a < m) (hb : m + 1 ≤ d.size) (h : SortedIn lt a m d) {i : Nat} (h1 : a ≤ i) (h2 : i ≤ m) (h3 : ∀ t, a ≤ t → t < i → lt d[m]! d[t]! = false) (h4 : ∀ t, i ≤ t → t < m → lt d[m]! d[t]! = true) : Mrg lt a (m + 1) d (downN d m (m - i)) := by
 have hr := downN_rot d m (by omega) (m - i) (by omega)
 rw [show m - (m - i) = i by omega] at hr
 have hc : Cutd lt a i m (m + 1) (m + 1) d := ⟨h1, h2, by omega, Nat.le_refl _, h, fun x y k1 k2 k3 => by omega, fun x y k1 k2 k3 k4 => by omega, fun x y k1 k2 k3 k4 => by
  obtain rfl : y = m := by omega
  exact hO.asymmA (h4 x k1 k2)⟩
 obtain ⟨r0, r1, r2, r3, r4⟩ := hc.runs hr
 refine ⟨permIn_mono _ _ _ _ _ _ h1 (Nat.le_refl _) hb hr.perm, sorted_join ?_ r2 r4⟩
 refine sorted_join r0 r1 (fun x y k1 k2 k3 k4 => ?_)
 obtain rfl : y = i := by omega
 rw [hr.get, hr.get]
 have e1 : rotI y m (m + 1) y = m := by unfold rotI; rw [if_pos (by omega)]; omega
 have e2 : rotI y m (m + 1) x = x := by unfold rotI; rw [if_neg (by omega), if_neg (by omega)]
 rw [e1, e2]
 exact h3 x k1 k2
theorem Cutd.merged (h : Cutd lt a s m n b d) (hb : b ≤ d.size) (hr : Rot s m n d e) {e1 e2 : Array α} (k1 : Mrg lt a (s + (n - m)) e e1) (k2 : Mrg lt (s + (n - m)) b e1 e2) : Mrg lt a b d e2 := by
 have h1 := h.has
 have h2 := h.hsm
 have h3 := h.hmn
 have h4 := h.hnb
 obtain ⟨r0, r1, r2, r3, r4⟩ := h.runs hr
 have hs := hr.size
 have hs1 : e1.size = d.size := k1.perm.1.trans hs
 refine ⟨?_, sorted_join (fun i j ha hij hc => ?_) k2.sorted (crs_perm r4 (by omega) (by omega) (by omega) k1.perm k2.perm)⟩
 ·exact permIn_trans _ _ _ _ _ (permIn_mono _ _ _ _ _ _ h1 h4 hb hr.perm) (permIn_trans _ _ _ _ _ (permIn_mono _ _ _ _ _ _ (Nat.le_refl _) (by omega) (by omega) k1.perm) (permIn_mono _ _ _ _ _ _ (by omega) (Nat.le_refl _) (by omega) k2.perm))
 ·rw [k2.perm.2.1 i (.inl (by omega)), k2.perm.2.1 j (.inl (by omega))]
  exact k1.sorted i j ha hij hc
theorem Mrg.refl {lo hi : Nat} {f : Array α} (h : SortedIn lt lo hi f) : Mrg lt lo hi f f := ⟨permIn_refl _ _ _, h⟩
theorem sorted_empty {lo hi : Nat} {f : Array α} (h : hi ≤ lo + 1) : SortedIn lt lo hi f := fun i j h1 h2 h3 => by omega
end
structure Srch (lt : α → α → Bool) (d : Array α) (p s0 r0 x y : Nat) : Prop where
 hx : s0 ≤ x
 hxy : x ≤ y
 hy : y ≤ r0
 below : ∀ c, s0 ≤ c → c < x → lt d[p - c]! d[c]! = false
 above : ∀ c, y ≤ c → c < r0 → lt d[p - c]! d[c]! = true
section
variable {a m b : Nat} {d : Array α}
def sStart (a m b : Nat) : Nat := if m > (a + b) / 2 then (a + b) / 2 + m - b else a
def sEnd (a m b : Nat) : Nat := if m > (a + b) / 2 then (a + b) / 2 else m
theorem srch_start : sStart a m b ≤ sEnd a m b → Srch lt d ((a + b) / 2 + m - 1) (sStart a m b) (sEnd a m b) (sStart a m b) (sEnd a m b) := fun h => ⟨Nat.le_refl _, h, Nat.le_refl _, fun c h1 h2 => by omega, fun c h1 h2 => by omega⟩
theorem s_le (h1 : a < m) (h2 : m < b) : sStart a m b ≤ sEnd a m b := by unfold sStart sEnd; split <;> omega
theorem s_bounds (h1 : a < m) (h2 : m < b) {c : Nat} (h3 : sStart a m b ≤ c) (h4 : c < sEnd a m b) : a ≤ c ∧ c < m ∧ m ≤ (a + b) / 2 + m - 1 - c ∧ (a + b) / 2 + m - 1 - c < b := by
 unfold sStart at h3
 unfold sEnd at h4
 split at h3 <;> split at h4 <;> omega
theorem Srch.less (hO : SWO lt) (lo : SortedIn lt a m d) (hi : SortedIn lt m b d) (h1 : a < m) (h2 : m < b) {x y c : Nat} (h : Srch lt d ((a + b) / 2 + m - 1) (sStart a m b) (sEnd a m b) x y) (hc1 : x ≤ c) (hc2 : c < y) (hl : lt d[(a + b) / 2 + m - 1 - c]! d[c]! = false) : Srch lt d ((a + b) / 2 + m - 1) (sStart a m b) (sEnd a m b) (c + 1) y := by
 have k1 := h.hx
 have k3 := h.hy
 refine ⟨by omega, by omega, k3, fun t ht ht2 => ?_, h.above⟩
 by_cases h3 : t < x
 ·exact h.below t ht h3
 have b1 := s_bounds h1 h2 ht (show t < sEnd a m b by omega)
 have b2 := s_bounds h1 h2 (show sStart a m b ≤ c by omega) (show c < sEnd a m b by omega)
 have l1 := sorted_le hO lo b1.1 (show t ≤ c by omega) b2.2.1
 have l2 := sorted_le hO hi b2.2.2.1 (show (a + b) / 2 + m - 1 - c ≤ (a + b) / 2 + m - 1 - t by omega) b1.2.2.2
 exact hO.ntrans _ _ _ (hO.ntrans _ _ _ l2 hl) l1
theorem lt_of_lt_le (hO : SWO lt) {x y z : α} (h1 : lt x y = true) (h2 : lt z y = false) : lt x z = true := by
 cases h : lt x z
 ·have := hO.ntrans _ _ _ h h2
  rw [this] at h1
  cases h1
 ·rfl
theorem lt_of_le_lt (hO : SWO lt) {x y z : α} (h1 : lt y x = false) (h2 : lt y z = true) : lt x z = true := by
 cases h : lt x z
 ·have := hO.ntrans _ _ _ h1 h
  rw [this] at h2
  cases h2
 ·rfl
theorem Srch.more (hO : SWO lt) (lo : SortedIn lt a m d) (hi : SortedIn lt m b d) (h1 : a < m) (h2 : m < b) {x y c : Nat} (h : Srch lt d ((a + b) / 2 + m - 1) (sStart a m b) (sEnd a m b) x y) (hc1 : x ≤ c) (hc2 : c < y) (hl : lt d[(a + b) / 2 + m - 1 - c]! d[c]! = true) : Srch lt d ((a + b) / 2 + m - 1) (sStart a m b) (sEnd a m b) x c := by
 have k1 := h.hx
 have k3 := h.hy
 refine ⟨k1, hc1, by omega, h.below, fun t ht ht2 => ?_⟩
 by_cases h3 : y ≤ t
 ·exact h.above t h3 ht2
 have b1 := s_bounds h1 h2 (show sStart a m b ≤ t by omega) ht2
 have b2 := s_bounds h1 h2 (show sStart a m b ≤ c by omega) (show c < sEnd a m b by omega)
 have l1 := sorted_le hO lo b2.1 ht b1.2.1
 have l2 := sorted_le hO hi b1.2.2.1 (show (a + b) / 2 + m - 1 - t ≤ (a + b) / 2 + m - 1 - c by omega) b2.2.2.2
 exact lt_of_lt_le hO (lt_of_le_lt hO l2 hl) l1
theorem Srch.cut (hO : SWO lt) (lo : SortedIn lt a m d) (hi : SortedIn lt m b d) (h1 : a < m) (h2 : m < b) {x : Nat} (h : Srch lt d ((a + b) / 2 + m - 1) (sStart a m b) (sEnd a m b) x x) : Cutd lt a x m ((a + b) / 2 + m - x) b d ∧ x + ((a + b) / 2 + m - x - m) = (a + b) / 2 := by
 have k1 := h.hx
 have k3 := h.hy
 have hs : (a ≤ sStart a m b ∧ sEnd a m b ≤ m) ∧ (sStart a m b = a ∨ (a + b) / 2 + m - sStart a m b = b) ∧ (sEnd a m b = m ∨ (a + b) / 2 + m - sEnd a m b = m) ∧ sEnd a m b ≤ (a + b) / 2 ∧ (a + b) / 2 + m ≤ b + sStart a m b := by
  unfold sStart sEnd
  split <;> omega
 obtain ⟨⟨hs1, hs2⟩, hs3, hs4, hs5, hs6⟩ := hs
 refine ⟨⟨by omega, by omega, by omega, by omega, lo, hi, fun i j q1 q2 q3 q4 => ?_, fun i j q1 q2 q3 q4 => ?_⟩, by omega⟩
 ·-- [a, x) against [n - x, b): by the element x - 1
  by_cases hx0 : x = sStart a m b
  ·exfalso
   rcases hs3 with hs3 | hs3 <;> omega
  ·have hb := h.below (x - 1) (by omega) (by omega)
   have b1 := s_bounds h1 h2 (show sStart a m b ≤ x - 1 by omega) (show x - 1 < sEnd a m b by omega)
   have l1 := sorted_le hO lo q1 (show i ≤ x - 1 by omega) b1.2.1
   have l2 := sorted_le hO hi b1.2.2.1 (show (a + b) / 2 + m - 1 - (x - 1) ≤ j by omega) q4
   exact hO.ntrans _ _ _ (hO.ntrans _ _ _ l2 hb) l1
 ·by_cases hx0 : x = sEnd a m b
  ·exfalso
   rcases hs4 with hs4 | hs4 <;> omega
  ·have hb := h.above x (Nat.le_refl _) (by omega)
   have b1 := s_bounds h1 h2 k1 (show x < sEnd a m b by omega)
   have l1 := sorted_le hO lo b1.1 q1 q2
   have l2 := sorted_le hO hi q3 (show j ≤ (a + b) / 2 + m - 1 - x by omega) b1.2.2.2
   exact hO.asymmA (lt_of_lt_le hO (lt_of_le_lt hO l2 hb) l1)
end
def Blks (lt : α → α → Bool) (s n : Nat) (d : Array α) : Prop := ∀ k, SortedIn lt (s * k) (min (s * k + s) n) d
theorem blks_all {s n : Nat} {d : Array α} (h : Blks lt s n d) (hs : n ≤ s) : SortedIn lt 0 n d := by
 have := h 0
 rw [Nat.mul_zero, Nat.zero_add, Nat.min_eq_right hs] at this
 exact this
end Go.Proofs.YtppcjoaghlecmaaDoor.P
namespace Go.Proofs.YtppcjoaghlecmaaDoor.P
open Go.RowKit Go.Sort Go.Proofs.YtppcjoaghlecmaaDoorW.PrintWords Go.Proofs.YtppcjoaghlecmaaDoorW.PrintLast Go.Proofs.YtppcjoaghlecmaaDoorW.PrintMore
set_option linter.unusedVariables false
set_option linter.unusedSimpArgs false
instance : Inhabited S112 := ⟨z112⟩
def e34 (x : S112) : List Value := [.string x.f0.f0, .string x.f0.f1, .string x.f0.f2, .string x.f0.f3, .string x.f0.f4, .int .i64 x.f1, .int .i64 x.f2]
theorem e34_len (x : S112) : (e34 x).length = 7 := rfl
theorem e34_one (x : S112) : ∀ v ∈ e34 x, v.oneCell' = true := by
 intro v hv
 simp only [e34, List.mem_cons, List.not_mem_nil, or_false] at hv
 rcases hv with rfl | rfl | rfl | rfl | rfl | rfl | rfl <;> rfl
section
variable {w0 W : World} {blk off : Nat} {dk d0 : Array S112}
theorem with_world {P : World → Prop} (W : World) (h : ∀ w2, w2 = W → P w2) : P W := h W rfl
structure At34 (W : World) (blk off i : Nat) (x : S112) : Prop where
 c0 : W.cell? ⟨blk, off + i * 7, none⟩ = some (.string x.f0.f0)
 c1 : W.cell? ⟨blk, off + i * 7 + 1, none⟩ = some (.string x.f0.f1)
 c2 : W.cell? ⟨blk, off + i * 7 + 2, none⟩ = some (.string x.f0.f2)
 c3 : W.cell? ⟨blk, off + i * 7 + 3, none⟩ = some (.string x.f0.f3)
 c4 : W.cell? ⟨blk, off + i * 7 + 4, none⟩ = some (.string x.f0.f4)
 c5 : W.cell? ⟨blk, off + i * 7 + 5, none⟩ = some (.int .i64 x.f1)
 c6 : W.cell? ⟨blk, off + i * 7 + 6, none⟩ = some (.int .i64 x.f2)
theorem sets34 (W : World) (blk P : Nat) (x : S112) : W.setCells blk P (e34 x) = ((((((W.setCell ⟨blk, P, none⟩ (.string x.f0.f0)).setCell ⟨blk, P + 1, none⟩ (.string x.f0.f1)).setCell ⟨blk, P + 2, none⟩ (.string x.f0.f2)).setCell ⟨blk, P + 3, none⟩ (.string x.f0.f3)).setCell ⟨blk, P + 4, none⟩ (.string x.f0.f4)).setCell ⟨blk, P + 5, none⟩ (.int .i64 x.f1)).setCell ⟨blk, P + 6, none⟩ (.int .i64 x.f2) := rfl
theorem set_drew (W : World) (p : Addr) (u : Value) : W.drew.setCell p u = (W.setCell p u).drew := rfl
structure Fr34 (W : World) (blk off i : Nat) : Prop where
 f0 : W.frozen? ⟨blk, off + i * 7, none⟩ = false
 f1 : W.frozen? ⟨blk, off + i * 7 + 1, none⟩ = false
 f2 : W.frozen? ⟨blk, off + i * 7 + 2, none⟩ = false
 f3 : W.frozen? ⟨blk, off + i * 7 + 3, none⟩ = false
 f4 : W.frozen? ⟨blk, off + i * 7 + 4, none⟩ = false
 f5 : W.frozen? ⟨blk, off + i * 7 + 5, none⟩ = false
 f6 : W.frozen? ⟨blk, off + i * 7 + 6, none⟩ = false
theorem sw_at (h : SWK e34 7 w0 blk off dk W) (R : RowK e34 7 w0 blk off d0) (hs : dk.size = d0.size) {i : Nat} (hi : i < dk.size) : At34 W blk off i dk[i]! ∧ Fr34 W blk off i := by
 have hH := h.holds R.hblk R.hH hs
 refine ⟨⟨?_, ?_, ?_, ?_, ?_, ?_, ?_⟩, ⟨?_, ?_, ?_, ?_, ?_, ?_, ?_⟩⟩
 ·exact (hH.cell hi (show 0 < 7 by decide)).1
 ·exact (hH.cell hi (show 1 < 7 by decide)).1
 ·exact (hH.cell hi (show 2 < 7 by decide)).1
 ·exact (hH.cell hi (show 3 < 7 by decide)).1
 ·exact (hH.cell hi (show 4 < 7 by decide)).1
 ·exact (hH.cell hi (show 5 < 7 by decide)).1
 ·exact (hH.cell hi (show 6 < 7 by decide)).1
 ·exact (hH.cell hi (show 0 < 7 by decide)).2
 ·exact (hH.cell hi (show 1 < 7 by decide)).2
 ·exact (hH.cell hi (show 2 < 7 by decide)).2
 ·exact (hH.cell hi (show 3 < 7 by decide)).2
 ·exact (hH.cell hi (show 4 < 7 by decide)).2
 ·exact (hH.cell hi (show 5 < 7 by decide)).2
 ·exact (hH.cell hi (show 6 < 7 by decide)).2
end
set_option maxHeartbeats 4000000 in
set_option maxRecDepth 1000000 in
theorem swapRange_calls (blk off cap a b n : Nat) (d0 d : Array S112) (w0 w : World) (cmp : Value) (R : RowK e34 7 w0 blk off d0) (hs : d0.size = d.size) (S : SWK e34 7 w0 blk off d w) (h1 : a + n ≤ b) (h2 : b + n ≤ d.size) (hsz : d.size < 2305843009213693952) :
  Calls Tryd.prog 184 #[.slice (some ⟨blk, off, none⟩) d.size cap, .int .i64 a, .int .i64 b, .int .i64 n, cmp] w fun e w' => e = .returned (.tuple #[]) ∧ SWK e34 7 w0 blk off (swpN d a b n) w' := by
 have S0 := Aside0.mk S
 have HR := Aside0.mk R
 clear S R
 go_enter Tryd.func184, Tryd.ntmps184
 go_wp2
 go_loopw [10, 11, 12, 13, 14, 15, 16, 17, 18, 19, 20, 21, 22, 23, 24, 25, 26, 27, 28, 29, 30, 31, 32, 33, 34, 35, 36, 37] (fun v10 _ _ _ _ _ _ _ _ _ _ _ _ _ _ _ _ _ _ _ _ _ _ _ _ _ _ _ wr => ∃ i : Nat, i ≤ n ∧ v10 = .int .i64 i ∧ Aside0 (SWK e34 7 w0 blk off (swpN d a b i) wr)) (fun v10 _ _ _ _ _ _ _ _ _ _ _ _ _ _ _ _ _ _ _ _ _ _ _ _ _ _ _ _ => n - (intOf v10).toNat)
 case atStart => exact ⟨0, Nat.zero_le _, rfl, S0⟩
 case round =>
  clear S0
  obtain ⟨i, hi, rfl, S1⟩ := hrel
  by_cases hlt : i < n
  ·have d1 : decide ((i : Int) < (n : Int)) = true := decide_eq_true (by omega)
   have d2 : decide (i < n) = true := decide_eq_true hlt
   have hdz : (swpN d a b i).size = d.size := swpN_size d a b i
   obtain ⟨x, hx⟩ : ∃ x, (swpN d a b i)[a + i]! = x := ⟨_, rfl⟩
   obtain ⟨y, hy⟩ : ∃ y, (swpN d a b i)[b + i]! = y := ⟨_, rfl⟩
   have hsw := S1.out.swapped HR.out (a + i) (b + i) (by omega) (by omega)
   rw [hx, hy, sets34, sets34] at hsw
   simp only [set_drew] at hsw
   have HSW := Aside0.mk hsw
   obtain ⟨cx, fx⟩ := sw_at S1.out HR.out (by omega) (show a + i < (swpN d a b i).size by omega)
   obtain ⟨cy, fy⟩ := sw_at S1.out HR.out (by omega) (show b + i < (swpN d a b i).size by omega)
   rw [hx] at cx
   rw [hy] at cy
   have e1 : ((a : Int) + (i : Int)).toNat = a + i := by omega
   have e2 : ((b : Int) + (i : Int)).toNat = b + i := by omega
   have r1 : IntKind.i64.wrap ((a : Int) + (i : Int)) = (a : Int) + (i : Int) := by rw [IntKind.wrap_i64]; omega
   have r2 : IntKind.i64.wrap ((b : Int) + (i : Int)) = (b : Int) + (i : Int) := by rw [IntKind.wrap_i64]; omega
   have p1 : (0 : Int) ≤ (a : Int) + (i : Int) := by omega
   have p2 : (0 : Int) ≤ (b : Int) + (i : Int) := by omega
   have p3 : (a : Int) + (i : Int) < (d.size : Int) := by omega
   have p4 : (b : Int) + (i : Int) < (d.size : Int) := by omega
   obtain ⟨x0, x1, x2, x3, x4, x5, x6⟩ := cx
   obtain ⟨y0, y1, y2, y3, y4, y5, y6⟩ := cy
   obtain ⟨fx0, fx1, fx2, fx3, fx4, fx5, fx6⟩ := fx
   obtain ⟨fy0, fy1, fy2, fy3, fy4, fy5, fy6⟩ := fy
   have HX := Aside0.mk hx
   have HY := Aside0.mk hy
   have HDZ := Aside0.mk hdz
   clear hx hy hdz hsw
   go_wp2_with fail
   have mixed : Tryd.prog.follows .mixedOrders = true := by kernel_rfl
   go_big_region_o
   refine with_world (P := fun x => Exit.inBlock _ _ _ _ x) _ ?_
   intro w2 hw2
   have S2 := Aside0.mk (show SWK e34 7 w0 blk off (swpN d a b (i + 1)) w2 from by rw [hw2]; exact HSW.out)
   clear hw2 HSW S1 x0 x1 x2 x3 x4 x5 x6 y0 y1 y2 y3 y4 y5 y6 fx0 fx1 fx2 fx3 fx4 fx5 fx6 fy0 fy1 fy2 fy3 fy4 fy5 fy6
   go_wp2
   go_roundw
   case rel => exact ⟨i + 1, by omega, by go_num, S2⟩
   case measure => simp [intOf]; omega
  ·obtain rfl : i = n := by omega
   have d1 : decide ((i : Int) < (i : Int)) = false := decide_eq_false (by omega)
   go_wp2
   go_end0
   exact ⟨rfl, S1.out⟩
def Grw (w w' : World) : Prop := ∃ q os, w' = grow (w.drewN q) os
theorem Grw.refl (w : World) : Grw w w := ⟨0, #[], by rw [grow_empty]; rfl⟩
theorem Grw.trans {a b c : World} (h : Grw a b) (k : Grw b c) : Grw a c := by
 obtain ⟨q, os, rfl⟩ := h
 obtain ⟨q2, os2, rfl⟩ := k
 exact ⟨q + q2, os ++ os2, by show grow (grow ((a.drewN q).drewN q2) os) os2 = _; rw [grow_grow, World.drewN_drewN]⟩
theorem Grw.alloc {a w : World} (h : Grw a w) (o : Obj) : Grw a (w.alloc o) := h.trans ⟨0, #[o], by rw [alloc_eq_grow]; rfl⟩
theorem Grw.drew {a w : World} (h : Grw a w) : Grw a w.drew := h.trans ⟨1, #[], by rw [grow_empty]; rfl⟩
theorem Grw.drewN {a w : World} (h : Grw a w) (n : Nat) : Grw a (w.drewN n) := h.trans ⟨n, #[], by rw [grow_empty]⟩
theorem Grw.below {w w' : World} (h : Grw w w') : Below w.heap.size w w' := by
 obtain ⟨q, os, rfl⟩ := h
 refine ⟨rfl, rfl, rfl, by rw [size_grow]; exact Nat.le_add_right _ _, fun k hk => ?_⟩
 exact heap_grow_old (w.drewN q) os hk
theorem keep_grow {W : World} {n : Nat} {os : Array Obj} {a : Addr} {v : Value} (h : W.cell? a = some v) : (grow (W.drewN n) os).cell? a = some v := by rw [cell?_grow _ _ _ (by exact World.block_lt_of_cell? W a h)]; exact h
theorem keep_alloc {W : World} {o : Obj} {a : Addr} {v : Value} (h : W.cell? a = some v) : (W.alloc o).cell? a = some v := (World.cell?_alloc_lt W o a (World.block_lt_of_cell? W a h)).trans h
theorem keep_drew {W : World} {a : Addr} {v : Value} (h : W.cell? a = some v) : W.drew.cell? a = some v := h
def cmpB (a b : ByteArray) : Int := Lib.compareBytes a.data.toList b.data.toList
set_option maxRecDepth 100000 in
theorem compareString_calls (a b : ByteArray) (w : World) : Calls Tryd.prog 149 #[.string a, .string b] w fun e w' => e = .returned (.int .i64 (cmpB a b)) ∧ w' = w := by
 go_enter Tryd.func149, Tryd.ntmps149
 go_wp2
 rw [run_callFunc_extern Tryd.func177 (by kernel_rfl) (by kernel_rfl) (by kernel_rfl) (e := Extern.BytealgCompare.compare) (by kernel_rfl), Lib.run_compareString]
 simp only [Result.andThen]
 rw [Oper.upon_value]
 go_wp2
 go_ret
 exact ⟨rfl, rfl⟩
theorem compare_calls (a b : ByteArray) (w : World) : Calls Tryd.prog 110 #[.string a, .string b] w fun e w' => e = .returned (.int .i64 (cmpB a b)) ∧ w' = w := by
 go_enter Tryd.func110, Tryd.ntmps110
 go_wp2_with (go_at_call 149; refine (compareString_calls a b _).mono ?_; rintro e w' ⟨rfl, rfl⟩)
 go_ret
 exact ⟨rfl, rfl⟩
set_option maxHeartbeats 2000000 in
theorem parts_calls (x : S40) (w : World) : Calls Tryd.prog 99 #[.agg #[.string x.f0, .string x.f1, .string x.f2, .string x.f3, .string x.f4]] w fun e w' => e = .returned (.agg #[.string x.f0, .string x.f1, .string x.f2, .string x.f3, .string x.f4]) ∧ w' = (w.alloc (.cells #[.string x.f0, .string x.f1, .string x.f2, .string x.f3, .string x.f4] 40)).alloc (.cells #[.string x.f0, .string x.f1, .string x.f2, .string x.f3, .string x.f4] 166) := by
 go_enter Tryd.func99, Tryd.ntmps99
 go_wp2
 refine bodyPost_ret (v := .agg #[.string x.f0, .string x.f1, .string x.f2, .string x.f3, .string x.f4]) (by simp [results, Tryd.results99, go_sem]) rfl ?_
 exact ⟨rfl, rfl⟩
theorem blk_newAt (w : World) (o : Obj) (n : Nat) (h : n = w.heap.size) : (w.alloc o).heap[n]? = some o := by rw [h]; exact blk_new w o
def kfld (x : S40) : Nat → ByteArray
 | 0 => x.f0
 | 1 => x.f1
 | 2 => x.f2
 | 3 => x.f3
 | _ => x.f4
def cmpL : List (ByteArray × ByteArray) → Int
 | [] => 0
 | p :: r => if cmpB p.1 p.2 = 0 then cmpL r else cmpB p.1 p.2
def flds (x y : S40) : List (ByteArray × ByteArray) := [(x.f0, y.f0), (x.f1, y.f1), (x.f2, y.f2), (x.f3, y.f3), (x.f4, y.f4)]
def cmpK (x y : S40) : Int := cmpL (flds x y)
theorem flds_drop (x y : S40) {k : Nat} (h : k < 5) : (flds x y).drop k = (kfld x k, kfld y k) :: (flds x y).drop (k + 1) := by
 rcases (by omega : k = 0 ∨ k = 1 ∨ k = 2 ∨ k = 3 ∨ k = 4) with rfl | rfl | rfl | rfl | rfl <;> rfl
theorem arr_cell {w : World} {b : Nat} {x : S40} (h : w.heap[b]? = some (.cells #[.string x.f0, .string x.f1, .string x.f2, .string x.f3, .string x.f4] 166 (0, 0))) {k : Nat} (hk : k < 5) : w.cell? ⟨b, k, none⟩ = some (.string (kfld x k)) := by
 refine (blk_cell h k).trans ?_
 rcases (by omega : k = 0 ∨ k = 1 ∨ k = 2 ∨ k = 3 ∨ k = 4) with rfl | rfl | rfl | rfl | rfl <;> rfl
set_option maxHeartbeats 8000000 in
set_option maxRecDepth 100000 in
theorem cmp_calls (x y : S40) (w : World) : Calls Tryd.prog 62 #[.agg #[.string x.f0, .string x.f1, .string x.f2, .string x.f3, .string x.f4], .agg #[.string y.f0, .string y.f1, .string y.f2, .string y.f3, .string y.f4]] w fun e w' => e = .returned (.int .i64 (cmpK x y)) ∧ Grw w w' := by
 go_enter Tryd.func62, Tryd.ntmps62
 go_upto_region 1 with (fail)
 refine with_world (P := fun x => Code.wp _ _ _ _ x) _ ?_
 intro w1 hw1
 obtain ⟨g, hg⟩ : ∃ g, w.heap.size = g := ⟨_, rfl⟩
 have BX := Aside0.mk (show w1.heap[g]? = some (.cells #[.string x.f0, .string x.f1, .string x.f2, .string x.f3, .string x.f4] 40 (0, 0)) from by rw [hw1, ← hg]; exact blk_alloc (blk_new w _) _)
 have BY := Aside0.mk (show w1.heap[g + 1]? = some (.cells #[.string y.f0, .string y.f1, .string y.f2, .string y.f3, .string y.f4] 40 (0, 0)) from by
  rw [hw1, ← hg]
  have := blk_new (w.alloc (.cells #[.string x.f0, .string x.f1, .string x.f2, .string x.f3, .string x.f4] 40)) (.cells #[.string y.f0, .string y.f1, .string y.f2, .string y.f3, .string y.f4] 40)
  rwa [show (w.alloc (.cells #[.string x.f0, .string x.f1, .string x.f2, .string x.f3, .string x.f4] 40)).heap.size = w.heap.size + 1 by simp] at this)
 have HG := Aside0.mk (show Grw w w1 from by rw [hw1]; exact ((Grw.refl w).alloc _).alloc _)
 rw [hg]
 clear hw1 hg
 have x0 : w1.cell? ⟨g, 0, none⟩ = some (.string x.f0) := (blk_cell BX.out 0).trans rfl
 have x1 : w1.cell? ⟨g, 1, none⟩ = some (.string x.f1) := (blk_cell BX.out 1).trans rfl
 have x2 : w1.cell? ⟨g, 2, none⟩ = some (.string x.f2) := (blk_cell BX.out 2).trans rfl
 have x3 : w1.cell? ⟨g, 3, none⟩ = some (.string x.f3) := (blk_cell BX.out 3).trans rfl
 have x4 : w1.cell? ⟨g, 4, none⟩ = some (.string x.f4) := (blk_cell BX.out 4).trans rfl
 have y0 : w1.cell? ⟨g + 1, 0, none⟩ = some (.string y.f0) := (blk_cell BY.out 0).trans rfl
 have y1 : w1.cell? ⟨g + 1, 1, none⟩ = some (.string y.f1) := (blk_cell BY.out 1).trans rfl
 have y2 : w1.cell? ⟨g + 1, 2, none⟩ = some (.string y.f2) := (blk_cell BY.out 2).trans rfl
 have y3 : w1.cell? ⟨g + 1, 3, none⟩ = some (.string y.f3) := (blk_cell BY.out 3).trans rfl
 have y4 : w1.cell? ⟨g + 1, 4, none⟩ = some (.string y.f4) := (blk_cell BY.out 4).trans rfl
 go_cut [5, 6, 9, 10, 11, 12] (fun v5 v6 _ _ _ _ wc => ∃ b c, v5 = .pointer (some ⟨b, 0, none⟩) ∧ v6 = .pointer (some ⟨c, 0, none⟩) ∧ Aside0 (wc.heap[b]? = some (.cells #[.string x.f0, .string x.f1, .string x.f2, .string x.f3, .string x.f4] 166 (0, 0))) ∧ Aside0 (wc.heap[c]? = some (.cells #[.string y.f0, .string y.f1, .string y.f2, .string y.f3, .string y.f4] 166 (0, 0))) ∧ Aside0 (Grw w wc))
 case first =>
  go_region_held3 (fun w' => w'.cell? ⟨g, 0, none⟩ = some (.string x.f0) ∧ w'.cell? ⟨g, 1, none⟩ = some (.string x.f1) ∧ w'.cell? ⟨g, 2, none⟩ = some (.string x.f2) ∧ w'.cell? ⟨g, 3, none⟩ = some (.string x.f3) ∧ w'.cell? ⟨g, 4, none⟩ = some (.string x.f4) ∧ w'.cell? ⟨g + 1, 0, none⟩ = some (.string y.f0) ∧ w'.cell? ⟨g + 1, 1, none⟩ = some (.string y.f1) ∧ w'.cell? ⟨g + 1, 2, none⟩ = some (.string y.f2) ∧ w'.cell? ⟨g + 1, 3, none⟩ = some (.string y.f3) ∧ w'.cell? ⟨g + 1, 4, none⟩ = some (.string y.f4)) (exact ⟨by (repeat (with_reducible first | apply keep_drew | apply keep_alloc)); with_reducible exact x0, by (repeat (with_reducible first | apply keep_drew | apply keep_alloc)); with_reducible exact x1, by (repeat (with_reducible first | apply keep_drew | apply keep_alloc)); with_reducible exact x2, by (repeat (with_reducible first | apply keep_drew | apply keep_alloc)); with_reducible exact x3, by (repeat (with_reducible first | apply keep_drew | apply keep_alloc)); with_reducible exact x4, by (repeat (with_reducible first | apply keep_drew | apply keep_alloc)); with_reducible exact y0, by (repeat (with_reducible first | apply keep_drew | apply keep_alloc)); with_reducible exact y1, by (repeat (with_reducible first | apply keep_drew | apply keep_alloc)); with_reducible exact y2, by (repeat (with_reducible first | apply keep_drew | apply keep_alloc)); with_reducible exact y3, by (repeat (with_reducible first | apply keep_drew | apply keep_alloc)); with_reducible exact y4⟩) (first | (go_at_call 99; (with_reducible refine (parts_calls x _).mono ?_); rintro e w' ⟨rfl, rfl⟩) | (go_at_call 99; (with_reducible refine (parts_calls y _).mono ?_); rintro e w' ⟨rfl, rfl⟩))
  all_goals
   go_wp2
   go_meet
   case rel =>
    refine ⟨_, _, rfl, rfl, ⟨?_⟩, ⟨?_⟩, ⟨?_⟩⟩
    ·(repeat (first | with_reducible refine blk_drew ?_ | (refine blk_newAt _ _ _ ?_; simp; done) | with_reducible refine blk_alloc ?_ _))
    ·(repeat (first | with_reducible refine blk_drew ?_ | (refine blk_newAt _ _ _ ?_; simp; done) | with_reducible refine blk_alloc ?_ _))
    ·(repeat (first | exact HG.out | with_reducible apply Grw.drew | with_reducible apply Grw.alloc))
 case rest =>
  obtain ⟨b, c, rfl, rfl, HB, HC, HGW⟩ := hcut
  clear x0 x1 x2 x3 x4 y0 y1 y2 y3 y4 BX BY
  have HG2 := HGW
  clear HG HGW
  have HE0 := Aside0.mk (show cmpL ((flds x y).drop 0) = cmpK x y from rfl)
  go_wp2
  go_loopw [7, 8, 13, 14, 15, 16, 17, 18, 19, 20, 21, 22, 23, 24, 25, 26] (fun _ _ v13 _ _ _ _ _ _ _ _ _ _ _ _ _ wr => ∃ k : Nat, k ≤ 5 ∧ v13 = .int .i64 k ∧ Aside0 (cmpL ((flds x y).drop k) = cmpK x y) ∧ Aside0 (wr.heap[b]? = some (.cells #[.string x.f0, .string x.f1, .string x.f2, .string x.f3, .string x.f4] 166 (0, 0))) ∧ Aside0 (wr.heap[c]? = some (.cells #[.string y.f0, .string y.f1, .string y.f2, .string y.f3, .string y.f4] 166 (0, 0))) ∧ Aside0 (Grw w wr)) (fun _ _ v13 _ _ _ _ _ _ _ _ _ _ _ _ _ _ => 5 - (intOf v13).toNat)
  case atStart => exact ⟨0, by omega, rfl, HE0, HB, HC, HG2⟩
  case round =>
   clear HE0 HB HC HG2
   obtain ⟨k, hk, rfl, HE, HB, HC, HG⟩ := hrel
   by_cases hlt : k < 5
   ·have d1 : decide ((k : Int) < 5) = true := decide_eq_true (by omega)
    have d2 : decide (k < 5) = true := decide_eq_true hlt
    have p0 : (0 : Int) ≤ (k : Int) := by omega
    have p1 : (k : Int) < 5 := by omega
    have hd := HE.out
    rw [flds_drop x y hlt] at hd
    have hd : (if cmpB (kfld x k) (kfld y k) = 0 then cmpL ((flds x y).drop (k + 1)) else cmpB (kfld x k) (kfld y k)) = cmpK x y := hd
    have qb : wr.cell? ⟨b, k, none⟩ = some (.string (kfld x k)) := arr_cell HB.out hlt
    have qc : wr.cell? ⟨c, k, none⟩ = some (.string (kfld y k)) := arr_cell HC.out hlt
    obtain ⟨u, hu⟩ : ∃ u, kfld x k = u := ⟨_, rfl⟩
    obtain ⟨v, hv⟩ : ∃ v, kfld y k = v := ⟨_, rfl⟩
    rw [hu] at hd qb
    rw [hv] at hd qc
    clear hu hv
    obtain ⟨z, hz⟩ : ∃ z, cmpB u v = z := ⟨_, rfl⟩
    rw [hz] at hd
    have HZ := Aside0.mk hz
    clear hz
    go_wp2
    go_quiet ((go_at_call 110; (refine (compare_calls u v _).mono ?_); rw [HZ.out]; rintro e_ w_ ⟨rfl, rfl⟩; exact ⟨rfl, _, rfl⟩))
    by_cases hz0 : z = 0
    ·have dz : (z != (0 : Int)) = false := bne_eq_false_iff_eq.mpr hz0
     rw [if_pos hz0] at hd
     have HD := Aside0.mk hd
     clear hd hz0
     go_wp2
     go_roundw
     case rel => exact ⟨k + 1, by omega, by go_num, HD, HB, HC, ⟨HG.out.drewN _⟩⟩
     case measure => simp [intOf]; omega
    ·have dz : (z != (0 : Int)) = true := bne_iff_ne.mpr hz0
     rw [if_neg hz0] at hd
     subst hd
     clear hz0
     go_wp2
     go_ret
     exact ⟨rfl, HG.out.drewN _⟩
   ·obtain rfl : k = 5 := by omega
    have hd : (0 : Int) = cmpK x y := HE.out
    have HD := Aside0.mk hd
    clear hd
    go_wp2
    go_ret
    exact ⟨congrArg (fun z => Ending.returned (Value.int .i64 z)) HD.out, HG.out⟩
set_option maxHeartbeats 2000000 in
set_option maxRecDepth 100000 in
theorem key_calls (x : S112) (w : World) : Calls Tryd.prog 61 #[.agg #[.string x.f0.f0, .string x.f0.f1, .string x.f0.f2, .string x.f0.f3, .string x.f0.f4, .int .i64 x.f1, .int .i64 x.f2]] w fun e w' => e = .returned (.agg #[.string x.f0.f0, .string x.f0.f1, .string x.f0.f2, .string x.f0.f3, .string x.f0.f4]) ∧ Grw w w' := by
 go_enter Tryd.func61, Tryd.ntmps61
 go_wp2
 refine bodyPost_ret (v := .agg #[.string x.f0.f0, .string x.f0.f1, .string x.f0.f2, .string x.f0.f3, .string x.f0.f4]) (by simp [results, Tryd.results61, go_sem]) rfl ?_
 exact ⟨rfl, ((Grw.refl w).alloc _).alloc _⟩
theorem cell_all {W : World} {a : Addr} {v : Value} (h : W.cell? a = some v) (n : Nat) (os : Array Obj) : (grow (W.drewN n) os).cell? a = some v := keep_grow h
set_option maxHeartbeats 4000000 in
set_option maxRecDepth 100000 in
theorem comp_calls (x y : S112) (pc pk : Nat) (w : World) (hc : w.cell? ⟨pc, 0, none⟩ = some (.func (.func 62) #[] #[])) (hk : w.cell? ⟨pk, 0, none⟩ = some (.func (.func 61) #[] #[])) :
  Calls Tryd.prog 109 (#[.agg (e34 x).toArray, .agg (e34 y).toArray] ++ #[.pointer (some ⟨pc, 0, none⟩), .pointer (some ⟨pk, 0, none⟩)]) w fun e w' => e = .returned (.int .i64 (cmpK x.f0 y.f0)) ∧ Grw w w' := by
 unfold e34
 have HC := Aside0.mk hc
 have HK := Aside0.mk hk
 clear hc hk
 go_enter Tryd.func109, Tryd.ntmps109
 go_upto_region 1 with (fail)
 refine with_world (P := fun x => Code.wp _ _ _ _ x) _ ?_
 intro w1 hw1
 obtain ⟨g, hg⟩ : ∃ g, w.heap.size = g := ⟨_, rfl⟩
 have BX := (show w1.heap[g]? = some (.cells #[.string x.f0.f0, .string x.f0.f1, .string x.f0.f2, .string x.f0.f3, .string x.f0.f4, .int .i64 x.f1, .int .i64 x.f2] 112 (0, 0)) from by rw [hw1, ← hg]; exact blk_alloc (blk_new w _) _)
 have BY := (show w1.heap[g + 1]? = some (.cells #[.string y.f0.f0, .string y.f0.f1, .string y.f0.f2, .string y.f0.f3, .string y.f0.f4, .int .i64 y.f1, .int .i64 y.f2] 112 (0, 0)) from by
  rw [hw1, ← hg]
  exact blk_newAt _ _ _ (by simp))
 have HG := Aside0.mk (show Grw w w1 from by rw [hw1]; exact ((Grw.refl w).alloc _).alloc _)
 have HC1 := (show w1.cell? ⟨pc, 0, none⟩ = some (.func (.func 62) #[] #[]) from by rw [hw1]; exact keep_alloc (keep_alloc HC.out))
 have HK1 := (show w1.cell? ⟨pk, 0, none⟩ = some (.func (.func 61) #[] #[]) from by rw [hw1]; exact keep_alloc (keep_alloc HK.out))
 rw [hg]
 clear hw1 hg
 have hc := cell_all HC1
 have hk := cell_all HK1
 have x0 := cell_all (v := .string x.f0.f0) ((blk_cell BX 0).trans rfl)
 have x1 := cell_all (v := .string x.f0.f1) ((blk_cell BX 1).trans rfl)
 have x2 := cell_all (v := .string x.f0.f2) ((blk_cell BX 2).trans rfl)
 have x3 := cell_all (v := .string x.f0.f3) ((blk_cell BX 3).trans rfl)
 have x4 := cell_all (v := .string x.f0.f4) ((blk_cell BX 4).trans rfl)
 have x5 := cell_all (v := .int .i64 x.f1) ((blk_cell BX 5).trans rfl)
 have x6 := cell_all (v := .int .i64 x.f2) ((blk_cell BX 6).trans rfl)
 have y0 := cell_all (v := .string y.f0.f0) ((blk_cell BY 0).trans rfl)
 have y1 := cell_all (v := .string y.f0.f1) ((blk_cell BY 1).trans rfl)
 have y2 := cell_all (v := .string y.f0.f2) ((blk_cell BY 2).trans rfl)
 have y3 := cell_all (v := .string y.f0.f3) ((blk_cell BY 3).trans rfl)
 have y4 := cell_all (v := .string y.f0.f4) ((blk_cell BY 4).trans rfl)
 have y5 := cell_all (v := .int .i64 y.f1) ((blk_cell BY 5).trans rfl)
 have y6 := cell_all (v := .int .i64 y.f2) ((blk_cell BY 6).trans rfl)
 clear HC1 HK1 BX BY HC HK
 have mixed : Tryd.prog.follows .mixedOrders = true := by kernel_rfl
 go_wp2_with fail
 go_quiet_grown (first | (go_at_call 61; (with_reducible refine Calls.grown_of (key_calls x _))) | (go_at_call 61; (with_reducible refine Calls.grown_of (key_calls y _))) | (go_at_call 62; refine Calls.grown_of (cmp_calls x.f0 y.f0 _)))
 go_wp2
 go_ret
 exact ⟨rfl, HG.out.trans ⟨_, _, rfl⟩⟩
structure Cmp3 {α : Type} (c : α → α → Int) : Prop where
 sw : ∀ x y, c y x = - c x y
 tr : ∀ x y z, c x y ≤ 0 → c y z ≤ 0 → c x z ≤ 0
section
variable {α β : Type} {c : α → α → Int}
theorem Cmp3.refl (h : Cmp3 c) (x : α) : c x x = 0 := by have := h.sw x x; omega
theorem Cmp3.lt_le (h : Cmp3 c) {x y z : α} (h1 : c x y < 0) (h2 : c y z ≤ 0) : c x z < 0 := by
 have h3 := h.tr x y z (by omega) h2
 rcases Int.lt_or_eq_of_le h3 with h4 | h4
 ·exact h4
 ·exfalso
  have h5 := h.sw x z
  have h6 := h.tr y z x h2 (by omega)
  have := h.sw x y
  omega
theorem Cmp3.le_lt (h : Cmp3 c) {x y z : α} (h1 : c x y ≤ 0) (h2 : c y z < 0) : c x z < 0 := by
 have h3 := h.tr x y z h1 (by omega)
 rcases Int.lt_or_eq_of_le h3 with h4 | h4
 ·exact h4
 ·exfalso
  have h5 := h.sw x z
  have h6 := h.tr z x y (by omega) h1
  have := h.sw y z
  omega
theorem Cmp3.on (h : Cmp3 c) (f : β → α) : Cmp3 (fun x y => c (f x) (f y)) := ⟨fun x y => h.sw _ _, fun x y z => h.tr _ _ _⟩
theorem Cmp3.lex {d : α → α → Int} (h : Cmp3 c) (k : Cmp3 d) : Cmp3 (fun x y => if c x y = 0 then d x y else c x y) := by
 refine ⟨fun x y => ?_, fun x y z h1 h2 => ?_⟩
 ·have := h.sw x y
  by_cases e : c x y = 0
  ·simp only [if_pos e, if_pos (show c y x = 0 by omega)]
   exact k.sw x y
  ·simp only [if_neg e, if_neg (show ¬ c y x = 0 by omega)]
   exact this
 ·by_cases e1 : c x y = 0
  ·rw [if_pos e1] at h1
   by_cases e2 : c y z = 0
   ·rw [if_pos e2] at h2
    have a1 := h.tr x y z (by omega) (by omega)
    have a2 := h.tr z y x (by have := h.sw y z; omega) (by have := h.sw x y; omega)
    have a3 := h.sw x z
    rw [if_pos (by omega)]
    exact k.tr x y z h1 h2
   ·rw [if_neg e2] at h2
    have := h.le_lt (x := x) (y := y) (z := z) (by omega) (by omega)
    rw [if_neg (by omega)]
    omega
  ·rw [if_neg e1] at h1
   have h3 : c y z ≤ 0 := by
    by_cases e2 : c y z = 0
    ·omega
    ·rw [if_neg e2] at h2; exact h2
   have := h.lt_le (x := x) (y := y) (z := z) (by omega) h3
   rw [if_neg (by omega)]
   omega
theorem Cmp3.swo (h : Cmp3 c) : SWO (Go.Proofs.ltOf c) := by
 refine ⟨fun x => ?_, fun x y z h1 h2 => ?_, fun x y z h1 h2 => ?_⟩
 ·exact decide_eq_false (by rw [h.refl]; omega)
 ·have h1 : c x y < 0 := of_decide_eq_true h1
  have h2 : c y z < 0 := of_decide_eq_true h2
  exact decide_eq_true (h.lt_le h1 (by omega))
 ·have h1 : ¬ c x y < 0 := of_decide_eq_false h1
  have h2 : ¬ c y z < 0 := of_decide_eq_false h2
  refine decide_eq_false ?_
  have a1 := h.sw x y
  have a2 := h.sw y z
  have a3 := h.sw x z
  have := h.tr z y x (by omega) (by omega)
  omega
end
theorem bytes_sw : ∀ (a b : List UInt8), Lib.compareBytes b a = - Lib.compareBytes a b
 | [], [] => rfl
 | [], _ :: _ => rfl
 | _ :: _, [] => rfl
 | x :: a, y :: b => by
  have ih := bytes_sw a b
  unfold Lib.compareBytes
  by_cases h1 : x < y
  ·have h2 : ¬ y < x := UInt8.lt_asymm h1
   simp only [h1, h2, if_true, if_false]
   decide
  ·by_cases h2 : y < x
   ·simp only [h1, h2, if_true, if_false]
   ·simp only [h1, h2, if_false]
    exact ih
theorem bytes_zero : ∀ (a b : List UInt8), Lib.compareBytes a b = 0 → a = b
 | [], [], _ => rfl
 | [], _ :: _, h => by cases h
 | _ :: _, [], h => by cases h
 | x :: a, y :: b, h => by
  unfold Lib.compareBytes at h
  by_cases h1 : x < y
  ·rw [if_pos h1] at h; cases h
  rw [if_neg h1] at h
  by_cases h2 : y < x
  ·rw [if_pos h2] at h; cases h
  rw [if_neg h2] at h
  rw [bytes_zero a b h, UInt8.le_antisymm (UInt8.not_lt.1 h2) (UInt8.not_lt.1 h1)]
theorem bytes_tr : ∀ (a b c : List UInt8), Lib.compareBytes a b ≤ 0 → Lib.compareBytes b c ≤ 0 → Lib.compareBytes a c ≤ 0
 | [], _, [], _, _ => by decide
 | [], _, _ :: _, _, _ => (by decide : (-1 : Int) ≤ 0)
 | _ :: _, [], _, h, _ => absurd h (by show ¬ (1 : Int) ≤ 0; decide)
 | _ :: _, _ :: _, [], _, h => absurd h (by show ¬ (1 : Int) ≤ 0; decide)
 | x :: a, y :: b, z :: c, h, k => by
  have ih := bytes_tr a b c
  unfold Lib.compareBytes at h k ⊢
  by_cases h1 : x < y
  ·by_cases k1 : y < z
   ·rw [if_pos (UInt8.lt_trans h1 k1)]; decide
   ·rw [if_neg k1] at k
    by_cases k2 : z < y
    ·rw [if_pos k2] at k; exact absurd k (by decide)
    ·have : y = z := UInt8.le_antisymm (UInt8.not_lt.1 k2) (UInt8.not_lt.1 k1)
     subst this
     rw [if_pos h1]; decide
  ·rw [if_neg h1] at h
   by_cases h2 : y < x
   ·rw [if_pos h2] at h; exact absurd h (by decide)
   ·rw [if_neg h2] at h
    have : x = y := UInt8.le_antisymm (UInt8.not_lt.1 h2) (UInt8.not_lt.1 h1)
    subst this
    by_cases k1 : x < z
    ·rw [if_pos k1]; decide
    ·rw [if_neg k1] at k ⊢
     by_cases k2 : z < x
     ·rw [if_pos k2] at k; exact absurd k (by decide)
     ·rw [if_neg k2] at k ⊢
      exact ih h k
theorem cmp3_B : Cmp3 cmpB := ⟨fun x y => bytes_sw _ _, fun x y z => bytes_tr _ _ _⟩
theorem cmpB_zero {a b : ByteArray} (h : cmpB a b = 0) : a = b := ByteArray.ext (Array.ext' (bytes_zero _ _ h))
theorem cmpK_eq (x y : S40) : cmpK x y = (if cmpB x.f0 y.f0 = 0 then if cmpB x.f1 y.f1 = 0 then if cmpB x.f2 y.f2 = 0 then if cmpB x.f3 y.f3 = 0 then cmpB x.f4 y.f4 else cmpB x.f3 y.f3 else cmpB x.f2 y.f2 else cmpB x.f1 y.f1 else cmpB x.f0 y.f0) := by
 unfold cmpK flds
 simp only [cmpL]
 by_cases h : cmpB x.f4 y.f4 = 0
 ·simp [h]
 ·simp [h]
theorem cmp3_K : Cmp3 cmpK := by
 have h := (cmp3_B.on S40.f0).lex ((cmp3_B.on S40.f1).lex ((cmp3_B.on S40.f2).lex ((cmp3_B.on S40.f3).lex (cmp3_B.on S40.f4))))
 have e : cmpK = _ := funext fun x => funext fun y => cmpK_eq x y
 rw [e]
 exact h
theorem cmpK_zero {x y : S40} (h : cmpK x y = 0) : x = y := by
 rw [cmpK_eq] at h
 by_cases h0 : cmpB x.f0 y.f0 = 0
 ·rw [if_pos h0] at h
  by_cases h1 : cmpB x.f1 y.f1 = 0
  ·rw [if_pos h1] at h
   by_cases h2 : cmpB x.f2 y.f2 = 0
   ·rw [if_pos h2] at h
    by_cases h3 : cmpB x.f3 y.f3 = 0
    ·rw [if_pos h3] at h
     obtain ⟨a, b, c, d, e⟩ := x
     obtain ⟨a', b', c', d', e'⟩ := y
     rw [S40.mk.injEq]
     exact ⟨cmpB_zero h0, cmpB_zero h1, cmpB_zero h2, cmpB_zero h3, cmpB_zero h⟩
    ·rw [if_neg h3] at h; exact absurd h h3
   ·rw [if_neg h2] at h; exact absurd h h2
  ·rw [if_neg h1] at h; exact absurd h h1
 ·rw [if_neg h0] at h; exact absurd h h0
def cmpC (x y : S112) : Int := cmpK x.f0 y.f0
theorem cmp3_C : Cmp3 cmpC := cmp3_K.on S112.f0
theorem swo_C : SWO (Go.Proofs.ltOf cmpC) := cmp3_C.swo
section
variable {w0 W : World} {blk off : Nat} {dk : Array S112}
theorem swk_cell (h : SWK e34 7 w0 blk off dk W) {a : Addr} {v : Value} (ha : a.block ≠ blk) (hv : w0.cell? a = some v) : W.cell? a = some v := by
 obtain ⟨n, os, rfl⟩ := h
 have hlt := World.block_lt_of_cell? w0 a hv
 unfold sortWorldK
 rw [cell?_grow _ _ _ (by rw [size_putRowK]; exact hlt), cell?_putRowK_other _ _ _ _ _ _ _ ha]
 exact hv
end
end Go.Proofs.YtppcjoaghlecmaaDoor.P
namespace Go.Proofs.YtppcjoaghlecmaaDoor.P
open Go.RowKit Go.Proofs.YtppcjoaghlecmaaDoorW.PrintWords Go.Proofs.YtppcjoaghlecmaaDoorW.PrintLast Go.Proofs.YtppcjoaghlecmaaDoorW.PrintMore
set_option linter.unusedVariables false
set_option linter.unusedSimpArgs false
def i64ok (x : Int) : Prop := -9223372036854775808 ≤ x ∧ x ≤ 9223372036854775807
instance (x : Int) : Decidable (i64ok x) := by unfold i64ok; exact inferInstance
def num_Sum.f (l : List Int) : Option (Int × Bool) := if l.length ≤ 1000000 then (if (∀ x ∈ l, i64ok x) then (if i64ok l.sum then some (l.sum, true) else some (0, false)) else none) else none
theorem add64 (x y c : Int) (hx : 0 ≤ x ∧ x < 18446744073709551616) (hy : 0 ≤ y ∧ y < 18446744073709551616) (hc : 0 ≤ c ∧ c ≤ 1) (w : World) :
  (callFunc 147 #[.int .u64 x, .int .u64 y, .int .u64 c]).run Tryd.prog w =
   .ok (.value (.tuple #[.int .u64 ((x + y + c) % 18446744073709551616), .int .u64 ((x + y + c) / 18446744073709551616)])) w := by
 obtain ⟨x, rfl⟩ := Int.eq_ofNat_of_zero_le hx.1
 obtain ⟨y, rfl⟩ := Int.eq_ofNat_of_zero_le hy.1
 obtain ⟨c, rfl⟩ := Int.eq_ofNat_of_zero_le hc.1
 rw [run_callFunc_extern Tryd.func147 (by kernel_rfl) (by kernel_rfl) (by kernel_rfl) (e := add64Entry) (by kernel_rfl), run_add64 x y c (by omega) (by omega) (by omega) (by omega)]
 simp only [Result.andThen]
def SumAt (S hi lo : Int) : Prop := 0 ≤ hi ∧ hi < 18446744073709551616 ∧ 0 ≤ lo ∧ lo < 18446744073709551616 ∧ (S - (hi * 18446744073709551616 + lo)) % 340282366920938463463374607431768211456 = 0
theorem wrap_u64 (x : Int) : 0 ≤ IntKind.u64.wrap x ∧ IntKind.u64.wrap x < 18446744073709551616 := by
 have : IntKind.u64.wrap x = x % 18446744073709551616 := rfl
 omega
theorem sumAt_step {S hi lo x : Int} (hx : i64ok x) (h : SumAt S hi lo) : SumAt (S + [x].sum) ((hi + IntKind.u64.wrap (x / 9223372036854775808) + (lo + IntKind.u64.wrap x) / 18446744073709551616) % 18446744073709551616) ((lo + IntKind.u64.wrap x) % 18446744073709551616) := by
 obtain ⟨h1, h2, h3, h4, h5⟩ := h
 obtain ⟨x1, x2⟩ := hx
 have e1 : IntKind.u64.wrap x = x % 18446744073709551616 := rfl
 have e2 : IntKind.u64.wrap (x / 9223372036854775808) = (x / 9223372036854775808) % 18446744073709551616 := rfl
 rw [e1, e2, show [x].sum = x by simp]
 unfold SumAt
 rcases Int.lt_or_le x 0 with hn | hp
 ·have : x / 9223372036854775808 = -1 := by omega
  rw [this]
  refine ⟨by omega, by omega, by omega, by omega, by omega⟩
 ·have : x / 9223372036854775808 = 0 := by omega
  rw [this]
  refine ⟨by omega, by omega, by omega, by omega, by omega⟩
theorem sum_bound : ∀ (l : List Int), (∀ x ∈ l, i64ok x) → -9223372036854775808 * (l.length : Int) ≤ l.sum ∧ l.sum ≤ 9223372036854775808 * (l.length : Int)
 | [], _ => by simp
 | x :: r, h => by
  have h1 := sum_bound r (fun y hy => h y (by simp [hy]))
  have h2 := h x (by simp)
  unfold i64ok at h2
  simp only [List.sum_cons, List.length_cons]
  omega
theorem sumAt_end {S hi lo : Int} (h : SumAt S hi lo) (b1 : -170141183460469231731687303715884105728 ≤ S) (b2 : S < 170141183460469231731687303715884105728) :
  (i64ok S → wrap64 lo = S) ∧ (i64ok S → (IntKind.u64.wrap (wrap64 lo / 9223372036854775808) != hi) = false) ∧ (¬ i64ok S → (IntKind.u64.wrap (wrap64 lo / 9223372036854775808) != hi) = true) := by
 obtain ⟨h1, h2, h3, h4, h5⟩ := h
 have e1 : IntKind.u64.wrap (wrap64 lo / 9223372036854775808) = (wrap64 lo / 9223372036854775808) % 18446744073709551616 := rfl
 have w1 : wrap64 lo = (if lo < 9223372036854775808 then lo else lo - 18446744073709551616) := by
  unfold wrap64; split <;> omega
 have w2 : (wrap64 lo / 9223372036854775808) % 18446744073709551616 = (if lo < 9223372036854775808 then 0 else 18446744073709551615) := by
  rw [w1]; split <;> omega
 rw [e1, w2, w1]
 unfold i64ok
 refine ⟨fun hS => ?_, fun hS => ?_, fun hS => ?_⟩
 ·split <;> omega
 ·rw [bne_eq_false_iff_eq]; split <;> omega
 ·rw [bne_iff_ne]; split <;> omega
set_option maxHeartbeats 8000000 in
set_option maxRecDepth 100000 in
theorem num_Sum.calls (A0 : Option Addr) (c0 : Nat) (l0 : List Int) (r1 : Int) (r2 : Bool) (w : World) (hr0 : Kd.C (Kd.int .i64) w A0 l0.length l0) (hc0 : l0.length ≤ c0) (h : num_Sum.f l0 = some (r1, r2)) :
  Calls Tryd.prog 107 #[.slice A0 l0.length c0] w fun e w' => e = .returned (.tuple #[.int .i64 r1, .bool r2]) ∧ Drawn0 w w' := by
 have HR0 := Aside0.mk hr0
 unfold num_Sum.f at h
 by_cases hl : l0.length ≤ 1000000
 case neg => rw [if_neg hl] at h; simp at h
 rw [if_pos hl] at h
 by_cases hw : ∀ x ∈ l0, i64ok x
 case neg => rw [if_neg hw] at h; simp at h
 rw [if_pos hw] at h
 have H := Aside0.mk h
 have HW := Aside0.mk hw
 clear h hr0 hw
 go_enter Tryd.func107, Tryd.ntmps107
 go_wp2
 go_loopw [4, 5, 7, 8, 11, 12, 13, 14, 15, 16, 17, 18, 19, 20, 21, 22, 23, 24, 25, 26, 27, 28, 29, 30, 31] (fun v4 v5 v7 v8 v11 _ _ _ _ _ _ _ _ _ _ _ _ _ _ _ _ _ _ _ _ w' => ∃ (k : Nat) (hi lo : Int), k ≤ l0.length ∧ v11 = .int .i64 k ∧ v4 = .int .u64 hi ∧ v5 = .int .u64 lo ∧ Aside0 (SumAt (l0.take k).sum hi lo) ∧ Drawn0 w w') (fun v4 v5 v7 v8 v11 _ _ _ _ _ _ _ _ _ _ _ _ _ _ _ _ _ _ _ _ _ => l0.length - (intOf v11).toNat)
 case atStart => exact ⟨0, 0, 0, Nat.zero_le _, rfl, rfl, rfl, ⟨by simp [SumAt]⟩, Drawn0.refl _⟩
 case round =>
  obtain ⟨k, hi, lo, hk, rfl, rfl, rfl, HS, ⟨n, rfl⟩⟩ := hrel
  by_cases hlt : k < l0.length
  ·obtain ⟨ad, e, c1⟩ := Kd.at_int HR0.out (k : Int) (by omega) (by omega)
   rw [Int.toNat_natCast] at c1
   subst e
   have d1 : decide ((k : Int) < (l0.length : Int)) = true := decide_eq_true (by omega)
   have d2 : decide (k < l0.length) = true := decide_eq_true hlt
   obtain ⟨x, hx⟩ : ∃ x, rd l0 (k : Int) = x := ⟨_, rfl⟩
   rw [hx] at c1
   have p0 : (0 : Int) ≤ (k : Int) := by omega
   have p1 : (k : Int) < (l0.length : Int) := by omega
   obtain ⟨h1, h2, h3, h4, h5⟩ := HS.out
   have a1 := add64 lo (IntKind.u64.wrap x) 0 ⟨h3, h4⟩ (wrap_u64 x) ⟨by omega, by omega⟩ (w.drewN n)
   have u1 := wrap_u64 x
   have a2 := add64 hi (IntKind.u64.wrap (x / 9223372036854775808)) ((lo + IntKind.u64.wrap x) / 18446744073709551616) ⟨h1, h2⟩ (wrap_u64 _) ⟨by omega, by omega⟩ (w.drewN n)
   rw [Int.add_zero] at a1
   go_wp2
   refine ⟨⟨k + 1, _, _, by omega, by go_num, rfl, rfl, ⟨?_⟩, by repeat (first | exact Drawn0.refl _ | apply Drawn0.step)⟩, by simp [intOf]; omega⟩
   have hxk : l0[k]? = some x := by
    have := List.getElem?_eq_getElem hlt
    rw [this, ← hx]; simp [rd, hlt]
   have ex := HW.out x (List.mem_of_getElem? hxk)
   rw [List.take_add_one, hxk, List.sum_append]
   exact sumAt_step ex ⟨h1, h2, h3, h4, h5⟩
  ·obtain rfl : k = l0.length := by omega
   have d1 : decide ((l0.length : Int) < (l0.length : Int)) = false := decide_eq_false (by omega)
   have hb := sum_bound l0 HW.out
   have HS' := HS.out
   rw [List.take_length] at HS'
   obtain ⟨e1, e2, e3⟩ := sumAt_end HS' (by omega) (by omega)
   have H := H.out
   by_cases hok : i64ok l0.sum
   ·rw [if_pos hok] at H
    obtain ⟨rfl, rfl⟩ := Prod.mk.inj (Option.some.inj H)
    have f1 := e1 hok
    have f2 := e2 hok
    rw [f1] at f2
    clear e1 e2 e3
    go_wp2
    go_ret2
    exact ⟨rfl, by repeat (first | exact Drawn0.refl _ | apply Drawn0.step)⟩
   ·rw [if_neg hok] at H
    obtain ⟨rfl, rfl⟩ := Prod.mk.inj (Option.some.inj H)
    have f2 := e3 hok
    clear e1 e2 e3
    go_wp2
    go_ret2
    exact ⟨rfl, by repeat (first | exact Drawn0.refl _ | apply Drawn0.step)⟩
def fitB (n : Int) : Bool := decide (-1000000000000000 ≤ n) && decide (n ≤ 1000000000000000)
set_option maxHeartbeats 1000000 in
theorem far_calls (n : Int) (w : World) : Calls Tryd.prog 65 #[.int .i64 n] w fun e w' => e = .returned (.bool (!fitB n)) ∧ w' = w := by
 by_cases h1 : 1000000000000000 < n
 ·have d1 : decide ((1000000000000000 : Int) < n) = true := decide_eq_true h1
  have hf := Aside0.mk (show fitB n = false from by unfold fitB; rw [decide_eq_false (show ¬ n ≤ 1000000000000000 by omega), Bool.and_false])
  clear h1
  go_enter Tryd.func65, Tryd.ntmps65
  go_wp2
  go_ret
  exact ⟨by rw [hf.out]; rfl, rfl⟩
 ·have d1 : decide ((1000000000000000 : Int) < n) = false := decide_eq_false h1
  by_cases h2 : n < -1000000000000000
  ·have d2 : decide (n < -1000000000000000) = true := decide_eq_true h2
   have hf := Aside0.mk (show fitB n = false from by unfold fitB; rw [decide_eq_false (show ¬ -1000000000000000 ≤ n by omega), Bool.false_and])
   clear h1 h2
   go_enter Tryd.func65, Tryd.ntmps65
   go_wp2
   go_ret
   exact ⟨by rw [hf.out]; rfl, rfl⟩
  ·have d2 : decide (n < -1000000000000000) = false := decide_eq_false h2
   have hf := Aside0.mk (show fitB n = true from by unfold fitB; rw [decide_eq_true (show -1000000000000000 ≤ n by omega), decide_eq_true (show n ≤ 1000000000000000 by omega)]; rfl)
   clear h1 h2
   go_enter Tryd.func65, Tryd.ntmps65
   go_wp2
   go_ret
   exact ⟨by rw [hf.out]; rfl, rfl⟩
def totF (l : List Int) : Int × Bool := if i64ok l.sum then (l.sum, fitB l.sum) else (0, false)
set_option maxHeartbeats 1000000 in
theorem total_calls (A : Option Addr) (c : Nat) (l : List Int) (w : World) (h : Kd.C (Kd.int .i64) w A l.length l) (hc : l.length ≤ c) (hl : l.length ≤ 1000000) (hi : ∀ x ∈ l, i64ok x) :
  Calls Tryd.prog 59 #[.slice A l.length c] w fun e w' => e = .returned (.tuple #[.int .i64 (totF l).1, .bool (totF l).2]) ∧ Drawn0 w w' := by
 by_cases h1 : i64ok l.sum
 ·have HT := Aside0.mk (show totF l = (l.sum, fitB l.sum) from if_pos h1)
  have HC := Aside0.mk (num_Sum.calls A c l l.sum true w h hc (by unfold num_Sum.f; rw [if_pos hl, if_pos hi, if_pos h1]))
  clear h hc hl hi h1
  rw [HT.out]
  obtain ⟨n, hn⟩ : ∃ n, l.sum = n := ⟨_, rfl⟩
  rw [hn] at HC ⊢
  clear HT hn
  go_enter Tryd.func59, Tryd.ntmps59
  go_wp2_with (first | (go_at_call 107; refine HC.out.mono ?_; rintro e_ w2 ⟨rfl, hd_⟩; have HD := Aside0.mk hd_; clear hd_) | (go_at_call 65; refine (far_calls n _).mono ?_; rintro e_ w3 ⟨rfl, he_⟩; obtain rfl := he_.symm))
  all_goals
   go_ret2
   exact ⟨by simp, HD.out⟩
 ·have HT := Aside0.mk (show totF l = (0, false) from if_neg h1)
  have HC := Aside0.mk (num_Sum.calls A c l 0 false w h hc (by unfold num_Sum.f; rw [if_pos hl, if_pos hi, if_neg h1]))
  clear h hc hl hi h1
  rw [HT.out]
  clear HT
  go_enter Tryd.func59, Tryd.ntmps59
  go_wp2_with (first | (go_at_call 107; refine HC.out.mono ?_; rintro e_ w2 ⟨rfl, hd_⟩; have HD := Aside0.mk hd_; clear hd_))
  go_ret2
  exact ⟨rfl, HD.out⟩
end Go.Proofs.YtppcjoaghlecmaaDoor.P
namespace Go.Proofs.YtppcjoaghlecmaaDoor.P
open Go.RowKit Go.Sort Go.Proofs.YtppcjoaghlecmaaDoorW.PrintWords Go.Proofs.YtppcjoaghlecmaaDoorW.PrintLast Go.Proofs.YtppcjoaghlecmaaDoorW.PrintMore
set_option linter.unusedVariables false
set_option linter.unusedSimpArgs false
def badC (x : S112) : Bool := (decide (x.f1 = 0) && decide (x.f2 = 0)) || !fitB x.f1 || !fitB x.f2
def badAt (l : List S112) (i : Nat) : Bool := badC (rd_T112 l (i : Int)) || (decide (0 < i) && decide (0 ≤ cmpK (rd_T112 l ((i - 1 : Nat) : Int)).f0 (rd_T112 l (i : Int)).f0))
def rightB (l : List S112) : Bool := (List.range l.length).all (fun i => !badAt l i)
theorem right_bad {l : List S112} {k : Nat} (hk : k < l.length) (h : badAt l k = true) : rightB l = false := by
 unfold rightB
 rw [List.all_eq_false]
 exact ⟨k, List.mem_range.2 hk, by simp [h]⟩
theorem right_good {l : List S112} (h : ∀ j, j < l.length → badAt l j = false) : rightB l = true := by
 unfold rightB
 rw [List.all_eq_true]
 intro j hj
 rw [h j (List.mem_range.1 hj)]
 rfl
theorem far_grw (n : Int) {r : Bool} (h : fitB n = r) (w : World) : Calls Tryd.prog 65 #[.int .i64 n] w fun e w' => e = .returned (.bool (!r)) ∧ w' = w := by
 refine (far_calls n w).mono ?_
 rintro e w' ⟨rfl, rfl⟩
 exact ⟨by rw [h], rfl⟩
set_option maxHeartbeats 4000000 in
set_option maxRecDepth 100000 in
theorem right_calls (A : Option Addr) (c : Nat) (l : List S112) (w : World) (h : Kd.C k112 w A l.length l) (hc : l.length ≤ c) :
  Calls Tryd.prog 34 #[.slice A l.length c] w fun e w' => e = .returned (.bool (rightB l)) ∧ Grw w w' := by
 have HC := Aside0.mk h
 obtain ⟨n, hn⟩ : ∃ n, l.length = n := ⟨_, rfl⟩
 have HMX := Aside0.mk (show n ≤ 9223372036854775807 from hn ▸ Kd.C_max h)
 have HN := Aside0.mk hn
 rw [hn] at hc HC ⊢
 clear h hn
 have HG0 := Aside0.mk (Grw.refl w)
 go_enter Tryd.func34, Tryd.ntmps34
 go_wp2
 go_loopw [3, 4, 7, 8, 9, 10, 11, 12, 13, 14, 15, 16, 17, 18, 19, 20, 21, 22, 23, 24, 25, 26, 27, 28, 29, 30, 31, 32, 33, 34, 35, 36, 37, 38, 39, 40, 41, 42, 43, 44, 45, 46] (fun _ _ v _ _ _ _ _ _ _ _ _ _ _ _ _ _ _ _ _ _ _ _ _ _ _ _ _ _ _ _ _ _ _ _ _ _ _ _ _ _ _ wr => ∃ k : Nat, k ≤ n ∧ v = .int .i64 k ∧ Aside0 (∀ j : Nat, j < k → badAt l j = false) ∧ Aside0 (Grw w wr)) (fun _ _ v _ _ _ _ _ _ _ _ _ _ _ _ _ _ _ _ _ _ _ _ _ _ _ _ _ _ _ _ _ _ _ _ _ _ _ _ _ _ _ _ => n - (intOf v).toNat)
 case atStart => exact ⟨0, Nat.zero_le _, rfl, ⟨fun j hj => absurd hj (Nat.not_lt_zero _)⟩, HG0⟩
 case round =>
  clear HG0
  obtain ⟨k, hk, rfl, HALL, HG⟩ := hrel
  by_cases hlt : k < n
  ·have d1 : decide ((k : Int) < (n : Int)) = true := decide_eq_true (by omega)
   have d2 : decide (k < n) = true := decide_eq_true hlt
   have K0 : (0 : Int) ≤ (k : Int) := by omega
   have K1 : (k : Int) < (n : Int) := by omega
   have hmx := HMX.out
   have HK := Aside0.mk (show k < l.length from by rw [HN.out]; exact hlt)
   obtain ⟨ad, e, x0, x1, x2, x3, x4, x5, x6⟩ := at_T112 (Kd.C_below HC.out HG.out.below) (k : Int) K0 K1
   rw [Int.toNat_natCast] at x0 x1 x2 x3 x4 x5 x6
   obtain ⟨x, hx⟩ : ∃ x, rd_T112 l (k : Int) = x := ⟨_, rfl⟩
   rw [hx] at x0 x1 x2 x3 x4 x5 x6
   subst e
   go_upto_region 4 with (fail)
   refine with_world (P := fun x => Code.wp _ _ _ _ x) _ ?_
   intro w2 hw2
   obtain ⟨b, hb⟩ : ∃ b, wr.heap.size = b := ⟨_, rfl⟩
   have BX := (show w2.heap[b]? = some (.cells #[.string x.f0.f0, .string x.f0.f1, .string x.f0.f2, .string x.f0.f3, .string x.f0.f4, .int .i64 x.f1, .int .i64 x.f2] 112 (0, 0)) from by rw [hw2, ← hb]; exact blk_new wr _)
   have HG2 := Aside0.mk (show Grw w w2 from by rw [hw2]; exact HG.out.alloc _)
   rw [hb]
   clear hw2 hb x0 x1 x2 x3 x4 x5 x6
   have x0 : w2.cell? ⟨b, 0, none⟩ = some (.string x.f0.f0) := (blk_cell BX 0).trans rfl
   have x1 : w2.cell? ⟨b, 1, none⟩ = some (.string x.f0.f1) := (blk_cell BX 1).trans rfl
   have x2 : w2.cell? ⟨b, 2, none⟩ = some (.string x.f0.f2) := (blk_cell BX 2).trans rfl
   have x3 : w2.cell? ⟨b, 3, none⟩ = some (.string x.f0.f3) := (blk_cell BX 3).trans rfl
   have x4 : w2.cell? ⟨b, 4, none⟩ = some (.string x.f0.f4) := (blk_cell BX 4).trans rfl
   have x5 : w2.cell? ⟨b, 5, none⟩ = some (.int .i64 x.f1) := (blk_cell BX 5).trans rfl
   have x6 : w2.cell? ⟨b, 6, none⟩ = some (.int .i64 x.f2) := (blk_cell BX 6).trans rfl
   clear BX HG
   have HC2 := Aside0.mk (Kd.C_below HC.out HG2.out.below)
   by_cases hA : x.f1 = 0
   ·have eA : (x.f1 == (0 : Int)) = true := by rw [hA]; rfl
    by_cases hB : x.f2 = 0
    ·have eB : (x.f2 == (0 : Int)) = true := by rw [hB]; rfl
     have HBAD := Aside0.mk (show badAt l k = true from by
      unfold badAt badC
      rw [hx]
      simp [hA, hB])
     clear hA hB
     go_region
     all_goals
      have HG5 := Aside0.mk (show Grw w w2.drew from HG2.out.drew)
      go_wp2
      go_ret
      exact ⟨by rw [right_bad HK.out HBAD.out]; rfl, HG5.out⟩
    ·have eB : (x.f2 == (0 : Int)) = false := beq_false_of_ne hB
     have HNZ := Aside0.mk (show ¬ (x.f1 = 0 ∧ x.f2 = 0) from fun h => hB h.2)
     clear hA hB
     have mixed : Tryd.prog.follows .mixedOrders = true := by kernel_rfl
     cases hf1 : fitB x.f1 with
     | false =>
      have HBAD := Aside0.mk (show badAt l k = true from by
       unfold badAt badC
       rw [hx]
       simp [hf1])
      have F1 : ∀ W, Calls Tryd.prog 65 #[.int .i64 x.f1] W fun e w' => e = .returned (.bool true) ∧ w' = W := fun W => far_grw x.f1 hf1 W
      clear hf1
      go_wp2
      go_quiet (first | (go_at_call 65; (with_reducible refine (F1 _).mono ?_); rintro e_ w_ ⟨rfl, rfl⟩; exact ⟨rfl, _, rfl⟩))
      have HG5 := Aside0.mk (show Grw w _ from HG2.out.drewN nq)
      all_goals
       go_wp2
       go_ret
       exact ⟨by rw [right_bad HK.out HBAD.out]; rfl, HG5.out⟩
     | true =>
      have F1 : ∀ W, Calls Tryd.prog 65 #[.int .i64 x.f1] W fun e w' => e = .returned (.bool false) ∧ w' = W := fun W => far_grw x.f1 hf1 W
      cases hf2 : fitB x.f2 with
      | false =>
       have HBAD := Aside0.mk (show badAt l k = true from by
        unfold badAt badC
        rw [hx]
        simp [hf2])
       have F2 : ∀ W, Calls Tryd.prog 65 #[.int .i64 x.f2] W fun e w' => e = .returned (.bool true) ∧ w' = W := fun W => far_grw x.f2 hf2 W
       clear hf1 hf2
       go_wp2
       go_quiet (first | (go_at_call 65; (with_reducible refine (F1 _).mono ?_); rintro e_ w_ ⟨rfl, rfl⟩; exact ⟨rfl, _, rfl⟩) | (go_at_call 65; (with_reducible refine (F2 _).mono ?_); rintro e_ w_ ⟨rfl, rfl⟩; exact ⟨rfl, _, rfl⟩))
       have HG5 := Aside0.mk (show Grw w _ from HG2.out.drewN nq)
       all_goals
        go_wp2
        go_ret
        exact ⟨by rw [right_bad HK.out HBAD.out]; rfl, HG5.out⟩
      | true =>
       have F2 : ∀ W, Calls Tryd.prog 65 #[.int .i64 x.f2] W fun e w' => e = .returned (.bool false) ∧ w' = W := fun W => far_grw x.f2 hf2 W
       by_cases h0 : k = 0
       ·have HBAD := Aside0.mk (show badAt l k = false from by
         unfold badAt badC
         rw [hx]
         have hnz := HNZ.out
         simp [hf1, hf2, h0]
         intro h1 h2
         exact hnz ⟨h1, h2⟩)
        have g0 : decide ((0 : Int) < (k : Int)) = false := decide_eq_false (by omega)
        have g0' : decide (0 < k) = false := decide_eq_false (by omega)
        clear hf1 hf2
        go_wp2
        go_quiet (first | (go_at_call 65; (with_reducible refine (F1 _).mono ?_); rintro e_ w_ ⟨rfl, rfl⟩; exact ⟨rfl, _, rfl⟩) | (go_at_call 65; (with_reducible refine (F2 _).mono ?_); rintro e_ w_ ⟨rfl, rfl⟩; exact ⟨rfl, _, rfl⟩))
        have HG5 := Aside0.mk (show Grw w _ from HG2.out.drewN nq)
        all_goals
         go_wp2
         go_roundw
         case rel =>
          refine ⟨k + 1, by omega, by go_num, ⟨fun j hj => ?_⟩, HG5⟩
          rcases Nat.lt_or_ge j k with h3 | h3
          ·exact HALL.out j h3
          ·obtain rfl : j = k := by omega
           exact HBAD.out
         case measure => simp [intOf]; omega
       ·obtain ⟨p, hp⟩ : ∃ p, k - 1 = p := ⟨_, rfl⟩
        have g0 : decide ((0 : Int) < (k : Int)) = true := decide_eq_true (by omega)
        have g0' : decide (0 < k) = true := decide_eq_true (by omega)
        have s1 : (k : Int) - 1 = (p : Int) := by omega
        have s2 : IntKind.i64.wrap ((k : Int) - 1) = (p : Int) := by rw [s1, IntKind.wrap_i64]; omega
        have s3 : IntKind.i64.wrap (p : Int) = (p : Int) := by rw [IntKind.wrap_i64]; omega
        have P0 : (0 : Int) ≤ (p : Int) := by omega
        have P1 : (p : Int) < (n : Int) := by omega
        obtain ⟨ad2, e2, y0, y1, y2, y3, y4, y5, y6⟩ := at_T112 HC2.out (p : Int) P0 P1
        cases e2
        rw [Int.toNat_natCast] at y0 y1 y2 y3 y4 y5 y6
        obtain ⟨y, hy⟩ : ∃ y, rd_T112 l (p : Int) = y := ⟨_, rfl⟩
        rw [hy] at y0 y1 y2 y3 y4
        clear y5 y6
        obtain ⟨z, hz⟩ : ∃ z, cmpK y.f0 x.f0 = z := ⟨_, rfl⟩
        have hcmp := cmp_calls y.f0 x.f0
        rw [hz] at hcmp
        by_cases hz0 : 0 ≤ z
        ·have HBAD := Aside0.mk (show badAt l k = true from by
          unfold badAt
          rw [hp, hx, hy, hz, decide_eq_true hz0, decide_eq_true (show 0 < k by omega)]
          simp)
         have dz : decide (0 ≤ z) = true := decide_eq_true hz0
         clear hf1 hf2 hz hy hp hz0
         have x0 := cell_all x0
         have x1 := cell_all x1
         have x2 := cell_all x2
         have x3 := cell_all x3
         have x4 := cell_all x4
         have x5 := cell_all x5
         have x6 := cell_all x6
         have y0 := cell_all y0
         have y1 := cell_all y1
         have y2 := cell_all y2
         have y3 := cell_all y3
         have y4 := cell_all y4
         have G1 : ∀ W, Calls Tryd.prog 65 #[.int .i64 x.f1] W fun e w' => e = .returned (.bool false) ∧ Grw W w' := fun W => (F1 W).mono (by rintro e w' ⟨rfl, rfl⟩; exact ⟨rfl, Grw.refl _⟩)
         have G2 : ∀ W, Calls Tryd.prog 65 #[.int .i64 x.f2] W fun e w' => e = .returned (.bool false) ∧ Grw W w' := fun W => (F2 W).mono (by rintro e w' ⟨rfl, rfl⟩; exact ⟨rfl, Grw.refl _⟩)
         go_wp2_with fail
         refine wp_region_quiet_grown (by assumption) (by kernel_rfl) ?_
         repeat (first | go_big_quiet_skip | quiet_step (first | (go_at_call 65; (with_reducible refine Calls.grown_of (G1 _))) | (go_at_call 65; (with_reducible refine Calls.grown_of (G2 _))) | (go_at_call 62; (with_reducible refine Calls.grown_of (hcmp _)))))
         refine wpQuiet_nil ?_
         intro _ hw'
         obtain ⟨⟨nq, osq⟩, hw''⟩ := hw'
         subst hw''
         have HG5 := Aside0.mk (show Grw w _ from HG2.out.trans ⟨nq, osq, rfl⟩)
         all_goals
          go_wp2
          go_ret
          exact ⟨by rw [right_bad HK.out HBAD.out]; rfl, HG5.out⟩
        ·have HBAD := Aside0.mk (show badAt l k = false from by
          unfold badAt badC
          rw [hp, hx, hy, hz, decide_eq_false hz0]
          have hnz := HNZ.out
          simp [hf1, hf2]
          intro h1 h2
          exact hnz ⟨h1, h2⟩)
         have dz : decide (0 ≤ z) = false := decide_eq_false hz0
         clear hf1 hf2 hz hy hp hz0
         have x0 := cell_all x0
         have x1 := cell_all x1
         have x2 := cell_all x2
         have x3 := cell_all x3
         have x4 := cell_all x4
         have x5 := cell_all x5
         have x6 := cell_all x6
         have y0 := cell_all y0
         have y1 := cell_all y1
         have y2 := cell_all y2
         have y3 := cell_all y3
         have y4 := cell_all y4
         have G1 : ∀ W, Calls Tryd.prog 65 #[.int .i64 x.f1] W fun e w' => e = .returned (.bool false) ∧ Grw W w' := fun W => (F1 W).mono (by rintro e w' ⟨rfl, rfl⟩; exact ⟨rfl, Grw.refl _⟩)
         have G2 : ∀ W, Calls Tryd.prog 65 #[.int .i64 x.f2] W fun e w' => e = .returned (.bool false) ∧ Grw W w' := fun W => (F2 W).mono (by rintro e w' ⟨rfl, rfl⟩; exact ⟨rfl, Grw.refl _⟩)
         go_wp2_with fail
         refine wp_region_quiet_grown (by assumption) (by kernel_rfl) ?_
         repeat (first | go_big_quiet_skip | quiet_step (first | (go_at_call 65; (with_reducible refine Calls.grown_of (G1 _))) | (go_at_call 65; (with_reducible refine Calls.grown_of (G2 _))) | (go_at_call 62; (with_reducible refine Calls.grown_of (hcmp _)))))
         refine wpQuiet_nil ?_
         intro _ hw'
         obtain ⟨⟨nq, osq⟩, hw''⟩ := hw'
         subst hw''
         have HG5 := Aside0.mk (show Grw w _ from HG2.out.trans ⟨nq, osq, rfl⟩)
         all_goals
          go_wp2
          go_roundw
          case rel =>
           refine ⟨k + 1, by omega, by go_num, ⟨fun j hj => ?_⟩, HG5⟩
           rcases Nat.lt_or_ge j k with h3 | h3
           ·exact HALL.out j h3
           ·obtain rfl : j = k := by omega
            exact HBAD.out
          case measure => simp [intOf]; omega
   ·have eA : (x.f1 == (0 : Int)) = false := beq_false_of_ne hA
    have HNZ := Aside0.mk (show ¬ (x.f1 = 0 ∧ x.f2 = 0) from fun h => hA h.1)
    clear hA
    have mixed : Tryd.prog.follows .mixedOrders = true := by kernel_rfl
    cases hf1 : fitB x.f1 with
    | false =>
     have HBAD := Aside0.mk (show badAt l k = true from by
      unfold badAt badC
      rw [hx]
      simp [hf1])
     have F1 : ∀ W, Calls Tryd.prog 65 #[.int .i64 x.f1] W fun e w' => e = .returned (.bool true) ∧ w' = W := fun W => far_grw x.f1 hf1 W
     clear hf1
     go_wp2
     go_quiet (first | (go_at_call 65; (with_reducible refine (F1 _).mono ?_); rintro e_ w_ ⟨rfl, rfl⟩; exact ⟨rfl, _, rfl⟩))
     have HG5 := Aside0.mk (show Grw w _ from HG2.out.drewN nq)
     all_goals
      go_wp2
      go_ret
      exact ⟨by rw [right_bad HK.out HBAD.out]; rfl, HG5.out⟩
    | true =>
     have F1 : ∀ W, Calls Tryd.prog 65 #[.int .i64 x.f1] W fun e w' => e = .returned (.bool false) ∧ w' = W := fun W => far_grw x.f1 hf1 W
     cases hf2 : fitB x.f2 with
     | false =>
      have HBAD := Aside0.mk (show badAt l k = true from by
       unfold badAt badC
       rw [hx]
       simp [hf2])
      have F2 : ∀ W, Calls Tryd.prog 65 #[.int .i64 x.f2] W fun e w' => e = .returned (.bool true) ∧ w' = W := fun W => far_grw x.f2 hf2 W
      clear hf1 hf2
      go_wp2
      go_quiet (first | (go_at_call 65; (with_reducible refine (F1 _).mono ?_); rintro e_ w_ ⟨rfl, rfl⟩; exact ⟨rfl, _, rfl⟩) | (go_at_call 65; (with_reducible refine (F2 _).mono ?_); rintro e_ w_ ⟨rfl, rfl⟩; exact ⟨rfl, _, rfl⟩))
      have HG5 := Aside0.mk (show Grw w _ from HG2.out.drewN nq)
      all_goals
       go_wp2
       go_ret
       exact ⟨by rw [right_bad HK.out HBAD.out]; rfl, HG5.out⟩
     | true =>
      have F2 : ∀ W, Calls Tryd.prog 65 #[.int .i64 x.f2] W fun e w' => e = .returned (.bool false) ∧ w' = W := fun W => far_grw x.f2 hf2 W
      by_cases h0 : k = 0
      ·have HBAD := Aside0.mk (show badAt l k = false from by
        unfold badAt badC
        rw [hx]
        have hnz := HNZ.out
        simp [hf1, hf2, h0]
        intro h1 h2
        exact hnz ⟨h1, h2⟩)
       have g0 : decide ((0 : Int) < (k : Int)) = false := decide_eq_false (by omega)
       have g0' : decide (0 < k) = false := decide_eq_false (by omega)
       clear hf1 hf2
       go_wp2
       go_quiet (first | (go_at_call 65; (with_reducible refine (F1 _).mono ?_); rintro e_ w_ ⟨rfl, rfl⟩; exact ⟨rfl, _, rfl⟩) | (go_at_call 65; (with_reducible refine (F2 _).mono ?_); rintro e_ w_ ⟨rfl, rfl⟩; exact ⟨rfl, _, rfl⟩))
       have HG5 := Aside0.mk (show Grw w _ from HG2.out.drewN nq)
       all_goals
        go_wp2
        go_roundw
        case rel =>
         refine ⟨k + 1, by omega, by go_num, ⟨fun j hj => ?_⟩, HG5⟩
         rcases Nat.lt_or_ge j k with h3 | h3
         ·exact HALL.out j h3
         ·obtain rfl : j = k := by omega
          exact HBAD.out
        case measure => simp [intOf]; omega
      ·obtain ⟨p, hp⟩ : ∃ p, k - 1 = p := ⟨_, rfl⟩
       have g0 : decide ((0 : Int) < (k : Int)) = true := decide_eq_true (by omega)
       have g0' : decide (0 < k) = true := decide_eq_true (by omega)
       have s1 : (k : Int) - 1 = (p : Int) := by omega
       have s2 : IntKind.i64.wrap ((k : Int) - 1) = (p : Int) := by rw [s1, IntKind.wrap_i64]; omega
       have s3 : IntKind.i64.wrap (p : Int) = (p : Int) := by rw [IntKind.wrap_i64]; omega
       have P0 : (0 : Int) ≤ (p : Int) := by omega
       have P1 : (p : Int) < (n : Int) := by omega
       obtain ⟨ad2, e2, y0, y1, y2, y3, y4, y5, y6⟩ := at_T112 HC2.out (p : Int) P0 P1
       cases e2
       rw [Int.toNat_natCast] at y0 y1 y2 y3 y4 y5 y6
       obtain ⟨y, hy⟩ : ∃ y, rd_T112 l (p : Int) = y := ⟨_, rfl⟩
       rw [hy] at y0 y1 y2 y3 y4
       clear y5 y6
       obtain ⟨z, hz⟩ : ∃ z, cmpK y.f0 x.f0 = z := ⟨_, rfl⟩
       have hcmp := cmp_calls y.f0 x.f0
       rw [hz] at hcmp
       by_cases hz0 : 0 ≤ z
       ·have HBAD := Aside0.mk (show badAt l k = true from by
         unfold badAt
         rw [hp, hx, hy, hz, decide_eq_true hz0, decide_eq_true (show 0 < k by omega)]
         simp)
        have dz : decide (0 ≤ z) = true := decide_eq_true hz0
        clear hf1 hf2 hz hy hp hz0
        have x0 := cell_all x0
        have x1 := cell_all x1
        have x2 := cell_all x2
        have x3 := cell_all x3
        have x4 := cell_all x4
        have x5 := cell_all x5
        have x6 := cell_all x6
        have y0 := cell_all y0
        have y1 := cell_all y1
        have y2 := cell_all y2
        have y3 := cell_all y3
        have y4 := cell_all y4
        have G1 : ∀ W, Calls Tryd.prog 65 #[.int .i64 x.f1] W fun e w' => e = .returned (.bool false) ∧ Grw W w' := fun W => (F1 W).mono (by rintro e w' ⟨rfl, rfl⟩; exact ⟨rfl, Grw.refl _⟩)
        have G2 : ∀ W, Calls Tryd.prog 65 #[.int .i64 x.f2] W fun e w' => e = .returned (.bool false) ∧ Grw W w' := fun W => (F2 W).mono (by rintro e w' ⟨rfl, rfl⟩; exact ⟨rfl, Grw.refl _⟩)
        go_wp2_with fail
        refine wp_region_quiet_grown (by assumption) (by kernel_rfl) ?_
        repeat (first | go_big_quiet_skip | quiet_step (first | (go_at_call 65; (with_reducible refine Calls.grown_of (G1 _))) | (go_at_call 65; (with_reducible refine Calls.grown_of (G2 _))) | (go_at_call 62; (with_reducible refine Calls.grown_of (hcmp _)))))
        refine wpQuiet_nil ?_
        intro _ hw'
        obtain ⟨⟨nq, osq⟩, hw''⟩ := hw'
        subst hw''
        have HG5 := Aside0.mk (show Grw w _ from HG2.out.trans ⟨nq, osq, rfl⟩)
        all_goals
         go_wp2
         go_ret
         exact ⟨by rw [right_bad HK.out HBAD.out]; rfl, HG5.out⟩
       ·have HBAD := Aside0.mk (show badAt l k = false from by
         unfold badAt badC
         rw [hp, hx, hy, hz, decide_eq_false hz0]
         have hnz := HNZ.out
         simp [hf1, hf2]
         intro h1 h2
         exact hnz ⟨h1, h2⟩)
        have dz : decide (0 ≤ z) = false := decide_eq_false hz0
        clear hf1 hf2 hz hy hp hz0
        have x0 := cell_all x0
        have x1 := cell_all x1
        have x2 := cell_all x2
        have x3 := cell_all x3
        have x4 := cell_all x4
        have x5 := cell_all x5
        have x6 := cell_all x6
        have y0 := cell_all y0
        have y1 := cell_all y1
        have y2 := cell_all y2
        have y3 := cell_all y3
        have y4 := cell_all y4
        have G1 : ∀ W, Calls Tryd.prog 65 #[.int .i64 x.f1] W fun e w' => e = .returned (.bool false) ∧ Grw W w' := fun W => (F1 W).mono (by rintro e w' ⟨rfl, rfl⟩; exact ⟨rfl, Grw.refl _⟩)
        have G2 : ∀ W, Calls Tryd.prog 65 #[.int .i64 x.f2] W fun e w' => e = .returned (.bool false) ∧ Grw W w' := fun W => (F2 W).mono (by rintro e w' ⟨rfl, rfl⟩; exact ⟨rfl, Grw.refl _⟩)
        go_wp2_with fail
        refine wp_region_quiet_grown (by assumption) (by kernel_rfl) ?_
        repeat (first | go_big_quiet_skip | quiet_step (first | (go_at_call 65; (with_reducible refine Calls.grown_of (G1 _))) | (go_at_call 65; (with_reducible refine Calls.grown_of (G2 _))) | (go_at_call 62; (with_reducible refine Calls.grown_of (hcmp _)))))
        refine wpQuiet_nil ?_
        intro _ hw'
        obtain ⟨⟨nq, osq⟩, hw''⟩ := hw'
        subst hw''
        have HG5 := Aside0.mk (show Grw w _ from HG2.out.trans ⟨nq, osq, rfl⟩)
        all_goals
         go_wp2
         go_roundw
         case rel =>
          refine ⟨k + 1, by omega, by go_num, ⟨fun j hj => ?_⟩, HG5⟩
          rcases Nat.lt_or_ge j k with h3 | h3
          ·exact HALL.out j h3
          ·obtain rfl : j = k := by omega
           exact HBAD.out
         case measure => simp [intOf]; omega
  ·obtain rfl : k = n := by omega
   have d1 : decide ((k : Int) < (k : Int)) = false := decide_eq_false (by omega)
   have d2 : decide (k < k) = false := decide_eq_false (by omega)
   have HR := Aside0.mk (right_good (l := l) (fun j hj => HALL.out j (by rw [HN.out] at hj; exact hj)))
   go_wp2
   go_ret
   exact ⟨by rw [HR.out]; rfl, HG.out⟩
end Go.Proofs.YtppcjoaghlecmaaDoor.P
