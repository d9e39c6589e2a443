-- PRINTED by print.py (a twelfth state) out of the translation. Not trusted: Lean checks it.
import Derived.Test.YtmflggbpiadkjaaPx0
import Derived.Test.YtmflggbpiadkjaaHandJ
namespace Go.Proofs.Ytmflggbpiadkjaa.P
open Go.RowKit Go.Proofs.YtmflggbpiadkjaaW.PrintWords Go.Proofs.YtmflggbpiadkjaaW.PrintLast Go.Proofs.YtmflggbpiadkjaaW.PrintMore
attribute [local go_sem] max2_int min2_int max_two min_two max_three min_three max_four min_four   -- for this text's walks alone
set_option linter.unusedVariables false
set_option linter.unusedSimpArgs false

/-! ### sheet_negated: function 69 -/
def sheet_negated.l0 : Nat → List (S34) → Int → Int → Option ((List (S34)))
  | 0, _, _, _ => none
  | k + 1, x3, x8, x9 => if x9 < x8 then (if 0 ≤ x9 then (if x9 < (x3.length : Int) then ((some (x3.set (x9 : Int).toNat (⟨(⟨(rd_T34 x3 x9).f0.f0, (rd_T34 x3 x9).f0.f1, (rd_T34 x3 x9).f0.f2, (rd_T34 x3 x9).f0.f3, (rd_T34 x3 x9).f0.f4⟩ : S32), wrap64 (-((rd_T34 x3 x9).f1)), (rd_T34 x3 x9).f2⟩ : S34) : List (S34))).bind fun y409 => (sheet_negated.l0 k (y409.set (x9 : Int).toNat (⟨(⟨(rd_T34 y409 x9).f0.f0, (rd_T34 y409 x9).f0.f1, (rd_T34 y409 x9).f0.f2, (rd_T34 y409 x9).f0.f3, (rd_T34 y409 x9).f0.f4⟩ : S32), (rd_T34 y409 x9).f1, wrap64 (-((rd_T34 x3 x9).f2))⟩ : S34)) x8 (wrap64 (x9 + 1)))) else (none)) else (none)) else (some x3)
def sheet_negated.f (k : Nat) (l0 : List (S34)) : Option ((List (S34))) := (slices_Clone.f l0).bind fun t404 => (sheet_negated.l0 k t404 (t404.length : Int) 0)
theorem sheet_negated.mono_l : ∀ k, (∀ y0 y1 y2, LeO (sheet_negated.l0 k y0 y1 y2) (sheet_negated.l0 (k + 1) y0 y1 y2))
  | 0 => fun _ _ _ r h => by simp [sheet_negated.l0] at h
  | k + 1 => by
    have ih0 := sheet_negated.mono_l k
    · intro y0 y1 y2
      unfold sheet_negated.l0
      repeat' first
      | (with_reducible exact ih0 _ _ _)
      | (with_reducible exact LeO.refl _)
      | (with_reducible exact LeO.none _)
      | (with_reducible refine LeO.ite ?_ ?_)
      | (with_reducible refine LeO.bind ?_ (fun _ => ?_))
      | exact ih0 _ _ _
      | exact LeO.none _
      | refine LeO.ite ?_ ?_
      | refine LeO.bind ?_ (fun _ => ?_)
theorem sheet_negated.mono : ∀ a0 k, LeO (sheet_negated.f k a0) (sheet_negated.f (k + 1) a0) := by
  intro a0 k
  have ih0 := sheet_negated.mono_l k
  unfold sheet_negated.f
  repeat' first
      | (with_reducible exact ih0 _ _ _)
      | (with_reducible exact LeO.refl _)
      | (with_reducible exact LeO.none _)
      | (with_reducible refine LeO.ite ?_ ?_)
      | (with_reducible refine LeO.bind ?_ (fun _ => ?_))
      | exact ih0 _ _ _
      | exact LeO.none _
      | refine LeO.ite ?_ ?_
      | refine LeO.bind ?_ (fun _ => ?_)
def sheet_negated.T5 : Bool × List (List Nat × List Nat) := (true, [([], []), ([], []), ([], []), ([], []), ([], []), ([], []), ([4, 5], [4, 5]), ([6], [6]), ([7], [7]), ([8], [8]), ([], []), ([], []), ([10, 11], [10, 11]), ([12], [12]), ([13], [13]), ([14], [14]), ([0, 1, 0, 1, 4, 5, 6, 7, 8, 9, 14], [0, 1]), ([16, 0, 1, 4, 5, 6, 7, 8, 9, 14], [16]), ([17, 9, 0, 1, 4, 5, 6, 7, 8, 9, 14], [9, 17]), ([2, 3, 0, 1, 2, 3, 4, 5, 6, 7, 8, 9, 10, 11, 12, 13, 14, 15, 16, 17, 18], [2, 3]), ([19, 0, 1, 2, 3, 4, 5, 6, 7, 8, 9, 10, 11, 12, 13, 14, 15, 16, 17, 18], [19]), ([20, 15, 18, 0, 1, 2, 3, 4, 5, 6, 7, 8, 9, 10, 11, 12, 13, 14, 15, 16, 17, 18], [15, 20])])
def sheet_negated.B5 : List Nat := [0, 0, 0, 0, 0, 0, 48, 112, 240, 496, 0, 0, 3072, 7168, 15360, 31744, 32755, 98291, 229363, 524287, 1048575, 2097151]
theorem sheet_negated.tab5 : rtab .any (opsOf Try.f69 5) = sheet_negated.T5 := by kernel_rfl
theorem sheet_negated.bits5 : waitsOk sheet_negated.T5.2 sheet_negated.B5 = true := by kernel_rfl
set_option maxHeartbeats 8000000 in
set_option maxRecDepth 100000 in
theorem sheet_negated.calls (k : Nat) (A0 : Option Addr) (c0 : Nat) (l0 : List (S34)) (r : List (S34)) (w : World) (hr0 : Kd.C k34 w A0 l0.length l0) (hc0 : l0.length ≤ c0) (h : sheet_negated.f k l0 = some r) :
    Calls Try.prog 69 #[.slice A0 l0.length c0] w fun e w' => ∃ v0_ : Value, e = .returned (v0_) ∧ Kd.R k34 34 w' w.heap.size (fun _ => True) v0_ r ∧ Below w.heap.size w w' := by
  have HR0 := Aside0.mk hr0
  have HC0 := Aside0.mk hc0
  clear hr0 hc0
  have HB := Aside0.mk (Below.refl w.heap.size w)
  have H : ((slices_Clone.f l0).bind fun t404 => (sheet_negated.l0 k t404 (t404.length : Int) 0)) = some r := h
  clear h
  replace H := Option.bind_eq_some_iff.mp H
  obtain ⟨t404, A20, H⟩ := H
  replace H : (sheet_negated.l0 k t404 (t404.length : Int) 0) = some r := H
  have A2 := Aside0.mk A20
  clear A20
  have H' := Aside0.mk H
  clear H
  go_enter Try.func69, Try.ntmps69
  go_wp2_with (first | ((with_reducible refine gate_callee (f := 62) rfl ?_); refine goesL_ (some 6) rfl rfl Try.func62 (by kernel_rfl) rfl #[.slice A0 l0.length c0] rfl (by (try simp only [List.map_toArray, List.map_cons, List.map_nil]); first | done | rfl | (simp only [List.length_drop, List.length_take]; rfl)) ?_; (with_reducible refine (slices_Clone.calls _ _ l0 t404 _ ?side1 ?side2 A2.out).mono ?_); (case side1 => repeat (first | exact HR0.out | (with_reducible refine Kd.C_alloc ?_ _) | (with_reducible refine Kd.C_drewN ?_ _) | (with_reducible refine Kd.C_drew ?_))); (case side2 => exact HC0.out); rintro e w3 ⟨v405, rfl, ho0, hb⟩; refine ⟨_, rfl, ?_⟩; have n0_ := Aside0.mk (Kd.R_lower ho0 (below_size (by repeat (first | (with_reducible first | exact HB.out | apply below_alloc | apply pw_below_drewN | apply below_drew1) | exact HB.out)))); have n1_ := Aside0.mk (below_step (by repeat (first | (with_reducible first | exact HB.out | apply below_alloc | apply pw_below_drewN | apply below_drew1) | exact HB.out)) hb); clear HB; have HO406 := n0_; have HB := n1_; clear n0_ n1_; (try clear hb); (try clear hb2); (try clear hk); (try clear hi); (try clear ho0); obtain ⟨Ao4, co4, eo4⟩ := Kd.R_slice HO406.out; subst eo4))
  go_loopg [9] k (fun kq v9 w' => ∃ (x3_1 : List (S34)) (x9_1 : Int), v9 = .int .i64 x9_1 ∧ Aside0 (sheet_negated.l0 kq x3_1 (t404.length : Int) x9_1 = some r) ∧ Aside0 (kq ≤ k) ∧ Aside0 (Kd.R k34 34 w' w.heap.size (fun _ => True) (.slice Ao4 t404.length co4) x3_1) ∧ Aside0 (Below w.heap.size w w'))
  case atStart => exact ⟨(t404), (0), (by first | rfl | (simp; done) | (simp [*]; done)), H', ⟨Nat.le_refl _⟩, ⟨by (with_reducible repeat (first | apply Kd.R_alloc | apply Kd.R_drewN | apply Kd.R_drew)); exact HO406.out⟩, ⟨by repeat (first | (with_reducible first | exact HB.out | apply below_alloc | apply pw_below_drewN | apply below_drew1) | exact HB.out)⟩⟩
  case round =>
    clear H'
    try clear p2
    obtain ⟨x3_1, x9_1, rfl, HA, HK1, HO_3, HB⟩ := hrel
    have hl3_1 := (Kd.R_reads' HO_3.out).1
    rw [hl3_1] at HO_3
    (try simp only [hl3_1])
    cases gk with
    | zero => exact absurd HA.out (by simp [sheet_negated.l0])
    | succ k1 =>
      have H := HA.out
      clear HA
      simp only [sheet_negated.l0] at H
      by_cases c5 : x9_1 < (t404.length : Int)
      · rw [if_pos c5] at H
        have c5b0 : decide (x9_1 < (t404.length : Int)) = true := decide_eq_true c5
        clear c5
        by_cases c6 : 0 ≤ x9_1
        · rw [if_pos c6] at H
          have c6b0 : decide (0 ≤ x9_1) = true := decide_eq_true c6
          clear c6
          by_cases c7 : x9_1 < (x3_1.length : Int)
          · rw [if_pos c7] at H
            have c7b0 : decide (x9_1 < (x3_1.length : Int)) = true := decide_eq_true c7
            clear c7
            obtain ⟨y409, hy409⟩ : ∃ y_ : List (S34), y_ = (x3_1.set (x9_1 : Int).toNat (⟨(⟨(rd_T34 x3_1 x9_1).f0.f0, (rd_T34 x3_1 x9_1).f0.f1, (rd_T34 x3_1 x9_1).f0.f2, (rd_T34 x3_1 x9_1).f0.f3, (rd_T34 x3_1 x9_1).f0.f4⟩ : S32), wrap64 (-((rd_T34 x3_1 x9_1).f1)), (rd_T34 x3_1 x9_1).f2⟩ : S34)) := ⟨_, rfl⟩
            replace H : (sheet_negated.l0 k1 (y409.set (x9_1 : Int).toNat (⟨(⟨(rd_T34 y409 x9_1).f0.f0, (rd_T34 y409 x9_1).f0.f1, (rd_T34 y409 x9_1).f0.f2, (rd_T34 y409 x9_1).f0.f3, (rd_T34 y409 x9_1).f0.f4⟩ : S32), (rd_T34 y409 x9_1).f1, wrap64 (-((rd_T34 x3_1 x9_1).f2))⟩ : S34)) (t404.length : Int) (wrap64 (x9_1 + 1))) = some r := by first | (rw [hy409]; with_reducible exact H) | (have H2_ := (Option.bind_some _ _).symm.trans H; rw [hy409]; with_reducible exact H2_) | (have H2_ := (Option.bind_some _ _).symm.trans H; with_reducible exact H2_) | with_reducible exact H | (rw [hy409]; exact H) | exact H
            have Ny409 := Aside0.mk hy409
            clear hy409
            obtain ⟨y410, hy410⟩ : ∃ y_ : List (S34), y_ = (y409.set (x9_1 : Int).toNat (⟨(⟨(rd_T34 y409 x9_1).f0.f0, (rd_T34 y409 x9_1).f0.f1, (rd_T34 y409 x9_1).f0.f2, (rd_T34 y409 x9_1).f0.f3, (rd_T34 y409 x9_1).f0.f4⟩ : S32), (rd_T34 y409 x9_1).f1, wrap64 (-((rd_T34 x3_1 x9_1).f2))⟩ : S34)) := ⟨_, rfl⟩
            replace H : (sheet_negated.l0 k1 y410 (t404.length : Int) (wrap64 (x9_1 + 1))) = some r := by first | (rw [hy410]; with_reducible exact H) | (have H2_ := (Option.bind_some _ _).symm.trans H; rw [hy410]; with_reducible exact H2_) | (have H2_ := (Option.bind_some _ _).symm.trans H; with_reducible exact H2_) | with_reducible exact H | (rw [hy410]; exact H) | exact H
            have Ny410 := Aside0.mk hy410
            clear hy410
            have H' := Aside0.mk H
            clear H
            try go_wp2
            have n0_ := Aside0.mk (Kd.R_drew HO_3.out)
            have n1_ := Aside0.mk (below_drew1 HB.out)
            clear HO_3
            clear HB
            have HO_3 := n0_
            have HB := n1_
            clear n0_ n1_
            have p407 : 0 ≤ (x9_1 : Int) := of_decide_eq_true (by first | (with_reducible assumption) | assumption)
            have q407 : x9_1 < (x3_1.length : Int) := of_decide_eq_true (by first | (with_reducible assumption) | assumption)
            obtain ⟨ad407, e407, hx407_0, hx407_1, hx407_2, hx407_3, hx407_4, hx407_5, hx407_6⟩ := at_T34 (Kd.R_reads' HO_3.out).2.2 x9_1 p407 q407
            cases e407
            replace p407 := eq_true p407
            replace q407 := eq_true q407
            have p408 : 0 ≤ (x9_1 : Int) := of_decide_eq_true (by first | (with_reducible assumption) | assumption)
            have q408 : x9_1 < (x3_1.length : Int) := of_decide_eq_true (by first | (with_reducible assumption) | assumption)
            obtain ⟨ad408, e408, hx408_0, hx408_1, hx408_2, hx408_3, hx408_4, hx408_5, hx408_6⟩ := at_T34 (Kd.R_reads' HO_3.out).2.2 x9_1 p408 q408
            obtain rfl : ad407 = ad408 := (by injection e408)
            replace p408 := eq_true p408
            replace q408 := eq_true q408
            have p8 : 0 ≤ (x9_1 : Int) := of_decide_eq_true (by first | (with_reducible assumption) | assumption)
            have q8 : (x9_1 : Int) < ((x3_1.length : Int) : Int) := of_decide_eq_true (by first | (with_reducible assumption) | assumption)
            obtain ⟨go8, co8, eo8, gb8, gl8, cl8, HG8⟩ := Kd.R_form HO_3.out (by omega)
            (first | cases eo8 | (injection eo8 with ea_ en_ ec_; (first | subst ea_ | (injection ea_ with ea_; subst ea_)); subst ec_; clear en_))
            have GB8 := Aside0.mk gb8
            have GG8 := Aside0.mk HG8
            clear gb8 gl8 HG8
            (first | simp only [add_plain] at hx407_0 | skip)
            (first | simp only [add_plain] at hx407_1 | skip)
            (first | simp only [add_plain] at hx407_2 | skip)
            (first | simp only [add_plain] at hx407_3 | skip)
            (first | simp only [add_plain] at hx407_4 | skip)
            (first | simp only [add_plain] at hx407_5 | skip)
            (first | simp only [add_plain] at hx407_6 | skip)
            (first | simp only [add_plain] at hx408_0 | skip)
            (first | simp only [add_plain] at hx408_1 | skip)
            (first | simp only [add_plain] at hx408_2 | skip)
            (first | simp only [add_plain] at hx408_3 | skip)
            (first | simp only [add_plain] at hx408_4 | skip)
            (first | simp only [add_plain] at hx408_5 | skip)
            (first | simp only [add_plain] at hx408_6 | skip)
            obtain ⟨ce8, hcl8, hM8, hcc8, hfr8⟩ := Kd.R_elem HO_3.out z34 (x9_1 : Int) p8 q8
            obtain rfl := k34_openM hM8
            have hx8_0 : World.cell? _ ⟨go8, (x9_1 : Int).toNat * 7, none⟩ = some (.string ((rd_T34 x3_1 x9_1).f0.f0)) := hcc8 0 _ rfl
            have hx8_1 : World.cell? _ ⟨go8, (x9_1 : Int).toNat * 7 + 1, none⟩ = some (.string ((rd_T34 x3_1 x9_1).f0.f1)) := hcc8 1 _ rfl
            have hx8_2 : World.cell? _ ⟨go8, (x9_1 : Int).toNat * 7 + 2, none⟩ = some (.string ((rd_T34 x3_1 x9_1).f0.f2)) := hcc8 2 _ rfl
            have hx8_3 : World.cell? _ ⟨go8, (x9_1 : Int).toNat * 7 + 3, none⟩ = some (.string ((rd_T34 x3_1 x9_1).f0.f3)) := hcc8 3 _ rfl
            have hx8_4 : World.cell? _ ⟨go8, (x9_1 : Int).toNat * 7 + 4, none⟩ = some (.string ((rd_T34 x3_1 x9_1).f0.f4)) := hcc8 4 _ rfl
            have hx8_5 : World.cell? _ ⟨go8, (x9_1 : Int).toNat * 7 + 5, none⟩ = some (.int .i64 ((rd_T34 x3_1 x9_1).f1)) := hcc8 5 _ rfl
            have hx8_6 : World.cell? _ ⟨go8, (x9_1 : Int).toNat * 7 + 6, none⟩ = some (.int .i64 ((rd_T34 x3_1 x9_1).f2)) := hcc8 6 _ rfl
            have hf8_0 : World.frozen? _ ⟨go8, (x9_1 : Int).toNat * 7, none⟩ = false := hfr8 0
            have hf8_1 : World.frozen? _ ⟨go8, (x9_1 : Int).toNat * 7 + 1, none⟩ = false := hfr8 1
            have hf8_2 : World.frozen? _ ⟨go8, (x9_1 : Int).toNat * 7 + 2, none⟩ = false := hfr8 2
            have hf8_3 : World.frozen? _ ⟨go8, (x9_1 : Int).toNat * 7 + 3, none⟩ = false := hfr8 3
            have hf8_4 : World.frozen? _ ⟨go8, (x9_1 : Int).toNat * 7 + 4, none⟩ = false := hfr8 4
            have hf8_5 : World.frozen? _ ⟨go8, (x9_1 : Int).toNat * 7 + 5, none⟩ = false := hfr8 5
            have hf8_6 : World.frozen? _ ⟨go8, (x9_1 : Int).toNat * 7 + 6, none⟩ = false := hfr8 6
            clear hcl8 hcc8 hfr8 hM8
            replace p8 := eq_true p8
            replace q8 := eq_true q8
            obtain ⟨ce11, hcl11, hM11, hcc11, hfr11⟩ := Kd.R_elem HO_3.out z34 (x9_1 : Int) (of_decide_eq_true (by first | (with_reducible assumption) | assumption)) (by have h_ : (x9_1 : Int) < ((x3_1.length : Int) : Int) := of_decide_eq_true (by first | (with_reducible assumption) | assumption); first | exact h_ | (have e_ := (Kd.R_reads' HO_3.out).1; omega) | simpa using h_)
            obtain rfl := k34_openM hM11
            have HP11 := (Kd.R_seg HO_3.out (x9_1 : Int) (of_decide_eq_true (by first | (with_reducible assumption) | assumption)) (by have h_ : (x9_1 : Int) < ((x3_1.length : Int) : Int) := of_decide_eq_true (by first | (with_reducible assumption) | assumption); first | exact h_ | (have e_ := (Kd.R_reads' HO_3.out).1; omega) | simpa using h_) (seg := [.int .i64 (wrap64 (-((rd_T34 x3_1 x9_1).f1)))]) (j := 5) hcl11 hcc11 (show 6 ≤ 7 from by decide) (x' := (⟨(⟨(rd_T34 x3_1 x9_1).f0.f0, (rd_T34 x3_1 x9_1).f0.f1, (rd_T34 x3_1 x9_1).f0.f2, (rd_T34 x3_1 x9_1).f0.f3, (rd_T34 x3_1 x9_1).f0.f4⟩ : S32), wrap64 (-((rd_T34 x3_1 x9_1).f1)), (rd_T34 x3_1 x9_1).f2⟩ : S34)) (k34_mkM _ _ _ (⟨(⟨(rd_T34 x3_1 x9_1).f0.f0, (rd_T34 x3_1 x9_1).f0.f1, (rd_T34 x3_1 x9_1).f0.f2, (rd_T34 x3_1 x9_1).f0.f3, (rd_T34 x3_1 x9_1).f0.f4⟩ : S32), wrap64 (-((rd_T34 x3_1 x9_1).f1)), (rd_T34 x3_1 x9_1).f2⟩ : S34) ) (fun _ hk => hk)).1
            rw [← Ny409.out] at HP11
            have HQ11 := Aside0.mk HP11
            clear hcl11 hcc11 hfr11 hM11 HP11
            have p9 : 0 ≤ (x9_1 : Int) := of_decide_eq_true (by first | (with_reducible assumption) | assumption)
            have q9 : (x9_1 : Int) < ((x3_1.length : Int) : Int) := of_decide_eq_true (by first | (with_reducible assumption) | assumption)
            replace p9 := eq_true p9
            replace q9 := eq_true q9
            obtain ⟨ce12, hcl12, hM12, hcc12, hfr12⟩ := Kd.R_elem HQ11.out z34 (x9_1 : Int) (of_decide_eq_true (by first | (with_reducible assumption) | assumption)) (by have h_ : (x9_1 : Int) < ((x3_1.length : Int) : Int) := of_decide_eq_true (by first | (with_reducible assumption) | assumption); first | exact h_ | (have e_ := (Kd.R_reads' HO_3.out).1; omega) | simpa using h_)
            obtain rfl := k34_openM hM12
            have HP12 := (Kd.R_seg HQ11.out (x9_1 : Int) (of_decide_eq_true (by first | (with_reducible assumption) | assumption)) (by have h_ : (x9_1 : Int) < ((x3_1.length : Int) : Int) := of_decide_eq_true (by first | (with_reducible assumption) | assumption); first | exact h_ | (have e_ := (Kd.R_reads' HO_3.out).1; omega) | simpa using h_) (seg := [.int .i64 (wrap64 (-((rd_T34 x3_1 x9_1).f2)))]) (j := 6) hcl12 hcc12 (show 7 ≤ 7 from by decide) (x' := (⟨(⟨(rd_T34 y409 x9_1).f0.f0, (rd_T34 y409 x9_1).f0.f1, (rd_T34 y409 x9_1).f0.f2, (rd_T34 y409 x9_1).f0.f3, (rd_T34 y409 x9_1).f0.f4⟩ : S32), (rd_T34 y409 x9_1).f1, wrap64 (-((rd_T34 x3_1 x9_1).f2))⟩ : S34)) (k34_mkM _ _ _ (⟨(⟨(rd_T34 y409 x9_1).f0.f0, (rd_T34 y409 x9_1).f0.f1, (rd_T34 y409 x9_1).f0.f2, (rd_T34 y409 x9_1).f0.f3, (rd_T34 y409 x9_1).f0.f4⟩ : S32), (rd_T34 y409 x9_1).f1, wrap64 (-((rd_T34 x3_1 x9_1).f2))⟩ : S34) ) (fun _ hk => hk)).1
            rw [← Ny410.out] at HP12
            have HQ12 := Aside0.mk HP12
            clear hcl12 hcc12 hfr12 hM12 HP12
            refine start_ (n := 22) (S := fun w' => w'.cell? ⟨go8, ((x9_1).toNat * 7), none⟩ = some (.string ((rd_T34 x3_1 x9_1).f0.f0)) ∧ w'.cell? ⟨go8, ((x9_1).toNat * 7) + 1, none⟩ = some (.string ((rd_T34 x3_1 x9_1).f0.f1)) ∧ w'.cell? ⟨go8, ((x9_1).toNat * 7) + 2, none⟩ = some (.string ((rd_T34 x3_1 x9_1).f0.f2)) ∧ w'.cell? ⟨go8, ((x9_1).toNat * 7) + 3, none⟩ = some (.string ((rd_T34 x3_1 x9_1).f0.f3)) ∧ w'.cell? ⟨go8, ((x9_1).toNat * 7) + 4, none⟩ = some (.string ((rd_T34 x3_1 x9_1).f0.f4)) ∧ w'.cell? ⟨go8, ((x9_1).toNat * 7) + 5, none⟩ = some (.int .i64 ((rd_T34 x3_1 x9_1).f1)) ∧ w'.cell? ⟨go8, ((x9_1).toNat * 7) + 6, none⟩ = some (.int .i64 ((rd_T34 x3_1 x9_1).f2)) ∧ w'.cell? ⟨go8, ((x9_1).toNat * 7), none⟩ = some (.string ((rd_T34 x3_1 x9_1).f0.f0)) ∧ w'.cell? ⟨go8, ((x9_1).toNat * 7) + 1, none⟩ = some (.string ((rd_T34 x3_1 x9_1).f0.f1)) ∧ w'.cell? ⟨go8, ((x9_1).toNat * 7) + 2, none⟩ = some (.string ((rd_T34 x3_1 x9_1).f0.f2)) ∧ w'.cell? ⟨go8, ((x9_1).toNat * 7) + 3, none⟩ = some (.string ((rd_T34 x3_1 x9_1).f0.f3)) ∧ w'.cell? ⟨go8, ((x9_1).toNat * 7) + 4, none⟩ = some (.string ((rd_T34 x3_1 x9_1).f0.f4)) ∧ w'.cell? ⟨go8, ((x9_1).toNat * 7) + 5, none⟩ = some (.int .i64 ((rd_T34 x3_1 x9_1).f1)) ∧ w'.cell? ⟨go8, ((x9_1).toNat * 7) + 6, none⟩ = some (.int .i64 ((rd_T34 x3_1 x9_1).f2))) (ds := [18, 21]) #[false, false, false, false, false, false, false, false, false, false, false, false, false, false, false, false, false, false, false, false, false, false] (by kernel_rfl) rfl rfl ⟨hx407_0, hx407_1, hx407_2, hx407_3, hx407_4, hx407_5, hx407_6, hx408_0, hx408_1, hx408_2, hx408_3, hx408_4, hx408_5, hx408_6⟩ (fun hHeld => ?_); refine with_tabW sheet_negated.tab5 sheet_negated.bits5 (fun HT_ HW_ => ?_)
            generalize wr.drew = w10 at HO_3 HB GG8 HQ11 HQ12 hf8_0 hf8_1 hf8_2 hf8_3 hf8_4 hf8_5 hf8_6 hx407_0 hx407_1 hx407_2 hx407_3 hx407_4 hx407_5 hx407_6 hx408_0 hx408_1 hx408_2 hx408_3 hx408_4 hx408_5 hx408_6 hx8_0 hx8_1 hx8_2 hx8_3 hx8_4 hx8_5 hx8_6 hHeld ⊢
            refine pure_ (i := 0) (N := some 12) (v := ?_) (a' := ?_) #[true, false, false, false, false, false, false, false, false, false, false, false, false, false, false, false, false, false, false, false, false, false] rfl rfl (any_of HT_.out (by kernel_rfl)) (fun _ _ _ h => h) (Or.inl ⟨by rfl, ?_⟩) ?_ ?_
            rotate_left
            · intro w'
              go_simp
              with_reducible rfl
            rotate_left
            · simp only [Act.put, List.setIfInBounds_toArray, List.set_cons_zero, List.set_cons_succ, i64_w, i32_w]
              rfl
            refine pure_ (i := 1) (N := some 13) (v := ?_) (a' := ?_) #[true, true, false, false, false, false, false, false, false, false, false, false, false, false, false, false, false, false, false, false, false, false] rfl rfl (any_of HT_.out (by kernel_rfl)) (fun _ _ _ h => h) (Or.inl ⟨by rfl, ?_⟩) ?_ ?_
            rotate_left
            · intro w'
              go_simp
              with_reducible rfl
            rotate_left
            · simp only [Act.put, List.setIfInBounds_toArray, List.set_cons_zero, List.set_cons_succ, i64_w, i32_w]
              rfl
            refine pure_ (i := 2) (N := some 14) (v := ?_) (a' := ?_) #[true, true, true, false, false, false, false, false, false, false, false, false, false, false, false, false, false, false, false, false, false, false] rfl rfl (any_of HT_.out (by kernel_rfl)) (fun _ _ _ h => h) (Or.inl ⟨by rfl, ?_⟩) ?_ ?_
            rotate_left
            · intro w'
              go_simp
              with_reducible rfl
            rotate_left
            · simp only [Act.put, List.setIfInBounds_toArray, List.set_cons_zero, List.set_cons_succ, i64_w, i32_w]
              rfl
            refine pure_ (i := 3) (N := some 15) (v := ?_) (a' := ?_) #[true, true, true, true, false, false, false, false, false, false, false, false, false, false, false, false, false, false, false, false, false, false] rfl rfl (any_of HT_.out (by kernel_rfl)) (fun _ _ _ h => h) (Or.inl ⟨by rfl, ?_⟩) ?_ ?_
            rotate_left
            · intro w'
              go_simp
              with_reducible rfl
            rotate_left
            · simp only [Act.put, List.setIfInBounds_toArray, List.set_cons_zero, List.set_cons_succ, i64_w, i32_w]
              rfl
            refine pure_ (i := 4) (N := some 16) (v := ?_) (a' := ?_) #[true, true, true, true, true, false, false, false, false, false, false, false, false, false, false, false, false, false, false, false, false, false] rfl rfl (any_of HT_.out (by kernel_rfl)) (fun _ _ _ h => h) (Or.inl ⟨by rfl, ?_⟩) ?_ ?_
            rotate_left
            · intro w'
              go_simp
              with_reducible rfl
            rotate_left
            · simp only [Act.put, List.setIfInBounds_toArray, List.set_cons_zero, List.set_cons_succ, i64_w, i32_w]
              rfl
            refine pure_ (i := 5) (N := some 17) (v := ?_) (a' := ?_) #[true, true, true, true, true, true, false, false, false, false, false, false, false, false, false, false, false, false, false, false, false, false] rfl rfl (any_of HT_.out (by kernel_rfl)) (fun _ _ _ h => h) (Or.inl ⟨by rfl, ?_⟩) ?_ ?_
            rotate_left
            · intro w'
              go_simp
              with_reducible rfl
            rotate_left
            · simp only [Act.put, List.setIfInBounds_toArray, List.set_cons_zero, List.set_cons_succ, i64_w, i32_w]
              rfl
            refine pure_ (i := 6) (N := some 18) (v := ?_) (a' := ?_) #[true, true, true, true, true, true, true, false, false, false, false, false, false, false, false, false, false, false, false, false, false, false] rfl rfl (any_of HT_.out (by kernel_rfl)) (fun _ _ _ h => h) (Or.inl ⟨by rfl, ?_⟩) ?_ ?_
            rotate_left
            · intro w'
              go_simp
              with_reducible rfl
            rotate_left
            · simp only [Act.put, List.setIfInBounds_toArray, List.set_cons_zero, List.set_cons_succ, i64_w, i32_w]
              rfl
            refine pure_ (i := 7) (N := some 19) (v := ?_) (a' := ?_) #[true, true, true, true, true, true, true, true, false, false, false, false, false, false, false, false, false, false, false, false, false, false] rfl rfl (any_of HT_.out (by kernel_rfl)) (fun _ _ _ h => h) (Or.inl ⟨by rfl, ?_⟩) ?_ ?_
            rotate_left
            · intro w'
              go_simp
              with_reducible rfl
            rotate_left
            · simp only [Act.put, List.setIfInBounds_toArray, List.set_cons_zero, List.set_cons_succ, i64_w, i32_w]
              rfl
            refine pure_ (i := 10) (N := some 22) (v := ?_) (a' := ?_) #[true, true, true, true, true, true, true, true, false, false, true, false, false, false, false, false, false, false, false, false, false, false] rfl rfl (any_of HT_.out (by kernel_rfl)) (fun _ _ _ h => h) (Or.inl ⟨by rfl, ?_⟩) ?_ ?_
            rotate_left
            · intro w'
              go_simp
              with_reducible rfl
            rotate_left
            · simp only [Act.put, List.setIfInBounds_toArray, List.set_cons_zero, List.set_cons_succ, i64_w, i32_w]
              rfl
            refine pure_ (i := 11) (N := some 23) (v := ?_) (a' := ?_) #[true, true, true, true, true, true, true, true, false, false, true, true, false, false, false, false, false, false, false, false, false, false] rfl rfl (any_of HT_.out (by kernel_rfl)) (fun _ _ _ h => h) (Or.inl ⟨by rfl, ?_⟩) ?_ ?_
            rotate_left
            · intro w'
              go_simp
              with_reducible rfl
            rotate_left
            · simp only [Act.put, List.setIfInBounds_toArray, List.set_cons_zero, List.set_cons_succ, i64_w, i32_w]
              rfl
            refine pure_ (i := 12) (N := some 24) (v := ?_) (a' := ?_) #[true, true, true, true, true, true, true, true, false, false, true, true, true, false, false, false, false, false, false, false, false, false] rfl rfl (any_of HT_.out (by kernel_rfl)) (fun _ _ _ h => h) (Or.inl ⟨by rfl, ?_⟩) ?_ ?_
            rotate_left
            · intro w'
              go_simp
              with_reducible rfl
            rotate_left
            · simp only [Act.put, List.setIfInBounds_toArray, List.set_cons_zero, List.set_cons_succ, i64_w, i32_w]
              rfl
            refine pure_ (i := 13) (N := some 25) (v := ?_) (a' := ?_) #[true, true, true, true, true, true, true, true, false, false, true, true, true, true, false, false, false, false, false, false, false, false] rfl rfl (any_of HT_.out (by kernel_rfl)) (fun _ _ _ h => h) (Or.inl ⟨by rfl, ?_⟩) ?_ ?_
            rotate_left
            · intro w'
              go_simp
              with_reducible rfl
            rotate_left
            · simp only [Act.put, List.setIfInBounds_toArray, List.set_cons_zero, List.set_cons_succ, i64_w, i32_w]
              rfl
            refine take_ (i := 8) (N := some 20) (v := ?_) (a' := ?_) #[true, true, true, true, true, true, true, true, true, false, true, true, true, true, false, false, false, false, false, false, false, false] rfl rfl (take_ofW HT_.out HW_.out (by kernel_rfl)) (fun _ _ _ h => h) (Or.inl ⟨by rfl, ?_⟩) hHeld ?_ ?_
            rotate_left
            · rintro w' ⟨s0, s1, s2, s3, s4, s5, s6, s7, s8, s9, s10, s11, s12, s13⟩
              go_simp
              with_reducible rfl
            rotate_left
            · simp only [Act.put, List.setIfInBounds_toArray, List.set_cons_zero, List.set_cons_succ, i64_w, i32_w]
              rfl
            refine pure_ (i := 9) (N := some 21) (v := ?_) (a' := ?_) #[true, true, true, true, true, true, true, true, true, true, true, true, true, true, false, false, false, false, false, false, false, false] rfl rfl (any_of HT_.out (by kernel_rfl)) (fun _ _ _ h => h) (Or.inl ⟨by rfl, ?_⟩) ?_ ?_
            rotate_left
            · intro w'
              go_simp
              with_reducible rfl
            rotate_left
            · simp only [Act.put, List.setIfInBounds_toArray, List.set_cons_zero, List.set_cons_succ, i64_w, i32_w]
              rfl
            refine take_ (i := 14) (N := some 26) (v := ?_) (a' := ?_) #[true, true, true, true, true, true, true, true, true, true, true, true, true, true, true, false, false, false, false, false, false, false] rfl rfl (take_ofW HT_.out HW_.out (by kernel_rfl)) (fun _ _ _ h => h) (Or.inl ⟨by rfl, ?_⟩) hHeld ?_ ?_
            rotate_left
            · rintro w' ⟨s0, s1, s2, s3, s4, s5, s6, s7, s8, s9, s10, s11, s12, s13⟩
              go_simp
              with_reducible rfl
            rotate_left
            · simp only [Act.put, List.setIfInBounds_toArray, List.set_cons_zero, List.set_cons_succ, i64_w, i32_w]
              rfl
            refine pure_ (i := 15) (N := some 27) (v := ?_) (a' := ?_) #[true, true, true, true, true, true, true, true, true, true, true, true, true, true, true, true, false, false, false, false, false, false] rfl rfl (any_of HT_.out (by kernel_rfl)) (fun _ _ _ h => h) (Or.inl ⟨by rfl, ?_⟩) ?_ ?_
            rotate_left
            · intro w'
              go_simp
              with_reducible rfl
            rotate_left
            · simp only [Act.put, List.setIfInBounds_toArray, List.set_cons_zero, List.set_cons_succ, i64_w, i32_w]
              rfl
            refine pure_ (i := 16) (N := some 28) (v := ?_) (a' := ?_) #[true, true, true, true, true, true, true, true, true, true, true, true, true, true, true, true, true, false, false, false, false, false] rfl rfl (any_of HT_.out (by kernel_rfl)) (fun _ _ _ h => h) (Or.inl ⟨by rfl, ?_⟩) ?_ ?_
            rotate_left
            · intro w'
              go_simp
              with_reducible rfl
            rotate_left
            · simp only [Act.put, List.setIfInBounds_toArray, List.set_cons_zero, List.set_cons_succ, i64_w, i32_w]
              rfl
            refine pure_ (i := 17) (N := some 29) (v := ?_) (a' := ?_) #[true, true, true, true, true, true, true, true, true, true, true, true, true, true, true, true, true, true, false, false, false, false] rfl rfl (any_of HT_.out (by kernel_rfl)) (fun _ _ _ h => h) (Or.inl ⟨by rfl, ?_⟩) ?_ ?_
            rotate_left
            · intro w'
              go_simp
              with_reducible rfl
            rotate_left
            · simp only [Act.put, List.setIfInBounds_toArray, List.set_cons_zero, List.set_cons_succ, i64_w, i32_w]
              rfl
            refine last_ (i := 18) (N := none) #[true, true, true, true, true, true, true, true, true, true, true, true, true, true, true, true, true, true, true, false, false, false] rfl rfl (one_of HT_.out (by kernel_rfl)) (by decide) (fun K hK => ?_)
            refine skip_ (w1 := ?_) (by rfl) rfl ?_ ?_
            rotate_left
            · go_simp
              rfl
            refine hK.out _ _ ?_
            clear hK K
            refine pure_ (i := 19) (N := some 30) (v := ?_) (a' := ?_) #[true, true, true, true, true, true, true, true, true, true, true, true, true, true, true, true, true, true, true, true, false, false] rfl rfl (any_of HT_.out (by kernel_rfl)) (fun _ _ _ h => h) (Or.inl ⟨by rfl, ?_⟩) ?_ ?_
            rotate_left
            · intro w'
              go_simp
              with_reducible rfl
            rotate_left
            · simp only [Act.put, List.setIfInBounds_toArray, List.set_cons_zero, List.set_cons_succ, i64_w, i32_w]
              rfl
            refine pure_ (i := 20) (N := some 31) (v := ?_) (a' := ?_) #[true, true, true, true, true, true, true, true, true, true, true, true, true, true, true, true, true, true, true, true, true, false] rfl rfl (any_of HT_.out (by kernel_rfl)) (fun _ _ _ h => h) (Or.inl ⟨by rfl, ?_⟩) ?_ ?_
            rotate_left
            · intro w'
              go_simp
              with_reducible rfl
            rotate_left
            · simp only [Act.put, List.setIfInBounds_toArray, List.set_cons_zero, List.set_cons_succ, i64_w, i32_w]
              rfl
            refine last_ (i := 21) (N := none) #[true, true, true, true, true, true, true, true, true, true, true, true, true, true, true, true, true, true, true, true, true, true] rfl rfl (one_of HT_.out (by kernel_rfl)) (by decide) (fun K hK => ?_)
            refine skip_ (w1 := ?_) (by rfl) rfl ?_ ?_
            rotate_left
            · go_simp
              rfl
            refine hK.out _ _ ?_
            clear hK K
            refine done_ (done_of HT_.out (by kernel_rfl)) ?_
            try go_wp2
            (try simp only [← hl3_1])
            go_roundg k1
            case measure => have := HK1.out; omega
            case rel => exact ⟨(y410), (wrap64 (x9_1 + 1)), (by first | rfl | (simp; done) | (simp [*]; done)), H', ⟨by have := HK1.out; omega⟩, ⟨by (try simp only [hl3_1]); (with_reducible repeat (first | apply Kd.R_alloc | apply Kd.R_drewN | apply Kd.R_drew)); exact HQ12.out⟩, ⟨by repeat (first | (with_reducible first | exact HB.out | apply below_alloc | apply pw_below_drewN | apply below_drew1 | refine below_set ?_ GB8.out | refine below_set ?_ GB8.out) | exact HB.out)⟩⟩
          · rw [if_neg c7] at H
            exact absurd H (by simp)
        · rw [if_neg c6] at H
          exact absurd H (by simp)
      · rw [if_neg c5] at H
        have c5b0 : decide (x9_1 < (t404.length : Int)) = false := decide_eq_false c5
        have c5b1 := c5b0
        rw [hl3_1] at c5b1
        clear c5
        obtain rfl := Option.some.inj H
        go_wp2
        go_ret
        exact ⟨_, by first | rfl | (simp [errW_none, errW_some] <;> rfl) | (simp [*, errW_none, errW_some] <;> rfl), by (with_reducible repeat (first | apply Kd.R_alloc | apply Kd.R_drewN | apply Kd.R_drew)); exact HO_3.out, by repeat (first | (with_reducible first | exact HB.out | apply below_alloc | apply pw_below_drewN | apply below_drew1) | exact HB.out)⟩

end Go.Proofs.Ytmflggbpiadkjaa.P
