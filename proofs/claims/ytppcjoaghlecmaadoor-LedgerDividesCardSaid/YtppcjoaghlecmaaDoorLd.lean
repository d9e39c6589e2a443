/- Texts of mine and of the print, joined: HandInj, Px18, HandCol, HandCls, HandBal, Px19, HandRaw, Px33, SpecDm, SpecDy, HandCur, SpecEn, Px1, Opn0, Opn, SpecW, SpecEr, HandLed, SpecLg, HandNew, HandPost, HandPut. -/
import Derived.Test.YtppcjoaghlecmaaDoorLc
import Derived.Test.YtppcjoaghlecmaaDoorLa
import Derived.Test.YtppcjoaghlecmaaDoorLb
import Derived.Carry
import Derived.StringKeys
import Derived.Maps.OwnRows
import Derived.Maps.OwnSet
import Derived.Maps.Views
import Derived.Maps.Keyed
import Derived.Laws.MakeOwn
import Derived.Laws.Strings
import Derived.Deep.QuietTactic
import Derived.BigQuiet
import Derived.Deep.RegionLaw
import Derived.Deep.Slices
import Derived.ChangeArms
import Derived.ChangeSame
import Derived.WideShapes
import Derived.Deep.RegionHeld3
import Derived.StillTailTactics
namespace Go.Proofs.YtppcjoaghlecmaaDoor.P
open Go.RowKit Go.Sort Go.Proofs.YtppcjoaghlecmaaDoorW.PrintWords Go.Proofs.YtppcjoaghlecmaaDoorW.PrintLast Go.Proofs.YtppcjoaghlecmaaDoorW.PrintMore
set_option linter.unusedVariables false
set_option linter.unusedSimpArgs false
def sheet_Match.f (a0_0 : ByteArray) (a0_1 : ByteArray) (a0_2 : ByteArray) (a0_3 : ByteArray) (a0_4 : ByteArray) (a1_0 : ByteArray) (a1_1 : ByteArray) (a1_2 : ByteArray) (a1_3 : ByteArray) (a1_4 : ByteArray) : Option Bool := some (matchK ⟨a0_0, a0_1, a0_2, a0_3, a0_4⟩ ⟨a1_0, a1_1, a1_2, a1_3, a1_4⟩)
theorem sheet_Match.calls (a0_0 : ByteArray) (a0_1 : ByteArray) (a0_2 : ByteArray) (a0_3 : ByteArray) (a0_4 : ByteArray) (a1_0 : ByteArray) (a1_1 : ByteArray) (a1_2 : ByteArray) (a1_3 : ByteArray) (a1_4 : ByteArray) (r : Bool) (w : World) (h : sheet_Match.f a0_0 a0_1 a0_2 a0_3 a0_4 a1_0 a1_1 a1_2 a1_3 a1_4 = some r) :
  Calls Tryd.prog 52 #[.agg #[.string a0_0, .string a0_1, .string a0_2, .string a0_3, .string a0_4], .agg #[.string a1_0, .string a1_1, .string a1_2, .string a1_3, .string a1_4]] w fun e w' => e = .returned (.bool r) ∧ Below w.heap.size w w' := by
 cases h
 refine (match_calls ⟨a0_0, a0_1, a0_2, a0_3, a0_4⟩ ⟨a1_0, a1_1, a1_2, a1_3, a1_4⟩ w).mono ?_
 rintro e w' ⟨rfl, hg⟩
 exact ⟨rfl, hg.below⟩
def keptK (x : S40) (mask : Int) : S40 := ⟨fldF x mask 5 0, fldF x mask 5 1, fldF x mask 5 2, fldF x mask 5 3, fldF x mask 5 4⟩
def sheet_kept.f (a0_0 : ByteArray) (a0_1 : ByteArray) (a0_2 : ByteArray) (a0_3 : ByteArray) (a0_4 : ByteArray) (a1 : Int) : Option (ByteArray × ByteArray × ByteArray × ByteArray × ByteArray) :=
 if 0 ≤ a1 ∧ a1 ≤ 31 then some ((keptK ⟨a0_0, a0_1, a0_2, a0_3, a0_4⟩ a1).f0, (keptK ⟨a0_0, a0_1, a0_2, a0_3, a0_4⟩ a1).f1, (keptK ⟨a0_0, a0_1, a0_2, a0_3, a0_4⟩ a1).f2, (keptK ⟨a0_0, a0_1, a0_2, a0_3, a0_4⟩ a1).f3, (keptK ⟨a0_0, a0_1, a0_2, a0_3, a0_4⟩ a1).f4) else none
theorem sheet_kept.calls (a0_0 : ByteArray) (a0_1 : ByteArray) (a0_2 : ByteArray) (a0_3 : ByteArray) (a0_4 : ByteArray) (a1 : Int) (r1 : ByteArray) (r2 : ByteArray) (r3 : ByteArray) (r4 : ByteArray) (r5 : ByteArray) (w : World) (h : sheet_kept.f a0_0 a0_1 a0_2 a0_3 a0_4 a1 = some (r1, r2, r3, r4, r5)) :
  Calls Tryd.prog 64 #[.agg #[.string a0_0, .string a0_1, .string a0_2, .string a0_3, .string a0_4], .int .i64 a1] w fun e w' => e = .returned (.agg #[.string r1, .string r2, .string r3, .string r4, .string r5]) ∧ Below w.heap.size w w' := by
 unfold sheet_kept.f at h
 by_cases hm : 0 ≤ a1 ∧ a1 ≤ 31
 ·rw [if_pos hm] at h
  cases h
  exact kept_calls ⟨a0_0, a0_1, a0_2, a0_3, a0_4⟩ a1 hm.1 hm.2 w
 ·rw [if_neg hm] at h
  cases h
def slices_Clone.f (l0 : List S112) : Option (List S112) := if l0.length ≤ 1000000 then some l0 else none
theorem slices_Clone.calls (A0 : Option Addr) (c0 : Nat) (l0 : List (S112)) (r : List (S112)) (w : World) (hr0 : Kd.C k112 w A0 l0.length l0) (hc0 : l0.length ≤ c0) (h : slices_Clone.f l0 = some r) :
  Calls Tryd.prog 63 #[.slice A0 l0.length c0] w fun e w' => ∃ v0_ : Value, e = .returned (v0_) ∧ Kd.R k112 112 w' w.heap.size (fun _ => True) v0_ r ∧ Below w.heap.size w w' := by
 unfold slices_Clone.f at h
 by_cases hm : l0.length ≤ 1000000
 ·rw [if_pos hm] at h
  cases h
  refine (clone_calls A0 c0 l0 w hr0 hc0 hm).mono ?_
  rintro e w' ⟨v, rfl, hR, hB⟩
  exact ⟨v, rfl, Kd.R_mono hR (fun _ _ => trivial), hB⟩
 ·rw [if_neg hm] at h
  cases h
def slices_Concat.f (l0 : List (List S112)) : Option (List S112) := if l0.length ≤ 1000 ∧ l0.flatten.length ≤ 1000000 then some l0.flatten else none
theorem slices_Concat.calls (A0 : Option Addr) (c0 : Nat) (l0 : List (List (S112))) (r : List (S112)) (w : World) (hr0 : Kd.C (Kd.slice 112 k112) w A0 l0.length l0) (hc0 : l0.length ≤ c0) (h : slices_Concat.f l0 = some r) :
  Calls Tryd.prog 66 #[.slice A0 l0.length c0] w fun e w' => ∃ v0_ : Value, e = .returned (v0_) ∧ Kd.R k112 112 w' w.heap.size (fun _ => True) v0_ r ∧ Below w.heap.size w w' := by
 unfold slices_Concat.f at h
 by_cases hm : l0.length ≤ 1000 ∧ l0.flatten.length ≤ 1000000
 ·rw [if_pos hm] at h
  cases h
  refine (concat_calls A0 c0 l0 w hr0 hc0 hm.1 hm.2).mono ?_
  rintro e w' ⟨v, rfl, hR, hB⟩
  exact ⟨v, rfl, Kd.R_mono hR (fun _ _ => trivial), hB⟩
 ·rw [if_neg hm] at h
  cases h
def OkS (l : List S112) : Prop := l.length ≤ 1000000 ∧ ∀ x ∈ l, i64ok x.f1 ∧ i64ok x.f2
instance (l : List S112) : Decidable (OkS l) := by unfold OkS; exact inferInstance
def sheet_Of.f (l0 : List S112) : Option (List S112 × Int) := if OkS l0 then some (ofK l0) else none
theorem sheet_Of.calls (A0 : Option Addr) (c0 : Nat) (l0 : List (S112)) (r1 : List (S112)) (r2 : Int) (w : World) (hr0 : Kd.C k112 w A0 l0.length l0) (hc0 : l0.length ≤ c0) (h : sheet_Of.f l0 = some (r1, r2)) :
  Calls Tryd.prog 31 #[.slice A0 l0.length c0] w fun e w' => ∃ v0_ : Value, e = .returned (.tuple #[v0_, .int .i64 r2]) ∧ Kd.R k112 112 w' w.heap.size (fun _ => True) v0_ r1 ∧ Below w.heap.size w w' := by
 unfold sheet_Of.f at h
 by_cases hm : OkS l0
 ·rw [if_pos hm] at h
  have h2 : ofK l0 = (r1, r2) := Option.some.inj h
  have h1 := of_calls A0 c0 l0 w hr0 hc0 hm.1 hm.2
  rw [h2] at h1
  exact h1
 ·rw [if_neg hm] at h
  cases h
end Go.Proofs.YtppcjoaghlecmaaDoor.P
namespace Go.Proofs.YtppcjoaghlecmaaDoor.P
open Go.RowKit Go.Proofs.YtppcjoaghlecmaaDoorW.PrintWords Go.Proofs.YtppcjoaghlecmaaDoorW.PrintLast Go.Proofs.YtppcjoaghlecmaaDoorW.PrintMore
attribute [local go_sem] max2_int min2_int max_two min_two max_three min_three max_four min_four
set_option linter.unusedVariables false
set_option linter.unusedSimpArgs false
def entry_sum.f (a0 : Int) (l1 : List Int) : Option (Int × Int) := (num_Sum.f l1).bind fun bt144 => (if bt144.2 = true then ((entry_within.f bt144.1 a0).bind fun t146 => (if t146 = true then (some (bt144.1, 0)) else (some (0, 4)))) else (some (0, 4)))
set_option maxHeartbeats 8000000 in
set_option maxRecDepth 100000 in
theorem entry_sum.calls (a0 : Int) (A1 : Option Addr) (c1 : Nat) (l1 : List Int) (r1 : Int) (r2 : Int) (w : World) (hr1 : Kd.C (Kd.int .i64) w A1 l1.length l1) (hc1 : l1.length ≤ c1) (h : entry_sum.f a0 l1 = some (r1, r2)) :
  Calls Tryd.prog 172 #[.int .i64 a0, .slice A1 l1.length c1] w fun e w' => e = .returned (.tuple #[.int .i64 r1, .int .i64 r2]) ∧ Drawn0 w w' := by
 have HR1 := Aside0.mk hr1
 have HC1 := Aside0.mk hc1
 clear hr1 hc1
 have H : ((num_Sum.f l1).bind fun bt144 => (if bt144.2 = true then ((entry_within.f bt144.1 a0).bind fun t146 => (if t146 = true then (some (bt144.1, 0)) else (some (0, 4)))) else (some (0, 4)))) = some (r1, r2) := h
 clear h
 replace H := Option.bind_eq_some_iff.mp H
 obtain ⟨⟨t144, t145⟩, A30, H⟩ := H
 try dsimp only at H
 have A3 := Aside0.mk A30
 clear A30
 by_cases c4 : t145 = true
 ·subst c4
  have H1 : ((entry_within.f t144 a0).bind fun t146 => (if t146 = true then (some (t144, 0)) else (some (0, 4)))) = some (r1, r2) := by rw [if_pos rfl] at H; exact H
  clear H
  have H := H1
  clear H1
  replace H := Option.bind_eq_some_iff.mp H
  obtain ⟨t146, A50, H⟩ := H
  replace H : (if t146 = true then (some (t144, 0)) else (some (0, 4))) = some (r1, r2) := H
  have A5 := Aside0.mk A50
  clear A50
  by_cases c6 : t146 = true
  ·subst c6
   have H1 : (some (t144, 0)) = some (r1, r2) := by rw [if_pos rfl] at H; exact H
   clear H
   have H := H1
   clear H1
   simp only [Option.some.injEq, Prod.mk.injEq] at H
   obtain ⟨rfl, rfl⟩ := H
   go_enter Tryd.func172, Tryd.ntmps172
   go_wp2_with (first | ((with_reducible refine gate_callee (f := 107) rfl ?_); refine goesL_ (some 10) rfl rfl Tryd.func107 (by kernel_rfl) rfl #[.slice A1 l1.length c1] rfl (by (try simp only [List.map_toArray, List.map_cons, List.map_nil]); first | done | rfl | (simp only [List.length_drop, List.length_take]; rfl)) ?_; (with_reducible refine (num_Sum.calls _ _ l1 t144 true _ ?side1 ?side2 A3.out).mono ?_); (case side1 => repeat (first | exact HR1.out | (with_reducible refine Kd.C_alloc ?_ _) | (with_reducible refine Kd.C_drewN ?_ _) | (with_reducible refine Kd.C_drew ?_))); (case side2 => exact HC1.out); rintro e w' ⟨rfl, ⟨nd, rfl⟩⟩; refine ⟨_, rfl, ?_⟩) | (go_at_call 134; (with_reducible refine (entry_within.calls t144 a0 true _ A5.out).mono ?_); rintro e w' ⟨rfl, ⟨nd, rfl⟩⟩))
   go_ret2
   exact ⟨by first | rfl | (simp; done) | (simp [*]; done), by repeat (first | exact Drawn0.refl _ | apply Drawn0.step)⟩
  ·replace c6 := Bool.eq_false_iff.mpr c6
   subst c6
   have H1 : (some (0, 4)) = some (r1, r2) := by rw [if_neg (show ¬ (false = true) by decide)] at H; exact H
   clear H
   have H := H1
   clear H1
   simp only [Option.some.injEq, Prod.mk.injEq] at H
   obtain ⟨rfl, rfl⟩ := H
   go_enter Tryd.func172, Tryd.ntmps172
   go_wp2_with (first | ((with_reducible refine gate_callee (f := 107) rfl ?_); refine goesL_ (some 10) rfl rfl Tryd.func107 (by kernel_rfl) rfl #[.slice A1 l1.length c1] rfl (by (try simp only [List.map_toArray, List.map_cons, List.map_nil]); first | done | rfl | (simp only [List.length_drop, List.length_take]; rfl)) ?_; (with_reducible refine (num_Sum.calls _ _ l1 t144 true _ ?side1 ?side2 A3.out).mono ?_); (case side1 => repeat (first | exact HR1.out | (with_reducible refine Kd.C_alloc ?_ _) | (with_reducible refine Kd.C_drewN ?_ _) | (with_reducible refine Kd.C_drew ?_))); (case side2 => exact HC1.out); rintro e w' ⟨rfl, ⟨nd, rfl⟩⟩; refine ⟨_, rfl, ?_⟩) | (go_at_call 134; (with_reducible refine (entry_within.calls t144 a0 false _ A5.out).mono ?_); rintro e w' ⟨rfl, ⟨nd, rfl⟩⟩))
   go_ret2
   exact ⟨by first | rfl | (simp; done) | (simp [*]; done), by repeat (first | exact Drawn0.refl _ | apply Drawn0.step)⟩
 ·replace c4 := Bool.eq_false_iff.mpr c4
  subst c4
  have H1 : (some (0, 4)) = some (r1, r2) := by rw [if_neg (show ¬ (false = true) by decide)] at H; exact H
  clear H
  have H := H1
  clear H1
  simp only [Option.some.injEq, Prod.mk.injEq] at H
  obtain ⟨rfl, rfl⟩ := H
  go_enter Tryd.func172, Tryd.ntmps172
  go_wp2_with (first | ((with_reducible refine gate_callee (f := 107) rfl ?_); refine goesL_ (some 10) rfl rfl Tryd.func107 (by kernel_rfl) rfl #[.slice A1 l1.length c1] rfl (by (try simp only [List.map_toArray, List.map_cons, List.map_nil]); first | done | rfl | (simp only [List.length_drop, List.length_take]; rfl)) ?_; (with_reducible refine (num_Sum.calls _ _ l1 t144 false _ ?side1 ?side2 A3.out).mono ?_); (case side1 => repeat (first | exact HR1.out | (with_reducible refine Kd.C_alloc ?_ _) | (with_reducible refine Kd.C_drewN ?_ _) | (with_reducible refine Kd.C_drew ?_))); (case side2 => exact HC1.out); rintro e w' ⟨rfl, ⟨nd, rfl⟩⟩; refine ⟨_, rfl, ?_⟩))
  go_ret2
  exact ⟨by first | rfl | (simp; done) | (simp [*]; done), by repeat (first | exact Drawn0.refl _ | apply Drawn0.step)⟩
end Go.Proofs.YtppcjoaghlecmaaDoor.P
namespace Go.Proofs.YtppcjoaghlecmaaDoor.P
open Go.RowKit Go.Sort Go.Proofs.YtppcjoaghlecmaaDoorW.PrintWords Go.Proofs.YtppcjoaghlecmaaDoorW.PrintLast Go.Proofs.YtppcjoaghlecmaaDoorW.PrintMore
set_option linter.unusedVariables false
set_option linter.unusedSimpArgs false
def Tch (b : Nat) (x y : Value) (k : Nat) : Prop := k = b ∨ x.ownBlock = some k ∨ y.ownBlock = some k
structure ColAt (w : World) (base b : Nat) (A B : List Int) (x y : Value) : Prop where
 blk : w.heap[b]? = some (.cells #[x, y] 228 (0, 0))
 ra : (Kd.int .i64).R 3 w base (fun _ => True) x A
 rb : (Kd.int .i64).R 3 w base (fun _ => True) y B
 ap : ∀ k, x.ownBlock = some k → y.ownBlock ≠ some k
 low : base ≤ b
section
variable {w w' w2 : World} {base b : Nat} {A B : List Int} {x y v1 : Value} {a : Int}
theorem int_over {e : Nat} {v : Value} {xs : List Int} (h : (Kd.int .i64).R e w base (fun _ => True) v xs) (hm : ∀ k, v.ownBlock = some k → k < w.heap.size → w'.heap[k]? = w.heap[k]?) : (Kd.int .i64).R e w' base (fun _ => True) v xs := by
 have h1 := Kd.R_mono (Kd.R_tight rfl h) (ok' := fun k => v.ownBlock = some k) (fun k hk => hk.symm)
 exact Kd.R_mono (Kd.R_step h1 hm) (fun _ _ => trivial)
theorem int_far {v : Value} {xs : List Int} {cs : Array Value} (h : (Kd.int .i64).R 3 w base (fun _ => True) v xs) (hb : w.heap[b]? = some (.cells cs 228 (0, 0))) (i : Nat) (u : Value) : (Kd.int .i64).R 3 (w.setCell ⟨b, i, none⟩ u) base (fun _ => True) v xs :=
 Kd.R_mono (Kd.R_far (p := ⟨b, i, none⟩) (Kd.R_types h hb (by decide)) (fun k hk => hk.2) u) (fun _ _ => trivial)
theorem int_lt {e : Nat} {v : Value} {xs : List Int} (h : (Kd.int .i64).R e w base (fun _ => True) v xs) {k : Nat} (hk : v.ownBlock = some k) : base ≤ k ∧ k < w.heap.size := by
 have := (Kd.R_bound h).1 k hk
 exact ⟨this.2.1, this.2.2.1⟩
theorem ColAt.lt (h : ColAt w base b A B x y) {k : Nat} (hk : Tch b x y k) : base ≤ k ∧ k < w.heap.size := by
 rcases hk with rfl | hk | hk
 ·exact ⟨h.low, blk_lt h.blk⟩
 ·exact int_lt h.ra hk
 ·exact int_lt h.rb hk
theorem ColAt.step (h : ColAt w base b A B x y) (hm : ∀ k, Tch b x y k → w'.heap[k]? = w.heap[k]?) : ColAt w' base b A B x y :=
 ⟨(hm b (.inl rfl)).trans h.blk, int_over h.ra (fun k hk _ => hm k (.inr (.inl hk))), int_over h.rb (fun k hk _ => hm k (.inr (.inr hk))), h.ap, h.low⟩
theorem ColAt.below (h : ColAt w base b A B x y) (hb : Below w.heap.size w w') : ColAt w' base b A B x y := h.step (fun k hk => hb.block k (h.lt hk).2)
theorem col_left (h : ColAt w base b A B x y) (hro : (Kd.int .i64).R 3 w2 base (fun _ => True) v1 (A ++ [a])) (hg : w.grownBy w2 x.ownBlock) (hat : v1.ownBlock = x.ownBlock ∨ ∃ q, v1.ownBlock = some q ∧ w.heap.size ≤ q) :
  ColAt (w2.setCell ⟨b, 0, none⟩ v1) base b (A ++ [a]) B v1 y ∧ But (Tch b x y) w (w2.setCell ⟨b, 0, none⟩ v1) ∧ ∀ k, Tch b v1 y k → Tch b x y k ∨ w.heap.size ≤ k := by
 have hb2 := blk_grown h.blk hg (Kd.R_ne h.ra h.blk (by decide))
 refine ⟨⟨blk_put hb2 0 _ rfl, int_far hro hb2 _ _, int_far (int_over h.rb (fun k hk hlt => hg.block k hlt (fun e => h.ap k e.symm hk))) hb2 _ _, fun k hk hy => ?_, h.low⟩, (But.of_grown hg (fun k e => .inr (.inl e))).setCell (.inl rfl) _, fun k hk => ?_⟩
 ·rcases hat with e | ⟨q, e, hq⟩
  ·exact h.ap k (e.symm.trans hk) hy
  ·have := (int_lt h.rb hy).2
   rw [e] at hk
   obtain rfl := Option.some.inj hk
   omega
 ·rcases hk with rfl | hk | hk
  ·exact .inl (.inl rfl)
  ·rcases hat with e | ⟨q, e, hq⟩
   ·exact .inl (.inr (.inl (e.symm.trans hk)))
   ·rw [e] at hk
    obtain rfl := Option.some.inj hk
    exact .inr hq
  ·exact .inl (.inr (.inr hk))
theorem col_right (h : ColAt w base b A B x y) (hro : (Kd.int .i64).R 3 w2 base (fun _ => True) v1 (B ++ [a])) (hg : w.grownBy w2 y.ownBlock) (hat : v1.ownBlock = y.ownBlock ∨ ∃ q, v1.ownBlock = some q ∧ w.heap.size ≤ q) :
  ColAt (w2.setCell ⟨b, 1, none⟩ v1) base b A (B ++ [a]) x v1 ∧ But (Tch b x y) w (w2.setCell ⟨b, 1, none⟩ v1) ∧ ∀ k, Tch b x v1 k → Tch b x y k ∨ w.heap.size ≤ k := by
 have hb2 := blk_grown h.blk hg (Kd.R_ne h.rb h.blk (by decide))
 refine ⟨⟨blk_put hb2 1 _ rfl, int_far (int_over h.ra (fun k hk hlt => hg.block k hlt (fun e => h.ap k hk e.symm))) hb2 _ _, int_far hro hb2 _ _, fun k hk hy => ?_, h.low⟩, (But.of_grown hg (fun k e => .inr (.inr e))).setCell (.inl rfl) _, fun k hk => ?_⟩
 ·rcases hat with e | ⟨q, e, hq⟩
  ·exact h.ap k hk (e.symm.trans hy)
  ·have := (int_lt h.ra hk).2
   rw [e] at hy
   obtain rfl := Option.some.inj hy
   omega
 ·rcases hk with rfl | hk | hk
  ·exact .inl (.inl rfl)
  ·exact .inl (.inr (.inl hk))
  ·rcases hat with e | ⟨q, e, hq⟩
   ·exact .inl (.inr (.inr (e.symm.trans hk)))
   ·rw [e] at hk
    obtain rfl := Option.some.inj hk
    exact .inr hq
end
set_option maxHeartbeats 4000000 in
set_option maxRecDepth 100000 in
theorem add_calls (base b : Nat) (A B : List Int) (x y : Value) (l0 l1 l4 l5 : ByteArray) (a c : Int) (v6 : Value) (w : World) (h : ColAt w base b A B x y) (hA : A.length ≤ 1000000) (hB : B.length ≤ 1000000) (hbs : base ≤ w.heap.size) :
  Calls Tryd.prog 171 #[.pointer (some ⟨b, 0, none⟩), .agg #[.string l0, .string l1, .int .i64 a, .int .i64 c, .string l4, .string l5, v6]] w fun e w' => e = .returned (.tuple #[]) ∧ ∃ x' y', ColAt w' base b (A ++ [a]) (B ++ [c]) x' y' ∧ But (Tch b x y) w w' ∧ ∀ k, Tch b x' y' k → Tch b x y k ∨ w.heap.size ≤ k := by
 have HC := Aside0.mk h
 clear h
 go_enter Tryd.func171, Tryd.ntmps171
 go_upto_region 1 with (fail)
 refine with_world (P := fun x => Code.wp _ _ _ _ x) _ ?_
 intro w1 hw1
 have HB1 := Aside0.mk (show Below w.heap.size w w1 from by rw [hw1]; exact below_alloc (Below.refl _ _) _)
 have HK1 := Aside0.mk (show w1.heap[w.heap.size]? = some (.cells #[.string l0, .string l1, .int .i64 a, .int .i64 c, .string l4, .string l5, v6] 109 (0, 0)) from by rw [hw1]; exact blk_new w _)
 obtain ⟨g, hg⟩ : ∃ g, w.heap.size = g := ⟨_, rfl⟩
 have HG := Aside0.mk hg
 rw [hg] at HK1 ⊢
 clear hw1 hg
 have HC1 := Aside0.mk (HC.out.below HB1.out)
 have HCD := Aside0.mk (show ColAt w1.drew base b A B x y from HC1.out.step (fun _ _ => rfl))
 have HKD := Aside0.mk (show w1.drew.heap[g]? = some (.cells #[.string l0, .string l1, .int .i64 a, .int .i64 c, .string l4, .string l5, v6] 109 (0, 0)) from HK1.out)
 have HBG := Aside0.mk (show b ≠ g from by have := blk_lt HC.out.blk; have := HG.out; omega)
 have HS1 := Aside0.mk (show base ≤ w1.drew.heap.size from Nat.le_trans hbs HB1.out.size)
 have HWS := Aside0.mk (show w.heap.size ≤ w1.drew.heap.size from HB1.out.size)
 go_cut [4, 5, 6, 7, 8, 9, 10, 11, 12, 13, 14] (fun _ _ _ _ _ _ _ _ _ _ _ wc => ∃ x', Aside0 (ColAt wc base b (A ++ [a]) B x' y) ∧ Aside0 (But (Tch b x y) w wc) ∧ Aside0 (∀ k, Tch b x' y k → Tch b x y k ∨ w.heap.size ≤ k) ∧ Aside0 (wc.heap[g]? = some (.cells #[.string l0, .string l1, .int .i64 a, .int .i64 c, .string l4, .string l5, v6] 109 (0, 0))))
 case first =>
  have c0 := (blk_cell HC1.out.blk 0).trans rfl
  have q2 := (blk_cell HK1.out 2).trans rfl
  have hbl := blk_lt HC1.out.blk
  have hgl := blk_lt HK1.out
  go_region_law (first | (refine Kd.R_append_step (Kd.int .i64) (w0 := w1) (W := w1.drew) base (by rfl) (.tmp 8) (.tmp 11) 43 3 (.int .i64 0) 8 rfl Tryd.underlying43 info3 rfl (by decide) (by omega) x A a [.int .i64 a] (fun _ => True) (fun _ => False) rfl rfl ?aP (fun _ hk => hk.elim) ?aF ?aO ?aB ?aS ?aL ?_; (case aP => exact rfl); (case aF => exact fun k hk => trivial); (case aO => exact HCD.out.ra); (case aB => exact ⟨rfl, rfl, rfl, Nat.le_refl _, fun _ _ => rfl⟩); (case aS => exact HS1.out); (case aL => omega); intro v1 w2 hro hbl hg hat; obtain ⟨A1, c1, rfl⟩ := Kd.R_slice hro; have HRO1 := Aside0.mk hro; have HGR1 := Aside0.mk hg; have HAT1 := Aside0.mk hat; have B2 := blk_grown HCD.out.blk hg (Kd.R_ne HCD.out.ra HCD.out.blk (by decide)); have crs1 := (blk_cell B2 0).trans rfl; have frs1 := blk_frozen B2 0; clear hro hbl hg hat B2))
  all_goals
   go_wp2
   go_meet
   case rel =>
    have HX := col_left HCD.out HRO1.out HGR1.out HAT1.out
    rw [show (A ++ [a]).length = A.length + 1 by simp] at HX
    exact ⟨_, ⟨HX.1⟩, ⟨(But.of_below (below_drew HB1.out) _).trans HX.2.1⟩, ⟨fun k hk => (HX.2.2 k hk).imp id (Nat.le_trans HWS.out)⟩, ⟨(Below.heap_setCell _ _ _ _ HBG.out.symm).trans (blk_grown HKD.out HGR1.out (Kd.R_ne HCD.out.ra HKD.out (by decide)))⟩⟩
 case rest =>
  obtain ⟨x', HCC, HBC, HTC, HKC⟩ := hcut
  clear HC1 HCD HKD HK1 HC
  have HCE := Aside0.mk (show ColAt wc.drew base b (A ++ [a]) B x' y from HCC.out.step (fun _ _ => rfl))
  have HS2 := Aside0.mk (show base ≤ wc.drew.heap.size from Nat.le_trans hbs HBC.out.size)
  have c0 := (blk_cell HCC.out.blk 1).trans rfl
  have q2 := (blk_cell HKC.out 3).trans rfl
  have hbl := blk_lt HCC.out.blk
  have hgl := blk_lt HKC.out
  go_upto_region 2 with (fail)
  go_region_law (first | (refine Kd.R_append_step (Kd.int .i64) (w0 := wc) (W := wc.drew) base (by rfl) (.tmp 19) (.tmp 22) 43 3 (.int .i64 0) 8 rfl Tryd.underlying43 info3 rfl (by decide) (by omega) y B c [.int .i64 c] (fun _ => True) (fun _ => False) rfl rfl ?aP (fun _ hk => hk.elim) ?aF ?aO ?aB ?aS ?aL ?_; (case aP => exact rfl); (case aF => exact fun k hk => trivial); (case aO => exact HCE.out.rb); (case aB => exact ⟨rfl, rfl, rfl, Nat.le_refl _, fun _ _ => rfl⟩); (case aS => exact HS2.out); (case aL => omega); intro v1 w4 hro hbl hg hat; obtain ⟨A2, c2, rfl⟩ := Kd.R_slice hro; have HRO2 := Aside0.mk hro; have HGR2 := Aside0.mk hg; have HAT2 := Aside0.mk hat; have B2 := blk_grown HCE.out.blk hg (Kd.R_ne HCE.out.rb HCE.out.blk (by decide)); have crs2 := (blk_cell B2 1).trans rfl; have frs2 := blk_frozen B2 1; clear hro hbl hg hat B2))
  all_goals
   go_end0
   have HX := col_right HCE.out HRO2.out HGR2.out HAT2.out
   rw [show (B ++ [c]).length = B.length + 1 by simp] at HX
   have hbd : But (Tch b x y) wc wc.drew := But.of_below (below_drew (Below.refl _ _)) _
   have hsub : ∀ k, k < w.heap.size → Tch b x' y k → Tch b x y k := fun k hk h => (HTC.out k h).elim id (fun h2 => by omega)
   refine ⟨rfl, _, _, HX.1, ?_, fun k hk => ?_⟩
   ·exact ⟨(HBC.out.trans hbd).os ▸ HX.2.1.os, (HBC.out.trans hbd).tape ▸ HX.2.1.tape, (HBC.out.trans hbd).output ▸ HX.2.1.output, Nat.le_trans HBC.out.size HX.2.1.size, fun k hk hn => (HX.2.1.block k (Nat.lt_of_lt_of_le hk HBC.out.size) (fun h => hn (hsub k hk h))).trans (HBC.out.block k hk hn)⟩
   ·exact (HX.2.2 k hk).elim (fun h => HTC.out k h) (fun h => .inr (Nat.le_trans HBC.out.size h))
theorem sum_zero {l : List Int} (hl : l.length ≤ 1000000) (hi : ∀ x ∈ l, i64ok x) : entry_sum.f 0 l = some (0, if l.sum = 0 then 0 else 4) := by
 unfold entry_sum.f num_Sum.f
 rw [if_pos hl, if_pos hi]
 by_cases h : i64ok l.sum
 ·rw [if_pos h]
  simp only [Option.bind_some, if_true]
  unfold entry_within.f
  have e : wrap64 (-0) = 0 := by decide +kernel
  rw [e]
  by_cases h0 : l.sum = 0
  ·rw [if_pos (by omega), if_pos h0, h0]
   rfl
  ·rw [if_neg h0]
   by_cases h1 : l.sum ≥ 0
   ·rw [if_pos h1, decide_eq_false (by omega)]
    rfl
   ·rw [if_neg h1]
    rfl
 ·rw [if_neg h]
  have h0 : l.sum ≠ 0 := fun e => h (by rw [e]; unfold i64ok; omega)
  rw [if_neg h0]
  rfl
theorem sum_is {A : Option Addr} {c : Nat} {l : List Int} {w : World} (hr : (Kd.int .i64).C w A l.length l) (hc : l.length ≤ c) (hl : l.length ≤ 1000000) (hi : ∀ x ∈ l, i64ok x) {z : Int} (hz : (if l.sum = 0 then (0 : Int) else 4) = z) :
  Calls Tryd.prog 172 #[.int .i64 0, .slice A l.length c] w fun e w' => e = .returned (.tuple #[.int .i64 0, .int .i64 z]) ∧ Drawn0 w w' :=
 entry_sum.calls 0 A c l 0 z w hr hc (by rw [sum_zero hl hi, hz])
set_option maxHeartbeats 4000000 in
set_option maxRecDepth 100000 in
theorem both_calls (base b : Nat) (A B : List Int) (x y : Value) (w : World) (h : ColAt w base b A B x y) (hA : A.length ≤ 1000000) (hB : B.length ≤ 1000000) (iA : ∀ z ∈ A, i64ok z) (iB : ∀ z ∈ B, i64ok z) :
  Calls Tryd.prog 137 #[.pointer (some ⟨b, 0, none⟩), .int .i64 0] w fun e w' => e = .returned (.tuple #[.int .i64 0, .int .i64 0, .int .i64 (if A.sum = 0 ∧ B.sum = 0 then 0 else 4)]) ∧ Below w.heap.size w w' := by
 obtain ⟨Aa, ca, rfl⟩ := Kd.R_slice h.ra
 obtain ⟨Ab, cb, rfl⟩ := Kd.R_slice h.rb
 have HRA := Aside0.mk (Kd.R_reads' h.ra)
 have HRB := Aside0.mk (Kd.R_reads' h.rb)
 have HBK := Aside0.mk h.blk
 have HIA := Aside0.mk iA
 have HIB := Aside0.mk iB
 have HLA := Aside0.mk hA
 have HLB := Aside0.mk hB
 have c0 := (blk_cell h.blk 0).trans rfl
 clear h iA iB hA hB
 obtain ⟨za, hza⟩ : ∃ z, (if A.sum = 0 then (0 : Int) else 4) = z := ⟨_, rfl⟩
 obtain ⟨zb, hzb⟩ : ∃ z, (if B.sum = 0 then (0 : Int) else 4) = z := ⟨_, rfl⟩
 have HZA := Aside0.mk hza
 have HZB := Aside0.mk hzb
 by_cases hA0 : A.sum = 0
 ·rw [if_pos hA0] at hza
  subst hza
  by_cases hB0 : B.sum = 0
  ·rw [if_pos hB0] at hzb
   subst hzb
   rw [if_pos ⟨hA0, hB0⟩]
   clear hA0 hB0
   go_enter Tryd.func137, Tryd.ntmps137
   go_wp2_with (first | (go_at_call 172; (with_reducible refine (sum_is HRA.out.2.2 HRA.out.2.1 HLA.out HIA.out HZA.out).mono ?_); rintro e w' ⟨rfl, ⟨nd, rfl⟩⟩; have c1 := (blk_cell (blk_drewN HBK.out nd) 1).trans rfl; have HRB2 := Aside0.mk (Kd.C_drewN HRB.out.2.2 nd); clear c0) | (go_at_call 172; (with_reducible refine (sum_is HRB2.out HRB.out.2.1 HLB.out HIB.out HZB.out).mono ?_); rintro e w' ⟨rfl, hd_⟩; have HD := Aside0.mk hd_; clear hd_ c1))
   go_ret3
   exact ⟨rfl, below_then (pw_below_drewN (Below.refl _ _) _) (Nat.le_refl _) HD.out.below⟩
  ·rw [if_neg hB0] at hzb
   subst hzb
   rw [if_neg (fun h => hB0 h.2)]
   clear hA0 hB0
   go_enter Tryd.func137, Tryd.ntmps137
   go_wp2_with (first | (go_at_call 172; (with_reducible refine (sum_is HRA.out.2.2 HRA.out.2.1 HLA.out HIA.out HZA.out).mono ?_); rintro e w' ⟨rfl, ⟨nd, rfl⟩⟩; have c1 := (blk_cell (blk_drewN HBK.out nd) 1).trans rfl; have HRB2 := Aside0.mk (Kd.C_drewN HRB.out.2.2 nd); clear c0) | (go_at_call 172; (with_reducible refine (sum_is HRB2.out HRB.out.2.1 HLB.out HIB.out HZB.out).mono ?_); rintro e w' ⟨rfl, hd_⟩; have HD := Aside0.mk hd_; clear hd_ c1))
   go_ret3
   exact ⟨rfl, below_then (pw_below_drewN (Below.refl _ _) _) (Nat.le_refl _) HD.out.below⟩
 ·rw [if_neg hA0] at hza
  subst hza
  rw [if_neg (fun h => hA0 h.1)]
  clear hA0 hzb
  go_enter Tryd.func137, Tryd.ntmps137
  go_wp2_with (first | (go_at_call 172; (with_reducible refine (sum_is HRA.out.2.2 HRA.out.2.1 HLA.out HIA.out HZA.out).mono ?_); rintro e w' ⟨rfl, hd_⟩; have HD := Aside0.mk hd_; clear hd_ c0))
  go_ret3
  exact ⟨rfl, HD.out.below⟩
end Go.Proofs.YtppcjoaghlecmaaDoor.P
namespace Go.Proofs.YtppcjoaghlecmaaDoor.P
open Go.RowKit Go.Sort Go.Proofs.YtppcjoaghlecmaaDoorW.PrintWords Go.Proofs.YtppcjoaghlecmaaDoorW.PrintLast Go.Proofs.YtppcjoaghlecmaaDoorW.PrintMore Go.Maps Go.ChangeShapes Go.WideShapes Go.WideMaps
set_option linter.unusedVariables false
set_option linter.unusedSimpArgs false
def vR (v : Value) : Option (DataW Value × List MemPlace) := some (.held v, [])
theorem zero210 (w : World) : (zeroValue 210).run Tryd.prog w = .ok (.pointer none) w := by kernel_rfl
theorem strKeyed : Keyed Tryd.prog 9 := string_keyed Tryd.underlying9
theorem keyS {s : ByteArray} (h : s.size ≤ maxLen) : keyOf Tryd.prog 9 (.string s) = some (.string s.data.toList) := keyOf_string_mk Tryd.underlying9 h
theorem lit_ne {a b : ByteArray} (h : a ≠ b) : Lit.string a.data.toList ≠ Lit.string b.data.toList := by
 intro h'
 simp only [Lit.string.injEq] at h'
 exact h (ByteArray.ext (Array.ext' h'))
structure Cl where
 key : ByteArray
 A : List Int
 B : List Int
 b : Nat
 x : Value
 y : Value
def Cl.t (c : Cl) (k : Nat) : Prop := Tch c.b c.x c.y k
def ptrL (L : List Cl) (s : ByteArray) : Value := match L.find? (fun c => decide (c.key = s)) with | some c => .pointer (some ⟨c.b, 0, none⟩) | none => .pointer none
structure Cols (w : World) (base m n : Nat) (L : List Cl) : Prop where
 map : ∃ D : DataW Value, w.ownsMap Tryd.prog 9 vR m n D ∧ ∀ s : ByteArray, s.size ≤ maxLen → D.atKey (.string s.data.toList) (.held (.pointer none)) = .held (ptrL L s)
 col : ∀ c ∈ L, ColAt w base c.b c.A c.B c.x c.y
 apart : L.Pairwise (fun c d => ∀ k, c.t k → ¬ d.t k)
 keys : L.Pairwise (fun c d => c.key ≠ d.key)
 off : ∀ c ∈ L, ¬ c.t m
 low : base ≤ m
 lt : m < w.heap.size
section
variable {w w' : World} {base m n : Nat} {L : List Cl}
theorem Cols.step (h : Cols w base m n L) (hm : w'.heap[m]? = w.heap[m]?) (hc : ∀ c ∈ L, ∀ k, c.t k → w'.heap[k]? = w.heap[k]?) : Cols w' base m n L := by
 obtain ⟨D, ⟨es, clock, h1, h2⟩, hD⟩ := h.map
 exact ⟨⟨D, ⟨es, clock, hm.trans h1, h2⟩, hD⟩, fun c hL => (h.col c hL).step (hc c hL), h.apart, h.keys, h.off, h.low, (Array.getElem?_eq_some_iff.1 (hm.trans h1)).1⟩
theorem Cols.below (h : Cols w base m n L) (hb : Below w.heap.size w w') : Cols w' base m n L :=
 h.step (hb.block m h.lt) (fun c hL k hk => hb.block k ((h.col c hL).lt hk).2)
theorem Cols.look (h : Cols w base m n L) {s : ByteArray} (hs : s.size ≤ maxLen) : (Instr.lookup 204 (.map (some m)) (.string s) false).run Tryd.prog w = .ok (ptrL L s) w := by
 obtain ⟨D, ho, hD⟩ := h.map
 obtain ⟨v, ps, hrun, hv⟩ := ho.lookup strKeyed Tryd.underlying204 (zero210 w) (zd := .held (.pointer none)) (zp := []) rfl (keyS hs)
 rw [hrun]
 simp only [vR, Option.some.injEq, Prod.mk.injEq] at hv
 rw [hD s hs] at hv
 simp only [DataW.held.injEq] at hv
 rw [hv.1]
theorem ptrL_none {s : ByteArray} (h : ∀ c ∈ L, c.key ≠ s) : ptrL L s = .pointer none := by
 unfold ptrL
 rw [List.find?_eq_none.2 (fun c hc => by simpa using h c hc)]
theorem ptrL_some {c : Cl} (hk : L.Pairwise (fun c d => c.key ≠ d.key)) (hc : c ∈ L) : ptrL L c.key = .pointer (some ⟨c.b, 0, none⟩) := by
 unfold ptrL
 have : L.find? (fun d => decide (d.key = c.key)) = some c := by
  induction L with
  | nil => cases hc
  | cons d r ih =>
   rw [List.pairwise_cons] at hk
   rcases List.mem_cons.1 hc with rfl | hc
   ·rw [List.find?_cons_of_pos (by simp)]
   ·rw [List.find?_cons_of_neg (by simpa using hk.1 c hc)]
    exact ih hk.2 hc
 rw [this]
theorem ptrL_snoc {c : Cl} (s : ByteArray) : ptrL (L ++ [c]) s = if c.key = s ∧ (∀ d ∈ L, d.key ≠ s) then .pointer (some ⟨c.b, 0, none⟩) else ptrL L s := by
 unfold ptrL
 rw [List.find?_append]
 cases hf : L.find? (fun c => decide (c.key = s)) with
 | none =>
  have hn : ∀ d ∈ L, d.key ≠ s := fun d hd => by simpa using List.find?_eq_none.1 hf d hd
  by_cases e : c.key = s
  ·rw [if_pos ⟨e, hn⟩]
   simp [e]
  ·rw [if_neg (fun h => e h.1)]
   simp [e]
 | some d =>
  have hd : d ∈ L ∧ d.key = s := ⟨List.mem_of_find?_eq_some hf, by simpa using List.find?_some hf⟩
  rw [if_neg (fun h => h.2 d hd.1 hd.2)]
  simp
theorem Cols.put (h : Cols w base m n L) {s : ByteArray} (hs : s.size ≤ maxLen) (hn : n < maxLen) (hnew : ∀ c ∈ L, c.key ≠ s) {b : Nat} (hb : w.heap[b]? = some (.cells #[.slice none 0 0, .slice none 0 0] 228 (0, 0))) (hbb : base ≤ b) (hfar : ∀ c ∈ L, ¬ c.t b) :
  ∃ w', (Instr.mapUpdate 204 (.map (some m)) (.string s) (.pointer (some ⟨b, 0, none⟩))).run Tryd.prog w = .ok () w' ∧ Cols w' base m (n + 1) (L ++ [⟨s, [], [], b, .slice none 0 0, .slice none 0 0⟩]) ∧ w.grownBy w' (some m) := by
 obtain ⟨D, ho, hD⟩ := h.map
 have hM := World.ownsMap.isMap ho
 obtain ⟨w', hrun, ho', hg⟩ := ho.update strKeyed Tryd.underlying204 hn (val := .pointer (some ⟨b, 0, none⟩)) (d := .held (.pointer (some ⟨b, 0, none⟩))) (ps := []) (keyS hs) rfl
 have hbm : b ≠ m := by
  rintro rfl
  obtain ⟨es, cl, h1, _⟩ := ho
  rw [hb] at h1
  cases h1
 have hblk : ∀ k, k < w.heap.size → k ≠ m → w'.heap[k]? = w.heap[k]? := fun k hk hne => hg.block k hk (fun e => hne (Option.some.inj e))
 have ht : ∀ k, Tch b (.slice none 0 0) (.slice none 0 0) k → k = b := fun k hk => by
  rcases hk with e | e | e
  ·exact e
  ·cases e
  ·cases e
 refine ⟨w', hrun, ⟨⟨_, ho', fun t hts => ?_⟩, fun c hc => ?_, ?_, ?_, fun c hc => ?_, h.low, Nat.lt_of_lt_of_le h.lt hg.size⟩, hg⟩
 ·rw [ptrL_snoc]
  by_cases e : s = t
  ·subst e
   rw [atKey_put_same hM (strKeyed.key (keyS hs)), if_pos ⟨rfl, hnew⟩]
  ·rw [atKey_put_other (lit_ne (fun e2 => e e2.symm)), if_neg (fun h => e h.1), hD t hts]
 ·rcases List.mem_append.1 hc with hc | hc
  ·exact (h.col c hc).step (fun k hk => hblk k ((h.col c hc).lt hk).2 (fun e => h.off c hc (e ▸ hk)))
  ·rw [List.mem_singleton] at hc
   subst hc
   exact ⟨(hblk b (blk_lt hb) hbm).trans hb, Kd.R_nil _ _ _ _ _, Kd.R_nil _ _ _ _ _, (fun k hk => by cases hk), hbb⟩
 ·rw [List.pairwise_append]
  refine ⟨h.apart, List.pairwise_singleton _ _, fun c hc d hd k hk hk2 => ?_⟩
  rw [List.mem_singleton] at hd
  subst hd
  have := ht k hk2
  subst this
  exact hfar c hc hk
 ·rw [List.pairwise_append]
  refine ⟨h.keys, List.pairwise_singleton _ _, fun c hc d hd => ?_⟩
  rw [List.mem_singleton] at hd
  subst hd
  exact hnew c hc
 ·rcases List.mem_append.1 hc with hc | hc
  ·exact h.off c hc
  ·rw [List.mem_singleton] at hc
   subst hc
   exact fun hk => hbm (ht m hk).symm
theorem get_set' {α : Type} {l : List α} {j i : Nat} {x y : α} (h : (l.set j x)[i]? = some y) : (i = j ∧ y = x) ∨ (i ≠ j ∧ l[i]? = some y) := by
 rw [List.getElem?_set] at h
 by_cases e : j = i
 ·rw [if_pos e] at h
  split at h
  ·exact .inl ⟨e.symm, (Option.some.inj h).symm⟩
  ·cases h
 ·rw [if_neg e] at h
  exact .inr ⟨fun h => e h.symm, h⟩
theorem pair_at {α : Type} {R : α → α → Prop} {l : List α} (h : l.Pairwise R) {i j : Nat} {x y : α} (hij : i < j) (hi : l[i]? = some x) (hj : l[j]? = some y) : R x y := by
 obtain ⟨hi', rfl⟩ := List.getElem?_eq_some_iff.1 hi
 obtain ⟨hj', rfl⟩ := List.getElem?_eq_some_iff.1 hj
 exact List.pairwise_iff_getElem.1 h i j hi' hj' hij
theorem pair_set {α : Type} {R : α → α → Prop} {l : List α} (h : l.Pairwise R) {j : Nat} {z c : α} (hc : l[j]? = some c) (h1 : ∀ i d, i < j → l[i]? = some d → R d c → R d z) (h2 : ∀ i d, j < i → l[i]? = some d → R c d → R z d) : (l.set j z).Pairwise R := by
 rw [List.pairwise_iff_getElem]
 intro i1 i2 k1 k2 hlt
 rcases get_set' (List.getElem?_eq_getElem k1) with ⟨e1, b1⟩ | ⟨n1, b1⟩
 ·rcases get_set' (List.getElem?_eq_getElem k2) with ⟨e2, _⟩ | ⟨n2, b2⟩
  ·omega
  ·rw [b1]
   exact h2 i2 _ (by omega) b2 (pair_at h (by omega) hc b2)
 ·rcases get_set' (List.getElem?_eq_getElem k2) with ⟨e2, b2⟩ | ⟨n2, b2⟩
  ·rw [b2]
   exact h1 i1 _ (by omega) b1 (pair_at h (by omega) b1 hc)
  ·exact pair_at h hlt b1 b2
theorem Cols.turn (h : Cols w base m n L) {j : Nat} {c z : Cl} (hc : L[j]? = some c) (hz : ColAt w' base z.b z.A z.B z.x z.y) (hk : z.key = c.key) (hb : z.b = c.b) (hB : But c.t w w') (ht : ∀ k, z.t k → c.t k ∨ w.heap.size ≤ k) : Cols w' base m n (L.set j z) := by
 have hcm : c ∈ L := List.mem_of_getElem? hc
 have hmb : w'.heap[m]? = w.heap[m]? := hB.block m h.lt (h.off c hcm)
 have htl : ∀ d ∈ L, ∀ k, d.t k → k < w.heap.size := fun d hd k hk => ((h.col d hd).lt hk).2
 obtain ⟨D, ⟨es, clock, h1, h2⟩, hD⟩ := h.map
 have hj := (List.getElem?_eq_some_iff.1 hc).1
 refine ⟨⟨D, ⟨es, clock, hmb.trans h1, h2⟩, fun s hs => ?_⟩, fun d hd => ?_, ?_, ?_, fun d hd => ?_, h.low, Nat.lt_of_lt_of_le h.lt hB.size⟩
 ·rw [hD s hs]
  have : ∀ (M : List Cl) (j : Nat), M[j]? = some c → (M.set j z).find? (fun c => decide (c.key = s)) = (M.find? (fun c => decide (c.key = s))).map (fun d => if d.key = s ∧ False then z else d) ∨ ptrL (M.set j z) s = ptrL M s := by
   intro M
   induction M with
   | nil => intro j hj; simp at hj
   | cons d r ih =>
    intro j hj
    right
    cases j with
    | zero =>
     obtain rfl : d = c := by simpa using hj
     unfold ptrL
     rw [List.set_cons_zero]
     by_cases e : d.key = s
     ·rw [List.find?_cons_of_pos (by simp [hk, e]), List.find?_cons_of_pos (by simp [e]), ]
      simp only [hb]
     ·rw [List.find?_cons_of_neg (by simp [hk, e]), List.find?_cons_of_neg (by simp [e])]
    | succ j =>
     rw [List.set_cons_succ]
     unfold ptrL
     by_cases e : d.key = s
     ·rw [List.find?_cons_of_pos (by simp [e]), List.find?_cons_of_pos (by simp [e])]
     ·rw [List.find?_cons_of_neg (by simp [e]), List.find?_cons_of_neg (by simp [e])]
      rcases ih j (by simpa using hj) with h3 | h3
      ·rw [h3]
       cases r.find? (fun c => decide (c.key = s)) <;> simp
      ·exact h3
  rcases this L j hc with h3 | h3
  ·unfold ptrL
   rw [h3]
   cases L.find? (fun c => decide (c.key = s)) <;> simp
  ·rw [h3]
 ·obtain ⟨i, hi⟩ := List.mem_iff_getElem?.1 hd
  rcases get_set' hi with ⟨_, rfl⟩ | ⟨hne, hi⟩
  ·exact hz
  ·have hdm := List.mem_of_getElem? hi
   refine (h.col d hdm).step (fun k hk => hB.block k (htl d hdm k hk) (fun hck => ?_))
   rcases Nat.lt_or_gt_of_ne hne with h3 | h3
   ·exact pair_at h.apart h3 hi hc k hk hck
   ·exact pair_at h.apart h3 hc hi k hck hk
 ·refine pair_set h.apart hc (fun i d _ hd hR k hk hz => ?_) (fun i d _ hd hR k hz hk => ?_)
  ·rcases ht k hz with h3 | h3
   ·exact hR k hk h3
   ·have := htl d (List.mem_of_getElem? hd) k hk
    omega
  ·rcases ht k hz with h3 | h3
   ·exact hR k h3 hk
   ·have := htl d (List.mem_of_getElem? hd) k hk
    omega
 ·exact pair_set h.keys hc (fun i d _ _ hR => by rw [hk]; exact hR) (fun i d _ _ hR => by rw [hk]; exact hR)
 ·obtain ⟨i, hi⟩ := List.mem_iff_getElem?.1 hd
  rcases get_set' hi with ⟨_, rfl⟩ | ⟨hne, hi⟩
  ·intro hk
   rcases ht m hk with h3 | h3
   ·exact h.off c hcm h3
   ·have := h.lt; omega
  ·exact h.off d (List.mem_of_getElem? hi)
end
abbrev Grp := ByteArray × List Int × List Int
def absC (L : List Cl) : List Grp := L.map (fun c => (c.key, c.A, c.B))
def addC (s : ByteArray) (a b : Int) : List Grp → List Grp
 | [] => [(s, [a], [b])]
 | q :: r => if q.1 = s then (q.1, q.2.1 ++ [a], q.2.2 ++ [b]) :: r else q :: addC s a b r
def colsOf (l : List S109) : List Grp := l.foldl (fun acc x => addC x.f1 x.f2 x.f3 acc) []
theorem addC_new (s : ByteArray) (a b : Int) : ∀ (G : List Grp), (∀ q ∈ G, q.1 ≠ s) → addC s a b G = G ++ [(s, [a], [b])]
 | [], _ => rfl
 | q :: r, h => by
  unfold addC
  rw [if_neg (h q (by simp)), addC_new s a b r (fun p hp => h p (by simp [hp]))]
  rfl
theorem addC_old (s : ByteArray) (a b : Int) : ∀ (G : List Grp) (j : Nat) (q : Grp), G[j]? = some q → q.1 = s → G.Pairwise (fun c d => c.1 ≠ d.1) → addC s a b G = G.set j (q.1, q.2.1 ++ [a], q.2.2 ++ [b])
 | [], j, q, h, _, _ => by simp at h
 | p :: r, 0, q, h, hk, _ => by
  obtain rfl : p = q := by simpa using h
  unfold addC
  rw [if_pos hk]
  rfl
 | p :: r, j + 1, q, h, hk, hp => by
  rw [List.pairwise_cons] at hp
  have hq : r[j]? = some q := by simpa using h
  unfold addC
  rw [if_neg (fun e => hp.1 q (List.mem_of_getElem? hq) (e.trans hk.symm)), addC_old s a b r j q hq hk hp.2]
  rfl
section
variable {w w' : World} {base b m n : Nat} {A B : List Int} {x y v : Value} {ks : List ByteArray} {L : List Cl} {ok : Nat → Prop}
theorem tch_ne9 (hc : ColAt w base b A B x y) {k : Nat} {cs : Array Value} (h : w.heap[k]? = some (.cells cs 9 (0, 0))) : ¬ Tch b x y k := by
 rintro (rfl | hk | hk)
 ·rw [hc.blk] at h; cases h
 ·obtain ⟨cs', h2⟩ := Kd.R_typed hc.ra k hk
  rw [h] at h2; cases h2
 ·obtain ⟨cs', h2⟩ := Kd.R_typed hc.rb k hk
  rw [h] at h2; cases h2
theorem row_but (h : Kd.string.R 9 w base ok v ks) (hc : ColAt w base b A B x y) (hB : But (Tch b x y) w w') : Kd.string.R 9 w' base ok v ks := by
 have h1 := Kd.R_mono (Kd.R_tight rfl h) (ok' := fun k => v.ownBlock = some k) (fun k hk => hk.symm)
 have h2 := Kd.R_step h1 (w1 := w') (fun k hk hlt => by
  obtain ⟨cs, hcs⟩ := Kd.R_typed h k hk
  exact hB.block k hlt (tch_ne9 hc hcs))
 exact Kd.R_mono h2 (fun k hk => h.1 k hk)
theorem Cols.grown (h : Cols w base m n L) (hr : Kd.string.R 9 w base ok v ks) (hg : w.grownBy w' v.ownBlock) : Cols w' base m n L := by
 refine h.step (hg.block m h.lt (fun e => ?_)) (fun c hc k hk => hg.block k ((h.col c hc).lt hk).2 (fun e => ?_))
 ·obtain ⟨cs, hcs⟩ := Kd.R_typed hr m e.symm
  obtain ⟨D, ⟨es, cl, h1, _⟩, _⟩ := h.map
  rw [hcs] at h1; cases h1
 ·obtain ⟨cs, hcs⟩ := Kd.R_typed hr k e.symm
  exact tch_ne9 (h.col c hc) hcs hk
theorem Cols.made (w : World) : Cols (w.alloc (.map #[] 0)) w.heap.size w.heap.size 0 [] :=
 ⟨⟨_, World.ownsMap_made w _ _ _, fun _ _ => rfl⟩, (fun c hc => by cases hc), .nil, .nil, (fun c hc => by cases hc), Nat.le_refl _, (by simp)⟩
theorem but_below {X : Nat → Prop} {w0 : World} (h0 : Below base w0 w) (h : But X w w') (hn : base ≤ w.heap.size) (hx : ∀ k, X k → base ≤ k) : Below base w0 w' := But.below h0 h hn hx
end
def LenOk (L : List Cl) (n i : Nat) : Prop := n ≤ i ∧ L.length ≤ i ∧ ∀ c ∈ L, c.A.length ≤ i ∧ c.B.length ≤ i
theorem LenOk.set {L : List Cl} {n i j : Nat} {c1 : Cl} {a b : Int} {x y : Value} (h : LenOk L n i) (hj : L[j]? = some c1) : LenOk (L.set j ⟨c1.key, c1.A ++ [a], c1.B ++ [b], c1.b, x, y⟩) n (i + 1) := by
 refine ⟨Nat.le_succ_of_le h.1, by rw [List.length_set]; exact Nat.le_succ_of_le h.2.1, fun c hc => ?_⟩
 obtain ⟨k, hk⟩ := List.mem_iff_getElem?.1 hc
 rcases get_set' hk with ⟨_, rfl⟩ | ⟨_, hk⟩
 ·have := h.2.2 c1 (List.mem_of_getElem? hj)
  simp only [List.length_append, List.length_singleton]
  omega
 ·have := h.2.2 c (List.mem_of_getElem? hk)
  omega
theorem LenOk.snoc {L : List Cl} {n i : Nat} {s : ByteArray} {a b : Int} {q : Nat} {x y : Value} (h : LenOk L n i) : LenOk (L ++ [⟨s, [a], [b], q, x, y⟩]) (n + 1) (i + 1) := by
 refine ⟨Nat.succ_le_succ h.1, by have := h.2.1; simp; omega, fun c hc => ?_⟩
 rcases List.mem_append.1 hc with hc | hc
 ·have := h.2.2 c hc
  omega
 ·rw [List.mem_singleton] at hc
  subst hc
  simp
theorem keys_set {L : List Cl} {j : Nat} {c z : Cl} (hj : L[j]? = some c) (hk : z.key = c.key) : (L.set j z).map Cl.key = L.map Cl.key := by
 apply List.ext_getElem?
 intro i
 rw [List.getElem?_map, List.getElem?_map, List.getElem?_set]
 by_cases e : j = i
 ·subst e
  rw [if_pos rfl, if_pos (List.getElem?_eq_some_iff.1 hj).1, hj]
  simp [hk]
 ·rw [if_neg e]
theorem abs_set {L : List Cl} {j : Nat} {z : Cl} : absC (L.set j z) = (absC L).set j (z.key, z.A, z.B) := by unfold absC; rw [List.map_set]
theorem abs_pair {L : List Cl} (h : L.Pairwise (fun c d => c.key ≠ d.key)) : (absC L).Pairwise (fun c d => c.1 ≠ d.1) := by unfold absC; rw [List.pairwise_map]; exact h
theorem colsOf_step {l : List S109} {i : Nat} {x : S109} (h : l[i]? = some x) : colsOf (l.take (i + 1)) = addC x.f1 x.f2 x.f3 (colsOf (l.take i)) := by
 unfold colsOf
 rw [List.take_add_one, h, List.foldl_append]
 rfl
theorem row_grown {w w' : World} {base : Nat} {v : Value} {ks : List ByteArray} {ok : Nat → Prop} {r : Option Nat} (h : Kd.string.R 9 w base ok v ks) (hg : w.grownBy w' r) (hne : ∀ k cs, w.heap[k]? = some (.cells cs 9 (0, 0)) → some k ≠ r) : Kd.string.R 9 w' base ok v ks := by
 have h1 := Kd.R_mono (Kd.R_tight rfl h) (ok' := fun k => v.ownBlock = some k) (fun k hk => hk.symm)
 have h2 := Kd.R_step h1 (w1 := w') (fun k hk hlt => by
  obtain ⟨cs, hcs⟩ := Kd.R_typed h k hk
  exact hg.block k hlt (hne k cs hcs))
 exact Kd.R_mono h2 (fun k hk => h.1 k hk)
theorem map_ne9 {w : World} {base m n : Nat} {L : List Cl} (h : Cols w base m n L) : ∀ k cs, w.heap[k]? = some (.cells cs 9 (0, 0)) → some k ≠ some m := by
 intro k cs hk e
 obtain rfl := Option.some.inj e
 obtain ⟨D, ⟨es, cl, h1, _⟩, _⟩ := h.map
 rw [hk] at h1; cases h1
theorem map_ne109 {w : World} {base m n t : Nat} {L : List Cl} {k : Nat} {cs : Array Value} (h : Cols w base m n L) (hk : w.heap[k]? = some (.cells cs t (0, 0))) : some k ≠ some m := by
 intro e
 obtain rfl := Option.some.inj e
 obtain ⟨D, ⟨es, cl, h1, _⟩, _⟩ := h.map
 rw [hk] at h1; cases h1
set_option maxHeartbeats 8000000 in
set_option maxRecDepth 100000 in
theorem columns_calls (A : Option Addr) (c : Nat) (l : List S109) (w : World) (h : Kd.C k109 w A l.length l) (hc : l.length ≤ c) (hl : l.length ≤ 1000000) (hs : ∀ x ∈ l, x.f1.size ≤ maxLen) :
  Calls Tryd.prog 135 #[.slice A l.length c, .func (.func 136) #[] #[]] w fun e w' => ∃ m n v L, e = .returned (.tuple #[.map (some m), v]) ∧ Cols w' w.heap.size m n L ∧ Kd.string.R 9 w' w.heap.size (fun _ => True) v (L.map Cl.key) ∧ absC L = colsOf l ∧ Below w.heap.size w w' := by
 have HC := Aside0.mk h
 have HS := Aside0.mk hs
 clear h hs
 obtain ⟨base, hbase⟩ : ∃ base, w.heap.size = base := ⟨_, rfl⟩
 have HBS := Aside0.mk hbase
 rw [hbase]
 have hmm := @run_makeMap Tryd.prog
 go_enter Tryd.func135, Tryd.ntmps135
 go_upto_region 4 with (fail)
 refine with_world (P := fun x => Code.wp _ _ _ _ x) _ ?_
 intro w1 hw1
 have HCL := Aside0.mk (show Cols w1 base base 0 [] from by rw [hw1, ← hbase]; exact Cols.made w)
 have HB1 := Aside0.mk (show Below base w w1 from by rw [hw1, ← hbase]; exact below_alloc (Below.refl _ _) _)
 try rw [hbase]
 clear hw1 hbase
 clear hmm
 go_wp2
 go_loopw [7, 9, 10, 14, 15, 16, 17, 18, 19, 20, 21, 22, 23, 24, 25, 26, 27, 28, 29, 30, 31, 32, 33, 34, 35, 36, 37, 38] (fun v7 _ _ v14 _ _ _ _ _ _ _ _ _ _ _ _ _ _ _ _ _ _ _ _ _ _ _ _ wr => ∃ (i n : Nat) (L : List Cl), i ≤ l.length ∧ v14 = .int .i64 i ∧ Aside0 (Cols wr base base n L) ∧ Aside0 (Kd.string.R 9 wr base (fun _ => True) v7 (L.map Cl.key)) ∧ Aside0 (absC L = colsOf (l.take i)) ∧ Aside0 (LenOk L n i) ∧ Aside0 (Below base w wr)) (fun _ _ _ v14 _ _ _ _ _ _ _ _ _ _ _ _ _ _ _ _ _ _ _ _ _ _ _ _ _ => l.length - (intOf v14).toNat)
 case atStart => exact ⟨0, 0, [], Nat.zero_le _, rfl, HCL, ⟨Kd.R_nil _ _ _ _ _⟩, ⟨rfl⟩, ⟨Nat.le_refl _, Nat.le_refl _, fun c hc => by cases hc⟩, HB1⟩
 case round =>
  clear HCL HB1
  obtain ⟨i, n, L, hi, rfl, HCL, HKR, HAB, HLN, HB⟩ := hrel
  obtain ⟨Ak, ck, hk7⟩ := Kd.R_slice HKR.out
  rw [List.length_map] at hk7
  subst hk7
  rename World => wo
  by_cases hlt : i < l.length
  ·have d1 : decide ((i : Int) < (l.length : Int)) = true := decide_eq_true (by omega)
   have d2 : decide (i < l.length) = true := decide_eq_true hlt
   have p0 : (0 : Int) ≤ (i : Int) := by omega
   have p1 : (i : Int) < (l.length : Int) := by omega
   obtain ⟨ad, A6, c6, e, q0, q1, q2, q3, q4, q5, q6, l6, g6⟩ := at_T109 (Kd.C_below HC.out (by rw [HBS.out]; exact HB.out)) (i : Int) (by omega) (by omega)
   subst e
   rw [Int.toNat_natCast] at q0 q1 q2 q3 q4 q5 q6
   obtain ⟨x, hx⟩ : ∃ x, rd_T109 l (i : Int) = x := ⟨_, rfl⟩
   have hxi : l[i]? = some x := by rw [← hx]; simp [rd_T109, hlt]
   rw [hx] at q0 q1 q2 q3 q4 q5 q6 l6 g6
   have HXI := Aside0.mk hxi
   have HXS := Aside0.mk (HS.out x (List.mem_of_getElem? hxi))
   have HG6 := Aside0.mk g6
   have HL6 := Aside0.mk l6
   clear hx hxi l6 g6
   go_upto_region 6 with (fail)
   refine with_world (P := fun x => Code.wp _ _ _ _ x) _ ?_
   intro w1 hw1
   have HB1 := Aside0.mk (show Below wo.heap.size wo w1 from by rw [hw1]; exact below_alloc (Below.refl _ _) _)
   have BK1 : w1.heap[wo.heap.size]? = some (.cells #[.string x.f0, .string x.f1, .int .i64 x.f2, .int .i64 x.f3, .string x.f4, .string x.f5, .slice A6 x.f6.length c6] 109 (0, 0)) := by rw [hw1]; exact blk_new wo _
   obtain ⟨g, hg⟩ : ∃ g, wo.heap.size = g := ⟨_, rfl⟩
   rw [hg] at BK1 ⊢
   clear hw1 hg q0 q1 q2 q3 q4 q5 q6
   have HBK := Aside0.mk BK1
   have a0 := (blk_cell BK1 0).trans rfl
   have a1 := (blk_cell BK1 1).trans rfl
   have a2 := (blk_cell BK1 2).trans rfl
   have a3 := (blk_cell BK1 3).trans rfl
   have a4 := (blk_cell BK1 4).trans rfl
   have a5 := (blk_cell BK1 5).trans rfl
   have a6 := (blk_cell BK1 6).trans rfl
   clear BK1
   go_upto_region 7 with (first | (go_at_call 136; refine (entry_currency.calls x.f0 x.f1 x.f2 x.f3 x.f4 x.f5 A6 c6 x.f6 x.f1 _ (Kd.C_below HG6.out HB1.out) HL6.out rfl).mono ?_; rintro e_ w2 ⟨rfl, hb_⟩; have HB12 := Aside0.mk hb_; clear hb_ a0 a1 a2 a3 a4 a5 a6))
   have HB02 := Aside0.mk (below_then HB1.out HB1.out.size HB12.out)
   have HCL2 := Aside0.mk (HCL.out.below HB02.out)
   have HKR2 := Aside0.mk (Kd.R_below HKR.out HB02.out)
   have HBK2 := Aside0.mk (blk_below HBK.out HB12.out)
   have HGW := Aside0.mk (show wo.heap.size ≤ w2.heap.size from HB02.out.size)
   have hbs : base ≤ w2.heap.size := Nat.le_trans (by have := HCL.out.lt; omega) HB02.out.size
   have HBW := Aside0.mk (below_then HB.out (by have := HCL.out.lt; omega) HB02.out)
   have hlk := HCL2.out.look HXS.out
   by_cases hin : ∃ (j : Nat) (c1 : Cl), L[j]? = some c1 ∧ c1.key = x.f1
   ·obtain ⟨j, c1, hj, hkc⟩ := hin
    have hcm : c1 ∈ L := List.mem_of_getElem? hj
    rw [show ptrL L x.f1 = .pointer (some ⟨c1.b, 0, none⟩) from by rw [← hkc]; exact ptrL_some HCL.out.keys hcm] at hlk
    have HJ := Aside0.mk hj
    have HKC := Aside0.mk hkc
    have hA : c1.A.length ≤ 1000000 := by have := (HLN.out.2.2 c1 hcm).1; omega
    have hB : c1.B.length ≤ 1000000 := by have := (HLN.out.2.2 c1 hcm).2; omega
    have HCC := Aside0.mk (HCL2.out.col c1 hcm)
    have a0 := (blk_cell HBK2.out 0).trans rfl
    have a1 := (blk_cell HBK2.out 1).trans rfl
    have a2 := (blk_cell HBK2.out 2).trans rfl
    have a3 := (blk_cell HBK2.out 3).trans rfl
    have a4 := (blk_cell HBK2.out 4).trans rfl
    have a5 := (blk_cell HBK2.out 5).trans rfl
    have a6 := (blk_cell HBK2.out 6).trans rfl
    clear hj hkc hcm
    go_wp2_with (first | (go_at_call 171; (with_reducible refine (add_calls base c1.b c1.A c1.B c1.x c1.y x.f0 x.f1 x.f4 x.f5 x.f2 x.f3 _ _ HCC.out hA hB hbs).mono ?_); rintro e_ w3 ⟨rfl, x', y', hC_, hBt_, hT_⟩; have HC3 := Aside0.mk hC_; have HBT := Aside0.mk hBt_; have HTT := Aside0.mk hT_; clear hC_ hBt_ hT_))
    go_roundw
    case rel =>
     refine ⟨i + 1, n, L.set j ⟨c1.key, c1.A ++ [x.f2], c1.B ++ [x.f3], c1.b, x', y'⟩, by omega, by go_num, ⟨HCL2.out.turn HJ.out HC3.out rfl rfl HBT.out HTT.out⟩, ⟨?_⟩, ⟨?_⟩, ⟨?_⟩, ⟨but_below HBW.out HBT.out hbs (fun k hk => (HCC.out.lt hk).1)⟩⟩
     ·rw [keys_set (z := ⟨c1.key, c1.A ++ [x.f2], c1.B ++ [x.f3], c1.b, x', y'⟩) HJ.out rfl]
      exact row_but HKR2.out HCC.out HBT.out
     ·rw [colsOf_step HXI.out, ← HAB.out, abs_set]
      exact (addC_old x.f1 x.f2 x.f3 (absC L) j (c1.key, c1.A, c1.B) (by unfold absC; rw [List.getElem?_map, HJ.out]; rfl) HKC.out (abs_pair HCL.out.keys)).symm
     ·exact HLN.out.set HJ.out
    case measure => simp [intOf]; omega
   ·have hnew : ∀ c ∈ L, c.key ≠ x.f1 := by
     intro c hc e
     obtain ⟨j, hj⟩ := List.mem_iff_getElem?.1 hc
     exact hin ⟨j, c, hj, e⟩
    rw [show ptrL L x.f1 = .pointer none from ptrL_none hnew] at hlk
    have HNEW := Aside0.mk hnew
    have HBA := Aside0.mk (below_alloc (Below.refl w2.heap.size w2) (.cells #[.slice none 0 0, .slice none 0 0] 228))
    obtain ⟨w4, hup, hC4, hg4⟩ := (HCL2.out.below HBA.out).put HXS.out (show n < maxLen by have := HLN.out.1; unfold maxLen; omega) hnew (blk_new w2 _) hbs (fun c hc hk => by have := ((HCL2.out.col c hc).lt hk).2; omega)
    have HC4 := Aside0.mk hC4
    have HG4 := Aside0.mk hg4
    have HKR4 := Aside0.mk (show Kd.string.R 9 w4 base (fun _ => True) (.slice Ak L.length ck) (L.map Cl.key) from
     row_grown (Kd.R_below HKR2.out HBA.out) hg4 (map_ne9 (HCL2.out.below HBA.out)))
    have HS4 := Aside0.mk (show base ≤ w4.heap.size from Nat.le_trans (Nat.le_trans hbs HBA.out.size) hg4.size)
    have HB4 := Aside0.mk (show Below base w w4 from (below_then HBW.out hbs HBA.out).grown hg4 (Nat.le_trans hbs HBA.out.size) (fun k e => by have := Option.some.inj e; omega))
    have HK4 := Aside0.mk (show w4.heap[g]? = some (.cells #[.string x.f0, .string x.f1, .int .i64 x.f2, .int .i64 x.f3, .string x.f4, .string x.f5, .slice A6 x.f6.length c6] 109 (0, 0)) from blk_grown (blk_below HBK2.out HBA.out) hg4 (map_ne109 (HCL2.out.below HBA.out) (blk_below HBK2.out HBA.out)))
    have hkl : L.length ≤ 1000000 := by have := HLN.out.2.1; omega
    obtain ⟨b, hb⟩ : ∃ b, w2.heap.size = b := ⟨_, rfl⟩
    rw [hb] at hup HC4
    clear hC4 hg4 hin hnew
    go_upto_region 10 with (first | ((with_reducible refine gate_builtin (b := .append) (xs := #[.tmp 29, .tmp 31]) rfl ?_); at_builtin; refine Kd.R_append Kd.string (w0 := w) base rfl (.tmp 29) (.tmp 31) 205 9 (.string ⟨#[]⟩) 16 rfl Tryd.underlying205 info9 rfl (by decide) (by omega) (.slice Ak L.length ck) (L.map Cl.key) x.f1 [.string x.f1] (fun _ => True) (fun _ => False) rfl rfl ?aP (fun _ hk => hk.elim) ?aF ?aO ?aB ?aS ?aL ?_; (case aP => exact rfl); (case aF => exact fun k hk => trivial); (case aO => exact HKR4.out); (case aB => exact HB4.out); (case aS => exact HS4.out); (case aL => rw [List.length_map]; omega); intro v1 w5 hro hbl hg_ hat_; have HKR5 := Aside0.mk hro; have HB5 := Aside0.mk hbl; have HG5 := Aside0.mk hg_; clear hro hbl hg_ hat_ hlk hup))
    have HC5 := Aside0.mk (HC4.out.grown HKR4.out HG5.out)
    have HK5 := Aside0.mk (show w5.heap[g]? = some (.cells #[.string x.f0, .string x.f1, .int .i64 x.f2, .int .i64 x.f3, .string x.f4, .string x.f5, .slice A6 x.f6.length c6] 109 (0, 0)) from blk_grown HK4.out HG5.out (Kd.R_ne HKR4.out HK4.out (by decide)))
    have hlk5 := HC5.out.look HXS.out
    have hptr : ptrL (L ++ [⟨x.f1, [], [], b, .slice none 0 0, .slice none 0 0⟩]) x.f1 = .pointer (some ⟨b, 0, none⟩) := ptrL_some (c := ⟨x.f1, [], [], b, .slice none 0 0, .slice none 0 0⟩) HC5.out.keys (by simp)
    rw [hptr] at hlk5
    have hbs5 : base ≤ w5.heap.size := by have := HC5.out.lt; have := HC5.out.low; omega
    have HCC := Aside0.mk (HC5.out.col ⟨x.f1, [], [], b, .slice none 0 0, .slice none 0 0⟩ (by simp))
    have a0 := (blk_cell HK5.out 0).trans rfl
    have a1 := (blk_cell HK5.out 1).trans rfl
    have a2 := (blk_cell HK5.out 2).trans rfl
    have a3 := (blk_cell HK5.out 3).trans rfl
    have a4 := (blk_cell HK5.out 4).trans rfl
    have a5 := (blk_cell HK5.out 5).trans rfl
    have a6 := (blk_cell HK5.out 6).trans rfl
    clear hptr hkl
    go_wp2_with (first | (go_at_call 171; (with_reducible refine (add_calls base b [] [] (.slice none 0 0) (.slice none 0 0) x.f0 x.f1 x.f4 x.f5 x.f2 x.f3 _ _ HCC.out (Nat.zero_le _) (Nat.zero_le _) hbs5).mono ?_); rintro e_ w6 ⟨rfl, x', y', hC_, hBt_, hT_⟩; have HC3 := Aside0.mk hC_; have HBT := Aside0.mk hBt_; have HTT := Aside0.mk hT_; clear hC_ hBt_ hT_))
    go_roundw
    case rel =>
     have hj : (L ++ [(⟨x.f1, [], [], b, .slice none 0 0, .slice none 0 0⟩ : Cl)])[L.length]? = some ⟨x.f1, [], [], b, .slice none 0 0, .slice none 0 0⟩ := by simp
     have hset : (L ++ [(⟨x.f1, [], [], b, .slice none 0 0, .slice none 0 0⟩ : Cl)]).set L.length ⟨x.f1, [x.f2], [x.f3], b, x', y'⟩ = L ++ [⟨x.f1, [x.f2], [x.f3], b, x', y'⟩] := by
      rw [List.set_append_right _ _ (Nat.le_refl _), Nat.sub_self]
      rfl
     have ht := HC5.out.turn (z := ⟨x.f1, [x.f2], [x.f3], b, x', y'⟩) hj HC3.out rfl rfl HBT.out HTT.out
     rw [hset] at ht
     refine ⟨i + 1, n + 1, L ++ [⟨x.f1, [x.f2], [x.f3], b, x', y'⟩], by omega, by go_num, ⟨ht⟩, ⟨?_⟩, ⟨?_⟩, ⟨?_⟩, ⟨but_below HB5.out HBT.out hbs5 (fun k hk => (HCC.out.lt hk).1)⟩⟩
     ·rw [List.map_append]
      exact row_but HKR5.out HCC.out HBT.out
     ·rw [colsOf_step HXI.out, ← HAB.out, addC_new x.f1 x.f2 x.f3 (absC L) (fun q hq => by
       unfold absC at hq
       rw [List.mem_map] at hq
       obtain ⟨c2, hc2, rfl⟩ := hq
       exact HNEW.out c2 hc2)]
      unfold absC
      rw [List.map_append]
      rfl
     ·exact HLN.out.snoc
    case measure => simp [intOf]; omega
  ·obtain rfl : i = l.length := by omega
   have d1 : decide ((l.length : Int) < (l.length : Int)) = false := decide_eq_false (by omega)
   have hab := HAB.out
   rw [List.take_length] at hab
   have HAB2 := Aside0.mk hab
   clear hab
   go_wp2
   go_ret2
   exact ⟨_, _, _, L, rfl, HCL.out, HKR.out, HAB2.out, HB.out⟩
theorem nodup_le {α : Type} [DecidableEq α] : ∀ {a b : List α}, a.Nodup → (∀ x ∈ a, x ∈ b) → a.length ≤ b.length
 | [], b, _, _ => Nat.zero_le _
 | x :: a, b, hn, hs => by
  rw [List.nodup_cons] at hn
  have hx := hs x (by simp)
  have := nodup_le (b := b.erase x) hn.2 (fun y hy => by
   rw [List.mem_erase_of_ne (fun e : y = x => hn.1 (by rw [← e]; exact hy))]
   exact hs y (by simp [hy]))
  rw [List.length_erase_of_mem hx] at this
  have := List.length_pos_of_mem hx
  simp
  omega
def ofCur (l : List S109) (s : ByteArray) : List S109 := l.filter (fun x => decide (x.f1 = s))
structure CInv (l : List S109) (G : List Grp) : Prop where
 pw : G.Pairwise (fun c d => c.1 ≠ d.1)
 val : ∀ q ∈ G, q.2.1 = (ofCur l q.1).map S109.f2 ∧ q.2.2 = (ofCur l q.1).map S109.f3 ∧ ∃ x ∈ l, x.f1 = q.1
 has : ∀ x ∈ l, ∃ q ∈ G, q.1 = x.f1
theorem addC_mem {s : ByteArray} {a b : Int} : ∀ {G : List Grp}, G.Pairwise (fun c d => c.1 ≠ d.1) → ∀ {q : Grp}, q ∈ addC s a b G → (q ∈ G ∧ q.1 ≠ s) ∨ (∃ p ∈ G, p.1 = s ∧ q = (s, p.2.1 ++ [a], p.2.2 ++ [b])) ∨ ((∀ p ∈ G, p.1 ≠ s) ∧ q = (s, [a], [b]))
 | [], _, q, h => by
  have h : q = (s, [a], [b]) := by simpa [addC] using h
  exact .inr (.inr ⟨(fun p hp => by cases hp), h⟩)
 | g :: r, hp, q, h => by
  rw [List.pairwise_cons] at hp
  unfold addC at h
  by_cases e : g.1 = s
  ·rw [if_pos e] at h
   rcases List.mem_cons.1 h with rfl | h
   ·exact .inr (.inl ⟨g, by simp, e, by rw [e]⟩)
   ·exact .inl ⟨by simp [h], fun e2 => hp.1 q h (e.trans e2.symm)⟩
  ·rw [if_neg e] at h
   rcases List.mem_cons.1 h with rfl | h
   ·exact .inl ⟨by simp, e⟩
   ·rcases addC_mem hp.2 h with ⟨h1, h2⟩ | ⟨p, h1, h2, h3⟩ | ⟨h1, h2⟩
    ·exact .inl ⟨by simp [h1], h2⟩
    ·exact .inr (.inl ⟨p, by simp [h1], h2, h3⟩)
    ·exact .inr (.inr ⟨fun p hp' => by
      rcases List.mem_cons.1 hp' with rfl | hp'
      ·exact e
      ·exact h1 p hp', h2⟩)
theorem addC_keys {s : ByteArray} {a b : Int} : ∀ {G : List Grp}, (∀ q ∈ G, ∃ p ∈ addC s a b G, p.1 = q.1) ∧ ∃ p ∈ addC s a b G, p.1 = s
 | [] => ⟨(fun q hq => by cases hq), (s, [a], [b]), by simp [addC], rfl⟩
 | g :: r => by
  obtain ⟨h1, h2⟩ := addC_keys (s := s) (a := a) (b := b) (G := r)
  unfold addC
  by_cases e : g.1 = s
  ·rw [if_pos e]
   refine ⟨fun q hq => ?_, _, List.mem_cons_self, e⟩
   rcases List.mem_cons.1 hq with rfl | hq
   ·exact ⟨_, List.mem_cons_self, rfl⟩
   ·exact ⟨q, List.mem_cons_of_mem _ hq, rfl⟩
  ·rw [if_neg e]
   refine ⟨fun q hq => ?_, ?_⟩
   ·rcases List.mem_cons.1 hq with rfl | hq
    ·exact ⟨_, List.mem_cons_self, rfl⟩
    ·obtain ⟨p, hp, e2⟩ := h1 q hq
     exact ⟨p, List.mem_cons_of_mem _ hp, e2⟩
   ·obtain ⟨p, hp, e2⟩ := h2
    exact ⟨p, List.mem_cons_of_mem _ hp, e2⟩
theorem addC_pw {s : ByteArray} {a b : Int} : ∀ {G : List Grp}, G.Pairwise (fun c d => c.1 ≠ d.1) → (addC s a b G).Pairwise (fun c d => c.1 ≠ d.1)
 | [], _ => List.pairwise_singleton _ _
 | g :: r, hp => by
  rw [List.pairwise_cons] at hp
  unfold addC
  by_cases e : g.1 = s
  ·rw [if_pos e, List.pairwise_cons]
   exact ⟨hp.1, hp.2⟩
  ·rw [if_neg e, List.pairwise_cons]
   refine ⟨fun q hq => ?_, addC_pw hp.2⟩
   rcases addC_mem hp.2 hq with ⟨h1, _⟩ | ⟨p, h1, h2, h3⟩ | ⟨_, h2⟩
   ·exact hp.1 q h1
   ·rw [h3]; exact e
   ·rw [h2]; exact e
theorem ofCur_snoc (l : List S109) (x : S109) (s : ByteArray) : ofCur (l ++ [x]) s = ofCur l s ++ (if x.f1 = s then [x] else []) := by
 unfold ofCur
 rw [List.filter_append]
 by_cases e : x.f1 = s <;> simp [e]
theorem CInv.step {l : List S109} {G : List Grp} (h : CInv l G) (x : S109) : CInv (l ++ [x]) (addC x.f1 x.f2 x.f3 G) := by
 refine ⟨addC_pw h.pw, fun q hq => ?_, fun y hy => ?_⟩
 ·rcases addC_mem h.pw hq with ⟨h1, h2⟩ | ⟨p, h1, h2, h3⟩ | ⟨h1, h2⟩
  ·obtain ⟨a1, a2, y, a3, a4⟩ := h.val q h1
   rw [ofCur_snoc, if_neg (fun e => h2 e.symm), List.append_nil]
   exact ⟨a1, a2, y, by simp [a3], a4⟩
  ·obtain ⟨a1, a2, _⟩ := h.val p h1
   subst h3
   rw [ofCur_snoc, if_pos rfl, a1, a2, h2]
   exact ⟨by simp, by simp, x, by simp, rfl⟩
  ·subst h2
   have : ofCur l x.f1 = [] := by
    unfold ofCur
    rw [List.filter_eq_nil_iff]
    intro y hy e
    obtain ⟨q, hq, e2⟩ := h.has y hy
    exact h1 q hq (e2.trans (by simpa using e))
   rw [ofCur_snoc, if_pos rfl, this]
   exact ⟨by simp, by simp, x, by simp, rfl⟩
 ·rcases List.mem_append.1 hy with hy | hy
  ·obtain ⟨q, hq, e⟩ := h.has y hy
   obtain ⟨p, hp, e2⟩ := addC_keys.1 q hq
   exact ⟨p, hp, e2.trans e⟩
  ·rw [List.mem_singleton] at hy
   subst hy
   exact addC_keys.2
theorem cols_inv (l : List S109) : CInv l (colsOf l) := by
 have key : ∀ i, i ≤ l.length → CInv (l.take i) (colsOf (l.take i)) := by
  intro i
  induction i with
  | zero => intro _; exact ⟨.nil, (fun q hq => by cases hq), (fun x hx => by cases hx)⟩
  | succ i ih =>
   intro hi
   have hg : l[i]? = some l[i] := List.getElem?_eq_getElem (by omega)
   rw [colsOf_step hg, List.take_add_one, hg]
   exact (ih (by omega)).step l[i]
 have := key l.length (Nat.le_refl _)
 rwa [List.take_length] at this
def balB (l : List S109) : Bool := (colsOf l).all (fun q => decide (q.2.1.sum = 0 ∧ q.2.2.sum = 0))
theorem balB_eq (l : List S109) : balB l = l.all (fun x => decide (((ofCur l x.f1).map S109.f2).sum = 0 ∧ ((ofCur l x.f1).map S109.f3).sum = 0)) := by
 have h := cols_inv l
 unfold balB
 rw [Bool.eq_iff_iff, List.all_eq_true, List.all_eq_true]
 constructor
 ·intro hq x hx
  obtain ⟨q, hq', e⟩ := h.has x hx
  obtain ⟨a1, a2, _⟩ := h.val q hq'
  have := hq q hq'
  rw [a1, a2, e] at this
  exact this
 ·intro hx q hq
  obtain ⟨a1, a2, x, hx', e⟩ := h.val q hq
  have := hx x hx'
  rw [e] at this
  rw [a1, a2]
  exact this
set_option maxHeartbeats 8000000 in
set_option maxRecDepth 100000 in
theorem balanced_calls (A : Option Addr) (c : Nat) (l : List S109) (w : World) (h : Kd.C k109 w A l.length l) (hc : l.length ≤ c) (hl : l.length ≤ 1000000) (hs : ∀ x ∈ l, x.f1.size ≤ maxLen) (hi : ∀ x ∈ l, i64ok x.f2 ∧ i64ok x.f3) :
  Calls Tryd.prog 96 #[.slice A l.length c] w fun e w' => e = .returned (.bool (balB l)) ∧ Below w.heap.size w w' := by
 have HC := Aside0.mk (columns_calls A c l w h hc hl hs)
 have HI := Aside0.mk hi
 have HLL := Aside0.mk hl
 have HSS := Aside0.mk hs
 clear h hc hi hs
 obtain ⟨res, hres⟩ : ∃ r, balB l = r := ⟨_, rfl⟩
 rw [hres]
 have HRES := Aside0.mk hres
 clear hres hl
 go_enter Tryd.func96, Tryd.ntmps96
 go_upto_region 2 with (first | (go_at_call 135; (refine HC.out.mono ?_); rintro e_ w1 ⟨m, n, v, L, rfl, hC_, hK_, hA_, hB_⟩; obtain ⟨Ak, ck, hk7⟩ := Kd.R_slice hK_; rw [List.length_map] at hk7; subst hk7; have HCL := Aside0.mk hC_; have HKR := Aside0.mk hK_; have HAB := Aside0.mk hA_; have HB1 := Aside0.mk hB_; clear hC_ hK_ hA_ hB_))
 have HLL2 := Aside0.mk (show L.length ≤ 1000000 ∧ (∀ c ∈ L, c.A.length ≤ 1000000 ∧ c.B.length ≤ 1000000 ∧ (∀ z ∈ c.A, i64ok z) ∧ (∀ z ∈ c.B, i64ok z) ∧ c.key.size ≤ maxLen) from by
  have hci := cols_inv l
  rw [← HAB.out] at hci
  refine ⟨?_, fun c hc => ?_⟩
  ·have hn : (L.map Cl.key).Nodup := by
    rw [List.nodup_iff_pairwise_ne, List.pairwise_map]
    exact HCL.out.keys
   have hsub : ∀ s ∈ L.map Cl.key, s ∈ l.map S109.f1 := by
    intro s hs
    rw [List.mem_map] at hs
    obtain ⟨c, hc, rfl⟩ := hs
    obtain ⟨_, _, x, hx, e⟩ := hci.val (c.key, c.A, c.B) (by unfold absC; rw [List.mem_map]; exact ⟨c, hc, rfl⟩)
    rw [List.mem_map]
    exact ⟨x, hx, e⟩
   have := nodup_le hn hsub
   rw [List.length_map, List.length_map] at this
   exact Nat.le_trans this HLL.out
  ·obtain ⟨a1, a2, x, hx, e⟩ := hci.val (c.key, c.A, c.B) (by unfold absC; rw [List.mem_map]; exact ⟨c, hc, rfl⟩)
   have hlen : (ofCur l c.key).length ≤ 1000000 := Nat.le_trans (List.length_filter_le _ _) HLL.out
   have a1 : c.A = _ := a1
   have a2 : c.B = _ := a2
   have e : x.f1 = c.key := e
   rw [a1, a2, List.length_map, List.length_map, ← e]
   rw [← e] at hlen
   refine ⟨hlen, hlen, fun z hz => ?_, fun z hz => ?_, HSS.out x hx⟩
   ·rw [List.mem_map] at hz
    obtain ⟨y, hy, rfl⟩ := hz
    exact (HI.out y (List.mem_filter.1 hy).1).1
   ·rw [List.mem_map] at hz
    obtain ⟨y, hy, rfl⟩ := hz
    exact (HI.out y (List.mem_filter.1 hy).1).2)
 have HRR := Aside0.mk (show L.all (fun c => decide (c.A.sum = 0 ∧ c.B.sum = 0)) = res from by
  rw [← HRES.out]
  unfold balB
  rw [← HAB.out]
  unfold absC
  rw [List.all_map]
  rfl)
 clear HC HI HAB HRES HSS
 have hll := HLL2.out.1
 go_wp2
 go_loopw [6, 7, 8, 9, 17, 18, 19, 20, 21, 22, 23, 24, 25, 26, 27, 28, 29, 30, 31] (fun _ _ _ _ v17 _ _ _ _ _ _ _ _ _ _ _ _ _ _ wr => ∃ k : Nat, k ≤ L.length ∧ v17 = .int .i64 k ∧ Aside0 (Below w1.heap.size w1 wr) ∧ Aside0 ((L.drop k).all (fun c => decide (c.A.sum = 0 ∧ c.B.sum = 0)) = res)) (fun _ _ _ _ v17 _ _ _ _ _ _ _ _ _ _ _ _ _ _ _ => L.length - (intOf v17).toNat)
 case atStart => exact ⟨0, Nat.zero_le _, rfl, ⟨Below.refl _ _⟩, HRR⟩
 case round =>
  clear HRR
  obtain ⟨k, hk, rfl, HB, HRR⟩ := hrel
  by_cases hlt : k < L.length
  ·have d1 : decide ((k : Int) < (L.length : Int)) = true := decide_eq_true (by omega)
   have d2 : decide (k < L.length) = true := decide_eq_true hlt
   have p0 : (0 : Int) ≤ (k : Int) := by omega
   have p1 : (k : Int) < (L.length : Int) := by omega
   have hrd := Kd.R_reads' (Kd.R_below HKR.out HB.out)
   rw [List.length_map] at hrd
   obtain ⟨ad, e, q0⟩ := Kd.at_string hrd.2.2 (k : Int) (by omega) (by omega)
   obtain ⟨cl, hcl⟩ : ∃ cl, L[k]? = some cl := ⟨_, List.getElem?_eq_getElem hlt⟩
   rw [Int.toNat_natCast, show rdOf ByteArray.empty (L.map Cl.key) (k : Int) = cl.key by simp [rdOf, hcl]] at q0
   subst e
   have hcm := List.mem_of_getElem? hcl
   have HCB := Aside0.mk (HCL.out.below HB.out)
   have hlk := HCB.out.look (HLL2.out.2 cl hcm).2.2.2.2
   rw [ptrL_some HCL.out.keys hcm] at hlk
   have HCC := Aside0.mk (HCB.out.col cl hcm)
   have HLC := Aside0.mk (HLL2.out.2 cl hcm)
   have hdr := HRR.out
   rw [List.drop_eq_getElem_cons hlt, List.all_cons, show L[k] = cl from Option.some.inj ((List.getElem?_eq_getElem hlt).symm.trans hcl)] at hdr
   have HDR := Aside0.mk hdr
   clear hdr hcl hcm hrd
   by_cases hz : cl.A.sum = 0 ∧ cl.B.sum = 0
   ·have HZ := Aside0.mk hz
    clear hz
    go_wp2_with (first | (go_at_call 137; (with_reducible refine (both_calls _ cl.b cl.A cl.B cl.x cl.y _ HCC.out HLC.out.1 HLC.out.2.1 HLC.out.2.2.1 HLC.out.2.2.2.1).mono ?_); rw [if_pos HZ.out]; rintro e_ w2 ⟨rfl, hb_⟩; have HB2 := Aside0.mk hb_; clear hb_))
    go_roundw
    case rel =>
     refine ⟨k + 1, by omega, by go_num, ⟨below_then HB.out HB.out.size HB2.out⟩, ⟨?_⟩⟩
     rw [← HDR.out, decide_eq_true HZ.out, Bool.true_and]
    case measure => simp [intOf]; omega
   ·have HZ := Aside0.mk hz
    have hrf : false = res := by rw [← HDR.out, decide_eq_false hz, Bool.false_and]
    subst hrf
    clear hz
    go_wp2_with (first | (go_at_call 137; (with_reducible refine (both_calls _ cl.b cl.A cl.B cl.x cl.y _ HCC.out HLC.out.1 HLC.out.2.1 HLC.out.2.2.1 HLC.out.2.2.2.1).mono ?_); rw [if_neg HZ.out]; rintro e_ w2 ⟨rfl, hb_⟩; have HB2 := Aside0.mk hb_; clear hb_))
    go_ret
    exact ⟨rfl, below_then HB1.out HB1.out.size (below_then HB.out HB.out.size HB2.out)⟩
  ·obtain rfl : k = L.length := by omega
   have d1 : decide ((L.length : Int) < (L.length : Int)) = false := decide_eq_false (by omega)
   have hrt : true = res := by rw [← HRR.out, List.drop_length]; rfl
   subst hrt
   go_wp2
   go_ret
   exact ⟨rfl, below_then HB1.out HB1.out.size HB.out⟩
def entry_Balanced.f (l0 : List S109) : Option Bool := if l0.length ≤ 1000000 ∧ (∀ x ∈ l0, x.f1.size ≤ maxLen ∧ i64ok x.f2 ∧ i64ok x.f3) then some (balB l0) else none
theorem entry_Balanced.calls (A0 : Option Addr) (c0 : Nat) (l0 : List S109) (r : Bool) (w : World) (hr0 : Kd.C k109 w A0 l0.length l0) (hc0 : l0.length ≤ c0) (h : entry_Balanced.f l0 = some r) :
  Calls Tryd.prog 96 #[.slice A0 l0.length c0] w fun e w' => e = .returned (.bool r) ∧ Below w.heap.size w w' := by
 unfold entry_Balanced.f at h
 split at h
 ·rename_i hok
  obtain rfl := Option.some.inj h
  exact balanced_calls A0 c0 l0 w hr0 hc0 hok.1 (fun x hx => (hok.2 x hx).1) (fun x hx => (hok.2 x hx).2)
 ·cases h
end Go.Proofs.YtppcjoaghlecmaaDoor.P
namespace Go.Proofs.YtppcjoaghlecmaaDoor.P
open Go.RowKit Go.Proofs.YtppcjoaghlecmaaDoorW.PrintWords Go.Proofs.YtppcjoaghlecmaaDoorW.PrintLast Go.Proofs.YtppcjoaghlecmaaDoorW.PrintMore
attribute [local go_sem] max2_int min2_int max_two min_two max_three min_three max_four min_four
set_option linter.unusedVariables false
set_option linter.unusedSimpArgs false
def entry_Check.l0 : Nat → List (S109) → Int → Int → Int → ByteArray → Int → Int → Int → ByteArray → ByteArray → Int → List (S109) → Option (Int × Int)
 | 0, _, _, _, _, _, _, _, _, _, _, _, _ => none
 | k + 1, x14, x15, x16, x152000, x152001, x152002, x152003, x152004, x152005, x152006, x152007, x152008 => if x16 < x15 then (if 0 ≤ x16 then (if x16 < (x14.length : Int) then ((entry_Line.f k ((rd_T109 x14 x16).f0) ((rd_T109 x14 x16).f1) ((rd_T109 x14 x16).f2) ((rd_T109 x14 x16).f3) ((rd_T109 x14 x16).f4) ((rd_T109 x14 x16).f5) ((rd_T109 x14 x16).f6)).bind fun t155 => (if t155 = 0 then (entry_Check.l0 k x14 x15 (wrap64 (x16 + 1)) x152000 x152001 x152002 x152003 x152004 x152005 x152006 x152007 x152008) else (some (x16, t155)))) else (none)) else (none)) else ((entry_Balanced.f x152008).bind fun t156 => (if t156 = true then (some ((-1), 0)) else (some ((-1), 15))))
def entry_Check.f (k : Nat) (a0_0 : Int) (a0_1 : ByteArray) (a0_2 : Int) (a0_3 : Int) (a0_4 : Int) (a0_5 : ByteArray) (a0_6 : ByteArray) (a0_7 : Int) (l0_8 : List (S109)) : Option (Int × Int) := (entry_head.f k a0_0 a0_1 a0_2 a0_3 a0_4 a0_5 a0_6 a0_7 l0_8).bind fun t152 => (if t152 = 0 then (entry_Check.l0 k l0_8 (l0_8.length : Int) 0 a0_0 a0_1 a0_2 a0_3 a0_4 a0_5 a0_6 a0_7 l0_8) else (some ((-1), t152)))
theorem entry_Check.mono_l : ∀ k, (∀ y0 y1 y2 y3 y4 y5 y6 y7 y8 y9 y10 y11, LeO (entry_Check.l0 k y0 y1 y2 y3 y4 y5 y6 y7 y8 y9 y10 y11) (entry_Check.l0 (k + 1) y0 y1 y2 y3 y4 y5 y6 y7 y8 y9 y10 y11))
 | 0 => fun _ _ _ _ _ _ _ _ _ _ _ _ r h => by simp [entry_Check.l0] at h
 | k + 1 => by
  have ih0 := entry_Check.mono_l k
  ·intro y0 y1 y2 y3 y4 y5 y6 y7 y8 y9 y10 y11
   unfold entry_Check.l0
   repeat' first
   | (with_reducible exact ih0 _ _ _ _ _ _ _ _ _ _ _ _)
   | (with_reducible exact entry_Line.mono _ _ _ _ _ _ _ _)
   | (with_reducible exact entry_head.mono _ _ _ _ _ _ _ _ _ _)
   | (with_reducible exact LeO.refl _)
   | (with_reducible exact LeO.none _)
   | (with_reducible refine LeO.ite ?_ ?_)
   | (with_reducible refine LeO.bind ?_ (fun _ => ?_))
   | exact ih0 _ _ _ _ _ _ _ _ _ _ _ _
   | exact entry_Line.mono _ _ _ _ _ _ _ _
   | exact entry_head.mono _ _ _ _ _ _ _ _ _ _
   | exact LeO.none _
   | refine LeO.ite ?_ ?_
   | refine LeO.bind ?_ (fun _ => ?_)
theorem entry_Check.mono : ∀ a0 a1 a2 a3 a4 a5 a6 a7 a8 k, LeO (entry_Check.f k a0 a1 a2 a3 a4 a5 a6 a7 a8) (entry_Check.f (k + 1) a0 a1 a2 a3 a4 a5 a6 a7 a8) := by
 intro a0 a1 a2 a3 a4 a5 a6 a7 a8 k
 have ih0 := entry_Check.mono_l k
 unfold entry_Check.f
 repeat' first
   | (with_reducible exact ih0 _ _ _ _ _ _ _ _ _ _ _ _)
   | (with_reducible exact entry_Line.mono _ _ _ _ _ _ _ _)
   | (with_reducible exact entry_head.mono _ _ _ _ _ _ _ _ _ _)
   | (with_reducible exact LeO.refl _)
   | (with_reducible exact LeO.none _)
   | (with_reducible refine LeO.ite ?_ ?_)
   | (with_reducible refine LeO.bind ?_ (fun _ => ?_))
   | exact ih0 _ _ _ _ _ _ _ _ _ _ _ _
   | exact entry_Line.mono _ _ _ _ _ _ _ _
   | exact entry_head.mono _ _ _ _ _ _ _ _ _ _
   | exact LeO.none _
   | refine LeO.ite ?_ ?_
   | refine LeO.bind ?_ (fun _ => ?_)
set_option maxHeartbeats 8000000 in
set_option maxRecDepth 100000 in
theorem entry_Check.calls (k : Nat) (a0_0 : Int) (a0_1 : ByteArray) (a0_2 : Int) (a0_3 : Int) (a0_4 : Int) (a0_5 : ByteArray) (a0_6 : ByteArray) (a0_7 : Int) (A0_8 : Option Addr) (c0_8 : Nat) (l0_8 : List (S109)) (r1 : Int) (r2 : Int) (w : World) (hr0_8 : Kd.C k109 w A0_8 l0_8.length l0_8) (hc0_8 : l0_8.length ≤ c0_8) (h : entry_Check.f k a0_0 a0_1 a0_2 a0_3 a0_4 a0_5 a0_6 a0_7 l0_8 = some (r1, r2)) (hT : Tab w) :
  Calls Tryd.prog 47 #[.agg #[.int .i64 a0_0, .string a0_1, .int .i64 a0_2, .int .i64 a0_3, .int .i64 a0_4, .string a0_5, .string a0_6, .int .i64 a0_7, .slice A0_8 l0_8.length c0_8]] w fun e w' => e = .returned (.tuple #[.int .i64 r1, .int .i64 r2]) ∧ Below w.heap.size w w' := by
 have HTB := Aside0.mk hT
 clear hT
 have hu29 := Tryd.underlying29
 have hu109 := Tryd.underlying109
 have HR0_8 := Aside0.mk hr0_8
 have HC0_8 := Aside0.mk hc0_8
 clear hr0_8 hc0_8
 have HB := Aside0.mk (Below.refl w.heap.size w)
 have H : ((entry_head.f k a0_0 a0_1 a0_2 a0_3 a0_4 a0_5 a0_6 a0_7 l0_8).bind fun t152 => (if t152 = 0 then (entry_Check.l0 k l0_8 (l0_8.length : Int) 0 a0_0 a0_1 a0_2 a0_3 a0_4 a0_5 a0_6 a0_7 l0_8) else (some ((-1), t152)))) = some (r1, r2) := h
 clear h
 replace H := Option.bind_eq_some_iff.mp H
 obtain ⟨t152, A20, H⟩ := H
 try dsimp only at H
 have A2 := Aside0.mk A20
 clear A20
 by_cases c3 : t152 = 0
 ·rw [if_pos c3] at H
  have c3b0 : (t152 == 0) = true := beq_iff_eq.mpr c3
  have c3b1 : (t152 != 0) = false := bne_eq_false_iff_eq.mpr c3
  clear c3
  have H' := Aside0.mk H
  clear H
  go_enter Tryd.func47, Tryd.ntmps47
  go_wp2_with (first | ((with_reducible refine gate_dst (N := 1) rfl ?_); refine box_event ?hg (N := 1) ?hd (cs := #[.int .i64 a0_0, .string a0_1, .int .i64 a0_2, .int .i64 a0_3, .int .i64 a0_4, .string a0_5, .string a0_6, .int .i64 a0_7, .slice A0_8 l0_8.length c0_8]) (t := 29) ?hr ?_; (case hd => rfl); (case hg => rfl); (case hr => first | (go_simp; done) | (go_simp; rfl)); intro gb151 hg w4 hbox hb; have n0_ := Aside0.mk (below_step (by repeat (first | (with_reducible first | exact HB.out | apply below_alloc | apply pw_below_drewN | apply below_drew1) | exact HB.out)) hb); have n1_ := Aside0.mk (hbox); have n2_ := Aside0.mk ((by rw [hg]; exact (below_size (by repeat (first | (with_reducible first | exact HB.out | apply below_alloc | apply pw_below_drewN | apply below_drew1) | exact HB.out))) : w.heap.size ≤ gb151)); have n3_ := Aside0.mk ((by rw [hg]; exact (below_size (by repeat (first | (with_reducible first | exact HB.out | apply below_alloc | apply pw_below_drewN | apply below_drew1) | exact HB.out))) : w.heap.size ≤ gb151)); clear HB; have HB := n0_; have BK151 := n1_; have GW151 := n2_; have GE151 := n3_; clear n0_ n1_ n2_ n3_; clear hb hbox hg; have hcz5_0 : w4.cell? ⟨gb151, 0, none⟩ = some (.int .i64 a0_0) := (blk_cell BK151.out 0).trans rfl; have hcz5_1 : w4.cell? ⟨gb151, 1, none⟩ = some (.string a0_1) := (blk_cell BK151.out 1).trans rfl; have hcz5_2 : w4.cell? ⟨gb151, 2, none⟩ = some (.int .i64 a0_2) := (blk_cell BK151.out 2).trans rfl; have hcz5_3 : w4.cell? ⟨gb151, 3, none⟩ = some (.int .i64 a0_3) := (blk_cell BK151.out 3).trans rfl; have hcz5_4 : w4.cell? ⟨gb151, 4, none⟩ = some (.int .i64 a0_4) := (blk_cell BK151.out 4).trans rfl; have hcz5_5 : w4.cell? ⟨gb151, 5, none⟩ = some (.string a0_5) := (blk_cell BK151.out 5).trans rfl; have hcz5_6 : w4.cell? ⟨gb151, 6, none⟩ = some (.string a0_6) := (blk_cell BK151.out 6).trans rfl; have hcz5_7 : w4.cell? ⟨gb151, 7, none⟩ = some (.int .i64 a0_7) := (blk_cell BK151.out 7).trans rfl; have hcz5_8 : w4.cell? ⟨gb151, 8, none⟩ = some (.slice A0_8 l0_8.length c0_8) := (blk_cell BK151.out 8).trans rfl; have hfz5_0 := blk_frozen BK151.out 0; have hfz5_1 := blk_frozen BK151.out 1; have hfz5_2 := blk_frozen BK151.out 2; have hfz5_3 := blk_frozen BK151.out 3; have hfz5_4 := blk_frozen BK151.out 4; have hfz5_5 := blk_frozen BK151.out 5; have hfz5_6 := blk_frozen BK151.out 6; have hfz5_7 := blk_frozen BK151.out 7; have hfz5_8 := blk_frozen BK151.out 8) | ((with_reducible refine gate_callee (f := 94) rfl ?_); refine goesL_ (some 9) rfl rfl Tryd.func94 (by kernel_rfl) rfl #[.agg #[.int .i64 a0_0, .string a0_1, .int .i64 a0_2, .int .i64 a0_3, .int .i64 a0_4, .string a0_5, .string a0_6, .int .i64 a0_7, .slice A0_8 l0_8.length c0_8]] rfl (by (try simp only [List.map_toArray, List.map_cons, List.map_nil]); first | done | rfl | (simp only [List.length_drop, List.length_take]; rfl)) ?_; (with_reducible refine (entry_head.calls k a0_0 a0_1 a0_2 a0_3 a0_4 a0_5 a0_6 a0_7 _ _ l0_8 t152 _ ?side1 ?side2 A2.out (by first | exact HTB.out | (exact Tab.below HTB.out (by repeat (first | (with_reducible first | exact HB.out | apply below_alloc | apply pw_below_drewN | apply below_drew1 | apply pw_below_drew) | exact HB.out | refine below_set ?_ (Aside0.out (by assumption))))) | (repeat (first | exact HTB.out | apply Tab.alloc | apply Tab.drewN | apply Tab.drew)))).mono ?_); (case side1 => repeat (first | exact (Kd.C_below HR0_8.out HB.out) | (with_reducible refine Kd.C_alloc ?_ _) | (with_reducible refine Kd.C_drewN ?_ _) | (with_reducible refine Kd.C_drew ?_))); (case side2 => exact HC0_8.out); rintro e w6 ⟨rfl, hb⟩; refine ⟨_, rfl, ?_⟩; have n0_ := Aside0.mk (blk_below (g := gb151) (o := .cells #[.int .i64 a0_0, .string a0_1, .int .i64 a0_2, .int .i64 a0_3, .int .i64 a0_4, .string a0_5, .string a0_6, .int .i64 a0_7, .slice A0_8 l0_8.length c0_8] 29 (0, 0)) (by (with_reducible repeat (first | refine blk_drewN ?_ _ | refine blk_drew ?_ | refine blk_alloc ?_ _)); exact BK151.out) hb); have n1_ := Aside0.mk (below_step (by repeat (first | (with_reducible first | exact HB.out | apply below_alloc | apply pw_below_drewN | apply below_drew1 | refine below_set ?_ GE151.out) | exact HB.out)) hb); clear BK151; clear HB; have BK151 := n0_; have HB := n1_; clear n0_ n1_; (try clear hb); (try clear hb2); (try clear hk); (try clear hi); have hcz7_0 : w6.cell? ⟨gb151, 0, none⟩ = some (.int .i64 a0_0) := (blk_cell BK151.out 0).trans rfl; have hcz7_1 : w6.cell? ⟨gb151, 1, none⟩ = some (.string a0_1) := (blk_cell BK151.out 1).trans rfl; have hcz7_2 : w6.cell? ⟨gb151, 2, none⟩ = some (.int .i64 a0_2) := (blk_cell BK151.out 2).trans rfl; have hcz7_3 : w6.cell? ⟨gb151, 3, none⟩ = some (.int .i64 a0_3) := (blk_cell BK151.out 3).trans rfl; have hcz7_4 : w6.cell? ⟨gb151, 4, none⟩ = some (.int .i64 a0_4) := (blk_cell BK151.out 4).trans rfl; have hcz7_5 : w6.cell? ⟨gb151, 5, none⟩ = some (.string a0_5) := (blk_cell BK151.out 5).trans rfl; have hcz7_6 : w6.cell? ⟨gb151, 6, none⟩ = some (.string a0_6) := (blk_cell BK151.out 6).trans rfl; have hcz7_7 : w6.cell? ⟨gb151, 7, none⟩ = some (.int .i64 a0_7) := (blk_cell BK151.out 7).trans rfl; have hcz7_8 : w6.cell? ⟨gb151, 8, none⟩ = some (.slice A0_8 l0_8.length c0_8) := (blk_cell BK151.out 8).trans rfl; have hfz7_0 := blk_frozen BK151.out 0; have hfz7_1 := blk_frozen BK151.out 1; have hfz7_2 := blk_frozen BK151.out 2; have hfz7_3 := blk_frozen BK151.out 3; have hfz7_4 := blk_frozen BK151.out 4; have hfz7_5 := blk_frozen BK151.out 5; have hfz7_6 := blk_frozen BK151.out 6; have hfz7_7 := blk_frozen BK151.out 7; have hfz7_8 := blk_frozen BK151.out 8))
  go_loopg [16] k (fun kq v16 w' => ∃ (x16_1 : Int), v16 = .int .i64 x16_1 ∧ Aside0 (entry_Check.l0 kq l0_8 (l0_8.length : Int) x16_1 a0_0 a0_1 a0_2 a0_3 a0_4 a0_5 a0_6 a0_7 l0_8 = some (r1, r2)) ∧ Aside0 (kq ≤ k) ∧ Aside0 (w'.heap[gb151]? = some (.cells #[.int .i64 a0_0, .string a0_1, .int .i64 a0_2, .int .i64 a0_3, .int .i64 a0_4, .string a0_5, .string a0_6, .int .i64 a0_7, (.slice A0_8 l0_8.length c0_8)] 29 (0, 0))) ∧ Aside0 (Below w.heap.size w w'))
  case atStart => exact ⟨(0), (by first | rfl | (simp; done) | (simp [*]; done)), H', ⟨Nat.le_refl _⟩, ⟨by (with_reducible repeat (first | refine blk_drewN ?_ _ | refine blk_drew ?_ | refine blk_alloc ?_ _)); exact BK151.out⟩, ⟨by repeat (first | (with_reducible first | exact HB.out | apply below_alloc | apply pw_below_drewN | apply below_drew1 | refine below_set ?_ GE151.out) | exact HB.out)⟩⟩
  case round =>
   clear H'
   try clear p2
   try clear c3
   try clear c3b0
   try clear c3b1
   try clear c4
   try clear hcz5_0
   try clear hcz5_1
   try clear hcz5_2
   try clear hcz5_3
   try clear hcz5_4
   try clear hcz5_5
   try clear hcz5_6
   try clear hcz5_7
   try clear hcz5_8
   try clear hcz7_0
   try clear hcz7_1
   try clear hcz7_2
   try clear hcz7_3
   try clear hcz7_4
   try clear hcz7_5
   try clear hcz7_6
   try clear hcz7_7
   try clear hcz7_8
   try clear hfz5_0
   try clear hfz5_1
   try clear hfz5_2
   try clear hfz5_3
   try clear hfz5_4
   try clear hfz5_5
   try clear hfz5_6
   try clear hfz5_7
   try clear hfz5_8
   try clear hfz7_0
   try clear hfz7_1
   try clear hfz7_2
   try clear hfz7_3
   try clear hfz7_4
   try clear hfz7_5
   try clear hfz7_6
   try clear hfz7_7
   try clear hfz7_8
   obtain ⟨x16_1, rfl, HA, HK1, BK151, HB⟩ := hrel
   cases gk with
   | zero => exact absurd HA.out (by simp [entry_Check.l0])
   | succ k1 =>
    have H := HA.out
    clear HA
    simp only [entry_Check.l0] at H
    by_cases c8 : x16_1 < (l0_8.length : Int)
    ·rw [if_pos c8] at H
     have c8b0 : decide (x16_1 < (l0_8.length : Int)) = true := decide_eq_true c8
     clear c8
     by_cases c9 : 0 ≤ x16_1
     ·rw [if_pos c9] at H
      have c9b0 : decide (0 ≤ x16_1) = true := decide_eq_true c9
      clear c9
      by_cases c10 : x16_1 < (l0_8.length : Int)
      ·rw [if_pos c10] at H
       have c10b0 : decide (x16_1 < (l0_8.length : Int)) = true := decide_eq_true c10
       clear c10
       replace H := Option.bind_eq_some_iff.mp H
       obtain ⟨t155, A110, H⟩ := H
       try dsimp only at H
       have A11 := Aside0.mk A110
       clear A110
       by_cases c12 : t155 = 0
       ·rw [if_pos c12] at H
        have c12b0 : (t155 == 0) = true := beq_iff_eq.mpr c12
        have c12b1 : (t155 != 0) = false := bne_eq_false_iff_eq.mpr c12
        clear c12
        have H' := Aside0.mk H
        clear H
        have p153 : 0 ≤ (x16_1 : Int) := of_decide_eq_true (by first | (with_reducible assumption) | assumption)
        have q153 : x16_1 < (l0_8.length : Int) := of_decide_eq_true (by first | (with_reducible assumption) | assumption)
        obtain ⟨ad153, A153_6, c153_6, e153, hx153_0, hx153_1, hx153_2, hx153_3, hx153_4, hx153_5, hx153_6, hl153_6, hi153_6⟩ := at_T109 HR0_8.out x16_1 p153 q153
        cases e153
        replace hx153_0 := (HB.out.cell (World.block_lt_of_cell? w _ hx153_0)).trans hx153_0
        replace hx153_1 := (HB.out.cell (World.block_lt_of_cell? w _ hx153_1)).trans hx153_1
        replace hx153_2 := (HB.out.cell (World.block_lt_of_cell? w _ hx153_2)).trans hx153_2
        replace hx153_3 := (HB.out.cell (World.block_lt_of_cell? w _ hx153_3)).trans hx153_3
        replace hx153_4 := (HB.out.cell (World.block_lt_of_cell? w _ hx153_4)).trans hx153_4
        replace hx153_5 := (HB.out.cell (World.block_lt_of_cell? w _ hx153_5)).trans hx153_5
        replace hx153_6 := (HB.out.cell (World.block_lt_of_cell? w _ hx153_6)).trans hx153_6
        have HR153_6 := Aside0.mk hi153_6
        have HC153_6 := Aside0.mk hl153_6
        clear hi153_6 hl153_6
        replace p153 := eq_true p153
        replace q153 := eq_true q153
        go_wp2_with (first | ((with_reducible refine gate_dst (N := 6) rfl ?_); refine box_event ?hg (N := 6) ?hd (cs := #[.string (⟨#[]⟩ : ByteArray), .string (⟨#[]⟩ : ByteArray), .int .i64 0, .int .i64 0, .string (⟨#[]⟩ : ByteArray), .string (⟨#[]⟩ : ByteArray), .slice none 0 0]) (t := 109) ?hr ?_; (case hd => rfl); (case hg => rfl); (case hr => first | (go_simp; done) | (go_simp; rfl)); intro gb154 hg w13 hbox hb; have n0_ := Aside0.mk (blk_below (g := gb151) (o := .cells #[.int .i64 a0_0, .string a0_1, .int .i64 a0_2, .int .i64 a0_3, .int .i64 a0_4, .string a0_5, .string a0_6, .int .i64 a0_7, .slice (some ad153) l0_8.length c0_8] 29 (0, 0)) (by (with_reducible repeat (first | refine blk_drewN ?_ _ | refine blk_drew ?_ | refine blk_alloc ?_ _)); exact BK151.out) hb); have n1_ := Aside0.mk (below_step (by repeat (first | (with_reducible first | exact HB.out | apply below_alloc | apply pw_below_drewN | apply below_drew1 | refine below_set ?_ GE151.out) | exact HB.out)) hb); have n2_ := Aside0.mk (hbox); have n3_ := Aside0.mk ((by rw [hg]; exact (below_size (by repeat (first | (with_reducible first | exact HB.out | apply below_alloc | apply pw_below_drewN | apply below_drew1 | refine below_set ?_ GE151.out) | exact HB.out))) : w.heap.size ≤ gb154)); have n4_ := Aside0.mk ((by rw [hg]; exact (below_size (by repeat (first | (with_reducible first | exact HB.out | apply below_alloc | apply pw_below_drewN | apply below_drew1 | refine below_set ?_ GE151.out) | exact HB.out))) : w.heap.size ≤ gb154)); have n5_ := Aside0.mk ((by rw [hg]; exact Nat.ne_of_lt (blk_lt (g := gb151) (o := .cells #[.int .i64 a0_0, .string a0_1, .int .i64 a0_2, .int .i64 a0_3, .int .i64 a0_4, .string a0_5, .string a0_6, .int .i64 a0_7, .slice (some ad153) l0_8.length c0_8] 29 (0, 0)) (by (with_reducible repeat (first | refine blk_drewN ?_ _ | refine blk_drew ?_ | refine blk_alloc ?_ _)); exact BK151.out)) : gb151 ≠ gb154)); have n6_ := Aside0.mk ((by rw [hg]; exact Nat.ne_of_gt (blk_lt (g := gb151) (o := .cells #[.int .i64 a0_0, .string a0_1, .int .i64 a0_2, .int .i64 a0_3, .int .i64 a0_4, .string a0_5, .string a0_6, .int .i64 a0_7, .slice (some ad153) l0_8.length c0_8] 29 (0, 0)) (by (with_reducible repeat (first | refine blk_drewN ?_ _ | refine blk_drew ?_ | refine blk_alloc ?_ _)); exact BK151.out)) : gb154 ≠ gb151)); clear BK151; clear HB; have BK151 := n0_; have HB := n1_; have BK154 := n2_; have GW154 := n3_; have GE154 := n4_; have NB151_154 := n5_; have NB154_151 := n6_; clear n0_ n1_ n2_ n3_ n4_ n5_ n6_; clear hb hbox hg; have hnb14 := NB154_151.out; have hnc14 := NB151_154.out; have hcz15_0 : w13.cell? ⟨gb154, 0, none⟩ = some (.string (⟨#[]⟩ : ByteArray)) := (blk_cell BK154.out 0).trans rfl; have hcz15_1 : w13.cell? ⟨gb154, 1, none⟩ = some (.string (⟨#[]⟩ : ByteArray)) := (blk_cell BK154.out 1).trans rfl; have hcz15_2 : w13.cell? ⟨gb154, 2, none⟩ = some (.int .i64 0) := (blk_cell BK154.out 2).trans rfl; have hcz15_3 : w13.cell? ⟨gb154, 3, none⟩ = some (.int .i64 0) := (blk_cell BK154.out 3).trans rfl; have hcz15_4 : w13.cell? ⟨gb154, 4, none⟩ = some (.string (⟨#[]⟩ : ByteArray)) := (blk_cell BK154.out 4).trans rfl; have hcz15_5 : w13.cell? ⟨gb154, 5, none⟩ = some (.string (⟨#[]⟩ : ByteArray)) := (blk_cell BK154.out 5).trans rfl; have hcz15_6 : w13.cell? ⟨gb154, 6, none⟩ = some (.slice none 0 0) := (blk_cell BK154.out 6).trans rfl; have hfz15_0 := blk_frozen BK154.out 0; have hfz15_1 := blk_frozen BK154.out 1; have hfz15_2 := blk_frozen BK154.out 2; have hfz15_3 := blk_frozen BK154.out 3; have hfz15_4 := blk_frozen BK154.out 4; have hfz15_5 := blk_frozen BK154.out 5; have hfz15_6 := blk_frozen BK154.out 6) | ((with_reducible refine gate_callee (f := 95) rfl ?_); refine goesL_ (some 22) rfl rfl Tryd.func95 (by kernel_rfl) rfl #[.agg #[.string ((rd_T109 l0_8 x16_1).f0), .string ((rd_T109 l0_8 x16_1).f1), .int .i64 ((rd_T109 l0_8 x16_1).f2), .int .i64 ((rd_T109 l0_8 x16_1).f3), .string ((rd_T109 l0_8 x16_1).f4), .string ((rd_T109 l0_8 x16_1).f5), .slice A153_6 ((rd_T109 l0_8 x16_1).f6).length c153_6]] rfl (by (try simp only [List.map_toArray, List.map_cons, List.map_nil]); first | done | rfl | (simp only [List.length_drop, List.length_take]; rfl)) ?_; (with_reducible refine (entry_Line.calls k1 ((rd_T109 l0_8 x16_1).f0) ((rd_T109 l0_8 x16_1).f1) ((rd_T109 l0_8 x16_1).f2) ((rd_T109 l0_8 x16_1).f3) ((rd_T109 l0_8 x16_1).f4) ((rd_T109 l0_8 x16_1).f5) _ _ ((rd_T109 l0_8 x16_1).f6) t155 _ ?side1 ?side2 A11.out).mono ?_); (case side1 => exact Kd.C_below HR153_6.out (by repeat (first | (with_reducible first | exact HB.out | apply below_alloc | apply pw_below_drewN | apply below_drew1 | refine below_set ?_ GE151.out | refine below_set ?_ GE154.out) | exact HB.out))); (case side2 => exact HC153_6.out); rintro e w16 ⟨rfl, hb⟩; refine ⟨_, rfl, ?_⟩; have n0_ := Aside0.mk (blk_below (g := gb151) (o := .cells #[.int .i64 a0_0, .string a0_1, .int .i64 a0_2, .int .i64 a0_3, .int .i64 a0_4, .string a0_5, .string a0_6, .int .i64 a0_7, .slice (some ad153) l0_8.length c0_8] 29 (0, 0)) (by (with_reducible repeat (first | refine blk_drewN ?_ _ | refine blk_drew ?_ | refine blk_alloc ?_ _)); refine blk_far ?_ NB151_154.out _; (with_reducible repeat (first | refine blk_drewN ?_ _ | refine blk_drew ?_ | refine blk_alloc ?_ _)); refine blk_far ?_ NB151_154.out _; (with_reducible repeat (first | refine blk_drewN ?_ _ | refine blk_drew ?_ | refine blk_alloc ?_ _)); refine blk_far ?_ NB151_154.out _; (with_reducible repeat (first | refine blk_drewN ?_ _ | refine blk_drew ?_ | refine blk_alloc ?_ _)); refine blk_far ?_ NB151_154.out _; (with_reducible repeat (first | refine blk_drewN ?_ _ | refine blk_drew ?_ | refine blk_alloc ?_ _)); refine blk_far ?_ NB151_154.out _; (with_reducible repeat (first | refine blk_drewN ?_ _ | refine blk_drew ?_ | refine blk_alloc ?_ _)); refine blk_far ?_ NB151_154.out _; (with_reducible repeat (first | refine blk_drewN ?_ _ | refine blk_drew ?_ | refine blk_alloc ?_ _)); refine blk_far ?_ NB151_154.out _; (with_reducible repeat (first | refine blk_drewN ?_ _ | refine blk_drew ?_ | refine blk_alloc ?_ _)); exact BK151.out) hb); have n1_ := Aside0.mk (blk_below (g := gb154) (o := .cells #[.string ((rd_T109 l0_8 x16_1).f0), .string ((rd_T109 l0_8 x16_1).f1), .int .i64 ((rd_T109 l0_8 x16_1).f2), .int .i64 ((rd_T109 l0_8 x16_1).f3), .string ((rd_T109 l0_8 x16_1).f4), .string ((rd_T109 l0_8 x16_1).f5), .slice A153_6 ((rd_T109 l0_8 x16_1).f6).length c153_6] 109 (0, 0)) (by (with_reducible repeat (first | refine blk_drewN ?_ _ | refine blk_drew ?_ | refine blk_alloc ?_ _)); refine blk_put (cs := #[.string ((rd_T109 l0_8 x16_1).f0), .string ((rd_T109 l0_8 x16_1).f1), .int .i64 ((rd_T109 l0_8 x16_1).f2), .int .i64 ((rd_T109 l0_8 x16_1).f3), .string ((rd_T109 l0_8 x16_1).f4), .string ((rd_T109 l0_8 x16_1).f5), .slice none 0 0]) ?_ 6 _ rfl; (with_reducible repeat (first | refine blk_drewN ?_ _ | refine blk_drew ?_ | refine blk_alloc ?_ _)); refine blk_put (cs := #[.string ((rd_T109 l0_8 x16_1).f0), .string ((rd_T109 l0_8 x16_1).f1), .int .i64 ((rd_T109 l0_8 x16_1).f2), .int .i64 ((rd_T109 l0_8 x16_1).f3), .string ((rd_T109 l0_8 x16_1).f4), .string (⟨#[]⟩ : ByteArray), .slice none 0 0]) ?_ 5 _ rfl; (with_reducible repeat (first | refine blk_drewN ?_ _ | refine blk_drew ?_ | refine blk_alloc ?_ _)); refine blk_put (cs := #[.string ((rd_T109 l0_8 x16_1).f0), .string ((rd_T109 l0_8 x16_1).f1), .int .i64 ((rd_T109 l0_8 x16_1).f2), .int .i64 ((rd_T109 l0_8 x16_1).f3), .string (⟨#[]⟩ : ByteArray), .string (⟨#[]⟩ : ByteArray), .slice none 0 0]) ?_ 4 _ rfl; (with_reducible repeat (first | refine blk_drewN ?_ _ | refine blk_drew ?_ | refine blk_alloc ?_ _)); refine blk_put (cs := #[.string ((rd_T109 l0_8 x16_1).f0), .string ((rd_T109 l0_8 x16_1).f1), .int .i64 ((rd_T109 l0_8 x16_1).f2), .int .i64 0, .string (⟨#[]⟩ : ByteArray), .string (⟨#[]⟩ : ByteArray), .slice none 0 0]) ?_ 3 _ rfl; (with_reducible repeat (first | refine blk_drewN ?_ _ | refine blk_drew ?_ | refine blk_alloc ?_ _)); refine blk_put (cs := #[.string ((rd_T109 l0_8 x16_1).f0), .string ((rd_T109 l0_8 x16_1).f1), .int .i64 0, .int .i64 0, .string (⟨#[]⟩ : ByteArray), .string (⟨#[]⟩ : ByteArray), .slice none 0 0]) ?_ 2 _ rfl; (with_reducible repeat (first | refine blk_drewN ?_ _ | refine blk_drew ?_ | refine blk_alloc ?_ _)); refine blk_put (cs := #[.string ((rd_T109 l0_8 x16_1).f0), .string (⟨#[]⟩ : ByteArray), .int .i64 0, .int .i64 0, .string (⟨#[]⟩ : ByteArray), .string (⟨#[]⟩ : ByteArray), .slice none 0 0]) ?_ 1 _ rfl; (with_reducible repeat (first | refine blk_drewN ?_ _ | refine blk_drew ?_ | refine blk_alloc ?_ _)); refine blk_put (cs := #[.string (⟨#[]⟩ : ByteArray), .string (⟨#[]⟩ : ByteArray), .int .i64 0, .int .i64 0, .string (⟨#[]⟩ : ByteArray), .string (⟨#[]⟩ : ByteArray), .slice none 0 0]) ?_ 0 _ rfl; (with_reducible repeat (first | refine blk_drewN ?_ _ | refine blk_drew ?_ | refine blk_alloc ?_ _)); exact BK154.out) hb); have n2_ := Aside0.mk (below_step (by repeat (first | (with_reducible first | exact HB.out | apply below_alloc | apply pw_below_drewN | apply below_drew1 | refine below_set ?_ GE151.out | refine below_set ?_ GE154.out) | exact HB.out)) hb); clear BK151; clear BK154; clear HB; have BK151 := n0_; have BK154 := n1_; have HB := n2_; clear n0_ n1_ n2_; (try clear hb); (try clear hb2); (try clear hk); (try clear hi)))
        go_roundg k1
        case measure => have := HK1.out; omega
        case rel => exact ⟨(wrap64 (x16_1 + 1)), (by first | rfl | (simp; done) | (simp [*]; done)), H', ⟨by have := HK1.out; omega⟩, ⟨by (with_reducible repeat (first | refine blk_drewN ?_ _ | refine blk_drew ?_ | refine blk_alloc ?_ _)); exact BK151.out⟩, ⟨by repeat (first | (with_reducible first | exact HB.out | apply below_alloc | apply pw_below_drewN | apply below_drew1 | refine below_set ?_ GE151.out | refine below_set ?_ GE154.out) | exact HB.out)⟩⟩
       ·rw [if_neg c12] at H
        have c12b0 : (t155 == 0) = false := beq_eq_false_iff_ne.mpr c12
        have c12b1 : (t155 != 0) = true := bne_iff_ne.mpr c12
        simp only [Option.some.injEq, Prod.mk.injEq] at H
        obtain ⟨rfl, rfl⟩ := H
        have p153 : 0 ≤ (x16_1 : Int) := of_decide_eq_true (by first | (with_reducible assumption) | assumption)
        have q153 : x16_1 < (l0_8.length : Int) := of_decide_eq_true (by first | (with_reducible assumption) | assumption)
        obtain ⟨ad153, A153_6, c153_6, e153, hx153_0, hx153_1, hx153_2, hx153_3, hx153_4, hx153_5, hx153_6, hl153_6, hi153_6⟩ := at_T109 HR0_8.out x16_1 p153 q153
        cases e153
        replace hx153_0 := (HB.out.cell (World.block_lt_of_cell? w _ hx153_0)).trans hx153_0
        replace hx153_1 := (HB.out.cell (World.block_lt_of_cell? w _ hx153_1)).trans hx153_1
        replace hx153_2 := (HB.out.cell (World.block_lt_of_cell? w _ hx153_2)).trans hx153_2
        replace hx153_3 := (HB.out.cell (World.block_lt_of_cell? w _ hx153_3)).trans hx153_3
        replace hx153_4 := (HB.out.cell (World.block_lt_of_cell? w _ hx153_4)).trans hx153_4
        replace hx153_5 := (HB.out.cell (World.block_lt_of_cell? w _ hx153_5)).trans hx153_5
        replace hx153_6 := (HB.out.cell (World.block_lt_of_cell? w _ hx153_6)).trans hx153_6
        have HR153_6 := Aside0.mk hi153_6
        have HC153_6 := Aside0.mk hl153_6
        clear hi153_6 hl153_6
        replace p153 := eq_true p153
        replace q153 := eq_true q153
        go_wp2_with (first | ((with_reducible refine gate_dst (N := 6) rfl ?_); refine box_event ?hg (N := 6) ?hd (cs := #[.string (⟨#[]⟩ : ByteArray), .string (⟨#[]⟩ : ByteArray), .int .i64 0, .int .i64 0, .string (⟨#[]⟩ : ByteArray), .string (⟨#[]⟩ : ByteArray), .slice none 0 0]) (t := 109) ?hr ?_; (case hd => rfl); (case hg => rfl); (case hr => first | (go_simp; done) | (go_simp; rfl)); intro gb154 hg w17 hbox hb; have n0_ := Aside0.mk (blk_below (g := gb151) (o := .cells #[.int .i64 a0_0, .string a0_1, .int .i64 a0_2, .int .i64 a0_3, .int .i64 a0_4, .string a0_5, .string a0_6, .int .i64 a0_7, .slice (some ad153) l0_8.length c0_8] 29 (0, 0)) (by (with_reducible repeat (first | refine blk_drewN ?_ _ | refine blk_drew ?_ | refine blk_alloc ?_ _)); exact BK151.out) hb); have n1_ := Aside0.mk (below_step (by repeat (first | (with_reducible first | exact HB.out | apply below_alloc | apply pw_below_drewN | apply below_drew1 | refine below_set ?_ GE151.out) | exact HB.out)) hb); have n2_ := Aside0.mk (hbox); have n3_ := Aside0.mk ((by rw [hg]; exact (below_size (by repeat (first | (with_reducible first | exact HB.out | apply below_alloc | apply pw_below_drewN | apply below_drew1 | refine below_set ?_ GE151.out) | exact HB.out))) : w.heap.size ≤ gb154)); have n4_ := Aside0.mk ((by rw [hg]; exact (below_size (by repeat (first | (with_reducible first | exact HB.out | apply below_alloc | apply pw_below_drewN | apply below_drew1 | refine below_set ?_ GE151.out) | exact HB.out))) : w.heap.size ≤ gb154)); have n5_ := Aside0.mk ((by rw [hg]; exact Nat.ne_of_lt (blk_lt (g := gb151) (o := .cells #[.int .i64 a0_0, .string a0_1, .int .i64 a0_2, .int .i64 a0_3, .int .i64 a0_4, .string a0_5, .string a0_6, .int .i64 a0_7, .slice (some ad153) l0_8.length c0_8] 29 (0, 0)) (by (with_reducible repeat (first | refine blk_drewN ?_ _ | refine blk_drew ?_ | refine blk_alloc ?_ _)); exact BK151.out)) : gb151 ≠ gb154)); have n6_ := Aside0.mk ((by rw [hg]; exact Nat.ne_of_gt (blk_lt (g := gb151) (o := .cells #[.int .i64 a0_0, .string a0_1, .int .i64 a0_2, .int .i64 a0_3, .int .i64 a0_4, .string a0_5, .string a0_6, .int .i64 a0_7, .slice (some ad153) l0_8.length c0_8] 29 (0, 0)) (by (with_reducible repeat (first | refine blk_drewN ?_ _ | refine blk_drew ?_ | refine blk_alloc ?_ _)); exact BK151.out)) : gb154 ≠ gb151)); clear BK151; clear HB; have BK151 := n0_; have HB := n1_; have BK154 := n2_; have GW154 := n3_; have GE154 := n4_; have NB151_154 := n5_; have NB154_151 := n6_; clear n0_ n1_ n2_ n3_ n4_ n5_ n6_; clear hb hbox hg; have hnb18 := NB154_151.out; have hnc18 := NB151_154.out; have hcz19_0 : w17.cell? ⟨gb154, 0, none⟩ = some (.string (⟨#[]⟩ : ByteArray)) := (blk_cell BK154.out 0).trans rfl; have hcz19_1 : w17.cell? ⟨gb154, 1, none⟩ = some (.string (⟨#[]⟩ : ByteArray)) := (blk_cell BK154.out 1).trans rfl; have hcz19_2 : w17.cell? ⟨gb154, 2, none⟩ = some (.int .i64 0) := (blk_cell BK154.out 2).trans rfl; have hcz19_3 : w17.cell? ⟨gb154, 3, none⟩ = some (.int .i64 0) := (blk_cell BK154.out 3).trans rfl; have hcz19_4 : w17.cell? ⟨gb154, 4, none⟩ = some (.string (⟨#[]⟩ : ByteArray)) := (blk_cell BK154.out 4).trans rfl; have hcz19_5 : w17.cell? ⟨gb154, 5, none⟩ = some (.string (⟨#[]⟩ : ByteArray)) := (blk_cell BK154.out 5).trans rfl; have hcz19_6 : w17.cell? ⟨gb154, 6, none⟩ = some (.slice none 0 0) := (blk_cell BK154.out 6).trans rfl; have hfz19_0 := blk_frozen BK154.out 0; have hfz19_1 := blk_frozen BK154.out 1; have hfz19_2 := blk_frozen BK154.out 2; have hfz19_3 := blk_frozen BK154.out 3; have hfz19_4 := blk_frozen BK154.out 4; have hfz19_5 := blk_frozen BK154.out 5; have hfz19_6 := blk_frozen BK154.out 6) | ((with_reducible refine gate_callee (f := 95) rfl ?_); refine goesL_ (some 22) rfl rfl Tryd.func95 (by kernel_rfl) rfl #[.agg #[.string ((rd_T109 l0_8 x16_1).f0), .string ((rd_T109 l0_8 x16_1).f1), .int .i64 ((rd_T109 l0_8 x16_1).f2), .int .i64 ((rd_T109 l0_8 x16_1).f3), .string ((rd_T109 l0_8 x16_1).f4), .string ((rd_T109 l0_8 x16_1).f5), .slice A153_6 ((rd_T109 l0_8 x16_1).f6).length c153_6]] rfl (by (try simp only [List.map_toArray, List.map_cons, List.map_nil]); first | done | rfl | (simp only [List.length_drop, List.length_take]; rfl)) ?_; (with_reducible refine (entry_Line.calls k1 ((rd_T109 l0_8 x16_1).f0) ((rd_T109 l0_8 x16_1).f1) ((rd_T109 l0_8 x16_1).f2) ((rd_T109 l0_8 x16_1).f3) ((rd_T109 l0_8 x16_1).f4) ((rd_T109 l0_8 x16_1).f5) _ _ ((rd_T109 l0_8 x16_1).f6) t155 _ ?side1 ?side2 A11.out).mono ?_); (case side1 => exact Kd.C_below HR153_6.out (by repeat (first | (with_reducible first | exact HB.out | apply below_alloc | apply pw_below_drewN | apply below_drew1 | refine below_set ?_ GE151.out | refine below_set ?_ GE154.out) | exact HB.out))); (case side2 => exact HC153_6.out); rintro e w20 ⟨rfl, hb⟩; refine ⟨_, rfl, ?_⟩; have n0_ := Aside0.mk (blk_below (g := gb151) (o := .cells #[.int .i64 a0_0, .string a0_1, .int .i64 a0_2, .int .i64 a0_3, .int .i64 a0_4, .string a0_5, .string a0_6, .int .i64 a0_7, .slice (some ad153) l0_8.length c0_8] 29 (0, 0)) (by (with_reducible repeat (first | refine blk_drewN ?_ _ | refine blk_drew ?_ | refine blk_alloc ?_ _)); refine blk_far ?_ NB151_154.out _; (with_reducible repeat (first | refine blk_drewN ?_ _ | refine blk_drew ?_ | refine blk_alloc ?_ _)); refine blk_far ?_ NB151_154.out _; (with_reducible repeat (first | refine blk_drewN ?_ _ | refine blk_drew ?_ | refine blk_alloc ?_ _)); refine blk_far ?_ NB151_154.out _; (with_reducible repeat (first | refine blk_drewN ?_ _ | refine blk_drew ?_ | refine blk_alloc ?_ _)); refine blk_far ?_ NB151_154.out _; (with_reducible repeat (first | refine blk_drewN ?_ _ | refine blk_drew ?_ | refine blk_alloc ?_ _)); refine blk_far ?_ NB151_154.out _; (with_reducible repeat (first | refine blk_drewN ?_ _ | refine blk_drew ?_ | refine blk_alloc ?_ _)); refine blk_far ?_ NB151_154.out _; (with_reducible repeat (first | refine blk_drewN ?_ _ | refine blk_drew ?_ | refine blk_alloc ?_ _)); refine blk_far ?_ NB151_154.out _; (with_reducible repeat (first | refine blk_drewN ?_ _ | refine blk_drew ?_ | refine blk_alloc ?_ _)); exact BK151.out) hb); have n1_ := Aside0.mk (blk_below (g := gb154) (o := .cells #[.string ((rd_T109 l0_8 x16_1).f0), .string ((rd_T109 l0_8 x16_1).f1), .int .i64 ((rd_T109 l0_8 x16_1).f2), .int .i64 ((rd_T109 l0_8 x16_1).f3), .string ((rd_T109 l0_8 x16_1).f4), .string ((rd_T109 l0_8 x16_1).f5), .slice A153_6 ((rd_T109 l0_8 x16_1).f6).length c153_6] 109 (0, 0)) (by (with_reducible repeat (first | refine blk_drewN ?_ _ | refine blk_drew ?_ | refine blk_alloc ?_ _)); refine blk_put (cs := #[.string ((rd_T109 l0_8 x16_1).f0), .string ((rd_T109 l0_8 x16_1).f1), .int .i64 ((rd_T109 l0_8 x16_1).f2), .int .i64 ((rd_T109 l0_8 x16_1).f3), .string ((rd_T109 l0_8 x16_1).f4), .string ((rd_T109 l0_8 x16_1).f5), .slice none 0 0]) ?_ 6 _ rfl; (with_reducible repeat (first | refine blk_drewN ?_ _ | refine blk_drew ?_ | refine blk_alloc ?_ _)); refine blk_put (cs := #[.string ((rd_T109 l0_8 x16_1).f0), .string ((rd_T109 l0_8 x16_1).f1), .int .i64 ((rd_T109 l0_8 x16_1).f2), .int .i64 ((rd_T109 l0_8 x16_1).f3), .string ((rd_T109 l0_8 x16_1).f4), .string (⟨#[]⟩ : ByteArray), .slice none 0 0]) ?_ 5 _ rfl; (with_reducible repeat (first | refine blk_drewN ?_ _ | refine blk_drew ?_ | refine blk_alloc ?_ _)); refine blk_put (cs := #[.string ((rd_T109 l0_8 x16_1).f0), .string ((rd_T109 l0_8 x16_1).f1), .int .i64 ((rd_T109 l0_8 x16_1).f2), .int .i64 ((rd_T109 l0_8 x16_1).f3), .string (⟨#[]⟩ : ByteArray), .string (⟨#[]⟩ : ByteArray), .slice none 0 0]) ?_ 4 _ rfl; (with_reducible repeat (first | refine blk_drewN ?_ _ | refine blk_drew ?_ | refine blk_alloc ?_ _)); refine blk_put (cs := #[.string ((rd_T109 l0_8 x16_1).f0), .string ((rd_T109 l0_8 x16_1).f1), .int .i64 ((rd_T109 l0_8 x16_1).f2), .int .i64 0, .string (⟨#[]⟩ : ByteArray), .string (⟨#[]⟩ : ByteArray), .slice none 0 0]) ?_ 3 _ rfl; (with_reducible repeat (first | refine blk_drewN ?_ _ | refine blk_drew ?_ | refine blk_alloc ?_ _)); refine blk_put (cs := #[.string ((rd_T109 l0_8 x16_1).f0), .string ((rd_T109 l0_8 x16_1).f1), .int .i64 0, .int .i64 0, .string (⟨#[]⟩ : ByteArray), .string (⟨#[]⟩ : ByteArray), .slice none 0 0]) ?_ 2 _ rfl; (with_reducible repeat (first | refine blk_drewN ?_ _ | refine blk_drew ?_ | refine blk_alloc ?_ _)); refine blk_put (cs := #[.string ((rd_T109 l0_8 x16_1).f0), .string (⟨#[]⟩ : ByteArray), .int .i64 0, .int .i64 0, .string (⟨#[]⟩ : ByteArray), .string (⟨#[]⟩ : ByteArray), .slice none 0 0]) ?_ 1 _ rfl; (with_reducible repeat (first | refine blk_drewN ?_ _ | refine blk_drew ?_ | refine blk_alloc ?_ _)); refine blk_put (cs := #[.string (⟨#[]⟩ : ByteArray), .string (⟨#[]⟩ : ByteArray), .int .i64 0, .int .i64 0, .string (⟨#[]⟩ : ByteArray), .string (⟨#[]⟩ : ByteArray), .slice none 0 0]) ?_ 0 _ rfl; (with_reducible repeat (first | refine blk_drewN ?_ _ | refine blk_drew ?_ | refine blk_alloc ?_ _)); exact BK154.out) hb); have n2_ := Aside0.mk (below_step (by repeat (first | (with_reducible first | exact HB.out | apply below_alloc | apply pw_below_drewN | apply below_drew1 | refine below_set ?_ GE151.out | refine below_set ?_ GE154.out) | exact HB.out)) hb); clear BK151; clear BK154; clear HB; have BK151 := n0_; have BK154 := n1_; have HB := n2_; clear n0_ n1_ n2_; (try clear hb); (try clear hb2); (try clear hk); (try clear hi)))
        go_ret2
        exact ⟨by first | rfl | (simp [errW_none, errW_some] <;> rfl) | (simp [*, errW_none, errW_some] <;> rfl), by repeat (first | (with_reducible first | exact HB.out | apply below_alloc | apply pw_below_drewN | apply below_drew1 | refine below_set ?_ GE151.out | refine below_set ?_ GE154.out) | exact HB.out)⟩
      ·rw [if_neg c10] at H
       exact absurd H (by simp)
     ·rw [if_neg c9] at H
      exact absurd H (by simp)
    ·rw [if_neg c8] at H
     have c8b0 : decide (x16_1 < (l0_8.length : Int)) = false := decide_eq_false c8
     clear c8
     replace H := Option.bind_eq_some_iff.mp H
     obtain ⟨t156, A210, H⟩ := H
     replace H : (if t156 = true then (some ((-1), 0)) else (some ((-1), 15))) = some (r1, r2) := H
     have A21 := Aside0.mk A210
     clear A210
     by_cases c22 : t156 = true
     ·subst c22
      have H1 : (some ((-1), 0)) = some (r1, r2) := by rw [if_pos rfl] at H; exact H
      clear H
      have H := H1
      clear H1
      simp only [Option.some.injEq, Prod.mk.injEq] at H
      obtain ⟨rfl, rfl⟩ := H
      have hcz23_0 : wr.cell? ⟨gb151, 0, none⟩ = some (.int .i64 a0_0) := (blk_cell BK151.out 0).trans rfl
      have hcz23_1 : wr.cell? ⟨gb151, 1, none⟩ = some (.string a0_1) := (blk_cell BK151.out 1).trans rfl
      have hcz23_2 : wr.cell? ⟨gb151, 2, none⟩ = some (.int .i64 a0_2) := (blk_cell BK151.out 2).trans rfl
      have hcz23_3 : wr.cell? ⟨gb151, 3, none⟩ = some (.int .i64 a0_3) := (blk_cell BK151.out 3).trans rfl
      have hcz23_4 : wr.cell? ⟨gb151, 4, none⟩ = some (.int .i64 a0_4) := (blk_cell BK151.out 4).trans rfl
      have hcz23_5 : wr.cell? ⟨gb151, 5, none⟩ = some (.string a0_5) := (blk_cell BK151.out 5).trans rfl
      have hcz23_6 : wr.cell? ⟨gb151, 6, none⟩ = some (.string a0_6) := (blk_cell BK151.out 6).trans rfl
      have hcz23_7 : wr.cell? ⟨gb151, 7, none⟩ = some (.int .i64 a0_7) := (blk_cell BK151.out 7).trans rfl
      have hcz23_8 : wr.cell? ⟨gb151, 8, none⟩ = some (.slice A0_8 l0_8.length c0_8) := (blk_cell BK151.out 8).trans rfl
      have hfz23_0 := blk_frozen BK151.out 0
      have hfz23_1 := blk_frozen BK151.out 1
      have hfz23_2 := blk_frozen BK151.out 2
      have hfz23_3 := blk_frozen BK151.out 3
      have hfz23_4 := blk_frozen BK151.out 4
      have hfz23_5 := blk_frozen BK151.out 5
      have hfz23_6 := blk_frozen BK151.out 6
      have hfz23_7 := blk_frozen BK151.out 7
      have hfz23_8 := blk_frozen BK151.out 8
      go_wp2_with (first | ((with_reducible refine gate_callee (f := 96) rfl ?_); refine goesL_ (some 30) rfl rfl Tryd.func96 (by kernel_rfl) rfl #[.slice A0_8 l0_8.length c0_8] rfl (by (try simp only [List.map_toArray, List.map_cons, List.map_nil]); first | done | rfl | (simp only [List.length_drop, List.length_take]; rfl)) ?_; (with_reducible refine (entry_Balanced.calls _ _ l0_8 true _ ?side1 ?side2 A21.out).mono ?_); (case side1 => repeat (first | exact (Kd.C_below HR0_8.out HB.out) | (with_reducible refine Kd.C_alloc ?_ _) | (with_reducible refine Kd.C_drewN ?_ _) | (with_reducible refine Kd.C_drew ?_))); (case side2 => exact HC0_8.out); rintro e w24 ⟨rfl, hb⟩; refine ⟨_, rfl, ?_⟩; have n0_ := Aside0.mk (blk_below (g := gb151) (o := .cells #[.int .i64 a0_0, .string a0_1, .int .i64 a0_2, .int .i64 a0_3, .int .i64 a0_4, .string a0_5, .string a0_6, .int .i64 a0_7, .slice A0_8 l0_8.length c0_8] 29 (0, 0)) (by (with_reducible repeat (first | refine blk_drewN ?_ _ | refine blk_drew ?_ | refine blk_alloc ?_ _)); exact BK151.out) hb); have n1_ := Aside0.mk (below_step (by repeat (first | (with_reducible first | exact HB.out | apply below_alloc | apply pw_below_drewN | apply below_drew1 | refine below_set ?_ GE151.out) | exact HB.out)) hb); clear BK151; clear HB; have BK151 := n0_; have HB := n1_; clear n0_ n1_; (try clear hb); (try clear hb2); (try clear hk); (try clear hi)))
      go_ret2
      exact ⟨by first | rfl | (simp [errW_none, errW_some] <;> rfl) | (simp [*, errW_none, errW_some] <;> rfl), by repeat (first | (with_reducible first | exact HB.out | apply below_alloc | apply pw_below_drewN | apply below_drew1 | refine below_set ?_ GE151.out) | exact HB.out)⟩
     ·replace c22 := Bool.eq_false_iff.mpr c22
      subst c22
      have H1 : (some ((-1), 15)) = some (r1, r2) := by rw [if_neg (show ¬ (false = true) by decide)] at H; exact H
      clear H
      have H := H1
      clear H1
      simp only [Option.some.injEq, Prod.mk.injEq] at H
      obtain ⟨rfl, rfl⟩ := H
      have hcz25_0 : wr.cell? ⟨gb151, 0, none⟩ = some (.int .i64 a0_0) := (blk_cell BK151.out 0).trans rfl
      have hcz25_1 : wr.cell? ⟨gb151, 1, none⟩ = some (.string a0_1) := (blk_cell BK151.out 1).trans rfl
      have hcz25_2 : wr.cell? ⟨gb151, 2, none⟩ = some (.int .i64 a0_2) := (blk_cell BK151.out 2).trans rfl
      have hcz25_3 : wr.cell? ⟨gb151, 3, none⟩ = some (.int .i64 a0_3) := (blk_cell BK151.out 3).trans rfl
      have hcz25_4 : wr.cell? ⟨gb151, 4, none⟩ = some (.int .i64 a0_4) := (blk_cell BK151.out 4).trans rfl
      have hcz25_5 : wr.cell? ⟨gb151, 5, none⟩ = some (.string a0_5) := (blk_cell BK151.out 5).trans rfl
      have hcz25_6 : wr.cell? ⟨gb151, 6, none⟩ = some (.string a0_6) := (blk_cell BK151.out 6).trans rfl
      have hcz25_7 : wr.cell? ⟨gb151, 7, none⟩ = some (.int .i64 a0_7) := (blk_cell BK151.out 7).trans rfl
      have hcz25_8 : wr.cell? ⟨gb151, 8, none⟩ = some (.slice A0_8 l0_8.length c0_8) := (blk_cell BK151.out 8).trans rfl
      have hfz25_0 := blk_frozen BK151.out 0
      have hfz25_1 := blk_frozen BK151.out 1
      have hfz25_2 := blk_frozen BK151.out 2
      have hfz25_3 := blk_frozen BK151.out 3
      have hfz25_4 := blk_frozen BK151.out 4
      have hfz25_5 := blk_frozen BK151.out 5
      have hfz25_6 := blk_frozen BK151.out 6
      have hfz25_7 := blk_frozen BK151.out 7
      have hfz25_8 := blk_frozen BK151.out 8
      go_wp2_with (first | ((with_reducible refine gate_callee (f := 96) rfl ?_); refine goesL_ (some 30) rfl rfl Tryd.func96 (by kernel_rfl) rfl #[.slice A0_8 l0_8.length c0_8] rfl (by (try simp only [List.map_toArray, List.map_cons, List.map_nil]); first | done | rfl | (simp only [List.length_drop, List.length_take]; rfl)) ?_; (with_reducible refine (entry_Balanced.calls _ _ l0_8 false _ ?side1 ?side2 A21.out).mono ?_); (case side1 => repeat (first | exact (Kd.C_below HR0_8.out HB.out) | (with_reducible refine Kd.C_alloc ?_ _) | (with_reducible refine Kd.C_drewN ?_ _) | (with_reducible refine Kd.C_drew ?_))); (case side2 => exact HC0_8.out); rintro e w26 ⟨rfl, hb⟩; refine ⟨_, rfl, ?_⟩; have n0_ := Aside0.mk (blk_below (g := gb151) (o := .cells #[.int .i64 a0_0, .string a0_1, .int .i64 a0_2, .int .i64 a0_3, .int .i64 a0_4, .string a0_5, .string a0_6, .int .i64 a0_7, .slice A0_8 l0_8.length c0_8] 29 (0, 0)) (by (with_reducible repeat (first | refine blk_drewN ?_ _ | refine blk_drew ?_ | refine blk_alloc ?_ _)); exact BK151.out) hb); have n1_ := Aside0.mk (below_step (by repeat (first | (with_reducible first | exact HB.out | apply below_alloc | apply pw_below_drewN | apply below_drew1 | refine below_set ?_ GE151.out) | exact HB.out)) hb); clear BK151; clear HB; have BK151 := n0_; have HB := n1_; clear n0_ n1_; (try clear hb); (try clear hb2); (try clear hk); (try clear hi)))
      go_ret2
      exact ⟨by first | rfl | (simp [errW_none, errW_some] <;> rfl) | (simp [*, errW_none, errW_some] <;> rfl), by repeat (first | (with_reducible first | exact HB.out | apply below_alloc | apply pw_below_drewN | apply below_drew1 | refine below_set ?_ GE151.out) | exact HB.out)⟩
 ·rw [if_neg c3] at H
  have c3b0 : (t152 == 0) = false := beq_eq_false_iff_ne.mpr c3
  have c3b1 : (t152 != 0) = true := bne_iff_ne.mpr c3
  simp only [Option.some.injEq, Prod.mk.injEq] at H
  obtain ⟨rfl, rfl⟩ := H
  go_enter Tryd.func47, Tryd.ntmps47
  go_wp2_with (first | ((with_reducible refine gate_dst (N := 1) rfl ?_); refine box_event ?hg (N := 1) ?hd (cs := #[.int .i64 a0_0, .string a0_1, .int .i64 a0_2, .int .i64 a0_3, .int .i64 a0_4, .string a0_5, .string a0_6, .int .i64 a0_7, .slice A0_8 l0_8.length c0_8]) (t := 29) ?hr ?_; (case hd => rfl); (case hg => rfl); (case hr => first | (go_simp; done) | (go_simp; rfl)); intro gb151 hg w27 hbox hb; have n0_ := Aside0.mk (below_step (by repeat (first | (with_reducible first | exact HB.out | apply below_alloc | apply pw_below_drewN | apply below_drew1) | exact HB.out)) hb); have n1_ := Aside0.mk (hbox); have n2_ := Aside0.mk ((by rw [hg]; exact (below_size (by repeat (first | (with_reducible first | exact HB.out | apply below_alloc | apply pw_below_drewN | apply below_drew1) | exact HB.out))) : w.heap.size ≤ gb151)); have n3_ := Aside0.mk ((by rw [hg]; exact (below_size (by repeat (first | (with_reducible first | exact HB.out | apply below_alloc | apply pw_below_drewN | apply below_drew1) | exact HB.out))) : w.heap.size ≤ gb151)); clear HB; have HB := n0_; have BK151 := n1_; have GW151 := n2_; have GE151 := n3_; clear n0_ n1_ n2_ n3_; clear hb hbox hg; have hcz28_0 : w27.cell? ⟨gb151, 0, none⟩ = some (.int .i64 a0_0) := (blk_cell BK151.out 0).trans rfl; have hcz28_1 : w27.cell? ⟨gb151, 1, none⟩ = some (.string a0_1) := (blk_cell BK151.out 1).trans rfl; have hcz28_2 : w27.cell? ⟨gb151, 2, none⟩ = some (.int .i64 a0_2) := (blk_cell BK151.out 2).trans rfl; have hcz28_3 : w27.cell? ⟨gb151, 3, none⟩ = some (.int .i64 a0_3) := (blk_cell BK151.out 3).trans rfl; have hcz28_4 : w27.cell? ⟨gb151, 4, none⟩ = some (.int .i64 a0_4) := (blk_cell BK151.out 4).trans rfl; have hcz28_5 : w27.cell? ⟨gb151, 5, none⟩ = some (.string a0_5) := (blk_cell BK151.out 5).trans rfl; have hcz28_6 : w27.cell? ⟨gb151, 6, none⟩ = some (.string a0_6) := (blk_cell BK151.out 6).trans rfl; have hcz28_7 : w27.cell? ⟨gb151, 7, none⟩ = some (.int .i64 a0_7) := (blk_cell BK151.out 7).trans rfl; have hcz28_8 : w27.cell? ⟨gb151, 8, none⟩ = some (.slice A0_8 l0_8.length c0_8) := (blk_cell BK151.out 8).trans rfl; have hfz28_0 := blk_frozen BK151.out 0; have hfz28_1 := blk_frozen BK151.out 1; have hfz28_2 := blk_frozen BK151.out 2; have hfz28_3 := blk_frozen BK151.out 3; have hfz28_4 := blk_frozen BK151.out 4; have hfz28_5 := blk_frozen BK151.out 5; have hfz28_6 := blk_frozen BK151.out 6; have hfz28_7 := blk_frozen BK151.out 7; have hfz28_8 := blk_frozen BK151.out 8) | ((with_reducible refine gate_callee (f := 94) rfl ?_); refine goesL_ (some 9) rfl rfl Tryd.func94 (by kernel_rfl) rfl #[.agg #[.int .i64 a0_0, .string a0_1, .int .i64 a0_2, .int .i64 a0_3, .int .i64 a0_4, .string a0_5, .string a0_6, .int .i64 a0_7, .slice A0_8 l0_8.length c0_8]] rfl (by (try simp only [List.map_toArray, List.map_cons, List.map_nil]); first | done | rfl | (simp only [List.length_drop, List.length_take]; rfl)) ?_; (with_reducible refine (entry_head.calls k a0_0 a0_1 a0_2 a0_3 a0_4 a0_5 a0_6 a0_7 _ _ l0_8 t152 _ ?side1 ?side2 A2.out (by first | exact HTB.out | (exact Tab.below HTB.out (by repeat (first | (with_reducible first | exact HB.out | apply below_alloc | apply pw_below_drewN | apply below_drew1 | apply pw_below_drew) | exact HB.out | refine below_set ?_ (Aside0.out (by assumption))))) | (repeat (first | exact HTB.out | apply Tab.alloc | apply Tab.drewN | apply Tab.drew)))).mono ?_); (case side1 => repeat (first | exact (Kd.C_below HR0_8.out HB.out) | (with_reducible refine Kd.C_alloc ?_ _) | (with_reducible refine Kd.C_drewN ?_ _) | (with_reducible refine Kd.C_drew ?_))); (case side2 => exact HC0_8.out); rintro e w29 ⟨rfl, hb⟩; refine ⟨_, rfl, ?_⟩; have n0_ := Aside0.mk (blk_below (g := gb151) (o := .cells #[.int .i64 a0_0, .string a0_1, .int .i64 a0_2, .int .i64 a0_3, .int .i64 a0_4, .string a0_5, .string a0_6, .int .i64 a0_7, .slice A0_8 l0_8.length c0_8] 29 (0, 0)) (by (with_reducible repeat (first | refine blk_drewN ?_ _ | refine blk_drew ?_ | refine blk_alloc ?_ _)); exact BK151.out) hb); have n1_ := Aside0.mk (below_step (by repeat (first | (with_reducible first | exact HB.out | apply below_alloc | apply pw_below_drewN | apply below_drew1 | refine below_set ?_ GE151.out) | exact HB.out)) hb); clear BK151; clear HB; have BK151 := n0_; have HB := n1_; clear n0_ n1_; (try clear hb); (try clear hb2); (try clear hk); (try clear hi)))
  go_ret2
  exact ⟨by first | rfl | (simp [errW_none, errW_some] <;> rfl) | (simp [*, errW_none, errW_some] <;> rfl), by repeat (first | (with_reducible first | exact HB.out | apply below_alloc | apply pw_below_drewN | apply below_drew1 | refine below_set ?_ GE151.out) | exact HB.out)⟩
theorem mk_event {o : Oper} {ops : Array Oper} {rest : List Oper} {a : Act} {Q : Exit → Act → World → Prop} {W : World} (hgd : o.guard = none) {N : Tmp} (_hd : o.dst = some N) (s : Operand) (hop : o.op = .makeSlice 32 (.const (.int .i64 0)) s) (c : Nat) {m : Int} (hs : a.eval s = .int .i64 m) (hm : m = (c : Int)) (hc : c ≤ 2000000) (base : Nat) (hb : base ≤ W.heap.size)
  (h : ∀ g w1, g = W.heap.size → w1.ownsRow base 112 7 (.slice (some ⟨g, 0, none⟩) 0 c) 0 [] → Below W.heap.size W w1 → wpList Tryd.prog ops Q rest (a.put o.dst (.slice (some ⟨g, 0, none⟩) 0 c)) w1) : wpList Tryd.prog ops Q (o :: rest) a W := by
 obtain ⟨i0, hi0, hz0, hz1, hz2⟩ := info_parts info112
 subst hm
 obtain ⟨w1, hr, ho, hg⟩ := run_make_own (P := Tryd.prog) W base 32 112 i0 _ 7 Tryd.underlying32 hi0 hz0 hz1 .i64 .i64 c (by rw [hz2]; omega) (by unfold maxLen; omega) hb
 refine Kd.event_run hgd ?_ (h W.heap.size w1 rfl ho ⟨hg.os, hg.tape, hg.output, hg.size, fun k hk => hg.block k hk (by simp)⟩)
 unfold execOp
 simp only [hop]
 rw [show a.eval (.const (.int .i64 0)) = .int .i64 0 from rfl, hs]
 simp [hr, Result.andThen]
theorem R_empty {W : World} {base g c : Nat} {ok : Nat → Prop} (h : W.ownsRow base 112 7 (.slice (some ⟨g, 0, none⟩) 0 c) 0 []) (hok : ok g) : Kd.R k112 112 W base ok (.slice (some ⟨g, 0, none⟩) 0 c) [] := by
 refine ⟨fun k hk => ?_, [], h, rfl, fun j p hj => by simp at hj⟩
 simp [Value.ownBlock] at hk
 subst hk
 exact hok
def ledger_raw.l0 : Nat → List (S112) → List (S109) → Int → Int → Int → ByteArray → Int → Int → Int → ByteArray → ByteArray → Int → List (S109) → Option ((List (S112)))
 | 0, _, _, _, _, _, _, _, _, _, _, _, _, _ => none
 | k + 1, x3, x14, x15, x16, x161000, x161001, x161002, x161003, x161004, x161005, x161006, x161007, x161008 => if x16 < x15 then (if 0 ≤ x16 then (if x16 < (x14.length : Int) then ((dims_Text.f k ((rd_T109 x14 x16).f6)).bind fun bt163 => (if x3.length < 1466015503701 then (ledger_raw.l0 k (x3 ++ [(⟨(⟨x161001, (rd_T109 x14 x16).f0, (rd_T109 x14 x16).f1, (rd_T109 x14 x16).f4, bt163.1⟩ : S40), (rd_T109 x14 x16).f2, (rd_T109 x14 x16).f3⟩ : S112)]) x14 x15 (wrap64 (x16 + 1)) x161000 x161001 x161002 x161003 x161004 x161005 x161006 x161007 x161008) else (none))) else (none)) else (none)) else (some x3)
def ledger_raw.f (k : Nat) (a0_0 : Int) (a0_1 : ByteArray) (a0_2 : Int) (a0_3 : Int) (a0_4 : Int) (a0_5 : ByteArray) (a0_6 : ByteArray) (a0_7 : Int) (l0_8 : List (S109)) : Option ((List (S112))) := if l0_8.length ≤ 1000000 then ledger_raw.l0 k ([] : List (S112)) l0_8 (l0_8.length : Int) 0 a0_0 a0_1 a0_2 a0_3 a0_4 a0_5 a0_6 a0_7 l0_8 else none
theorem ledger_raw.mono_l : ∀ k, (∀ y0 y1 y2 y3 y4 y5 y6 y7 y8 y9 y10 y11 y12, LeO (ledger_raw.l0 k y0 y1 y2 y3 y4 y5 y6 y7 y8 y9 y10 y11 y12) (ledger_raw.l0 (k + 1) y0 y1 y2 y3 y4 y5 y6 y7 y8 y9 y10 y11 y12))
 | 0 => fun _ _ _ _ _ _ _ _ _ _ _ _ _ r h => by simp [ledger_raw.l0] at h
 | k + 1 => by
  have ih0 := ledger_raw.mono_l k
  ·intro y0 y1 y2 y3 y4 y5 y6 y7 y8 y9 y10 y11 y12
   unfold ledger_raw.l0
   repeat' first
   | (with_reducible exact ih0 _ _ _ _ _ _ _ _ _ _ _ _ _)
   | (with_reducible exact dims_Text.mono _ _)
   | (with_reducible exact LeO.refl _)
   | (with_reducible exact LeO.none _)
   | (with_reducible refine LeO.ite ?_ ?_)
   | (with_reducible refine LeO.bind ?_ (fun _ => ?_))
   | exact ih0 _ _ _ _ _ _ _ _ _ _ _ _ _
   | exact dims_Text.mono _ _
   | exact LeO.none _
   | refine LeO.ite ?_ ?_
   | refine LeO.bind ?_ (fun _ => ?_)
theorem ledger_raw.mono : ∀ a0 a1 a2 a3 a4 a5 a6 a7 a8 k, LeO (ledger_raw.f k a0 a1 a2 a3 a4 a5 a6 a7 a8) (ledger_raw.f (k + 1) a0 a1 a2 a3 a4 a5 a6 a7 a8) := by
 intro a0 a1 a2 a3 a4 a5 a6 a7 a8 k
 have ih0 := ledger_raw.mono_l k
 unfold ledger_raw.f
 repeat' first
   | (with_reducible exact ih0 _ _ _ _ _ _ _ _ _ _ _ _ _)
   | (with_reducible exact dims_Text.mono _ _)
   | (with_reducible exact LeO.refl _)
   | (with_reducible exact LeO.none _)
   | (with_reducible refine LeO.ite ?_ ?_)
   | (with_reducible refine LeO.bind ?_ (fun _ => ?_))
   | exact ih0 _ _ _ _ _ _ _ _ _ _ _ _ _
   | exact dims_Text.mono _ _
   | exact LeO.none _
   | refine LeO.ite ?_ ?_
   | refine LeO.bind ?_ (fun _ => ?_)
set_option maxHeartbeats 8000000 in
set_option maxRecDepth 100000 in
theorem ledger_raw.calls (k : Nat) (a0_0 : Int) (a0_1 : ByteArray) (a0_2 : Int) (a0_3 : Int) (a0_4 : Int) (a0_5 : ByteArray) (a0_6 : ByteArray) (a0_7 : Int) (A0_8 : Option Addr) (c0_8 : Nat) (l0_8 : List (S109)) (r : List (S112)) (w : World) (hr0_8 : Kd.C k109 w A0_8 l0_8.length l0_8) (hc0_8 : l0_8.length ≤ c0_8) (h : ledger_raw.f k a0_0 a0_1 a0_2 a0_3 a0_4 a0_5 a0_6 a0_7 l0_8 = some r) :
  Calls Tryd.prog 51 #[.agg #[.int .i64 a0_0, .string a0_1, .int .i64 a0_2, .int .i64 a0_3, .int .i64 a0_4, .string a0_5, .string a0_6, .int .i64 a0_7, .slice A0_8 l0_8.length c0_8]] w fun e w' => ∃ v0_ : Value, e = .returned (v0_) ∧ Kd.R k112 112 w' w.heap.size (fun _ => True) v0_ r ∧ Below w.heap.size w w' := by
 have hu29 := Tryd.underlying29
 have hu109 := Tryd.underlying109
 have hu40 := Tryd.underlying40
 have hu112 := Tryd.underlying112
 have HR0_8 := Aside0.mk hr0_8
 have HC0_8 := Aside0.mk hc0_8
 clear hr0_8 hc0_8
 have HB := Aside0.mk (Below.refl w.heap.size w)
 unfold ledger_raw.f at h
 have hlen : l0_8.length ≤ 1000000 := by
  by_cases hl : l0_8.length ≤ 1000000
  ·exact hl
  ·rw [if_neg hl] at h; cases h
 rw [if_pos hlen] at h
 have HLEN := Aside0.mk hlen
 clear hlen
 have H : (ledger_raw.l0 k ([] : List (S112)) l0_8 (l0_8.length : Int) 0 a0_0 a0_1 a0_2 a0_3 a0_4 a0_5 a0_6 a0_7 l0_8) = some r := h
 clear h
 have H' := Aside0.mk H
 clear H
 go_enter Tryd.func51, Tryd.ntmps51
 go_wp2_with (first | ((with_reducible refine gate_dst (N := 1) rfl ?_); refine box_event ?hg (N := 1) ?hd (cs := #[.int .i64 a0_0, .string a0_1, .int .i64 a0_2, .int .i64 a0_3, .int .i64 a0_4, .string a0_5, .string a0_6, .int .i64 a0_7, .slice A0_8 l0_8.length c0_8]) (t := 29) ?hr ?_; (case hd => rfl); (case hg => rfl); (case hr => first | (go_simp; done) | (go_simp; rfl)); intro gb160 hg w2 hbox hb; have n0_ := Aside0.mk (below_step (by repeat (first | (with_reducible first | exact HB.out | apply below_alloc | apply pw_below_drewN | apply below_drew1) | exact HB.out)) hb); have n1_ := Aside0.mk (hbox); have n2_ := Aside0.mk ((by rw [hg]; exact (below_size (by repeat (first | (with_reducible first | exact HB.out | apply below_alloc | apply pw_below_drewN | apply below_drew1) | exact HB.out))) : w.heap.size ≤ gb160)); have n3_ := Aside0.mk ((by rw [hg]; exact (below_size (by repeat (first | (with_reducible first | exact HB.out | apply below_alloc | apply pw_below_drewN | apply below_drew1) | exact HB.out))) : w.heap.size ≤ gb160)); clear HB; have HB := n0_; have BK160 := n1_; have GW160 := n2_; have GE160 := n3_; clear n0_ n1_ n2_ n3_; clear hb hbox hg; have hcz3_0 : w2.cell? ⟨gb160, 0, none⟩ = some (.int .i64 a0_0) := (blk_cell BK160.out 0).trans rfl; have hcz3_1 : w2.cell? ⟨gb160, 1, none⟩ = some (.string a0_1) := (blk_cell BK160.out 1).trans rfl; have hcz3_2 : w2.cell? ⟨gb160, 2, none⟩ = some (.int .i64 a0_2) := (blk_cell BK160.out 2).trans rfl; have hcz3_3 : w2.cell? ⟨gb160, 3, none⟩ = some (.int .i64 a0_3) := (blk_cell BK160.out 3).trans rfl; have hcz3_4 : w2.cell? ⟨gb160, 4, none⟩ = some (.int .i64 a0_4) := (blk_cell BK160.out 4).trans rfl; have hcz3_5 : w2.cell? ⟨gb160, 5, none⟩ = some (.string a0_5) := (blk_cell BK160.out 5).trans rfl; have hcz3_6 : w2.cell? ⟨gb160, 6, none⟩ = some (.string a0_6) := (blk_cell BK160.out 6).trans rfl; have hcz3_7 : w2.cell? ⟨gb160, 7, none⟩ = some (.int .i64 a0_7) := (blk_cell BK160.out 7).trans rfl; have hcz3_8 : w2.cell? ⟨gb160, 8, none⟩ = some (.slice A0_8 l0_8.length c0_8) := (blk_cell BK160.out 8).trans rfl; have hfz3_0 := blk_frozen BK160.out 0; have hfz3_1 := blk_frozen BK160.out 1; have hfz3_2 := blk_frozen BK160.out 2; have hfz3_3 := blk_frozen BK160.out 3; have hfz3_4 := blk_frozen BK160.out 4; have hfz3_5 := blk_frozen BK160.out 5; have hfz3_6 := blk_frozen BK160.out 6; have hfz3_7 := blk_frozen BK160.out 7; have hfz3_8 := blk_frozen BK160.out 8) | ((with_reducible refine gate_dst (N := 12) rfl ?_); refine mk_event rfl rfl (.tmp 11) rfl l0_8.length rfl ?hm ?hc w.heap.size ?hb ?_; (case hm => first | rfl | (simp; done) | (simp [*]; done)); (case hc => have hl_ := HLEN.out; omega); (case hb => exact below_size (by repeat (first | (with_reducible first | exact HB.out | apply below_alloc | apply pw_below_drewN | apply below_drew1) | exact HB.out))); intro g49 w49 hg ho49 hb; have n0_ := Aside0.mk (blk_below (g := gb160) (o := .cells #[.int .i64 a0_0, .string a0_1, .int .i64 a0_2, .int .i64 a0_3, .int .i64 a0_4, .string a0_5, .string a0_6, .int .i64 a0_7, .slice A0_8 l0_8.length c0_8] 29 (0, 0)) (by (with_reducible repeat (first | refine blk_drewN ?_ _ | refine blk_drew ?_ | refine blk_alloc ?_ _)); exact BK160.out) hb); have n1_ := Aside0.mk (below_step (by repeat (first | (with_reducible first | exact HB.out | apply below_alloc | apply pw_below_drewN | apply below_drew1) | exact HB.out)) hb); have HO49 := Aside0.mk ho49; clear BK160; clear HB; have BK160 := n0_; have HB := n1_; clear n0_ n1_; clear ho49 hb hg; have hcz3_0 : w49.cell? ⟨gb160, 0, none⟩ = some (.int .i64 a0_0) := (blk_cell BK160.out 0).trans rfl; have hcz3_1 : w49.cell? ⟨gb160, 1, none⟩ = some (.string a0_1) := (blk_cell BK160.out 1).trans rfl; have hcz3_2 : w49.cell? ⟨gb160, 2, none⟩ = some (.int .i64 a0_2) := (blk_cell BK160.out 2).trans rfl; have hcz3_3 : w49.cell? ⟨gb160, 3, none⟩ = some (.int .i64 a0_3) := (blk_cell BK160.out 3).trans rfl; have hcz3_4 : w49.cell? ⟨gb160, 4, none⟩ = some (.int .i64 a0_4) := (blk_cell BK160.out 4).trans rfl; have hcz3_5 : w49.cell? ⟨gb160, 5, none⟩ = some (.string a0_5) := (blk_cell BK160.out 5).trans rfl; have hcz3_6 : w49.cell? ⟨gb160, 6, none⟩ = some (.string a0_6) := (blk_cell BK160.out 6).trans rfl; have hcz3_7 : w49.cell? ⟨gb160, 7, none⟩ = some (.int .i64 a0_7) := (blk_cell BK160.out 7).trans rfl; have hcz3_8 : w49.cell? ⟨gb160, 8, none⟩ = some (.slice A0_8 l0_8.length c0_8) := (blk_cell BK160.out 8).trans rfl; have hfz3_0 := blk_frozen BK160.out 0; have hfz3_1 := blk_frozen BK160.out 1; have hfz3_2 := blk_frozen BK160.out 2; have hfz3_3 := blk_frozen BK160.out 3; have hfz3_4 := blk_frozen BK160.out 4; have hfz3_5 := blk_frozen BK160.out 5; have hfz3_6 := blk_frozen BK160.out 6; have hfz3_7 := blk_frozen BK160.out 7; have hfz3_8 := blk_frozen BK160.out 8))
 go_loopg [3, 16] k (fun kq v3 v16 w' => ∃ (x3_1 : List (S112)) (x16_1 : Int), v16 = .int .i64 x16_1 ∧ Aside0 (ledger_raw.l0 kq x3_1 l0_8 (l0_8.length : Int) x16_1 a0_0 a0_1 a0_2 a0_3 a0_4 a0_5 a0_6 a0_7 l0_8 = some r) ∧ Aside0 (kq ≤ k) ∧ Aside0 (Kd.R k112 112 w' w.heap.size (fun _ => True) v3 x3_1) ∧ Aside0 (w'.heap[gb160]? = some (.cells #[.int .i64 a0_0, .string a0_1, .int .i64 a0_2, .int .i64 a0_3, .int .i64 a0_4, .string a0_5, .string a0_6, .int .i64 a0_7, (.slice A0_8 l0_8.length c0_8)] 29 (0, 0))) ∧ Aside0 (Below w.heap.size w w'))
 case atStart => exact ⟨(([] : List (S112))), (0), (by first | rfl | (simp; done) | (simp [*]; done)), H', ⟨Nat.le_refl _⟩, ⟨by (with_reducible repeat (first | apply Kd.R_alloc | apply Kd.R_drewN | apply Kd.R_drew)); exact R_empty HO49.out trivial⟩, ⟨by (with_reducible repeat (first | refine blk_drewN ?_ _ | refine blk_drew ?_ | refine blk_alloc ?_ _)); exact BK160.out⟩, ⟨by repeat (first | (with_reducible first | exact HB.out | apply below_alloc | apply pw_below_drewN | apply below_drew1 | refine below_set ?_ GE160.out) | exact HB.out)⟩⟩
 case round =>
  clear H'
  try clear p2
  try clear hcz3_0
  try clear hcz3_1
  try clear hcz3_2
  try clear hcz3_3
  try clear hcz3_4
  try clear hcz3_5
  try clear hcz3_6
  try clear hcz3_7
  try clear hcz3_8
  try clear hfz3_0
  try clear hfz3_1
  try clear hfz3_2
  try clear hfz3_3
  try clear hfz3_4
  try clear hfz3_5
  try clear hfz3_6
  try clear hfz3_7
  try clear hfz3_8
  obtain ⟨x3_1, x16_1, rfl, HA, HK1, HO_3, BK160, HB⟩ := hrel
  cases gk with
  | zero => exact absurd HA.out (by simp [ledger_raw.l0])
  | succ k1 =>
   have H := HA.out
   clear HA
   simp only [ledger_raw.l0] at H
   by_cases c4 : x16_1 < (l0_8.length : Int)
   ·rw [if_pos c4] at H
    have c4b0 : decide (x16_1 < (l0_8.length : Int)) = true := decide_eq_true c4
    clear c4
    by_cases c5 : 0 ≤ x16_1
    ·rw [if_pos c5] at H
     have c5b0 : decide (0 ≤ x16_1) = true := decide_eq_true c5
     clear c5
     by_cases c6 : x16_1 < (l0_8.length : Int)
     ·rw [if_pos c6] at H
      have c6b0 : decide (x16_1 < (l0_8.length : Int)) = true := decide_eq_true c6
      clear c6
      replace H := Option.bind_eq_some_iff.mp H
      obtain ⟨⟨t163, t164⟩, A70, H⟩ := H
      try dsimp only at H
      have A7 := Aside0.mk A70
      clear A70
      by_cases c8 : x3_1.length < 1466015503701
      ·rw [if_pos c8] at H
       have LMc8 := Aside0.mk c8
       clear c8
       obtain ⟨y166, hy166⟩ : ∃ y_ : List (S112), y_ = (x3_1 ++ [(⟨(⟨a0_1, (rd_T109 l0_8 x16_1).f0, (rd_T109 l0_8 x16_1).f1, (rd_T109 l0_8 x16_1).f4, t163⟩ : S40), (rd_T109 l0_8 x16_1).f2, (rd_T109 l0_8 x16_1).f3⟩ : S112)]) := ⟨_, rfl⟩
       replace H : (ledger_raw.l0 k1 y166 l0_8 (l0_8.length : Int) (wrap64 (x16_1 + 1)) a0_0 a0_1 a0_2 a0_3 a0_4 a0_5 a0_6 a0_7 l0_8) = some r := by first | (rw [hy166]; with_reducible exact H) | (have H2_ := (Option.bind_some _ _).symm.trans H; rw [hy166]; with_reducible exact H2_) | (have H2_ := (Option.bind_some _ _).symm.trans H; with_reducible exact H2_) | with_reducible exact H | (rw [hy166]; exact H) | exact H
       have Ny166 := Aside0.mk hy166
       clear hy166
       have H' := Aside0.mk H
       clear H
       have p161 : 0 ≤ (x16_1 : Int) := of_decide_eq_true (by first | (with_reducible assumption) | assumption)
       have q161 : x16_1 < (l0_8.length : Int) := of_decide_eq_true (by first | (with_reducible assumption) | assumption)
       obtain ⟨ad161, A161_6, c161_6, e161, hx161_0, hx161_1, hx161_2, hx161_3, hx161_4, hx161_5, hx161_6, hl161_6, hi161_6⟩ := at_T109 HR0_8.out x16_1 p161 q161
       cases e161
       replace hx161_0 := (HB.out.cell (World.block_lt_of_cell? w _ hx161_0)).trans hx161_0
       replace hx161_1 := (HB.out.cell (World.block_lt_of_cell? w _ hx161_1)).trans hx161_1
       replace hx161_2 := (HB.out.cell (World.block_lt_of_cell? w _ hx161_2)).trans hx161_2
       replace hx161_3 := (HB.out.cell (World.block_lt_of_cell? w _ hx161_3)).trans hx161_3
       replace hx161_4 := (HB.out.cell (World.block_lt_of_cell? w _ hx161_4)).trans hx161_4
       replace hx161_5 := (HB.out.cell (World.block_lt_of_cell? w _ hx161_5)).trans hx161_5
       replace hx161_6 := (HB.out.cell (World.block_lt_of_cell? w _ hx161_6)).trans hx161_6
       have HR161_6 := Aside0.mk hi161_6
       have HC161_6 := Aside0.mk hl161_6
       clear hi161_6 hl161_6
       replace p161 := eq_true p161
       replace q161 := eq_true q161
       go_wp2_with (first | ((with_reducible refine gate_dst (N := 5) rfl ?_); refine box_event ?hg (N := 5) ?hd (cs := #[.string (⟨#[]⟩ : ByteArray), .string (⟨#[]⟩ : ByteArray), .int .i64 0, .int .i64 0, .string (⟨#[]⟩ : ByteArray), .string (⟨#[]⟩ : ByteArray), .slice none 0 0]) (t := 109) ?hr ?_; (case hd => rfl); (case hg => rfl); (case hr => first | (go_simp; done) | (go_simp; rfl)); intro gb162 hg w9 hbox hb; have n0_ := Aside0.mk (Kd.R_below (by (with_reducible repeat (first | apply Kd.R_alloc | apply Kd.R_drewN | apply Kd.R_drew)); exact HO_3.out) hb); have n1_ := Aside0.mk (blk_below (g := gb160) (o := .cells #[.int .i64 a0_0, .string a0_1, .int .i64 a0_2, .int .i64 a0_3, .int .i64 a0_4, .string a0_5, .string a0_6, .int .i64 a0_7, .slice (some ad161) l0_8.length c0_8] 29 (0, 0)) (by (with_reducible repeat (first | refine blk_drewN ?_ _ | refine blk_drew ?_ | refine blk_alloc ?_ _)); exact BK160.out) hb); have n2_ := Aside0.mk (below_step (by repeat (first | (with_reducible first | exact HB.out | apply below_alloc | apply pw_below_drewN | apply below_drew1 | refine below_set ?_ GE160.out) | exact HB.out)) hb); have n3_ := Aside0.mk (hbox); have n4_ := Aside0.mk ((by rw [hg]; exact (below_size (by repeat (first | (with_reducible first | exact HB.out | apply below_alloc | apply pw_below_drewN | apply below_drew1 | refine below_set ?_ GE160.out) | exact HB.out))) : w.heap.size ≤ gb162)); have n5_ := Aside0.mk ((by rw [hg]; exact (below_size (by repeat (first | (with_reducible first | exact HB.out | apply below_alloc | apply pw_below_drewN | apply below_drew1 | refine below_set ?_ GE160.out) | exact HB.out))) : w.heap.size ≤ gb162)); have n6_ := Aside0.mk ((by rw [hg]; exact Nat.ne_of_lt (blk_lt (g := gb160) (o := .cells #[.int .i64 a0_0, .string a0_1, .int .i64 a0_2, .int .i64 a0_3, .int .i64 a0_4, .string a0_5, .string a0_6, .int .i64 a0_7, .slice (some ad161) l0_8.length c0_8] 29 (0, 0)) (by (with_reducible repeat (first | refine blk_drewN ?_ _ | refine blk_drew ?_ | refine blk_alloc ?_ _)); exact BK160.out)) : gb160 ≠ gb162)); have n7_ := Aside0.mk ((by rw [hg]; exact Nat.ne_of_gt (blk_lt (g := gb160) (o := .cells #[.int .i64 a0_0, .string a0_1, .int .i64 a0_2, .int .i64 a0_3, .int .i64 a0_4, .string a0_5, .string a0_6, .int .i64 a0_7, .slice (some ad161) l0_8.length c0_8] 29 (0, 0)) (by (with_reducible repeat (first | refine blk_drewN ?_ _ | refine blk_drew ?_ | refine blk_alloc ?_ _)); exact BK160.out)) : gb162 ≠ gb160)); clear HO_3; clear BK160; clear HB; have HO_3 := n0_; have BK160 := n1_; have HB := n2_; have BK162 := n3_; have GW162 := n4_; have GE162 := n5_; have NB160_162 := n6_; have NB162_160 := n7_; clear n0_ n1_ n2_ n3_ n4_ n5_ n6_ n7_; clear hb hbox hg; have hnb10 := NB162_160.out; have hnc10 := NB160_162.out; have hcz11_0 : w9.cell? ⟨gb162, 0, none⟩ = some (.string (⟨#[]⟩ : ByteArray)) := (blk_cell BK162.out 0).trans rfl; have hcz11_1 : w9.cell? ⟨gb162, 1, none⟩ = some (.string (⟨#[]⟩ : ByteArray)) := (blk_cell BK162.out 1).trans rfl; have hcz11_2 : w9.cell? ⟨gb162, 2, none⟩ = some (.int .i64 0) := (blk_cell BK162.out 2).trans rfl; have hcz11_3 : w9.cell? ⟨gb162, 3, none⟩ = some (.int .i64 0) := (blk_cell BK162.out 3).trans rfl; have hcz11_4 : w9.cell? ⟨gb162, 4, none⟩ = some (.string (⟨#[]⟩ : ByteArray)) := (blk_cell BK162.out 4).trans rfl; have hcz11_5 : w9.cell? ⟨gb162, 5, none⟩ = some (.string (⟨#[]⟩ : ByteArray)) := (blk_cell BK162.out 5).trans rfl; have hcz11_6 : w9.cell? ⟨gb162, 6, none⟩ = some (.slice none 0 0) := (blk_cell BK162.out 6).trans rfl; have hfz11_0 := blk_frozen BK162.out 0; have hfz11_1 := blk_frozen BK162.out 1; have hfz11_2 := blk_frozen BK162.out 2; have hfz11_3 := blk_frozen BK162.out 3; have hfz11_4 := blk_frozen BK162.out 4; have hfz11_5 := blk_frozen BK162.out 5; have hfz11_6 := blk_frozen BK162.out 6) | ((with_reducible refine gate_callee (f := 98) rfl ?_); refine goesL_ (some 23) rfl rfl Tryd.func98 (by kernel_rfl) rfl #[.slice A161_6 ((rd_T109 l0_8 x16_1).f6).length c161_6] rfl (by (try simp only [List.map_toArray, List.map_cons, List.map_nil]); first | done | rfl | (simp only [List.length_drop, List.length_take]; rfl)) ?_; (with_reducible refine (dims_Text.calls k1 _ _ ((rd_T109 l0_8 x16_1).f6) t163 t164 _ ?side1 ?side2 A7.out).mono ?_); (case side1 => exact Kd.C_below HR161_6.out (by repeat (first | (with_reducible first | exact HB.out | apply below_alloc | apply pw_below_drewN | apply below_drew1 | refine below_set ?_ GE160.out | refine below_set ?_ GE162.out) | exact HB.out))); (case side2 => exact HC161_6.out); rintro e w12 ⟨rfl, hb⟩; refine ⟨_, rfl, ?_⟩; have n0_ := Aside0.mk (Kd.R_below (by (with_reducible repeat (first | apply Kd.R_alloc | apply Kd.R_drewN | apply Kd.R_drew)); exact (Kd.R_mono (Kd.R_far (p := ⟨gb162, 6, none⟩) (Kd.R_far (p := ⟨gb162, 5, none⟩) (Kd.R_far (p := ⟨gb162, 4, none⟩) (Kd.R_far (p := ⟨gb162, 3, none⟩) (Kd.R_far (p := ⟨gb162, 2, none⟩) (Kd.R_far (p := ⟨gb162, 1, none⟩) (Kd.R_far (p := ⟨gb162, 0, none⟩) (Kd.R_types HO_3.out BK162.out (by decide)) (fun _ hk => hk.2) (.string ((rd_T109 l0_8 x16_1).f0))) (fun _ hk => hk.2) (.string ((rd_T109 l0_8 x16_1).f1))) (fun _ hk => hk.2) (.int .i64 ((rd_T109 l0_8 x16_1).f2))) (fun _ hk => hk.2) (.int .i64 ((rd_T109 l0_8 x16_1).f3))) (fun _ hk => hk.2) (.string ((rd_T109 l0_8 x16_1).f4))) (fun _ hk => hk.2) (.string ((rd_T109 l0_8 x16_1).f5))) (fun _ hk => hk.2) (.slice A161_6 ((rd_T109 l0_8 x16_1).f6).length c161_6)) (fun _ h_ => h_.1))) hb); have n1_ := Aside0.mk (blk_below (g := gb160) (o := .cells #[.int .i64 a0_0, .string a0_1, .int .i64 a0_2, .int .i64 a0_3, .int .i64 a0_4, .string a0_5, .string a0_6, .int .i64 a0_7, .slice (some ad161) l0_8.length c0_8] 29 (0, 0)) (by (with_reducible repeat (first | refine blk_drewN ?_ _ | refine blk_drew ?_ | refine blk_alloc ?_ _)); refine blk_far ?_ NB160_162.out _; (with_reducible repeat (first | refine blk_drewN ?_ _ | refine blk_drew ?_ | refine blk_alloc ?_ _)); refine blk_far ?_ NB160_162.out _; (with_reducible repeat (first | refine blk_drewN ?_ _ | refine blk_drew ?_ | refine blk_alloc ?_ _)); refine blk_far ?_ NB160_162.out _; (with_reducible repeat (first | refine blk_drewN ?_ _ | refine blk_drew ?_ | refine blk_alloc ?_ _)); refine blk_far ?_ NB160_162.out _; (with_reducible repeat (first | refine blk_drewN ?_ _ | refine blk_drew ?_ | refine blk_alloc ?_ _)); refine blk_far ?_ NB160_162.out _; (with_reducible repeat (first | refine blk_drewN ?_ _ | refine blk_drew ?_ | refine blk_alloc ?_ _)); refine blk_far ?_ NB160_162.out _; (with_reducible repeat (first | refine blk_drewN ?_ _ | refine blk_drew ?_ | refine blk_alloc ?_ _)); refine blk_far ?_ NB160_162.out _; (with_reducible repeat (first | refine blk_drewN ?_ _ | refine blk_drew ?_ | refine blk_alloc ?_ _)); exact BK160.out) hb); have n2_ := Aside0.mk (blk_below (g := gb162) (o := .cells #[.string ((rd_T109 l0_8 x16_1).f0), .string ((rd_T109 l0_8 x16_1).f1), .int .i64 ((rd_T109 l0_8 x16_1).f2), .int .i64 ((rd_T109 l0_8 x16_1).f3), .string ((rd_T109 l0_8 x16_1).f4), .string ((rd_T109 l0_8 x16_1).f5), .slice A161_6 ((rd_T109 l0_8 x16_1).f6).length c161_6] 109 (0, 0)) (by (with_reducible repeat (first | refine blk_drewN ?_ _ | refine blk_drew ?_ | refine blk_alloc ?_ _)); refine blk_put (cs := #[.string ((rd_T109 l0_8 x16_1).f0), .string ((rd_T109 l0_8 x16_1).f1), .int .i64 ((rd_T109 l0_8 x16_1).f2), .int .i64 ((rd_T109 l0_8 x16_1).f3), .string ((rd_T109 l0_8 x16_1).f4), .string ((rd_T109 l0_8 x16_1).f5), .slice none 0 0]) ?_ 6 _ rfl; (with_reducible repeat (first | refine blk_drewN ?_ _ | refine blk_drew ?_ | refine blk_alloc ?_ _)); refine blk_put (cs := #[.string ((rd_T109 l0_8 x16_1).f0), .string ((rd_T109 l0_8 x16_1).f1), .int .i64 ((rd_T109 l0_8 x16_1).f2), .int .i64 ((rd_T109 l0_8 x16_1).f3), .string ((rd_T109 l0_8 x16_1).f4), .string (⟨#[]⟩ : ByteArray), .slice none 0 0]) ?_ 5 _ rfl; (with_reducible repeat (first | refine blk_drewN ?_ _ | refine blk_drew ?_ | refine blk_alloc ?_ _)); refine blk_put (cs := #[.string ((rd_T109 l0_8 x16_1).f0), .string ((rd_T109 l0_8 x16_1).f1), .int .i64 ((rd_T109 l0_8 x16_1).f2), .int .i64 ((rd_T109 l0_8 x16_1).f3), .string (⟨#[]⟩ : ByteArray), .string (⟨#[]⟩ : ByteArray), .slice none 0 0]) ?_ 4 _ rfl; (with_reducible repeat (first | refine blk_drewN ?_ _ | refine blk_drew ?_ | refine blk_alloc ?_ _)); refine blk_put (cs := #[.string ((rd_T109 l0_8 x16_1).f0), .string ((rd_T109 l0_8 x16_1).f1), .int .i64 ((rd_T109 l0_8 x16_1).f2), .int .i64 0, .string (⟨#[]⟩ : ByteArray), .string (⟨#[]⟩ : ByteArray), .slice none 0 0]) ?_ 3 _ rfl; (with_reducible repeat (first | refine blk_drewN ?_ _ | refine blk_drew ?_ | refine blk_alloc ?_ _)); refine blk_put (cs := #[.string ((rd_T109 l0_8 x16_1).f0), .string ((rd_T109 l0_8 x16_1).f1), .int .i64 0, .int .i64 0, .string (⟨#[]⟩ : ByteArray), .string (⟨#[]⟩ : ByteArray), .slice none 0 0]) ?_ 2 _ rfl; (with_reducible repeat (first | refine blk_drewN ?_ _ | refine blk_drew ?_ | refine blk_alloc ?_ _)); refine blk_put (cs := #[.string ((rd_T109 l0_8 x16_1).f0), .string (⟨#[]⟩ : ByteArray), .int .i64 0, .int .i64 0, .string (⟨#[]⟩ : ByteArray), .string (⟨#[]⟩ : ByteArray), .slice none 0 0]) ?_ 1 _ rfl; (with_reducible repeat (first | refine blk_drewN ?_ _ | refine blk_drew ?_ | refine blk_alloc ?_ _)); refine blk_put (cs := #[.string (⟨#[]⟩ : ByteArray), .string (⟨#[]⟩ : ByteArray), .int .i64 0, .int .i64 0, .string (⟨#[]⟩ : ByteArray), .string (⟨#[]⟩ : ByteArray), .slice none 0 0]) ?_ 0 _ rfl; (with_reducible repeat (first | refine blk_drewN ?_ _ | refine blk_drew ?_ | refine blk_alloc ?_ _)); exact BK162.out) hb); have n3_ := Aside0.mk (below_step (by repeat (first | (with_reducible first | exact HB.out | apply below_alloc | apply pw_below_drewN | apply below_drew1 | refine below_set ?_ GE160.out | refine below_set ?_ GE162.out) | exact HB.out)) hb); clear HO_3; clear BK160; clear BK162; clear HB; have HO_3 := n0_; have BK160 := n1_; have BK162 := n2_; have HB := n3_; clear n0_ n1_ n2_ n3_; (try clear hb); (try clear hb2); (try clear hk); (try clear hi); have hcz13_0 : w12.cell? ⟨gb160, 0, none⟩ = some (.int .i64 a0_0) := (blk_cell BK160.out 0).trans rfl; have hcz13_1 : w12.cell? ⟨gb160, 1, none⟩ = some (.string a0_1) := (blk_cell BK160.out 1).trans rfl; have hcz13_2 : w12.cell? ⟨gb160, 2, none⟩ = some (.int .i64 a0_2) := (blk_cell BK160.out 2).trans rfl; have hcz13_3 : w12.cell? ⟨gb160, 3, none⟩ = some (.int .i64 a0_3) := (blk_cell BK160.out 3).trans rfl; have hcz13_4 : w12.cell? ⟨gb160, 4, none⟩ = some (.int .i64 a0_4) := (blk_cell BK160.out 4).trans rfl; have hcz13_5 : w12.cell? ⟨gb160, 5, none⟩ = some (.string a0_5) := (blk_cell BK160.out 5).trans rfl; have hcz13_6 : w12.cell? ⟨gb160, 6, none⟩ = some (.string a0_6) := (blk_cell BK160.out 6).trans rfl; have hcz13_7 : w12.cell? ⟨gb160, 7, none⟩ = some (.int .i64 a0_7) := (blk_cell BK160.out 7).trans rfl; have hcz13_8 : w12.cell? ⟨gb160, 8, none⟩ = some (.slice (some ad161) l0_8.length c0_8) := (blk_cell BK160.out 8).trans rfl; have hfz13_0 := blk_frozen BK160.out 0; have hfz13_1 := blk_frozen BK160.out 1; have hfz13_2 := blk_frozen BK160.out 2; have hfz13_3 := blk_frozen BK160.out 3; have hfz13_4 := blk_frozen BK160.out 4; have hfz13_5 := blk_frozen BK160.out 5; have hfz13_6 := blk_frozen BK160.out 6; have hfz13_7 := blk_frozen BK160.out 7; have hfz13_8 := blk_frozen BK160.out 8; have hcz14_0 : w12.cell? ⟨gb162, 0, none⟩ = some (.string ((rd_T109 l0_8 x16_1).f0)) := (blk_cell BK162.out 0).trans rfl; have hcz14_1 : w12.cell? ⟨gb162, 1, none⟩ = some (.string ((rd_T109 l0_8 x16_1).f1)) := (blk_cell BK162.out 1).trans rfl; have hcz14_2 : w12.cell? ⟨gb162, 2, none⟩ = some (.int .i64 ((rd_T109 l0_8 x16_1).f2)) := (blk_cell BK162.out 2).trans rfl; have hcz14_3 : w12.cell? ⟨gb162, 3, none⟩ = some (.int .i64 ((rd_T109 l0_8 x16_1).f3)) := (blk_cell BK162.out 3).trans rfl; have hcz14_4 : w12.cell? ⟨gb162, 4, none⟩ = some (.string ((rd_T109 l0_8 x16_1).f4)) := (blk_cell BK162.out 4).trans rfl; have hcz14_5 : w12.cell? ⟨gb162, 5, none⟩ = some (.string ((rd_T109 l0_8 x16_1).f5)) := (blk_cell BK162.out 5).trans rfl; have hcz14_6 : w12.cell? ⟨gb162, 6, none⟩ = some (.slice A161_6 ((rd_T109 l0_8 x16_1).f6).length c161_6) := (blk_cell BK162.out 6).trans rfl; have hfz14_0 := blk_frozen BK162.out 0; have hfz14_1 := blk_frozen BK162.out 1; have hfz14_2 := blk_frozen BK162.out 2; have hfz14_3 := blk_frozen BK162.out 3; have hfz14_4 := blk_frozen BK162.out 4; have hfz14_5 := blk_frozen BK162.out 5; have hfz14_6 := blk_frozen BK162.out 6) | ((with_reducible refine gate_dst (N := 8) rfl ?_); refine box_event ?hg (N := 8) ?hd (cs := #[.string (⟨#[]⟩ : ByteArray), .string (⟨#[]⟩ : ByteArray), .string (⟨#[]⟩ : ByteArray), .string (⟨#[]⟩ : ByteArray), .string (⟨#[]⟩ : ByteArray)]) (t := 40) ?hr ?_; (case hd => rfl); (case hg => rfl); (case hr => first | (go_simp; done) | (go_simp; rfl)); intro gb165 hg w15 hbox hb; have n0_ := Aside0.mk (Kd.R_below (by (with_reducible repeat (first | apply Kd.R_alloc | apply Kd.R_drewN | apply Kd.R_drew)); exact HO_3.out) hb); have n1_ := Aside0.mk (blk_below (g := gb160) (o := .cells #[.int .i64 a0_0, .string a0_1, .int .i64 a0_2, .int .i64 a0_3, .int .i64 a0_4, .string a0_5, .string a0_6, .int .i64 a0_7, .slice (some ad161) l0_8.length c0_8] 29 (0, 0)) (by (with_reducible repeat (first | refine blk_drewN ?_ _ | refine blk_drew ?_ | refine blk_alloc ?_ _)); exact BK160.out) hb); have n2_ := Aside0.mk (blk_below (g := gb162) (o := .cells #[.string ((rd_T109 l0_8 x16_1).f0), .string ((rd_T109 l0_8 x16_1).f1), .int .i64 ((rd_T109 l0_8 x16_1).f2), .int .i64 ((rd_T109 l0_8 x16_1).f3), .string ((rd_T109 l0_8 x16_1).f4), .string ((rd_T109 l0_8 x16_1).f5), .slice A161_6 ((rd_T109 l0_8 x16_1).f6).length c161_6] 109 (0, 0)) (by (with_reducible repeat (first | refine blk_drewN ?_ _ | refine blk_drew ?_ | refine blk_alloc ?_ _)); exact BK162.out) hb); have n3_ := Aside0.mk (below_step (by repeat (first | (with_reducible first | exact HB.out | apply below_alloc | apply pw_below_drewN | apply below_drew1 | refine below_set ?_ GE160.out | refine below_set ?_ GE162.out) | exact HB.out)) hb); have n4_ := Aside0.mk (hbox); have n5_ := Aside0.mk ((by rw [hg]; exact (below_size (by repeat (first | (with_reducible first | exact HB.out | apply below_alloc | apply pw_below_drewN | apply below_drew1 | refine below_set ?_ GE160.out | refine below_set ?_ GE162.out) | exact HB.out))) : w.heap.size ≤ gb165)); have n6_ := Aside0.mk ((by rw [hg]; exact (below_size (by repeat (first | (with_reducible first | exact HB.out | apply below_alloc | apply pw_below_drewN | apply below_drew1 | refine below_set ?_ GE160.out | refine below_set ?_ GE162.out) | exact HB.out))) : w.heap.size ≤ gb165)); have n7_ := Aside0.mk ((by rw [hg]; exact Nat.ne_of_lt (blk_lt (g := gb160) (o := .cells #[.int .i64 a0_0, .string a0_1, .int .i64 a0_2, .int .i64 a0_3, .int .i64 a0_4, .string a0_5, .string a0_6, .int .i64 a0_7, .slice (some ad161) l0_8.length c0_8] 29 (0, 0)) (by (with_reducible repeat (first | refine blk_drewN ?_ _ | refine blk_drew ?_ | refine blk_alloc ?_ _)); exact BK160.out)) : gb160 ≠ gb165)); have n8_ := Aside0.mk ((by rw [hg]; exact Nat.ne_of_gt (blk_lt (g := gb160) (o := .cells #[.int .i64 a0_0, .string a0_1, .int .i64 a0_2, .int .i64 a0_3, .int .i64 a0_4, .string a0_5, .string a0_6, .int .i64 a0_7, .slice (some ad161) l0_8.length c0_8] 29 (0, 0)) (by (with_reducible repeat (first | refine blk_drewN ?_ _ | refine blk_drew ?_ | refine blk_alloc ?_ _)); exact BK160.out)) : gb165 ≠ gb160)); have n9_ := Aside0.mk ((by rw [hg]; exact Nat.ne_of_lt (blk_lt (g := gb162) (o := .cells #[.string ((rd_T109 l0_8 x16_1).f0), .string ((rd_T109 l0_8 x16_1).f1), .int .i64 ((rd_T109 l0_8 x16_1).f2), .int .i64 ((rd_T109 l0_8 x16_1).f3), .string ((rd_T109 l0_8 x16_1).f4), .string ((rd_T109 l0_8 x16_1).f5), .slice A161_6 ((rd_T109 l0_8 x16_1).f6).length c161_6] 109 (0, 0)) (by (with_reducible repeat (first | refine blk_drewN ?_ _ | refine blk_drew ?_ | refine blk_alloc ?_ _)); exact BK162.out)) : gb162 ≠ gb165)); have n10_ := Aside0.mk ((by rw [hg]; exact Nat.ne_of_gt (blk_lt (g := gb162) (o := .cells #[.string ((rd_T109 l0_8 x16_1).f0), .string ((rd_T109 l0_8 x16_1).f1), .int .i64 ((rd_T109 l0_8 x16_1).f2), .int .i64 ((rd_T109 l0_8 x16_1).f3), .string ((rd_T109 l0_8 x16_1).f4), .string ((rd_T109 l0_8 x16_1).f5), .slice A161_6 ((rd_T109 l0_8 x16_1).f6).length c161_6] 109 (0, 0)) (by (with_reducible repeat (first | refine blk_drewN ?_ _ | refine blk_drew ?_ | refine blk_alloc ?_ _)); exact BK162.out)) : gb165 ≠ gb162)); clear HO_3; clear BK160; clear BK162; clear HB; have HO_3 := n0_; have BK160 := n1_; have BK162 := n2_; have HB := n3_; have BK165 := n4_; have GW165 := n5_; have GE165 := n6_; have NB160_165 := n7_; have NB165_160 := n8_; have NB162_165 := n9_; have NB165_162 := n10_; clear n0_ n1_ n2_ n3_ n4_ n5_ n6_ n7_ n8_ n9_ n10_; clear hb hbox hg; have hnb16 := NB165_160.out; have hnc16 := NB160_165.out; have hnb17 := NB165_162.out; have hnc17 := NB162_165.out; have hcz18_0 : w15.cell? ⟨gb165, 0, none⟩ = some (.string (⟨#[]⟩ : ByteArray)) := (blk_cell BK165.out 0).trans rfl; have hcz18_1 : w15.cell? ⟨gb165, 1, none⟩ = some (.string (⟨#[]⟩ : ByteArray)) := (blk_cell BK165.out 1).trans rfl; have hcz18_2 : w15.cell? ⟨gb165, 2, none⟩ = some (.string (⟨#[]⟩ : ByteArray)) := (blk_cell BK165.out 2).trans rfl; have hcz18_3 : w15.cell? ⟨gb165, 3, none⟩ = some (.string (⟨#[]⟩ : ByteArray)) := (blk_cell BK165.out 3).trans rfl; have hcz18_4 : w15.cell? ⟨gb165, 4, none⟩ = some (.string (⟨#[]⟩ : ByteArray)) := (blk_cell BK165.out 4).trans rfl; have hfz18_0 := blk_frozen BK165.out 0; have hfz18_1 := blk_frozen BK165.out 1; have hfz18_2 := blk_frozen BK165.out 2; have hfz18_3 := blk_frozen BK165.out 3; have hfz18_4 := blk_frozen BK165.out 4; have hcz19_0 : w15.cell? ⟨gb162, 0, none⟩ = some (.string ((rd_T109 l0_8 x16_1).f0)) := (blk_cell BK162.out 0).trans rfl; have hcz19_1 : w15.cell? ⟨gb162, 1, none⟩ = some (.string ((rd_T109 l0_8 x16_1).f1)) := (blk_cell BK162.out 1).trans rfl; have hcz19_2 : w15.cell? ⟨gb162, 2, none⟩ = some (.int .i64 ((rd_T109 l0_8 x16_1).f2)) := (blk_cell BK162.out 2).trans rfl; have hcz19_3 : w15.cell? ⟨gb162, 3, none⟩ = some (.int .i64 ((rd_T109 l0_8 x16_1).f3)) := (blk_cell BK162.out 3).trans rfl; have hcz19_4 : w15.cell? ⟨gb162, 4, none⟩ = some (.string ((rd_T109 l0_8 x16_1).f4)) := (blk_cell BK162.out 4).trans rfl; have hcz19_5 : w15.cell? ⟨gb162, 5, none⟩ = some (.string ((rd_T109 l0_8 x16_1).f5)) := (blk_cell BK162.out 5).trans rfl; have hcz19_6 : w15.cell? ⟨gb162, 6, none⟩ = some (.slice A161_6 ((rd_T109 l0_8 x16_1).f6).length c161_6) := (blk_cell BK162.out 6).trans rfl; have hfz19_0 := blk_frozen BK162.out 0; have hfz19_1 := blk_frozen BK162.out 1; have hfz19_2 := blk_frozen BK162.out 2; have hfz19_3 := blk_frozen BK162.out 3; have hfz19_4 := blk_frozen BK162.out 4; have hfz19_5 := blk_frozen BK162.out 5; have hfz19_6 := blk_frozen BK162.out 6) | ((with_reducible refine gate_builtin (b := .append) (xs := #[.tmp 36, .tmp 43]) rfl ?_); at_builtin; refine Kd.R_append k112 (w0 := w) w.heap.size rfl (.tmp 36) (.tmp 43) 32 112 (.agg #[(.string ⟨#[]⟩), (.string ⟨#[]⟩), (.string ⟨#[]⟩), (.string ⟨#[]⟩), (.string ⟨#[]⟩), (.int .i64 0), (.int .i64 0)]) 96 rfl Tryd.underlying32 info112 rfl (by decide) (by omega) u3 x3_1 (⟨(⟨a0_1, (rd_T109 l0_8 x16_1).f0, (rd_T109 l0_8 x16_1).f1, (rd_T109 l0_8 x16_1).f4, t163⟩ : S40), (rd_T109 l0_8 x16_1).f2, (rd_T109 l0_8 x16_1).f3⟩ : S112) [.string a0_1, .string ((rd_T109 l0_8 x16_1).f0), .string ((rd_T109 l0_8 x16_1).f1), .string ((rd_T109 l0_8 x16_1).f4), .string t163, .int .i64 ((rd_T109 l0_8 x16_1).f2), .int .i64 ((rd_T109 l0_8 x16_1).f3)] (fun _ => True) (fun _ => False) rfl (by first | (go_simp; done) | (go_simp; rfl)) ?aP (fun _ hk => hk.elim) ?aF ?aO ?aB ?aS ?aL ?_; (case aP => exact k112_mkM _ _ _ (⟨(⟨a0_1, (rd_T109 l0_8 x16_1).f0, (rd_T109 l0_8 x16_1).f1, (rd_T109 l0_8 x16_1).f4, t163⟩ : S40), (rd_T109 l0_8 x16_1).f2, (rd_T109 l0_8 x16_1).f3⟩ : S112)); (case aB => exact (by repeat (first | (with_reducible first | exact HB.out | apply below_alloc | apply pw_below_drewN | apply below_drew1 | refine below_set ?_ GE160.out | refine below_set ?_ GE162.out | refine below_set ?_ GE165.out) | exact HB.out))); (case aF => exact (fun _ _ => trivial)); (case aO => exact (by (with_reducible repeat (first | apply Kd.R_alloc | apply Kd.R_drewN | apply Kd.R_drew)); exact Kd.R_mono (Kd.R_far (p := ⟨gb165, 4, none⟩) (Kd.R_far (p := ⟨gb165, 3, none⟩) (Kd.R_far (p := ⟨gb165, 2, none⟩) (Kd.R_far (p := ⟨gb165, 1, none⟩) (Kd.R_far (p := ⟨gb165, 0, none⟩) (Kd.R_types HO_3.out BK165.out (by decide)) (fun _ hk => hk.2) (.string a0_1)) (fun _ hk => hk.2) (.string ((rd_T109 l0_8 x16_1).f0))) (fun _ hk => hk.2) (.string ((rd_T109 l0_8 x16_1).f1))) (fun _ hk => hk.2) (.string ((rd_T109 l0_8 x16_1).f4))) (fun _ hk => hk.2) (.string t163)) (fun _ hk => trivial))); (case aS => exact (below_size (by repeat (first | (with_reducible first | exact HB.out | apply below_alloc | apply pw_below_drewN | apply below_drew1 | refine below_set ?_ GE160.out | refine below_set ?_ GE162.out | refine below_set ?_ GE165.out) | exact HB.out)))); (case aL => have := LMc8.out; omega); intro v167 w20 ho hb hg hat; rw [← Ny166.out] at ho; have n0_ := Aside0.mk (blk_grown (g := gb160) (o := .cells #[.int .i64 a0_0, .string a0_1, .int .i64 a0_2, .int .i64 a0_3, .int .i64 a0_4, .string a0_5, .string a0_6, .int .i64 a0_7, .slice (some ad161) l0_8.length c0_8] 29 (0, 0)) (by (with_reducible repeat (first | refine blk_drewN ?_ _ | refine blk_drew ?_ | refine blk_alloc ?_ _)); refine blk_far ?_ NB160_165.out _; (with_reducible repeat (first | refine blk_drewN ?_ _ | refine blk_drew ?_ | refine blk_alloc ?_ _)); refine blk_far ?_ NB160_165.out _; (with_reducible repeat (first | refine blk_drewN ?_ _ | refine blk_drew ?_ | refine blk_alloc ?_ _)); refine blk_far ?_ NB160_165.out _; (with_reducible repeat (first | refine blk_drewN ?_ _ | refine blk_drew ?_ | refine blk_alloc ?_ _)); refine blk_far ?_ NB160_165.out _; (with_reducible repeat (first | refine blk_drewN ?_ _ | refine blk_drew ?_ | refine blk_alloc ?_ _)); refine blk_far ?_ NB160_165.out _; (with_reducible repeat (first | refine blk_drewN ?_ _ | refine blk_drew ?_ | refine blk_alloc ?_ _)); exact BK160.out) hg (Kd.R_ne HO_3.out BK160.out (by decide))); have n1_ := Aside0.mk (blk_grown (g := gb162) (o := .cells #[.string ((rd_T109 l0_8 x16_1).f0), .string ((rd_T109 l0_8 x16_1).f1), .int .i64 ((rd_T109 l0_8 x16_1).f2), .int .i64 ((rd_T109 l0_8 x16_1).f3), .string ((rd_T109 l0_8 x16_1).f4), .string ((rd_T109 l0_8 x16_1).f5), .slice A161_6 ((rd_T109 l0_8 x16_1).f6).length c161_6] 109 (0, 0)) (by (with_reducible repeat (first | refine blk_drewN ?_ _ | refine blk_drew ?_ | refine blk_alloc ?_ _)); refine blk_far ?_ NB162_165.out _; (with_reducible repeat (first | refine blk_drewN ?_ _ | refine blk_drew ?_ | refine blk_alloc ?_ _)); refine blk_far ?_ NB162_165.out _; (with_reducible repeat (first | refine blk_drewN ?_ _ | refine blk_drew ?_ | refine blk_alloc ?_ _)); refine blk_far ?_ NB162_165.out _; (with_reducible repeat (first | refine blk_drewN ?_ _ | refine blk_drew ?_ | refine blk_alloc ?_ _)); refine blk_far ?_ NB162_165.out _; (with_reducible repeat (first | refine blk_drewN ?_ _ | refine blk_drew ?_ | refine blk_alloc ?_ _)); refine blk_far ?_ NB162_165.out _; (with_reducible repeat (first | refine blk_drewN ?_ _ | refine blk_drew ?_ | refine blk_alloc ?_ _)); exact BK162.out) hg (Kd.R_ne HO_3.out BK162.out (by decide))); have n2_ := Aside0.mk (blk_grown (g := gb165) (o := .cells #[.string a0_1, .string ((rd_T109 l0_8 x16_1).f0), .string ((rd_T109 l0_8 x16_1).f1), .string ((rd_T109 l0_8 x16_1).f4), .string t163] 40 (0, 0)) (by (with_reducible repeat (first | refine blk_drewN ?_ _ | refine blk_drew ?_ | refine blk_alloc ?_ _)); refine blk_put (cs := #[.string a0_1, .string ((rd_T109 l0_8 x16_1).f0), .string ((rd_T109 l0_8 x16_1).f1), .string ((rd_T109 l0_8 x16_1).f4), .string (⟨#[]⟩ : ByteArray)]) ?_ 4 _ rfl; (with_reducible repeat (first | refine blk_drewN ?_ _ | refine blk_drew ?_ | refine blk_alloc ?_ _)); refine blk_put (cs := #[.string a0_1, .string ((rd_T109 l0_8 x16_1).f0), .string ((rd_T109 l0_8 x16_1).f1), .string (⟨#[]⟩ : ByteArray), .string (⟨#[]⟩ : ByteArray)]) ?_ 3 _ rfl; (with_reducible repeat (first | refine blk_drewN ?_ _ | refine blk_drew ?_ | refine blk_alloc ?_ _)); refine blk_put (cs := #[.string a0_1, .string ((rd_T109 l0_8 x16_1).f0), .string (⟨#[]⟩ : ByteArray), .string (⟨#[]⟩ : ByteArray), .string (⟨#[]⟩ : ByteArray)]) ?_ 2 _ rfl; (with_reducible repeat (first | refine blk_drewN ?_ _ | refine blk_drew ?_ | refine blk_alloc ?_ _)); refine blk_put (cs := #[.string a0_1, .string (⟨#[]⟩ : ByteArray), .string (⟨#[]⟩ : ByteArray), .string (⟨#[]⟩ : ByteArray), .string (⟨#[]⟩ : ByteArray)]) ?_ 1 _ rfl; (with_reducible repeat (first | refine blk_drewN ?_ _ | refine blk_drew ?_ | refine blk_alloc ?_ _)); refine blk_put (cs := #[.string (⟨#[]⟩ : ByteArray), .string (⟨#[]⟩ : ByteArray), .string (⟨#[]⟩ : ByteArray), .string (⟨#[]⟩ : ByteArray), .string (⟨#[]⟩ : ByteArray)]) ?_ 0 _ rfl; (with_reducible repeat (first | refine blk_drewN ?_ _ | refine blk_drew ?_ | refine blk_alloc ?_ _)); exact BK165.out) hg (Kd.R_ne HO_3.out BK165.out (by decide))); have n3_ := Aside0.mk (hb); have n4_ := Aside0.mk (ho); clear BK160; clear BK162; clear BK165; clear HB; clear HO_3; have BK160 := n0_; have BK162 := n1_; have BK165 := n2_; have HB := n3_; have HO168 := n4_; clear n0_ n1_ n2_ n3_ n4_; clear ho hb hg hat))
       go_roundg k1
       case measure => have := HK1.out; omega
       case rel => exact ⟨(y166), (wrap64 (x16_1 + 1)), (by first | rfl | (simp; done) | (simp [*]; done)), H', ⟨by have := HK1.out; omega⟩, ⟨by (with_reducible repeat (first | apply Kd.R_alloc | apply Kd.R_drewN | apply Kd.R_drew)); exact HO168.out⟩, ⟨by (with_reducible repeat (first | refine blk_drewN ?_ _ | refine blk_drew ?_ | refine blk_alloc ?_ _)); exact BK160.out⟩, ⟨by repeat (first | (with_reducible first | exact HB.out | apply below_alloc | apply pw_below_drewN | apply below_drew1 | refine below_set ?_ GE160.out | refine below_set ?_ GE162.out | refine below_set ?_ GE165.out) | exact HB.out)⟩⟩
      ·rw [if_neg c8] at H
       exact absurd H (by simp)
     ·rw [if_neg c6] at H
      exact absurd H (by simp)
    ·rw [if_neg c5] at H
     exact absurd H (by simp)
   ·rw [if_neg c4] at H
    have c4b0 : decide (x16_1 < (l0_8.length : Int)) = false := decide_eq_false c4
    clear c4
    obtain rfl := Option.some.inj H
    go_wp2
    go_ret
    exact ⟨_, by first | rfl | (simp [errW_none, errW_some] <;> rfl) | (simp [*, errW_none, errW_some] <;> rfl), by (with_reducible repeat (first | apply Kd.R_alloc | apply Kd.R_drewN | apply Kd.R_drew)); exact HO_3.out, by repeat (first | (with_reducible first | exact HB.out | apply below_alloc | apply pw_below_drewN | apply below_drew1 | refine below_set ?_ GE160.out) | exact HB.out)⟩
def accountingref12_within.f (a0 : Int) (a1 : Int) : Option (Bool) := if a0 ≥ (wrap64 (-a1)) then (some (decide (a0 ≤ a1))) else (some false)
set_option maxHeartbeats 8000000 in
set_option maxRecDepth 100000 in
theorem accountingref12_within.calls (a0 : Int) (a1 : Int) (r : Bool) (w : World) (h : accountingref12_within.f a0 a1 = some r) :
  Calls Tryd.prog 141 #[.int .i64 a0, .int .i64 a1] w fun e w' => e = .returned (.bool r) ∧ Drawn0 w w' := by
 have H : (if a0 ≥ (wrap64 (-a1)) then (some (decide (a0 ≤ a1))) else (some false)) = some r := h
 clear h
 by_cases c3 : a0 ≥ (wrap64 (-a1))
 ·rw [if_pos c3] at H
  have c3b0 : decide ((wrap64 (-a1)) ≤ a0) = true := decide_eq_true c3
  clear c3
  obtain rfl := Option.some.inj H
  go_enter Tryd.func141, Tryd.ntmps141
  go_wp2
  go_ret
  exact ⟨by first | rfl | (simp; done) | (simp [*]; done), by repeat (first | exact Drawn0.refl _ | apply Drawn0.step)⟩
 ·rw [if_neg c3] at H
  have c3b0 : decide ((wrap64 (-a1)) ≤ a0) = false := decide_eq_false c3
  clear c3
  obtain rfl := Option.some.inj H
  go_enter Tryd.func141, Tryd.ntmps141
  go_wp2
  go_ret
  exact ⟨by first | rfl | (simp; done) | (simp [*]; done), by repeat (first | exact Drawn0.refl _ | apply Drawn0.step)⟩
end Go.Proofs.YtppcjoaghlecmaaDoor.P
namespace Go.Proofs.YtppcjoaghlecmaaDoor.P
set_option linter.unusedSimpArgs false
set_option linter.unusedVariables false
open Go.RowKit Go.Proofs.YtppcjoaghlecmaaDoorW.PrintWords Go.Proofs.YtppcjoaghlecmaaDoorW.PrintLast
theorem w64t {x : Int} (h0 : 0 ≤ x) (h1 : x ≤ 9223372036854775807) : wrap64 x = x := by unfold wrap64; omega
theorem rd213 {l : List S213} {i : Nat} (h : i < l.length) : rd_T213 l (i : Int) = l[i] := by
 simp [rd_T213, h]
theorem rdDrop {l : List S213} {i : Nat} (h : i < l.length) : l.drop i = rd_T213 l (i : Int) :: l.drop (i + 1) := by
 rw [rd213 h, List.drop_eq_getElem_cons h]
def codeB (s : ByteArray) : Bool := decide (0 < s.size) && (decide (s.size ≤ 12) && allFrom isCodeByte s 0)
theorem words_Code_f (s : ByteArray) : words_Code.f s = some (codeB s) := rfl
def namedB (x : S213) : Bool := codeB x.f0 && codeB x.f1
theorem codes_f (x : S213) : dims_codes.f x.f0 x.f1 = some (namedB x) := by
 unfold dims_codes.f namedB
 simp only [words_Code_f, Option.bind_some]
 cases codeB x.f0 <;> simp
def chk : Option S213 → List S213 → Bool
 | _, [] => true
 | p, x :: r => namedB x && ((match p with | none => true | some q => Op.bytesLess q.f0.toList x.f0.toList) && chk (some x) r)
def prev (l : List S213) (i : Nat) : Option S213 := if i = 0 then none else some (rd_T213 l ((i - 1 : Nat) : Int))
theorem prev_succ (l : List S213) (i : Nat) : prev l (i + 1) = some (rd_T213 l (i : Int)) := by simp [prev]
def rightT (l : List S213) : Bool := decide (l.length ≤ 6) && chk none l
theorem Right_l0 (l : List S213) (hl : l.length ≤ 9223372036854775807) : ∀ (n i : Nat), l.length - i = n → i ≤ l.length → Ev (fun k => dims_Right.l0 k l l (l.length : Int) (i : Int)) (chk (prev l i) (l.drop i)) := by
 intro n
 induction n with
 | zero =>
  intro i hn hi
  refine Ev.step (fun k => dims_Right.l0.eq_2 _ _ _ _ k) ?_
  simp only [if_neg (show ¬ ((i : Int) < (l.length : Int)) by omega)]
  rw [List.drop_of_length_le (by omega)]
  exact Ev.now _
 | succ n ih =>
  intro i hn hi
  refine Ev.step (fun k => dims_Right.l0.eq_2 _ _ _ _ k) ?_
  have hw : wrap64 ((i : Int) + 1) = ((i + 1 : Nat) : Int) := by rw [w64t (by omega) (by omega)]; omega
  have hi' := ih (i + 1) (by omega) (by omega)
  rw [prev_succ] at hi'
  simp only [if_pos (show ((i : Int) < (l.length : Int)) by omega), if_pos (show (0 : Int) ≤ (i : Int) by omega), hw, codes_f, Option.bind_some]
  rw [rdDrop (show i < l.length by omega)]
  unfold chk
  cases hn : namedB (rd_T213 l (i : Int))
  ·exact Ev.now _
  simp only [if_true, Bool.true_and]
  by_cases h0 : i = 0
  ·subst h0
   simp only [if_neg (show ¬ (((0 : Nat) : Int) > 0) by omega), prev, if_true, Bool.true_and]
   exact hi'
  ·have hm : wrap64 ((i : Int) - 1) = ((i - 1 : Nat) : Int) := by rw [w64t (by omega) (by omega)]; omega
   simp only [if_pos (show ((i : Int) > 0) by omega), hm, if_pos (show (0 : Int) ≤ ((i - 1 : Nat) : Int) by omega), if_pos (show ((i - 1 : Nat) : Int) < (l.length : Int) by omega), prev, if_neg h0]
   cases hb : Op.bytesLess ((rd_T213 l ((i - 1 : Nat) : Int)).f0).toList ((rd_T213 l (i : Int)).f0).toList
   ·exact Ev.now _
   ·simp only [if_true, Bool.true_and]
    exact hi'
theorem Right_ev (l : List S213) : Ev (fun k => dims_Right.f k l) (rightT l) := by
 unfold dims_Right.f rightT
 by_cases h : (l.length : Int) > 6
 ·simp only [if_pos h]
  have : decide (l.length ≤ 6) = false := decide_eq_false (by omega)
  rw [this]; exact Ev.now _
 ·simp only [if_neg h]
  have : decide (l.length ≤ 6) = true := decide_eq_true (by omega)
  rw [this, Bool.true_and]
  exact Right_l0 l (by omega) _ 0 rfl (by omega)
def shortL (l : List S213) : Prop := ∀ (i : Nat), i < l.length → (rd_T213 l (i : Int)).f0.size ≤ 9223372036854775807 ∧ (rd_T213 l (i : Int)).f1.size ≤ 9223372036854775807
def addT (acc : ByteArray) (first : Bool) : List S213 → ByteArray
 | [] => acc
 | x :: r => addT ((if first then acc else acc ++ (⟨#[44]⟩ : ByteArray)) ++ ((x.f0 ++ (⟨#[61]⟩ : ByteArray)) ++ x.f1)) false r
theorem chk_named {p : Option S213} {l : List S213} (h : chk p l = true) : ∀ x ∈ l, namedB x = true := by
 induction l generalizing p with
 | nil => intro x hx; simp at hx
 | cons y r ih =>
  simp only [chk, Bool.and_eq_true] at h
  intro x hx
  rcases List.mem_cons.mp hx with rfl | hx
  ·exact h.1
  ·exact ih h.2.2 x hx
theorem named_size {x : S213} (h : namedB x = true) : x.f0.size ≤ 12 ∧ x.f1.size ≤ 12 := by
 simp only [namedB, codeB, Bool.and_eq_true, decide_eq_true_eq] at h
 omega
theorem size_app (a b : ByteArray) : (a ++ b).size = a.size + b.size := by rw [ByteArray.size_append]
theorem Text_l0 (l : List S213) (hl : l.length ≤ 6) (hn : ∀ x ∈ l, namedB x = true) : ∀ (n i : Nat) (acc : ByteArray), l.length - i = n → i ≤ l.length → acc.size ≤ 30 * i → Ev (fun k => dims_Text.l0 k acc l (l.length : Int) (i : Int)) (addT acc (decide (i = 0)) (l.drop i), 0) := by
 intro n
 induction n with
 | zero =>
  intro i acc hn hi ha
  refine Ev.step (fun k => dims_Text.l0.eq_2 _ _ _ _ k) ?_
  simp only [if_neg (show ¬ ((i : Int) < (l.length : Int)) by omega)]
  rw [List.drop_of_length_le (by omega)]
  exact Ev.now _
 | succ n ih =>
  intro i acc hm hi ha
  refine Ev.step (fun k => dims_Text.l0.eq_2 _ _ _ _ k) ?_
  have hw : wrap64 ((i : Int) + 1) = ((i + 1 : Nat) : Int) := by rw [w64t (by omega) (by omega)]; omega
  have hz := named_size (hn (rd_T213 l (i : Int)) (by rw [rd213 (show i < l.length by omega)]; exact List.getElem_mem _))
  have e44 : (⟨#[44]⟩ : ByteArray).size = 1 := rfl
  have e61 : (⟨#[61]⟩ : ByteArray).size = 1 := rfl
  simp only [if_pos (show ((i : Int) < (l.length : Int)) by omega), if_pos (show (0 : Int) ≤ (i : Int) by omega), hw, size_app, e44, e61]
  rw [rdDrop (show i < l.length by omega)]
  unfold addT
  have a1 : (rd_T213 l (i : Int)).f0.size + 1 ≤ 9223372036854775807 := by omega
  have a2 : (rd_T213 l (i : Int)).f0.size + 1 + (rd_T213 l (i : Int)).f1.size ≤ 9223372036854775807 := by omega
  have a3 : acc.size + ((rd_T213 l (i : Int)).f0.size + 1 + (rd_T213 l (i : Int)).f1.size) ≤ 9223372036854775807 := by omega
  have a4 : acc.size + 1 ≤ 9223372036854775807 := by omega
  have a5 : acc.size + 1 + ((rd_T213 l (i : Int)).f0.size + 1 + (rd_T213 l (i : Int)).f1.size) ≤ 9223372036854775807 := by omega
  by_cases h0 : i = 0
  ·subst h0
   have := ih 1 (acc ++ ((rd_T213 l ((0 : Nat) : Int)).f0 ++ ⟨#[61]⟩ ++ (rd_T213 l ((0 : Nat) : Int)).f1)) (by omega) (by omega) (by simp only [size_app, e44, e61]; omega)
   simp only [if_neg (show ¬ (((0 : Nat) : Int) > 0) by omega), decide_true, if_true]
   simp only [if_pos a1, if_pos a2, if_pos a3]
   exact this
  ·have := ih (i + 1) ((acc ++ ⟨#[44]⟩) ++ ((rd_T213 l (i : Int)).f0 ++ ⟨#[61]⟩ ++ (rd_T213 l (i : Int)).f1)) (by omega) (by omega) (by simp only [size_app, e44, e61]; omega)
   simp only [if_pos (show ((i : Int) > 0) by omega), decide_eq_true_eq, h0, decide_false, Bool.false_eq_true, if_false]
   simp only [if_pos a1, if_pos a2, if_pos a4, if_pos a5]
   simpa using this
def textL (l : List S213) : ByteArray × Int := if rightT l then (addT ⟨#[]⟩ true l, 0) else (⟨#[]⟩, 14)
theorem right_named {l : List S213} (h : rightT l = true) : l.length ≤ 6 ∧ ∀ x ∈ l, namedB x = true := by
 simp only [rightT, Bool.and_eq_true, decide_eq_true_eq] at h
 exact ⟨h.1, chk_named h.2⟩
theorem Text_ev (l : List S213) : Ev (fun k => dims_Text.f k l) (textL l) := by
 unfold dims_Text.f textL
 refine Ev.bind (Right_ev l) ?_
 cases h : rightT l
 ·exact Ev.now _
 ·simp only [if_true]
  have := right_named h
  exact Text_l0 l this.1 this.2 _ 0 _ rfl (by omega) (Nat.le_refl 0)
end Go.Proofs.YtppcjoaghlecmaaDoor.P
namespace Go.Proofs.YtppcjoaghlecmaaDoor.P
open Go.RowKit Go.Proofs.YtppcjoaghlecmaaDoorW.PrintWords Go.Proofs.YtppcjoaghlecmaaDoorW.PrintLast Go.Proofs.YtppcjoaghlecmaaDoorW.PrintMore
set_option linter.unusedVariables false
set_option linter.unusedSimpArgs false
theorem w64d {x : Int} (h0 : 0 ≤ x) (h1 : x < 9223372036854775000) : wrap64 x = x := by unfold wrap64; omega
theorem w64s {x : Int} (h0 : -9223372036854775000 ≤ x) (h1 : x < 9223372036854775000) : wrap64 x = x := by unfold wrap64; omega
def bf (y : Int) : Int := 365 * (y - 1900) + ((y - 1) / 4 - (y - 1) / 100 + (y - 1) / 400 - 460)
theorem before_eq (y : Int) (h0 : 1900 ≤ y) (h1 : y ≤ 2200) : days_before.f y = some (bf y) := by
 have e1 : wrap64 (y - 1) = y - 1 := w64d (by omega) (by omega)
 have e2 : Int.tdiv (y - 1) 4 = (y - 1) / 4 := Int.tdiv_eq_ediv_of_nonneg (by omega)
 have e3 : Int.tdiv (y - 1) 100 = (y - 1) / 100 := Int.tdiv_eq_ediv_of_nonneg (by omega)
 have e4 : Int.tdiv (y - 1) 400 = (y - 1) / 400 := Int.tdiv_eq_ediv_of_nonneg (by omega)
 unfold days_before.f
 rw [e1, e2, e3, e4]
 rw [w64s (x := (y - 1) / 4) (by omega) (by omega), w64s (x := (y - 1) / 100) (by omega) (by omega), w64s (x := (y - 1) / 400) (by omega) (by omega)]
 rw [w64s (x := y - 1900) (by omega) (by omega), w64s (x := 365 * (y - 1900)) (by omega) (by omega)]
 rw [w64s (x := (y - 1) / 4 - (y - 1) / 100) (by omega) (by omega), w64s (x := (y - 1) / 4 - (y - 1) / 100 + (y - 1) / 400) (by omega) (by omega)]
 rw [w64s (x := (y - 1) / 4 - (y - 1) / 100 + (y - 1) / 400 - 474) (by omega) (by omega)]
 rw [w64s (x := (y - 1) / 4 - (y - 1) / 100 + (y - 1) / 400 - 474 + 18) (by omega) (by omega)]
 rw [w64s (x := (y - 1) / 4 - (y - 1) / 100 + (y - 1) / 400 - 474 + 18 - 4) (by omega) (by omega)]
 rw [w64s (by omega) (by omega)]
 unfold bf
 congr 1
 omega
def leapB (y : Int) : Bool := (y % 4 == 0 && y % 100 != 0) || y % 400 == 0
theorem leap_eq (y : Int) (h0 : 0 ≤ y) : days_Leap.f y = some (leapB y) := by
 unfold days_Leap.f leapB
 rw [Int.tmod_eq_emod_of_nonneg h0, Int.tmod_eq_emod_of_nonneg h0, Int.tmod_eq_emod_of_nonneg h0]
 by_cases c1 : y % 4 = 0
 ·rw [if_pos c1]
  by_cases c2 : y % 100 = 0
  ·rw [if_pos c2]; simp [c2]
  ·rw [if_neg c2]; simp [c1, c2]
 ·rw [if_neg c1]; simp [c1]
def mlen (b : Bool) (m : Int) : Int := if m = 2 then (if b = true then 29 else 28) else lens.getD (m - 1).toNat 0
theorem length_eq (y m : Int) (h0 : 0 ≤ y) (h1 : 1 ≤ m) (h2 : m ≤ 12) : days_Length.f y m = some (mlen (leapB y) m) := by
 unfold days_Length.f mlen
 rw [if_pos h1, if_pos h2, leap_eq y h0]
 by_cases c : m = 2
 ·rw [if_pos c, if_pos c]
  cases leapB y <;> rfl
 ·rw [if_neg c, if_neg c]
def remc (b : Bool) : Nat → Int
 | 0 => 31
 | c + 1 => remc b c + mlen b (11 - (c : Int))
theorem mlen_pos (b : Bool) (m : Int) (h1 : 1 ≤ m) (h2 : m ≤ 12) : 0 < mlen b m ∧ mlen b m ≤ 31 := by
 have : m = 1 ∨ m = 2 ∨ m = 3 ∨ m = 4 ∨ m = 5 ∨ m = 6 ∨ m = 7 ∨ m = 8 ∨ m = 9 ∨ m = 10 ∨ m = 11 ∨ m = 12 := by omega
 rcases this with rfl | rfl | rfl | rfl | rfl | rfl | rfl | rfl | rfl | rfl | rfl | rfl <;> cases b <;> decide
theorem month_ev (y : Int) (hy : 0 ≤ y) (z : Int) : ∀ (c : Nat) (M r : Int), M + c = 12 → 1 ≤ M → 0 ≤ r → r < remc (leapB y) c → ∃ m d, Ev (fun k => days_Date.l1 k r y M z) (y, m, d, 0)
 | 0, M, r, h1, h2, h3, h4 => by
  have : M = 12 := by omega
  subst this
  refine ⟨12, wrap64 (r + 1), Ev.step (fun k => days_Date.l1.eq_2 _ _ _ _ k) ?_⟩
  simp only [length_eq y 12 hy (by omega) (by omega), Option.bind_some]
  have e : mlen (leapB y) 12 = 31 := by cases leapB y <;> rfl
  rw [e]
  have : r < 31 := h4
  simp only [if_neg (show ¬ r ≥ 31 by omega)]
  exact Ev.now _
 | c + 1, M, r, h1, h2, h3, h4 => by
  have hr : r < remc (leapB y) c + mlen (leapB y) (11 - (c : Int)) := h4
  have eM : (11 - (c : Int)) = M := by omega
  rw [eM] at hr
  obtain ⟨p1, p2⟩ := mlen_pos (leapB y) M (by omega) (by omega)
  by_cases hc : r ≥ mlen (leapB y) M
  ·have hw : wrap64 (r - mlen (leapB y) M) = r - mlen (leapB y) M := by
    have : r < 9223372036854775000 := by
     have := remc_le (leapB y) (c + 1) (by omega)
     omega
    rw [w64d (by omega) (by omega)]
   obtain ⟨m, d, h⟩ := month_ev y hy z c (M + 1) (r - mlen (leapB y) M) (by omega) (by omega) (by omega) (by omega)
   refine ⟨m, d, Ev.step (fun k => days_Date.l1.eq_2 _ _ _ _ k) ?_⟩
   simp only [length_eq y M hy (by omega) (by omega), Option.bind_some, if_pos hc, hw, w64d (show 0 ≤ M + 1 by omega) (by omega)]
   exact h
  ·refine ⟨M, wrap64 (r + 1), Ev.step (fun k => days_Date.l1.eq_2 _ _ _ _ k) ?_⟩
   simp only [length_eq y M hy (by omega) (by omega), Option.bind_some, if_neg hc]
   exact Ev.now _
where
 remc_le (b : Bool) : ∀ c : Nat, c ≤ 11 → remc b c ≤ 31 * (c + 1)
  | 0, _ => by show (31 : Int) ≤ _; omega
  | c + 1, h => by
   have := remc_le b c (by omega)
   have := (mlen_pos b (11 - (c : Int)) (by omega) (by omega)).2
   show remc b c + _ ≤ _
   omega
theorem remc_year (b : Bool) : remc b 11 = if b = true then 366 else 365 := by cases b <;> decide
theorem bf_step (y : Int) (h0 : 1900 ≤ y) (h1 : y ≤ 2199) : bf (y + 1) - bf y = remc (leapB y) 11 := by
 rw [remc_year]
 unfold bf leapB
 by_cases c1 : y % 4 = 0 <;> by_cases c2 : y % 100 = 0 <;> by_cases c3 : y % 400 = 0 <;> simp [c1, c2, c3] <;> omega
theorem j1_ev (n y : Int) (h0 : 1900 ≤ y) (h1 : y ≤ 2199) (h2 : bf y ≤ n) (h3 : n < bf (y + 1)) (hn : 0 ≤ n) (hn2 : n ≤ 109572) (z m : Int) : ∃ m' d, Ev (fun k => days_Date.j1 k n y m z) (y, m', d, 0) := by
 have hs := bf_step y h0 h1
 have hb : 0 ≤ bf y := by unfold bf; omega
 obtain ⟨m', d, h⟩ := month_ev y (by omega) z 11 1 (n - bf y) (by omega) (by omega) (by omega) (by omega)
 refine ⟨m', d, Ev.step (fun k => days_Date.j1.eq_2 _ _ _ _ k) ?_⟩
 simp only [before_eq y h0 (by omega), Option.bind_some, w64d (show 0 ≤ n - bf y by omega) (by omega)]
 exact h
theorem year_ev (n : Int) (hn : 0 ≤ n) (hn2 : n ≤ 109572) (z m : Int) : ∀ (c : Nat) (y : Int), y + c = 2199 → 1900 ≤ y → bf y ≤ n → ∃ y' m' d, Ev (fun k => days_Date.l0 k n y m z) (y', m', d, 0)
 | 0, y, h1, h2, h3 => by
  have : y = 2199 := by omega
  subst this
  have hbf : bf (2199 + 1) = 109573 := by decide
  obtain ⟨m', d, h⟩ := j1_ev n 2199 (by omega) (by omega) h3 (by rw [hbf]; omega) hn hn2 z m
  refine ⟨2199, m', d, Ev.step (fun k => days_Date.l0.eq_2 _ _ _ _ k) ?_⟩
  simp only [if_neg (show ¬ (2199 : Int) < 2199 by omega)]
  exact h
 | c + 1, y, h1, h2, h3 => by
  by_cases hc : bf (y + 1) ≤ n
  ·obtain ⟨y', m', d, h⟩ := year_ev n hn hn2 z m c (y + 1) (by omega) (by omega) hc
   refine ⟨y', m', d, Ev.step (fun k => days_Date.l0.eq_2 _ _ _ _ k) ?_⟩
   simp only [if_pos (show y < 2199 by omega), w64d (show 0 ≤ y + 1 by omega) (by omega), before_eq (y + 1) (by omega) (by omega), Option.bind_some, if_pos hc]
   exact h
  ·obtain ⟨m', d, h⟩ := j1_ev n y h2 (by omega) h3 (by omega) hn hn2 z m
   refine ⟨y, m', d, Ev.step (fun k => days_Date.l0.eq_2 _ _ _ _ k) ?_⟩
   simp only [if_pos (show y < 2199 by omega), w64d (show 0 ≤ y + 1 by omega) (by omega), before_eq (y + 1) (by omega) (by omega), Option.bind_some, if_neg hc]
   exact h
theorem bf_start (n : Int) (hn : 0 ≤ n) (hn2 : n ≤ 109572) : bf (1900 + n / 366) ≤ n := by
 unfold bf
 have h1 : 0 ≤ n / 366 := by omega
 have h2 : n / 366 ≤ 299 := by omega
 have h3 : 366 * (n / 366) ≤ n := by omega
 generalize n / 366 = q at *
 omega
def dayB (n : Int) : Bool := decide (0 ≤ n ∧ n ≤ 109572)
theorem date_ev (n : Int) : ∃ y m d e, Ev (fun k => days_Date.f k n) (y, m, d, e) ∧ e = if dayB n = true then 0 else 11 := by
 unfold days_Date.f days_is.f dayB
 by_cases h0 : n ≥ 0
 ·by_cases h1 : n ≤ 109572
  ·have e1 : Int.tdiv n 366 = n / 366 := Int.tdiv_eq_ediv_of_nonneg h0
   have e2 : wrap64 (1900 + wrap64 (n / 366)) = 1900 + n / 366 := by rw [w64d (x := n / 366) (by omega) (by omega), w64d (by omega) (by omega)]
   obtain ⟨y', m', d, h⟩ := year_ev n h0 h1 0 0 (2199 - (1900 + n / 366)).toNat (1900 + n / 366) (by omega) (by omega) (bf_start n h0 h1)
   refine ⟨y', m', d, 0, ?_, by rw [decide_eq_true (show 0 ≤ n ∧ n ≤ 109572 from ⟨h0, h1⟩)]; rfl⟩
   simp only [if_pos h0, decide_eq_true h1, Option.bind_some, e1, e2, if_true]
   exact h
  ·refine ⟨0, 0, 0, 11, ?_, by rw [decide_eq_false (show ¬ (0 ≤ n ∧ n ≤ 109572) by omega)]; rfl⟩
   simp only [if_pos h0, decide_eq_false h1, Option.bind_some]
   exact Ev.now _
 ·refine ⟨0, 0, 0, 11, ?_, by rw [decide_eq_false (show ¬ (0 ≤ n ∧ n ≤ 109572) by omega)]; rfl⟩
  simp only [if_neg h0, Option.bind_some]
  exact Ev.now _
theorem isDay_ev (n : Int) : Ev (fun k => entry_isDay.f k n) (dayB n) := by
 obtain ⟨y, m, d, e, h, he⟩ := date_ev n
 unfold entry_isDay.f
 refine h.bind ?_
 subst he
 cases dayB n <;> exact Ev.now _
end Go.Proofs.YtppcjoaghlecmaaDoor.P
namespace Go.Proofs.YtppcjoaghlecmaaDoor.P
open Go.RowKit Go.Sort Go.Proofs.YtppcjoaghlecmaaDoorW.PrintWords Go.Proofs.YtppcjoaghlecmaaDoorW.PrintLast Go.Proofs.YtppcjoaghlecmaaDoorW.PrintMore Go.Maps Go.ChangeShapes Go.WideShapes Go.WideMaps
set_option linter.unusedVariables false
set_option linter.unusedSimpArgs false
structure Fct (w3 w : World) (base : Nat) (ak : Option Addr) (out : List ByteArray) (k : Nat) (s : ByteArray) (W : World) (gl : Nat) : Prop where
 row : Kd.string.R 9 W base (fun k => w3.heap.size ≤ k) (.slice (some ⟨gl, 0, none⟩) 0 0) []
 take : Kd.C Kd.string W ak k (out.take k)
 below : Below base w W
 le : w3.heap.size ≤ W.heap.size
 keep : ∀ q, q < w3.heap.size → W.heap[q]? = w3.heap[q]?
 new : w3.heap.size ≤ gl
 bs : base ≤ w3.heap.size
theorem Fct.after {w3 w W wB : World} {base : Nat} {ak : Option Addr} {out : List ByteArray} {k gl : Nat} {s : ByteArray} {v50 : Value} (h : Fct w3 w base ak out k s W gl) (hgB : W.grownBy wB (Value.slice (some ⟨gl, 0, none⟩) 0 0).ownBlock) (hat : v50.ownBlock = (Value.slice (some ⟨gl, 0, none⟩) 0 0).ownBlock ∨ ∃ b, v50.ownBlock = some b ∧ W.heap.size ≤ b) :
  w3.heap.size ≤ wB.heap.size ∧ base ≤ wB.heap.size ∧ ∀ {wC : World}, wB.grownBy wC v50.ownBlock → ∀ q, q < w3.heap.size → wC.heap[q]? = w3.heap[q]? := by
 have h0 := Nat.le_trans h.le hgB.size
 refine ⟨h0, Nat.le_trans h.bs h0, fun {wC} hgC q hq => ?_⟩
 have hn := h.new
 have hl := h.le
 have h2 := hgB.block q (by omega) (fun e => by
  have : gl = q := by simpa [Value.ownBlock] using e.symm
  omega)
 have h3 := hgC.block q (by omega) (fun e => by
  rcases hat with h | ⟨b, h, hb⟩
  ·have : gl = q := by simpa [Value.ownBlock] using (e.trans h).symm
   omega
  ·have : b = q := by simpa using (e.trans h).symm
   omega)
 exact h3.trans (h2.trans (h.keep q hq))
section
variable {w3 w : World} {base : Nat} {ak : Option Addr} {out : List ByteArray} {k : Nat} {s : ByteArray}
end
end Go.Proofs.YtppcjoaghlecmaaDoor.P
namespace Go.Proofs.YtppcjoaghlecmaaDoor.P
open Go.RowKit Go.Proofs.YtppcjoaghlecmaaDoorW.PrintWords Go.Proofs.YtppcjoaghlecmaaDoorW.PrintLast Go.Proofs.YtppcjoaghlecmaaDoorW.PrintMore
set_option linter.unusedVariables false
set_option linter.unusedSimpArgs false
def optB (s : ByteArray) : Bool := s.toList == [] || codeB s
def plainB (s : ByteArray) : Bool := decide (s.size ≤ 60) && allFrom isPrintable s 0
def ws (n m : Int) : Bool := decide (-m ≤ n ∧ n ≤ m)
structure ShortLn (x : S109) : Prop where
 s0 : x.f0.size ≤ 9223372036854775807
 s1 : x.f1.size ≤ 9223372036854775807
 s4 : x.f4.size ≤ 9223372036854775807
 s5 : x.f5.size ≤ 9223372036854775807
 tl : x.f6.length ≤ 9223372036854775807
 ts : shortL x.f6
theorem opt_f (s : ByteArray) : entry_optional.f s = some (optB s) := by
 unfold entry_optional.f optB
 by_cases h : s.toList = []
 ·rw [if_pos h, h]; rfl
 ·rw [if_neg h, beq_eq_false_iff_ne.mpr h, Bool.false_or]
  show (some (codeB s)).bind _ = _
  rfl
theorem ws_f (n m : Int) (h0 : 0 ≤ m) (h1 : m ≤ 1000000000000000) : entry_within.f n m = some (ws n m) ∧ accountingref12_within.f n m = some (ws n m) := by
 have e : wrap64 (-m) = -m := by unfold wrap64; omega
 unfold entry_within.f accountingref12_within.f ws
 rw [e]
 by_cases h : n ≥ -m
 ·rw [if_pos h]
  have : decide (n ≤ m) = decide (-m ≤ n ∧ n ≤ m) := by rw [Bool.eq_iff_iff, decide_eq_true_iff, decide_eq_true_iff]; omega
  rw [this]
  exact ⟨rfl, rfl⟩
 ·rw [if_neg h, decide_eq_false (show ¬ (-m ≤ n ∧ n ≤ m) by omega)]
  exact ⟨rfl, rfl⟩
theorem plain_f (s : ByteArray) : words_Plain.f s = some (plainB s) := rfl
def lineE (x : S109) : Int := if (!codeB x.f0 || (!optB x.f4 || !optB x.f5)) = true then 7 else if monB x.f1 = false then 13 else if (!ws x.f2 1000000000000 || !ws x.f3 1000000000000) = true then 4 else if x.f2 = 0 ∧ x.f3 = 0 then 2 else if rightT x.f6 = false then 14 else 0
def lineJ1 (b : Bool) (x : S109) : Int := if b = true then 4 else if x.f2 = 0 ∧ x.f3 = 0 then 2 else if rightT x.f6 = false then 14 else 0
def lineJ0 (b : Bool) (x : S109) : Int := if b = true then 7 else if monB x.f1 = false then 13 else lineJ1 (!ws x.f2 1000000000000 || !ws x.f3 1000000000000) x
theorem lineE_j0 (x : S109) : lineE x = lineJ0 (!codeB x.f0 || (!optB x.f4 || !optB x.f5)) x := rfl
theorem line_j2 (b : Bool) (x : S109) : Ev (fun k => entry_Line.j2 k b x.f0 x.f1 x.f2 x.f3 x.f4 x.f5 x.f6) (if b = true then 2 else if rightT x.f6 = false then 14 else 0) := by
 refine Ev.step (fun k => entry_Line.j2.eq_2 _ _ _ _ _ _ _ _ k) ?_
 cases b
 ·simp only [Bool.false_eq_true, if_false]
  refine Ev.bind (Right_ev x.f6) ?_
  cases rightT x.f6 <;> exact Ev.now _
 ·exact Ev.now _
theorem line_j1 (b : Bool) (x : S109) : Ev (fun k => entry_Line.j1 k b x.f0 x.f1 x.f2 x.f3 x.f4 x.f5 x.f6) (lineJ1 b x) := by
 refine Ev.step (fun k => entry_Line.j1.eq_2 _ _ _ _ _ _ _ _ k) ?_
 unfold lineJ1
 cases b
 ·simp only [Bool.false_eq_true, if_false]
  by_cases h2 : x.f2 = 0
  ·simp only [if_pos h2]
   have := line_j2 (x.f3 == 0) x
   by_cases h3 : x.f3 = 0
   ·rw [if_pos ⟨h2, h3⟩]
    rwa [show (x.f3 == 0) = true from beq_iff_eq.mpr h3, if_pos rfl, ← show (x.f3 == 0) = true from beq_iff_eq.mpr h3] at this
   ·rw [if_neg (fun h => h3 h.2)]
    rwa [if_neg (by simpa using h3)] at this
  ·simp only [if_neg h2]
   rw [if_neg (fun h => h2 h.1)]
   exact line_j2 false x
 ·exact Ev.now _
theorem line_j0 (b : Bool) (x : S109) (hm : x.f1.size ≤ maxLen) : Ev (fun k => entry_Line.j0 k b x.f0 x.f1 x.f2 x.f3 x.f4 x.f5 x.f6) (lineJ0 b x) := by
 refine Ev.step (fun k => entry_Line.j0.eq_2 _ _ _ _ _ _ _ _ k) ?_
 unfold lineJ0
 cases b
 ·simp only [Bool.false_eq_true, if_false]
  unfold money_Code.f
  simp only [if_pos hm, Option.bind_some, (ws_f x.f2 1000000000000 (by omega) (by omega)).1, (ws_f x.f3 1000000000000 (by omega) (by omega)).1]
  cases monB x.f1
  ·exact Ev.now _
  ·simp only [if_true, Bool.true_eq_false, if_false]
   cases ws x.f2 1000000000000
   ·exact line_j1 true x
   ·simp only [if_true, Bool.not_true, Bool.false_or]
    exact line_j1 _ x
 ·exact Ev.now _
theorem line_ev (x : S109) (hm : x.f1.size ≤ maxLen) : Ev (fun k => entry_Line.f k x.f0 x.f1 x.f2 x.f3 x.f4 x.f5 x.f6) (lineE x) := by
 rw [lineE_j0]
 unfold entry_Line.f
 simp only [words_Code_f, opt_f, Option.bind_some]
 cases codeB x.f0
 ·exact line_j0 true x hm
 ·simp only [if_true, Bool.not_true, Bool.false_or]
  cases optB x.f4
  ·exact line_j0 true x hm
  ·simp only [if_true, Bool.not_true, Bool.false_or]
   exact line_j0 _ x hm
def headJ3 (b : Bool) (x : S29) : Int := if b = true then 10 else if plainB x.f5 = false then 5 else if x.f8.length < 2 then 2 else if x.f8.length > 100 then 9 else 0
def headJ2 (b : Bool) (x : S29) : Int := if b = true then 11 else headJ3 (decide (x.f4 < 1 ∨ x.f4 > 7)) x
def headJ1 (b : Bool) (x : S29) : Int := if b = true then 7 else headJ2 (!dayB x.f2 || !dayB x.f3) x
def headJ0 (b : Bool) (x : S29) : Int := if b = true then 3 else headJ1 (!codeB x.f1 || !codeB x.f6) x
def headE (x : S29) : Int := headJ0 (decide (x.f0 < 0 ∨ x.f0 > 4000 ∨ x.f7 < 0 ∨ x.f7 > 4000)) x
theorem isDay_ev' (n : Int) : Ev (fun k => entry_isDay.f k n) (dayB n) := isDay_ev n
theorem head_tail (x : S29) (b : Bool) : (if b = true then (if (x.f8.length : Int) < 2 then (some 2 : Option Int) else (if (x.f8.length : Int) > 100 then (some 9) else (some 0))) else some 5) = some (if b = false then 5 else if x.f8.length < 2 then 2 else if x.f8.length > 100 then 9 else 0) := by
 cases b
 ·rfl
 ·simp only [if_true, Bool.true_eq_false, if_false]
  by_cases h1 : x.f8.length < 2
  ·rw [if_pos (show (x.f8.length : Int) < 2 by omega), if_pos h1]
  ·rw [if_neg (show ¬ (x.f8.length : Int) < 2 by omega), if_neg h1]
   by_cases h2 : x.f8.length > 100
   ·rw [if_pos (show (x.f8.length : Int) > 100 by omega), if_pos h2]
   ·rw [if_neg (show ¬ (x.f8.length : Int) > 100 by omega), if_neg h2]
theorem head_j3 (b : Bool) (x : S29) : Ev (fun k => entry_head.j3 k b x.f0 x.f1 x.f2 x.f3 x.f4 x.f5 x.f6 x.f7 x.f8) (headJ3 b x) := by
 refine Ev.step (fun k => entry_head.j3.eq_2 _ _ _ _ _ _ _ _ _ _ k) ?_
 unfold headJ3
 cases b
 ·simp only [Bool.false_eq_true, if_false, plain_f, Option.bind_some, head_tail]
  exact Ev.now _
 ·exact Ev.now _
theorem head_j2 (b : Bool) (x : S29) : Ev (fun k => entry_head.j2 k b x.f0 x.f1 x.f2 x.f3 x.f4 x.f5 x.f6 x.f7 x.f8) (headJ2 b x) := by
 refine Ev.step (fun k => entry_head.j2.eq_2 _ _ _ _ _ _ _ _ _ _ k) ?_
 unfold headJ2
 cases b
 ·simp only [Bool.false_eq_true, if_false]
  by_cases h : x.f4 < 1
  ·simp only [if_pos h]
   rw [decide_eq_true (Or.inl h : x.f4 < 1 ∨ x.f4 > 7)]
   exact head_j3 true x
  ·simp only [if_neg h]
   rw [show decide (x.f4 < 1 ∨ x.f4 > 7) = decide (x.f4 > 7) from by rw [decide_eq_decide]; omega]
   exact head_j3 _ x
 ·exact Ev.now _
theorem head_j1 (b : Bool) (x : S29) : Ev (fun k => entry_head.j1 k b x.f0 x.f1 x.f2 x.f3 x.f4 x.f5 x.f6 x.f7 x.f8) (headJ1 b x) := by
 refine Ev.step (fun k => entry_head.j1.eq_2 _ _ _ _ _ _ _ _ _ _ k) ?_
 unfold headJ1
 cases b
 ·simp only [Bool.false_eq_true, if_false]
  refine Ev.bind (isDay_ev' x.f2) ?_
  cases dayB x.f2
  ·exact head_j2 true x
  ·simp only [if_true, Bool.not_true, Bool.false_or]
   refine Ev.bind (isDay_ev' x.f3) ?_
   exact head_j2 _ x
 ·exact Ev.now _
theorem head_j0 (b : Bool) (x : S29) : Ev (fun k => entry_head.j0 k b x.f0 x.f1 x.f2 x.f3 x.f4 x.f5 x.f6 x.f7 x.f8) (headJ0 b x) := by
 refine Ev.step (fun k => entry_head.j0.eq_2 _ _ _ _ _ _ _ _ _ _ k) ?_
 unfold headJ0
 cases b
 ·simp only [Bool.false_eq_true, if_false, words_Code_f, Option.bind_some]
  cases codeB x.f1
  ·exact head_j1 true x
  ·simp only [if_true, Bool.not_true, Bool.false_or]
   exact head_j1 _ x
 ·exact Ev.now _
theorem head_ev (x : S29) : Ev (fun k => entry_head.f k x.f0 x.f1 x.f2 x.f3 x.f4 x.f5 x.f6 x.f7 x.f8) (headE x) := by
 unfold entry_head.f headE
 by_cases h1 : x.f0 < 0
 ·simp only [if_pos h1]; rw [decide_eq_true (by omega)]; exact head_j0 true x
 simp only [if_neg h1]
 by_cases h2 : x.f0 > 4000
 ·simp only [if_pos h2]; rw [decide_eq_true (by omega)]; exact head_j0 true x
 simp only [if_neg h2]
 by_cases h3 : x.f7 < 0
 ·simp only [if_pos h3]; rw [decide_eq_true (by omega)]; exact head_j0 true x
 simp only [if_neg h3]
 rw [show decide (x.f0 < 0 ∨ x.f0 > 4000 ∨ x.f7 < 0 ∨ x.f7 > 4000) = decide (x.f7 > 4000) from by rw [decide_eq_decide]; omega]
 exact head_j0 _ x
structure ShortEn (x : S29) : Prop where
 s1 : x.f1.size ≤ 9223372036854775807
 s5 : x.f5.size ≤ 9223372036854775807
 s6 : x.f6.size ≤ 9223372036854775807
 ln : ∀ y ∈ x.f8, ShortLn y
def linesE : Nat → List S109 → Option (Int × Int)
 | _, [] => none
 | i, y :: r => if lineE y = 0 then linesE (i + 1) r else some ((i : Int), lineE y)
def chkE (x : S29) : Int × Int := if headE x = 0 then (match linesE 0 x.f8 with | some e => e | none => if balB x.f8 = true then (-1, 0) else (-1, 15)) else (-1, headE x)
theorem head_len {x : S29} (h : headE x = 0) : 2 ≤ x.f8.length ∧ x.f8.length ≤ 100 ∧ codeB x.f1 = true ∧ codeB x.f6 = true ∧ dayB x.f2 = true ∧ dayB x.f3 = true := by
 unfold headE headJ0 at h
 split at h
 ·omega
 unfold headJ1 at h
 split at h
 ·omega
 rename_i h1
 unfold headJ2 at h
 split at h
 ·omega
 rename_i h2
 unfold headJ3 at h
 split at h
 ·omega
 split at h
 ·omega
 split at h
 ·omega
 split at h
 ·omega
 simp only [Bool.or_eq_true, Bool.not_eq_true', not_or, Bool.not_eq_false] at h1 h2
 exact ⟨by omega, by omega, h1.1, h1.2, h2.1, h2.2⟩
theorem line_ok {y : S109} (h : lineE y = 0) : codeB y.f0 = true ∧ optB y.f4 = true ∧ monB y.f1 = true ∧ ws y.f2 1000000000000 = true ∧ ws y.f3 1000000000000 = true ∧ rightT y.f6 = true := by
 unfold lineE at h
 split at h
 ·omega
 rename_i h1
 split at h
 ·omega
 rename_i h2
 split at h
 ·omega
 rename_i h3
 split at h
 ·omega
 split at h
 ·omega
 rename_i h5
 simp only [Bool.or_eq_true, Bool.not_eq_true', not_or, Bool.not_eq_false] at h1 h2 h3 h5
 exact ⟨h1.1, h1.2.1, h2, h3.1, h3.2, h5⟩
theorem linesE_none : ∀ {l : List S109} {i : Nat}, linesE i l = none → ∀ y ∈ l, lineE y = 0
 | [], _, _, y, hy => by cases hy
 | z :: r, i, h, y, hy => by
  unfold linesE at h
  split at h
  ·rename_i h0
   rcases List.mem_cons.1 hy with rfl | hy
   ·exact h0
   ·exact linesE_none h y hy
  ·cases h
theorem mon_size {s : ByteArray} (h : monB s = true) : s.size = 3 := by
 unfold monB at h
 simp only [Bool.and_eq_true, decide_eq_true_eq] at h
 exact h.1
theorem bal_f {l : List S109} (hl : l.length ≤ 100) (h : ∀ y ∈ l, lineE y = 0) : entry_Balanced.f l = some (balB l) := by
 unfold entry_Balanced.f
 rw [if_pos]
 refine ⟨by omega, fun x hx => ?_⟩
 obtain ⟨_, _, h1, h2, h3, _⟩ := line_ok (h x hx)
 unfold ws at h2 h3
 rw [decide_eq_true_eq] at h2 h3
 refine ⟨by rw [mon_size h1]; decide, ?_, ?_⟩ <;> unfold i64ok <;> omega
theorem rd109 {l : List S109} {i : Nat} (h : i < l.length) : rd_T109 l (i : Int) = l[i] := by
 simp [rd_T109, h]
def FitE (x : S29) : Prop := ∀ y ∈ x.f8, y.f1.size ≤ maxLen
theorem chk_l0 (x : S29) (hf : FitE x) (hl : x.f8.length ≤ 100) : ∀ (n i : Nat), x.f8.length - i = n → i ≤ x.f8.length → (∀ y ∈ x.f8.take i, lineE y = 0) → Ev (fun k => entry_Check.l0 k x.f8 (x.f8.length : Int) (i : Int) x.f0 x.f1 x.f2 x.f3 x.f4 x.f5 x.f6 x.f7 x.f8) (match linesE i (x.f8.drop i) with | some e => e | none => if balB x.f8 = true then (-1, 0) else (-1, 15)) := by
 intro n
 induction n with
 | zero =>
  intro i hn hi hz
  obtain rfl : i = x.f8.length := by omega
  refine Ev.step (fun k => entry_Check.l0.eq_2 _ _ _ _ _ _ _ _ _ _ _ _ k) ?_
  rw [List.take_length] at hz
  simp only [if_neg (show ¬ ((x.f8.length : Int) < (x.f8.length : Int)) by omega), List.drop_length, linesE, bal_f hl hz, Option.bind_some]
  cases balB x.f8 <;> exact Ev.now _
 | succ n ih =>
  intro i hn hi hz
  have hil : i < x.f8.length := by omega
  refine Ev.step (fun k => entry_Check.l0.eq_2 _ _ _ _ _ _ _ _ _ _ _ _ k) ?_
  have hw : wrap64 ((i : Int) + 1) = ((i + 1 : Nat) : Int) := by rw [w64t (by omega) (by omega)]; omega
  simp only [if_pos (show ((i : Int) < (x.f8.length : Int)) by omega), if_pos (show (0 : Int) ≤ (i : Int) by omega), hw, rd109 hil]
  refine Ev.bind (line_ev x.f8[i] (hf _ (List.getElem_mem _))) ?_
  rw [List.drop_eq_getElem_cons hil]
  unfold linesE
  by_cases h0 : lineE x.f8[i] = 0
  ·simp only [if_pos h0]
   refine ih (i + 1) (by omega) (by omega) (fun y hy => ?_)
   rw [List.take_add_one, List.getElem?_eq_getElem hil] at hy
   rcases List.mem_append.1 hy with hy | hy
   ·exact hz y hy
   ·simp at hy
    subst hy
    exact h0
  ·simp only [if_neg h0]
   exact Ev.now _
theorem chk_ev (x : S29) (hf : FitE x) : Ev (fun k => entry_Check.f k x.f0 x.f1 x.f2 x.f3 x.f4 x.f5 x.f6 x.f7 x.f8) (chkE x) := by
 unfold entry_Check.f chkE
 refine Ev.bind (head_ev x) ?_
 by_cases h : headE x = 0
 ·simp only [if_pos h]
  exact chk_l0 x hf (head_len h).2.1 _ 0 rfl (Nat.zero_le _) (fun y hy => by simp at hy)
 ·simp only [if_neg h]
  exact Ev.now _
end Go.Proofs.YtppcjoaghlecmaaDoor.P
namespace Go.Proofs.YtppcjoaghlecmaaDoor.P
open Go.RowKit Go.Proofs.YtppcjoaghlecmaaDoorW.PrintWords Go.Proofs.YtppcjoaghlecmaaDoorW.PrintLast Go.Proofs.YtppcjoaghlecmaaDoorW.PrintMore
attribute [local go_sem] max2_int min2_int max_two min_two max_three min_three max_four min_four
set_option linter.unusedVariables false
set_option linter.unusedSimpArgs false
theorem eqA40 (d : Nat) (w : World) (x0 y0 : ByteArray) (x1 y1 : ByteArray) (x2 y2 : ByteArray) (x3 y3 : ByteArray) (x4 y4 : ByteArray) :
  (Op.equalIn (d + 2) 40 (.agg #[.string x0, .string x1, .string x2, .string x3, .string x4]) (.agg #[.string y0, .string y1, .string y2, .string y3, .string y4])).run Tryd.prog w = .ok (x0.toList == y0.toList && (x1.toList == y1.toList && (x2.toList == y2.toList && (x3.toList == y3.toList && (x4.toList == y4.toList))))) w := by
 refine eqA_of Tryd.underlying40 (by kernel_rfl) ?_
 refine eqf_cons (by rfl) (by go_simp; rfl) (by go_simp; rfl) (by go_simp) ?_
 refine eqf_cons (by rfl) (by go_simp; rfl) (by go_simp; rfl) (by go_simp) ?_
 refine eqf_cons (by rfl) (by go_simp; rfl) (by go_simp; rfl) (by go_simp) ?_
 refine eqf_cons (by rfl) (by go_simp; rfl) (by go_simp; rfl) (by go_simp) ?_
 exact eqf_last (by rfl) (by go_simp; rfl) (by go_simp; rfl) (by go_simp)
end Go.Proofs.YtppcjoaghlecmaaDoor.P
namespace Go.Proofs.YtppcjoaghlecmaaDoor.Op
open Go.RowKit Go.Proofs.YtppcjoaghlecmaaDoorW.PrintWords Go.ChangeShapes Go.WideShapes Go.Deep
def FitL {α : Type} (f : α → Prop) (xs : List α) : Prop := xs.length ≤ reachBytes ∧ ∀ x ∈ xs, f x
def Opn (P : Program) (t : TypeId) {α : Type} (k : Kd α) (fit : α → Prop) : Prop :=
 ∀ {H : Type} {enc : TypeId × Value → H} {w : World} {fuel : Nat} {cs : List Value} {x : DataW H × List MemPlace}, DataW.trod enc P w 0 (fun _ => true) true fuel t cs = some x → (∀ n ∈ x.1.weights P t, n ≤ reachBytes) → ∃ y, k.K w y cs ∧ fit y
section
variable {P : Program}
theorem all_w {H : Type} {e : TypeId} {n : Nat} {d : DataW H} : ∀ {l : List (DataW H)}, d ∈ l → n ∈ d.weights P e → n ∈ DataW.weightsAll P e l
 | [], h, _ => by cases h
 | c :: r, h, hn => by
  simp only [DataW.weightsAll, List.mem_append]
  rcases List.mem_cons.1 h with rfl | h
  ·exact .inl hn
  ·exact .inr (all_w h hn)
theorem each_w {H : Type} {n : Nat} {d : DataW H} {t : TypeId} : ∀ {ts : List TypeId} {ds : List (DataW H)} {i : Nat}, ts[i]? = some t → ds[i]? = some d → n ∈ d.weights P t → n ∈ DataW.weightsEach P ts ds
 | [], _, i, h, _, _ => by simp at h
 | _ :: _, [], i, _, h, _ => by simp at h
 | t' :: ts, d' :: ds, 0, h1, h2, hn => by
  obtain rfl : t' = t := by simpa using h1
  obtain rfl : d' = d := by simpa using h2
  simp only [DataW.weightsEach, List.mem_append]
  exact .inl hn
 | t' :: ts, d' :: ds, i + 1, h1, h2, hn => by
  simp only [DataW.weightsEach, List.mem_append]
  exact .inr (each_w (i := i) (by simpa using h1) (by simpa using h2) hn)
theorem part_w {H : Type} {t : TypeId} {fs : Array Field} {xs : List (DataW H × List MemPlace)} (ht : P.underlying t = some (.struct fs)) (hw : ∀ n ∈ (DataW.agg (xs.map (·.1))).weights P t, n ≤ reachBytes) {i : Nat} {f : Field} {y : DataW H × List MemPlace} (hf : fs[i]? = some f) (hy : xs[i]? = some y) : ∀ n ∈ y.1.weights P f.type, n ≤ reachBytes := by
 intro n hn
 refine hw n ?_
 simp only [DataW.weights, ht]
 refine each_w (i := i) (t := f.type) (d := y.1) ?_ ?_ hn
 ·rw [List.getElem?_map, Array.getElem?_toList, hf]; rfl
 ·rw [List.getElem?_map, hy]; rfl
theorem arg_w {H : Type} {ts : List TypeId} {ds : List (DataW H)} (h : (DataW.weightsEach P ts ds).all (· ≤ reachBytes) = true) (i : Nat) {t : TypeId} {d : DataW H} (h1 : ts[i]? = some t) (h2 : ds[i]? = some d) : ∀ n ∈ d.weights P t, n ≤ reachBytes := fun n hn => by
 exact of_decide_eq_true (List.all_eq_true.1 h n (each_w h1 h2 hn))
theorem opn_int {t : TypeId} {k : IntKind} (ht : P.underlying t = some (.int k)) : Opn P t (Kd.int k) (fun n => (Lit.int k n).wf = true) := by
 intro H enc w fuel cs x h hw
 obtain ⟨n, rfl, _, hn⟩ := DataW.trod_int ht h
 exact ⟨n, rfl, hn⟩
theorem opn_string {t : TypeId} (ht : P.underlying t = some .string) : Opn P t Kd.string (fun s => s.size ≤ reachBytes) := by
 intro H enc w fuel cs x h hw
 obtain ⟨s, rfl, hx, hs⟩ := DataW.trod_string ht h
 subst hx
 refine ⟨s, rfl, ?_⟩
 have := hw s.data.toList.length (by rw [DataW.weights]; exact List.mem_singleton_self _)
 rw [Array.length_toList] at this
 exact this
theorem opn_slice {t e : TypeId} {α : Type} {d : Kd α} {f : α → Prop} (ht : P.underlying t = some (.slice e)) (hC : P.cellsOf e = d.sz) (hbo : Nat.blt 0 (P.bytesOf e) = true) (he : Opn P e d f) : Opn P t (Kd.slice e d) (FitL f) := by
 intro H enc w fuel cs x h hw
 rcases open_slice ht h with ⟨rfl, _⟩ | ⟨a, len, cap, m, n, D, Pl, rfl, hb, hl, hm, hmm, hx, hi⟩
 ·exact ⟨[], ⟨none, 0, rfl, Nat.le_refl _, ⟨rfl, by simp, fun h => by simp at h⟩⟩, by simp, fun x hx => by simp at hx⟩
 ·have hmc : m = cap := by rw [hmm]; simp
  subst hx
  have hmem : ∀ k, k < len → ∀ n ∈ (D k).weights P e, n ≤ reachBytes := fun k hk n hn => by
   refine hw n ?_
   simp only [DataW.weights, ht]
   refine List.mem_cons_of_mem _ (List.mem_append_left _ (all_w (d := D k) (List.mem_map.2 ⟨k, List.mem_range.2 hk, rfl⟩) hn))
  have hlr : len ≤ reachBytes := by
   have h1 := hw _ (by simp only [DataW.weights, ht]; exact List.mem_cons_self ..)
   simp only [List.length_map, List.length_range] at h1
   have h2 : 0 < P.bytesOf e := by simpa using hbo
   have h3 : (len + (m - len)) * 1 ≤ (len + (m - len)) * P.bytesOf e := Nat.mul_le_mul_left _ h2
   omega
  have build : ∀ k, k ≤ len → ∃ ys : List α, ys.length = k ∧ (∀ y ∈ ys, f y) ∧ ∀ i y, ys[i]? = some y → ∃ c, c.length = d.sz ∧ d.K w y c ∧ ∀ j u, c[j]? = some u → w.cell? (a.add (i * d.sz + j)) = some u := by
   intro k
   induction k with
   | zero => exact fun _ => ⟨[], rfl, fun y hy => by simp at hy, fun i y hy => by simp at hy⟩
   | succ k ih =>
    intro hk
    obtain ⟨ys, hyl, hyf, hyc⟩ := ih (by omega)
    obtain ⟨cs', hc, ht'⟩ := hi k (by omega)
    obtain ⟨y, K, fy⟩ := he ht' (hmem k (by omega))
    rw [hC] at hc
    obtain ⟨_, hcl, hat⟩ := World.cells?_some hc
    refine ⟨ys ++ [y], by simp [hyl], fun z hz => ?_, fun i z hz => ?_⟩
    ·rcases List.mem_append.1 hz with hz | hz
     ·exact hyf z hz
     ·rw [List.mem_singleton.1 hz]; exact fy
    ·rcases Nat.lt_or_ge i ys.length with hlt | hge
     ·rw [List.getElem?_append_left hlt] at hz
      exact hyc i z hz
     ·have hil : i = ys.length := by
       have := (List.getElem?_eq_some_iff.1 hz).1
       simp at this; omega
      subst hil
      obtain rfl : y = z := by simpa using hz
      refine ⟨cs', hcl, K, fun j u hu => ?_⟩
      have hj : j < d.sz := by have := (List.getElem?_eq_some_iff.1 hu).1; omega
      rw [← Go.Deep.add_add, hyl, hat j hj, hu]
  obtain ⟨ys, hyl, hyf, hyc⟩ := build len (Nat.le_refl _)
  have hml : maxLen ≤ 9223372036854775807 := by unfold maxLen; omega
  exact ⟨ys, ⟨some a, cap, by rw [hyl], by omega, by rw [hyl]; exact ⟨hyl, by omega, fun _ => ⟨a, rfl, hyc⟩⟩⟩, by omega, hyf⟩
theorem Opn.last {α : Type} {k : Kd α} {w : World} {y : α} {cs : List Value} {o s : Nat} (h : k.K w y ((cs.drop o).take s)) (hl : cs.length ≤ o + s) : k.K w y (cs.drop o) := by
 rwa [List.take_of_length_le (by simp; omega)] at h
theorem Opn.cons {α β : Type} {a : Kd α} {b : Kd β} {w : World} {x : α} {y : β} {cs : List Value} {o s : Nat} (h : a.K w x ((cs.drop o).take s)) (k : b.K w y (cs.drop (o + s))) : (Kd.pair a b).K w (x, y) (cs.drop o) :=
 ⟨_, _, (by rw [← List.drop_drop]; exact (List.take_append_drop s (cs.drop o)).symm), h, k⟩
theorem Opn.zero {α : Type} {k : Kd α} {w : World} {y : α} {cs : List Value} (h : k.K w y (cs.drop 0)) : k.K w y cs := h
theorem opened_slice {H : Type} {enc : TypeId × Value → H} {w : World} {t e : TypeId} {α : Type} {d : Kd α} {f : α → Prop} {A : Option Addr} {len cap : Nat} {dd : DataW H} {ps : List MemPlace} (ho : Opn P t (Kd.slice e d) (FitL f))
  (h : DataW.Trod enc P w 0 (fun _ => true) true t (.slice A len cap) dd ps) (hw : ∀ n ∈ dd.weights P t, n ≤ reachBytes) : ∃ l : List α, l.length = len ∧ l.length ≤ cap ∧ d.C w A l.length l ∧ FitL f l := by
 obtain ⟨fuel, hf⟩ := h
 obtain ⟨y, ⟨A', c, e1, hl, hC⟩, fy⟩ := ho hf hw
 have e2 : Value.slice A len cap = Value.slice A' y.length c := by simpa [Value.cells] using e1
 injection e2 with e3 e4 e5
 subst e3 e4 e5
 exact ⟨y, rfl, hl, hC, fy⟩
theorem opened_struct {H : Type} {enc : TypeId × Value → H} {w : World} {t : TypeId} {α : Type} {d : Kd α} {f : α → Prop} {cs : Array Value} {dd : DataW H} {ps : List MemPlace} (ho : Opn P t d f)
  (h : DataW.Trod enc P w 0 (fun _ => true) true t (.agg cs) dd ps) (hw : ∀ n ∈ dd.weights P t, n ≤ reachBytes) : ∃ y : α, d.K w y cs.toList ∧ f y := by
 obtain ⟨fuel, hf⟩ := h
 exact ho hf hw
end
end Go.Proofs.YtppcjoaghlecmaaDoor.Op
namespace Go.Proofs.YtppcjoaghlecmaaDoor.P
open Go.RowKit Go.Proofs.YtppcjoaghlecmaaDoorW.PrintWords Go.Proofs.YtppcjoaghlecmaaDoorW.PrintLast
open Go.Proofs.YtppcjoaghlecmaaDoor.Op
set_option linter.unusedVariables false
def fit213 (x : S213) : Prop := (fun s => s.size ≤ reachBytes) x.f0 ∧ (fun s => s.size ≤ reachBytes) x.f1
theorem opn213 : Opn Tryd.prog 213 k213 fit213 := by
 intro H enc w fuel cs x h hw
 obtain ⟨xs, n, _, hxe, hlen, hxl, hg⟩ := DataW.trod_struct Tryd.underlying213 h
 subst hxe
 have hlen : cs.length = 2 := hlen.trans (by kernel_rfl)
 have g0 := (hg 0 _ rfl).trans (List.getElem?_eq_getElem (show 0 < xs.length by rw [hxl]; decide))
 change DataW.trod _ _ _ _ _ _ _ 9 (List.take (Tryd.prog.cellsOf 9) (List.drop 0 cs)) = _ at g0
 rw [show Tryd.prog.cellsOf 9 = 1 by kernel_rfl] at g0
 obtain ⟨y0, K0, f0⟩ := (opn_string Tryd.underlying9) g0 (part_w Tryd.underlying213 hw (i := 0) rfl (List.getElem?_eq_getElem (show 0 < xs.length by rw [hxl]; decide)))
 have g1 := (hg 1 _ rfl).trans (List.getElem?_eq_getElem (show 1 < xs.length by rw [hxl]; decide))
 change DataW.trod _ _ _ _ _ _ _ 9 (List.take (Tryd.prog.cellsOf 9) (List.drop 1 cs)) = _ at g1
 rw [show Tryd.prog.cellsOf 9 = 1 by kernel_rfl] at g1
 obtain ⟨y1, K1, f1⟩ := (opn_string Tryd.underlying9) g1 (part_w Tryd.underlying213 hw (i := 1) rfl (List.getElem?_eq_getElem (show 1 < xs.length by rw [hxl]; decide)))
 exact ⟨⟨y0, y1⟩, (show (Kd.pair Kd.string Kd.string).K w (y0, y1) cs from Opn.zero (Opn.cons K0 (Opn.last K1 (by omega)))), ⟨f0, f1⟩⟩
def fit109 (x : S109) : Prop := (fun s => s.size ≤ reachBytes) x.f0 ∧ (fun s => s.size ≤ reachBytes) x.f1 ∧ (fun n => (Lit.int .i64 n).wf = true) x.f2 ∧ (fun n => (Lit.int .i64 n).wf = true) x.f3 ∧ (fun s => s.size ≤ reachBytes) x.f4 ∧ (fun s => s.size ≤ reachBytes) x.f5 ∧ (FitL fit213) x.f6
theorem opn109 : Opn Tryd.prog 109 k109 fit109 := by
 intro H enc w fuel cs x h hw
 obtain ⟨xs, n, _, hxe, hlen, hxl, hg⟩ := DataW.trod_struct Tryd.underlying109 h
 subst hxe
 have hlen : cs.length = 7 := hlen.trans (by kernel_rfl)
 have g0 := (hg 0 _ rfl).trans (List.getElem?_eq_getElem (show 0 < xs.length by rw [hxl]; decide))
 change DataW.trod _ _ _ _ _ _ _ 9 (List.take (Tryd.prog.cellsOf 9) (List.drop 0 cs)) = _ at g0
 rw [show Tryd.prog.cellsOf 9 = 1 by kernel_rfl] at g0
 obtain ⟨y0, K0, f0⟩ := (opn_string Tryd.underlying9) g0 (part_w Tryd.underlying109 hw (i := 0) rfl (List.getElem?_eq_getElem (show 0 < xs.length by rw [hxl]; decide)))
 have g1 := (hg 1 _ rfl).trans (List.getElem?_eq_getElem (show 1 < xs.length by rw [hxl]; decide))
 change DataW.trod _ _ _ _ _ _ _ 9 (List.take (Tryd.prog.cellsOf 9) (List.drop 1 cs)) = _ at g1
 rw [show Tryd.prog.cellsOf 9 = 1 by kernel_rfl] at g1
 obtain ⟨y1, K1, f1⟩ := (opn_string Tryd.underlying9) g1 (part_w Tryd.underlying109 hw (i := 1) rfl (List.getElem?_eq_getElem (show 1 < xs.length by rw [hxl]; decide)))
 have g2 := (hg 2 _ rfl).trans (List.getElem?_eq_getElem (show 2 < xs.length by rw [hxl]; decide))
 change DataW.trod _ _ _ _ _ _ _ 3 (List.take (Tryd.prog.cellsOf 3) (List.drop 2 cs)) = _ at g2
 rw [show Tryd.prog.cellsOf 3 = 1 by kernel_rfl] at g2
 obtain ⟨y2, K2, f2⟩ := (opn_int Tryd.underlying3) g2 (part_w Tryd.underlying109 hw (i := 2) rfl (List.getElem?_eq_getElem (show 2 < xs.length by rw [hxl]; decide)))
 have g3 := (hg 3 _ rfl).trans (List.getElem?_eq_getElem (show 3 < xs.length by rw [hxl]; decide))
 change DataW.trod _ _ _ _ _ _ _ 3 (List.take (Tryd.prog.cellsOf 3) (List.drop 3 cs)) = _ at g3
 rw [show Tryd.prog.cellsOf 3 = 1 by kernel_rfl] at g3
 obtain ⟨y3, K3, f3⟩ := (opn_int Tryd.underlying3) g3 (part_w Tryd.underlying109 hw (i := 3) rfl (List.getElem?_eq_getElem (show 3 < xs.length by rw [hxl]; decide)))
 have g4 := (hg 4 _ rfl).trans (List.getElem?_eq_getElem (show 4 < xs.length by rw [hxl]; decide))
 change DataW.trod _ _ _ _ _ _ _ 9 (List.take (Tryd.prog.cellsOf 9) (List.drop 4 cs)) = _ at g4
 rw [show Tryd.prog.cellsOf 9 = 1 by kernel_rfl] at g4
 obtain ⟨y4, K4, f4⟩ := (opn_string Tryd.underlying9) g4 (part_w Tryd.underlying109 hw (i := 4) rfl (List.getElem?_eq_getElem (show 4 < xs.length by rw [hxl]; decide)))
 have g5 := (hg 5 _ rfl).trans (List.getElem?_eq_getElem (show 5 < xs.length by rw [hxl]; decide))
 change DataW.trod _ _ _ _ _ _ _ 9 (List.take (Tryd.prog.cellsOf 9) (List.drop 5 cs)) = _ at g5
 rw [show Tryd.prog.cellsOf 9 = 1 by kernel_rfl] at g5
 obtain ⟨y5, K5, f5⟩ := (opn_string Tryd.underlying9) g5 (part_w Tryd.underlying109 hw (i := 5) rfl (List.getElem?_eq_getElem (show 5 < xs.length by rw [hxl]; decide)))
 have g6 := (hg 6 _ rfl).trans (List.getElem?_eq_getElem (show 6 < xs.length by rw [hxl]; decide))
 change DataW.trod _ _ _ _ _ _ _ 97 (List.take (Tryd.prog.cellsOf 97) (List.drop 6 cs)) = _ at g6
 rw [show Tryd.prog.cellsOf 97 = 1 by kernel_rfl] at g6
 obtain ⟨y6, K6, f6⟩ := (opn_slice Tryd.underlying97 (by kernel_rfl) (by kernel_rfl) opn213) g6 (part_w Tryd.underlying109 hw (i := 6) rfl (List.getElem?_eq_getElem (show 6 < xs.length by rw [hxl]; decide)))
 exact ⟨⟨y0, y1, y2, y3, y4, y5, y6⟩, (show (Kd.pair Kd.string (Kd.pair Kd.string (Kd.pair (Kd.int .i64) (Kd.pair (Kd.int .i64) (Kd.pair Kd.string (Kd.pair Kd.string (Kd.slice 213 k213))))))).K w (y0, y1, y2, y3, y4, y5, y6) cs from Opn.zero (Opn.cons K0 (Opn.cons K1 (Opn.cons K2 (Opn.cons K3 (Opn.cons K4 (Opn.cons K5 (Opn.last K6 (by omega))))))))), ⟨f0, f1, f2, f3, f4, f5, f6⟩⟩
def fit29 (x : S29) : Prop := (fun n => (Lit.int .i64 n).wf = true) x.f0 ∧ (fun s => s.size ≤ reachBytes) x.f1 ∧ (fun n => (Lit.int .i64 n).wf = true) x.f2 ∧ (fun n => (Lit.int .i64 n).wf = true) x.f3 ∧ (fun n => (Lit.int .i64 n).wf = true) x.f4 ∧ (fun s => s.size ≤ reachBytes) x.f5 ∧ (fun s => s.size ≤ reachBytes) x.f6 ∧ (fun n => (Lit.int .i64 n).wf = true) x.f7 ∧ (FitL fit109) x.f8
theorem opn29 : Opn Tryd.prog 29 k29 fit29 := by
 intro H enc w fuel cs x h hw
 obtain ⟨xs, n, _, hxe, hlen, hxl, hg⟩ := DataW.trod_struct Tryd.underlying29 h
 subst hxe
 have hlen : cs.length = 9 := hlen.trans (by kernel_rfl)
 have g0 := (hg 0 _ rfl).trans (List.getElem?_eq_getElem (show 0 < xs.length by rw [hxl]; decide))
 change DataW.trod _ _ _ _ _ _ _ 3 (List.take (Tryd.prog.cellsOf 3) (List.drop 0 cs)) = _ at g0
 rw [show Tryd.prog.cellsOf 3 = 1 by kernel_rfl] at g0
 obtain ⟨y0, K0, f0⟩ := (opn_int Tryd.underlying3) g0 (part_w Tryd.underlying29 hw (i := 0) rfl (List.getElem?_eq_getElem (show 0 < xs.length by rw [hxl]; decide)))
 have g1 := (hg 1 _ rfl).trans (List.getElem?_eq_getElem (show 1 < xs.length by rw [hxl]; decide))
 change DataW.trod _ _ _ _ _ _ _ 9 (List.take (Tryd.prog.cellsOf 9) (List.drop 1 cs)) = _ at g1
 rw [show Tryd.prog.cellsOf 9 = 1 by kernel_rfl] at g1
 obtain ⟨y1, K1, f1⟩ := (opn_string Tryd.underlying9) g1 (part_w Tryd.underlying29 hw (i := 1) rfl (List.getElem?_eq_getElem (show 1 < xs.length by rw [hxl]; decide)))
 have g2 := (hg 2 _ rfl).trans (List.getElem?_eq_getElem (show 2 < xs.length by rw [hxl]; decide))
 change DataW.trod _ _ _ _ _ _ _ 3 (List.take (Tryd.prog.cellsOf 3) (List.drop 2 cs)) = _ at g2
 rw [show Tryd.prog.cellsOf 3 = 1 by kernel_rfl] at g2
 obtain ⟨y2, K2, f2⟩ := (opn_int Tryd.underlying3) g2 (part_w Tryd.underlying29 hw (i := 2) rfl (List.getElem?_eq_getElem (show 2 < xs.length by rw [hxl]; decide)))
 have g3 := (hg 3 _ rfl).trans (List.getElem?_eq_getElem (show 3 < xs.length by rw [hxl]; decide))
 change DataW.trod _ _ _ _ _ _ _ 3 (List.take (Tryd.prog.cellsOf 3) (List.drop 3 cs)) = _ at g3
 rw [show Tryd.prog.cellsOf 3 = 1 by kernel_rfl] at g3
 obtain ⟨y3, K3, f3⟩ := (opn_int Tryd.underlying3) g3 (part_w Tryd.underlying29 hw (i := 3) rfl (List.getElem?_eq_getElem (show 3 < xs.length by rw [hxl]; decide)))
 have g4 := (hg 4 _ rfl).trans (List.getElem?_eq_getElem (show 4 < xs.length by rw [hxl]; decide))
 change DataW.trod _ _ _ _ _ _ _ 3 (List.take (Tryd.prog.cellsOf 3) (List.drop 4 cs)) = _ at g4
 rw [show Tryd.prog.cellsOf 3 = 1 by kernel_rfl] at g4
 obtain ⟨y4, K4, f4⟩ := (opn_int Tryd.underlying3) g4 (part_w Tryd.underlying29 hw (i := 4) rfl (List.getElem?_eq_getElem (show 4 < xs.length by rw [hxl]; decide)))
 have g5 := (hg 5 _ rfl).trans (List.getElem?_eq_getElem (show 5 < xs.length by rw [hxl]; decide))
 change DataW.trod _ _ _ _ _ _ _ 9 (List.take (Tryd.prog.cellsOf 9) (List.drop 5 cs)) = _ at g5
 rw [show Tryd.prog.cellsOf 9 = 1 by kernel_rfl] at g5
 obtain ⟨y5, K5, f5⟩ := (opn_string Tryd.underlying9) g5 (part_w Tryd.underlying29 hw (i := 5) rfl (List.getElem?_eq_getElem (show 5 < xs.length by rw [hxl]; decide)))
 have g6 := (hg 6 _ rfl).trans (List.getElem?_eq_getElem (show 6 < xs.length by rw [hxl]; decide))
 change DataW.trod _ _ _ _ _ _ _ 9 (List.take (Tryd.prog.cellsOf 9) (List.drop 6 cs)) = _ at g6
 rw [show Tryd.prog.cellsOf 9 = 1 by kernel_rfl] at g6
 obtain ⟨y6, K6, f6⟩ := (opn_string Tryd.underlying9) g6 (part_w Tryd.underlying29 hw (i := 6) rfl (List.getElem?_eq_getElem (show 6 < xs.length by rw [hxl]; decide)))
 have g7 := (hg 7 _ rfl).trans (List.getElem?_eq_getElem (show 7 < xs.length by rw [hxl]; decide))
 change DataW.trod _ _ _ _ _ _ _ 3 (List.take (Tryd.prog.cellsOf 3) (List.drop 7 cs)) = _ at g7
 rw [show Tryd.prog.cellsOf 3 = 1 by kernel_rfl] at g7
 obtain ⟨y7, K7, f7⟩ := (opn_int Tryd.underlying3) g7 (part_w Tryd.underlying29 hw (i := 7) rfl (List.getElem?_eq_getElem (show 7 < xs.length by rw [hxl]; decide)))
 have g8 := (hg 8 _ rfl).trans (List.getElem?_eq_getElem (show 8 < xs.length by rw [hxl]; decide))
 change DataW.trod _ _ _ _ _ _ _ 27 (List.take (Tryd.prog.cellsOf 27) (List.drop 8 cs)) = _ at g8
 rw [show Tryd.prog.cellsOf 27 = 1 by kernel_rfl] at g8
 obtain ⟨y8, K8, f8⟩ := (opn_slice Tryd.underlying27 (by kernel_rfl) (by kernel_rfl) opn109) g8 (part_w Tryd.underlying29 hw (i := 8) rfl (List.getElem?_eq_getElem (show 8 < xs.length by rw [hxl]; decide)))
 exact ⟨⟨y0, y1, y2, y3, y4, y5, y6, y7, y8⟩, (show (Kd.pair (Kd.int .i64) (Kd.pair Kd.string (Kd.pair (Kd.int .i64) (Kd.pair (Kd.int .i64) (Kd.pair (Kd.int .i64) (Kd.pair Kd.string (Kd.pair Kd.string (Kd.pair (Kd.int .i64) (Kd.slice 109 k109))))))))).K w (y0, y1, y2, y3, y4, y5, y6, y7, y8) cs from Opn.zero (Opn.cons K0 (Opn.cons K1 (Opn.cons K2 (Opn.cons K3 (Opn.cons K4 (Opn.cons K5 (Opn.cons K6 (Opn.cons K7 (Opn.last K8 (by omega))))))))))), ⟨f0, f1, f2, f3, f4, f5, f6, f7, f8⟩⟩
def fit24 (x : S24) : Prop := (fun s => s.size ≤ reachBytes) x.f0 ∧ (fun n => (Lit.int .i64 n).wf = true) x.f1 ∧ (fun n => (Lit.int .i64 n).wf = true) x.f2 ∧ (fun n => (Lit.int .i64 n).wf = true) x.f3
theorem opn24 : Opn Tryd.prog 24 k24 fit24 := by
 intro H enc w fuel cs x h hw
 obtain ⟨xs, n, _, hxe, hlen, hxl, hg⟩ := DataW.trod_struct Tryd.underlying24 h
 subst hxe
 have hlen : cs.length = 4 := hlen.trans (by kernel_rfl)
 have g0 := (hg 0 _ rfl).trans (List.getElem?_eq_getElem (show 0 < xs.length by rw [hxl]; decide))
 change DataW.trod _ _ _ _ _ _ _ 9 (List.take (Tryd.prog.cellsOf 9) (List.drop 0 cs)) = _ at g0
 rw [show Tryd.prog.cellsOf 9 = 1 by kernel_rfl] at g0
 obtain ⟨y0, K0, f0⟩ := (opn_string Tryd.underlying9) g0 (part_w Tryd.underlying24 hw (i := 0) rfl (List.getElem?_eq_getElem (show 0 < xs.length by rw [hxl]; decide)))
 have g1 := (hg 1 _ rfl).trans (List.getElem?_eq_getElem (show 1 < xs.length by rw [hxl]; decide))
 change DataW.trod _ _ _ _ _ _ _ 3 (List.take (Tryd.prog.cellsOf 3) (List.drop 1 cs)) = _ at g1
 rw [show Tryd.prog.cellsOf 3 = 1 by kernel_rfl] at g1
 obtain ⟨y1, K1, f1⟩ := (opn_int Tryd.underlying3) g1 (part_w Tryd.underlying24 hw (i := 1) rfl (List.getElem?_eq_getElem (show 1 < xs.length by rw [hxl]; decide)))
 have g2 := (hg 2 _ rfl).trans (List.getElem?_eq_getElem (show 2 < xs.length by rw [hxl]; decide))
 change DataW.trod _ _ _ _ _ _ _ 3 (List.take (Tryd.prog.cellsOf 3) (List.drop 2 cs)) = _ at g2
 rw [show Tryd.prog.cellsOf 3 = 1 by kernel_rfl] at g2
 obtain ⟨y2, K2, f2⟩ := (opn_int Tryd.underlying3) g2 (part_w Tryd.underlying24 hw (i := 2) rfl (List.getElem?_eq_getElem (show 2 < xs.length by rw [hxl]; decide)))
 have g3 := (hg 3 _ rfl).trans (List.getElem?_eq_getElem (show 3 < xs.length by rw [hxl]; decide))
 change DataW.trod _ _ _ _ _ _ _ 3 (List.take (Tryd.prog.cellsOf 3) (List.drop 3 cs)) = _ at g3
 rw [show Tryd.prog.cellsOf 3 = 1 by kernel_rfl] at g3
 obtain ⟨y3, K3, f3⟩ := (opn_int Tryd.underlying3) g3 (part_w Tryd.underlying24 hw (i := 3) rfl (List.getElem?_eq_getElem (show 3 < xs.length by rw [hxl]; decide)))
 exact ⟨⟨y0, y1, y2, y3⟩, (show (Kd.pair Kd.string (Kd.pair (Kd.int .i64) (Kd.pair (Kd.int .i64) (Kd.int .i64)))).K w (y0, y1, y2, y3) cs from Opn.zero (Opn.cons K0 (Opn.cons K1 (Opn.cons K2 (Opn.last K3 (by omega)))))), ⟨f0, f1, f2, f3⟩⟩
def fit40 (x : S40) : Prop := (fun s => s.size ≤ reachBytes) x.f0 ∧ (fun s => s.size ≤ reachBytes) x.f1 ∧ (fun s => s.size ≤ reachBytes) x.f2 ∧ (fun s => s.size ≤ reachBytes) x.f3 ∧ (fun s => s.size ≤ reachBytes) x.f4
theorem opn40 : Opn Tryd.prog 40 k40 fit40 := by
 intro H enc w fuel cs x h hw
 obtain ⟨xs, n, _, hxe, hlen, hxl, hg⟩ := DataW.trod_struct Tryd.underlying40 h
 subst hxe
 have hlen : cs.length = 5 := hlen.trans (by kernel_rfl)
 have g0 := (hg 0 _ rfl).trans (List.getElem?_eq_getElem (show 0 < xs.length by rw [hxl]; decide))
 change DataW.trod _ _ _ _ _ _ _ 9 (List.take (Tryd.prog.cellsOf 9) (List.drop 0 cs)) = _ at g0
 rw [show Tryd.prog.cellsOf 9 = 1 by kernel_rfl] at g0
 obtain ⟨y0, K0, f0⟩ := (opn_string Tryd.underlying9) g0 (part_w Tryd.underlying40 hw (i := 0) rfl (List.getElem?_eq_getElem (show 0 < xs.length by rw [hxl]; decide)))
 have g1 := (hg 1 _ rfl).trans (List.getElem?_eq_getElem (show 1 < xs.length by rw [hxl]; decide))
 change DataW.trod _ _ _ _ _ _ _ 9 (List.take (Tryd.prog.cellsOf 9) (List.drop 1 cs)) = _ at g1
 rw [show Tryd.prog.cellsOf 9 = 1 by kernel_rfl] at g1
 obtain ⟨y1, K1, f1⟩ := (opn_string Tryd.underlying9) g1 (part_w Tryd.underlying40 hw (i := 1) rfl (List.getElem?_eq_getElem (show 1 < xs.length by rw [hxl]; decide)))
 have g2 := (hg 2 _ rfl).trans (List.getElem?_eq_getElem (show 2 < xs.length by rw [hxl]; decide))
 change DataW.trod _ _ _ _ _ _ _ 9 (List.take (Tryd.prog.cellsOf 9) (List.drop 2 cs)) = _ at g2
 rw [show Tryd.prog.cellsOf 9 = 1 by kernel_rfl] at g2
 obtain ⟨y2, K2, f2⟩ := (opn_string Tryd.underlying9) g2 (part_w Tryd.underlying40 hw (i := 2) rfl (List.getElem?_eq_getElem (show 2 < xs.length by rw [hxl]; decide)))
 have g3 := (hg 3 _ rfl).trans (List.getElem?_eq_getElem (show 3 < xs.length by rw [hxl]; decide))
 change DataW.trod _ _ _ _ _ _ _ 9 (List.take (Tryd.prog.cellsOf 9) (List.drop 3 cs)) = _ at g3
 rw [show Tryd.prog.cellsOf 9 = 1 by kernel_rfl] at g3
 obtain ⟨y3, K3, f3⟩ := (opn_string Tryd.underlying9) g3 (part_w Tryd.underlying40 hw (i := 3) rfl (List.getElem?_eq_getElem (show 3 < xs.length by rw [hxl]; decide)))
 have g4 := (hg 4 _ rfl).trans (List.getElem?_eq_getElem (show 4 < xs.length by rw [hxl]; decide))
 change DataW.trod _ _ _ _ _ _ _ 9 (List.take (Tryd.prog.cellsOf 9) (List.drop 4 cs)) = _ at g4
 rw [show Tryd.prog.cellsOf 9 = 1 by kernel_rfl] at g4
 obtain ⟨y4, K4, f4⟩ := (opn_string Tryd.underlying9) g4 (part_w Tryd.underlying40 hw (i := 4) rfl (List.getElem?_eq_getElem (show 4 < xs.length by rw [hxl]; decide)))
 exact ⟨⟨y0, y1, y2, y3, y4⟩, (show (Kd.pair Kd.string (Kd.pair Kd.string (Kd.pair Kd.string (Kd.pair Kd.string Kd.string)))).K w (y0, y1, y2, y3, y4) cs from Opn.zero (Opn.cons K0 (Opn.cons K1 (Opn.cons K2 (Opn.cons K3 (Opn.last K4 (by omega))))))), ⟨f0, f1, f2, f3, f4⟩⟩
structure S69 where
 f0 : Int
 f1 : List (S94)
 f2 : List (S106)
structure S79 where
 f0 : ByteArray
 f1 : ByteArray
 f2 : ByteArray
 f3 : Int
 f4 : Int
end Go.Proofs.YtppcjoaghlecmaaDoor.P
namespace Go.Proofs.YtppcjoaghlecmaaDoor.P
open Go.RowKit Go.Sort Go.Proofs.YtppcjoaghlecmaaDoorW.PrintWords Go.Proofs.YtppcjoaghlecmaaDoorW.PrintLast Go.Proofs.YtppcjoaghlecmaaDoor.Op
set_option linter.unusedVariables false
set_option linter.unusedSimpArgs false
theorem w64 {n : Int} (h1 : -9223372036854775808 ≤ n) (h2 : n ≤ 9223372036854775807) : wrap64 n = n := by unfold wrap64; omega
theorem rd112_at {l : List S112} {i : Nat} (h : i < l.length) : rd_T112 l (i : Int) = l[i] := by simp [rd_T112, h]
theorem wf_range {n : Int} (h : (Lit.int .i64 n).wf = true) : i64ok n := by
 have h : (decide (IntKind.i64.min ≤ n) && decide (n ≤ IntKind.i64.max)) = true := h
 rw [Bool.and_eq_true, decide_eq_true_iff, decide_eq_true_iff] at h
 exact ⟨h.1, h.2⟩
end Go.Proofs.YtppcjoaghlecmaaDoor.P
namespace Go.Proofs.YtppcjoaghlecmaaDoor.P
open Go.RowKit Go.Proofs.YtppcjoaghlecmaaDoorW.PrintWords Go.Proofs.YtppcjoaghlecmaaDoorW.PrintLast Go.Proofs.YtppcjoaghlecmaaDoorW.PrintMore
set_option linter.unusedVariables false
set_option linter.unusedSimpArgs false
theorem sum_small : ∀ (l : List Int), (∀ x ∈ l, -1000000000000 ≤ x ∧ x ≤ 1000000000000) → -(1000000000000 * (l.length : Int)) ≤ l.sum ∧ l.sum ≤ 1000000000000 * (l.length : Int)
 | [], _ => by simp
 | x :: r, h => by
  have h1 := h x (by simp)
  have h2 := sum_small r (fun y hy => h y (by simp [hy]))
  simp only [List.sum_cons, List.length_cons]
  omega
theorem line_bnd {y : S109} (h : lineE y = 0) : (-1000000000000 ≤ y.f2 ∧ y.f2 ≤ 1000000000000) ∧ -1000000000000 ≤ y.f3 ∧ y.f3 ≤ 1000000000000 := by
 obtain ⟨_, _, _, h2, h3, _⟩ := line_ok h
 unfold ws at h2 h3
 rw [decide_eq_true_eq] at h2 h3
 omega
def keyL (e : ByteArray) (y : S109) : S40 := ⟨e, y.f0, y.f1, y.f4, (textL y.f6).1⟩
def cellL (e : ByteArray) (y : S109) : S112 := ⟨keyL e y, y.f2, y.f3⟩
def rawL (x : S29) : List S112 := x.f8.map (cellL x.f1)
theorem raw_l0 (x : S29) (hl : x.f8.length ≤ 1000000) : ∀ (n i : Nat), x.f8.length - i = n → i ≤ x.f8.length → Ev (fun k => ledger_raw.l0 k ((x.f8.take i).map (cellL x.f1)) x.f8 (x.f8.length : Int) (i : Int) x.f0 x.f1 x.f2 x.f3 x.f4 x.f5 x.f6 x.f7 x.f8) (rawL x) := by
 intro n
 induction n with
 | zero =>
  intro i hn hi
  obtain rfl : i = x.f8.length := by omega
  refine Ev.step (fun k => ledger_raw.l0.eq_2 _ _ _ _ _ _ _ _ _ _ _ _ _ k) ?_
  simp only [if_neg (show ¬ ((x.f8.length : Int) < (x.f8.length : Int)) by omega), List.take_length]
  exact Ev.now _
 | succ n ih =>
  intro i hn hi
  have hil : i < x.f8.length := by omega
  refine Ev.step (fun k => ledger_raw.l0.eq_2 _ _ _ _ _ _ _ _ _ _ _ _ _ k) ?_
  have hw : wrap64 ((i : Int) + 1) = ((i + 1 : Nat) : Int) := by rw [w64t (by omega) (by omega)]; omega
  simp only [if_pos (show ((i : Int) < (x.f8.length : Int)) by omega), if_pos (show (0 : Int) ≤ (i : Int) by omega), hw, rd109 hil]
  refine Ev.bind (Text_ev _) ?_
  have hi' := ih (i + 1) (by omega) (by omega)
  rw [List.take_add_one, List.getElem?_eq_getElem hil] at hi'
  simp only [List.map_append, Option.toList_some, List.map_cons, List.map_nil] at hi'
  simp only [List.length_map, List.length_take, if_pos (show min i x.f8.length < 1466015503701 by omega)]
  exact hi'
theorem raw_ev (x : S29) (hl : x.f8.length ≤ 1000000) : Ev (fun k => ledger_raw.f k x.f0 x.f1 x.f2 x.f3 x.f4 x.f5 x.f6 x.f7 x.f8) (rawL x) := by
 unfold ledger_raw.f
 simp only [if_pos hl]
 exact raw_l0 x hl _ 0 rfl (Nat.zero_le _)
theorem chk_two {x : S29} (h : (chkE x).2 = 0) : headE x = 0 ∧ (∀ y ∈ x.f8, lineE y = 0) ∧ balB x.f8 = true ∧ chkE x = (-1, 0) := by
 have h' := h
 unfold chkE at h'
 by_cases h0 : headE x = 0
 ·rw [if_pos h0] at h'
  cases hL : linesE 0 x.f8 with
  | some e =>
   rw [hL] at h'
   exfalso
   have aux : ∀ (l : List S109) (i : Nat) (e : Int × Int), linesE i l = some e → e.2 ≠ 0 := by
    intro l
    induction l with
    | nil => intro i e he; cases he
    | cons z r ih =>
     intro i e he
     unfold linesE at he
     split at he
     ·exact ih _ _ he
     ·rename_i hz
      cases he
      exact hz
   exact aux _ _ _ hL h'
  | none =>
   rw [hL] at h'
   by_cases hb : balB x.f8 = true
   ·refine ⟨h0, linesE_none hL, hb, ?_⟩
    unfold chkE
    rw [if_pos h0, hL]
    exact if_pos hb
   ·exfalso
    have : (if balB x.f8 = true then ((-1, 0) : Int × Int) else (-1, 15)).2 = 0 := h'
    rw [if_neg hb] at this
    exact absurd this (by decide)
 ·rw [if_neg h0] at h'
  exact absurd h' h0
end Go.Proofs.YtppcjoaghlecmaaDoor.P
namespace Go.Proofs.YtppcjoaghlecmaaDoor.P
open Go.RowKit Go.Sort Go.Proofs.YtppcjoaghlecmaaDoorW.PrintWords Go.Proofs.YtppcjoaghlecmaaDoorW.PrintLast Go.Proofs.YtppcjoaghlecmaaDoorW.PrintMore Go.Maps Go.ChangeShapes Go.WideShapes Go.WideMaps
set_option linter.unusedVariables false
set_option linter.unusedSimpArgs false
structure Pst where
 h : S29
 C : List S112
 v : Value
def hdV (x : S29) (l : Value) : Value := .agg #[.int .i64 x.f0, .string x.f1, .int .i64 x.f2, .int .i64 x.f3, .int .i64 x.f4, .string x.f5, .string x.f6, .int .i64 x.f7, l]
def pstV (x : S29) (v : Value) : Value := .agg #[.int .i64 x.f0, .string x.f1, .int .i64 x.f2, .int .i64 x.f3, .int .i64 x.f4, .string x.f5, .string x.f6, .int .i64 x.f7, .slice none 0 0, v]
def z118V : Value := pstV z29 (.slice none 0 0)
def valL (L : List Pst) (j : Int) : Value := if j < 1 then z118V else match L[(j - 1).toNat]? with | some c => pstV c.h c.v | none => z118V
theorem zero118 (w : World) : (zeroValue 118).run Tryd.prog w = .ok z118V w := by kernel_rfl
theorem intKeyed : Keyed Tryd.prog 3 := int_keyed Tryd.underlying3
theorem keyI {j : Int} (h : i64ok j) : keyOf Tryd.prog 3 (.int .i64 j) = some (.int .i64 j) := keyOf_int_mk Tryd.underlying3 (by
 have h2 : IntKind.i64.min = -9223372036854775808 := by decide
 unfold i64ok at h
 simp [Lit.wf, h2]
 omega)
theorem int_ne {a b : Int} (h : a ≠ b) : Lit.int IntKind.i64 a ≠ Lit.int IntKind.i64 b := by
 intro h'
 simp only [Lit.int.injEq] at h'
 exact h h'.2
structure Led (w : World) (base p m : Nat) (L : List Pst) : Prop where
 blk : w.heap[p]? = some (.cells #[.map (some m)] 121 (0, 0))
 map : ∃ D : DataW Value, w.ownsMap Tryd.prog 3 vR m L.length D ∧ Maps.size D = L.length ∧ (∀ j : Int, i64ok j → D.atKey (.int .i64 j) (.held z118V) = .held (valL L j)) ∧ ∀ j : Int, i64ok j → Maps.has D (.int .i64 j) = decide (1 ≤ j ∧ j ≤ L.length)
 row : ∀ c ∈ L, Kd.R k112 112 w base (fun _ => True) c.v c.C
 lowp : base ≤ p
 lowm : base ≤ m
section
variable {w w' : World} {base p m : Nat} {L : List Pst}
theorem Led.ltm (h : Led w base p m L) : m < w.heap.size := by
 obtain ⟨D, ⟨es, clock, h1, h2⟩, _⟩ := h.map
 exact (Array.getElem?_eq_some_iff.1 h1).1
theorem Led.ltp (h : Led w base p m L) : p < w.heap.size := blk_lt h.blk
theorem Led.ne (h : Led w base p m L) : p ≠ m := by
 rintro rfl
 obtain ⟨D, ⟨es, clock, h1, h2⟩, _⟩ := h.map
 rw [h.blk] at h1; cases h1
theorem Led.below (h : Led w base p m L) (hb : Below w.heap.size w w') : Led w' base p m L := by
 obtain ⟨D, ⟨es, clock, h1, h2⟩, hD⟩ := h.map
 exact ⟨(hb.block p h.ltp).trans h.blk, ⟨D, ⟨es, clock, (hb.block m h.ltm).trans h1, h2⟩, hD⟩, fun c hc => Kd.R_below (h.row c hc) hb, h.lowp, h.lowm⟩
theorem Led.len (h : Led w base p m L) (ty : TypeId) : (Builtin.len_ #[119] ty #[.map (some m)]).run Tryd.prog w = .ok (.int .i64 L.length) w := by
 obtain ⟨D, ho, hs, _⟩ := h.map
 rw [← hs]
 exact ho.len Tryd.underlying119 ty
theorem Led.look (h : Led w base p m L) {j : Int} (hj : i64ok j) : (Instr.lookup 119 (.map (some m)) (.int .i64 j) false).run Tryd.prog w = .ok (valL L j) w := by
 obtain ⟨D, ho, _, hD, _⟩ := h.map
 obtain ⟨v, ps, hrun, hv⟩ := ho.lookup intKeyed Tryd.underlying119 (zero118 w) (zd := .held z118V) (zp := []) rfl (keyI hj)
 rw [hrun]
 simp only [vR, Option.some.injEq, Prod.mk.injEq] at hv
 rw [hD j hj] at hv
 simp only [DataW.held.injEq] at hv
 rw [hv.1]
theorem valL_at {c : Pst} {i : Nat} (h : L[i]? = some c) : valL L ((i : Int) + 1) = pstV c.h c.v := by
 unfold valL
 rw [if_neg (by omega), show ((i : Int) + 1 - 1).toNat = i from by omega, h]
theorem valL_snoc {c : Pst} (j : Int) : valL (L ++ [c]) j = if j = (L.length : Int) + 1 then pstV c.h c.v else valL L j := by
 unfold valL
 by_cases h1 : j < 1
 ·rw [if_pos h1, if_pos h1, if_neg (by omega)]
 ·rw [if_neg h1, if_neg h1]
  by_cases e : j = (L.length : Int) + 1
  ·rw [if_pos e, show (j - 1).toNat = L.length from by omega]
   simp
  ·rw [if_neg e]
   by_cases h2 : (j - 1).toNat < L.length
   ·rw [List.getElem?_append_left h2]
   ·rw [List.getElem?_eq_none (l := L) (by omega), List.getElem?_eq_none (by simp; omega)]
theorem Led.put (h : Led w base p m L) {c : Pst} (hL : L.length < 1000000) (hc : Kd.R k112 112 w base (fun _ => True) c.v c.C) :
  ∃ w', (Instr.mapUpdate 119 (.map (some m)) (.int .i64 ((L.length : Int) + 1)) (pstV c.h c.v)).run Tryd.prog w = .ok () w' ∧ Led w' base p m (L ++ [c]) ∧ w.grownBy w' (some m) := by
 obtain ⟨D, ho, hs, hD, hh⟩ := h.map
 have hM := World.ownsMap.isMap ho
 have hT := World.ownsMap.tidy ho intKeyed
 have hj : i64ok ((L.length : Int) + 1) := by unfold i64ok; omega
 obtain ⟨w', hrun, ho', hg⟩ := ho.update intKeyed Tryd.underlying119 (by unfold maxLen; omega) (val := pstV c.h c.v) (d := .held (pstV c.h c.v)) (ps := []) (keyI hj) rfl
 have hblk : ∀ k, k < w.heap.size → k ≠ m → w'.heap[k]? = w.heap[k]? := fun k hk hne => hg.block k hk (fun e => hne (Option.some.inj e))
 have hrow : ∀ d : Pst, Kd.R k112 112 w base (fun _ => True) d.v d.C → Kd.R k112 112 w' base (fun _ => True) d.v d.C := fun d hd => by
  have h1 := Kd.R_mono (Kd.R_tight rfl hd) (ok' := fun k => d.v.ownBlock = some k) (fun k hk => hk.symm)
  have h2 := Kd.R_step h1 (w1 := w') (fun k hk hlt => by
   obtain ⟨cs, hcs⟩ := Kd.R_typed hd k hk
   refine hblk k hlt (fun e => ?_)
   subst e
   obtain ⟨es, cl, h1, _⟩ := ho
   rw [hcs] at h1; cases h1)
  exact Kd.R_mono h2 (fun _ _ => trivial)
 refine ⟨w', hrun, ⟨(hblk p h.ltp h.ne).trans h.blk, ⟨_, by rw [List.length_append]; exact ho', ?_, fun t ht => ?_, fun t ht => ?_⟩, fun d hd => ?_, h.lowp, h.lowm⟩, hg⟩
 ·rw [size_put hT, hh _ hj, hs]
  rw [if_neg (by simp; omega)]
  simp
 ·rw [valL_snoc]
  by_cases e : t = (L.length : Int) + 1
  ·subst e
   rw [atKey_put_same hM (intKeyed.key (keyI hj)), if_pos rfl]
  ·rw [atKey_put_other (int_ne e), if_neg e, hD t ht]
 ·by_cases e : t = (L.length : Int) + 1
  ·subst e
   rw [has_put_same hM (intKeyed.key (keyI hj))]
   simp
   omega
  ·rw [has_put_other (int_ne e), hh t ht]
   simp only [List.length_append, List.length_cons, List.length_nil]
   rw [decide_eq_decide]
   omega
 ·rcases List.mem_append.1 hd with hd | hd
  ·exact hrow d (h.row d hd)
  ·rw [List.mem_singleton] at hd
   subst hd
   exact hrow d hc
theorem Led.made (w : World) : Led ((w.alloc (.map #[] 0)).alloc (.cells #[.map (some w.heap.size)] 121 (0, 0))) w.heap.size (w.heap.size + 1) w.heap.size [] := by
 have h1 : (w.alloc (.map #[] 0)).heap.size = w.heap.size + 1 := by simp
 refine ⟨by rw [← h1]; exact blk_new _ _, ⟨.map [], ?_, rfl, (fun j hj => ?_), (fun j hj => ?_)⟩, (fun c hc => by cases hc), Nat.le_succ _, Nat.le_refl _⟩
 ·obtain ⟨es, clock, h2, h3⟩ := World.ownsMap_made w Tryd.prog 3 vR
  exact ⟨es, clock, ((below_alloc (Below.refl _ _) _).block w.heap.size (by rw [h1]; omega)).trans h2, h3⟩
 ·unfold valL
  by_cases h1 : j < 1
  ·rw [if_pos h1]; rfl
  ·rw [if_neg h1]; rfl
 ·have : (decide (1 ≤ j ∧ j ≤ (([] : List Pst).length : Int))) = false := decide_eq_false (by simp; omega)
  rw [this]; rfl
end
end Go.Proofs.YtppcjoaghlecmaaDoor.P
namespace Go.Proofs.YtppcjoaghlecmaaDoor.P
open Go.RowKit Go.Proofs.YtppcjoaghlecmaaDoorW.PrintWords Go.Proofs.YtppcjoaghlecmaaDoorW.PrintLast Go.Proofs.YtppcjoaghlecmaaDoorW.PrintMore
set_option linter.unusedVariables false
set_option linter.unusedSimpArgs false
def ahead (E : List S29) (x : S29) : Bool := match E.getLast? with | some y => decide (x.f2 < y.f2) | none => false
def postC (E : List S29) (x : S29) : Int :=
 if (chkE x).2 ≠ 0 then (chkE x).2 else if x.f0 ≠ (E.length : Int) + 1 ∨ ahead E x = true then 17 else if E.length ≥ 4000 then 9 else 0
def postE (E : List S29) (x : S29) : List S29 := if postC E x = 0 then E ++ [x] else E
def LedE (w : World) (base p m : Nat) (E : List S29) : Prop := ∃ L, Led w base p m L ∧ L.map Pst.h = E ∧ ∀ c ∈ L, c.C = rawL c.h
theorem LedE.below {w w' : World} {base p m : Nat} {E : List S29} (h : LedE w base p m E) (hb : Below w.heap.size w w') : LedE w' base p m E := by
 obtain ⟨L, h1, h2, h3⟩ := h
 exact ⟨L, h1.below hb, h2, h3⟩
theorem LedE.ltm {w : World} {base p m : Nat} {E : List S29} (h : LedE w base p m E) : m < w.heap.size := by
 obtain ⟨L, h1, _⟩ := h
 exact h1.ltm
theorem LedE.lowm {w : World} {base p m : Nat} {E : List S29} (h : LedE w base p m E) : base ≤ m := by
 obtain ⟨L, h1, _⟩ := h
 exact h1.lowm
theorem LedE.but {w w' : World} {base p m m' : Nat} {E : List S29} (h : LedE w base p m E) (hb : But (fun k => k = m') w w') (hp : p ≠ m') (hm : m ≠ m') (hty : ∃ es c, w.heap[m']? = some (.map es c)) : LedE w' base p m E := by
 obtain ⟨L, h1, h2, h3⟩ := h
 obtain ⟨D, ⟨es, clock, g1, g2⟩, hD⟩ := h1.map
 refine ⟨L, ⟨(hb.block p h1.ltp hp).trans h1.blk, ⟨D, ⟨es, clock, (hb.block m h1.ltm hm).trans g1, g2⟩, hD⟩, fun c hc => ?_, h1.lowp, h1.lowm⟩, h2, h3⟩
 have hr := h1.row c hc
 have r1 := Kd.R_mono (Kd.R_tight rfl hr) (ok' := fun k => c.v.ownBlock = some k) (fun k hk => hk.symm)
 have r2 := Kd.R_step r1 (w1 := w') (fun k hk hlt => by
  obtain ⟨cs, hcs⟩ := Kd.R_typed hr k hk
  refine hb.block k hlt (fun e => ?_)
  subst e
  obtain ⟨es', cl', h1'⟩ := hty
  rw [hcs] at h1'; cases h1')
 exact Kd.R_mono r2 (fun _ _ => trivial)
end Go.Proofs.YtppcjoaghlecmaaDoor.P
namespace Go.Proofs.YtppcjoaghlecmaaDoor.P
open Go.RowKit Go.Sort Go.Proofs.YtppcjoaghlecmaaDoorW.PrintWords Go.Proofs.YtppcjoaghlecmaaDoorW.PrintLast Go.Proofs.YtppcjoaghlecmaaDoorW.PrintMore Go.Maps Go.ChangeShapes Go.WideShapes Go.WideMaps
set_option linter.unusedVariables false
set_option linter.unusedSimpArgs false
theorem lnew_calls (w : World) : Calls Tryd.prog 22 #[] w fun e w' => ∃ p m, e = .returned (.pointer (some ⟨p, 0, none⟩)) ∧ Led w' w.heap.size p m [] ∧ Below w.heap.size w w' := by
 have hmm := @run_makeMap Tryd.prog
 go_enter Tryd.func22, Tryd.ntmps22
 go_wp2
 go_ret
 exact ⟨_, _, rfl, Led.made w, below_alloc (below_alloc (Below.refl _ _) _) _⟩
theorem llen_nil (w : World) : Calls Tryd.prog 23 #[.pointer none] w fun e w' => e = .returned (.int .i64 0) ∧ Below w.heap.size w w' := by
 go_enter Tryd.func23, Tryd.ntmps23
 go_wp2
 go_ret
 exact ⟨rfl, Below.refl _ _⟩
theorem llen_calls {w : World} {base p m : Nat} {L : List Pst} (h : Led w base p m L) : Calls Tryd.prog 23 #[.pointer (some ⟨p, 0, none⟩)] w fun e w' => e = .returned (.int .i64 L.length) ∧ Below w.heap.size w w' := by
 have hl := h.len 3
 have hc := (blk_cell h.blk 0).trans rfl
 go_enter Tryd.func23, Tryd.ntmps23
 go_wp2
 go_ret
 exact ⟨rfl, Below.refl _ _⟩
abbrev enV (x : S29) (A : Option Addr) (c : Nat) : Value := .agg #[.int .i64 x.f0, .string x.f1, .int .i64 x.f2, .int .i64 x.f3, .int .i64 x.f4, .string x.f5, .string x.f6, .int .i64 x.f7, .slice A x.f8.length c]
theorem post_nil (x : S29) (A : Option Addr) (c : Nat) (w : World) : Calls Tryd.prog 20 #[.pointer none, enV x A c] w fun e w' => e = .returned (.int .i64 1) ∧ Below w.heap.size w w' := by
 go_enter Tryd.func20, Tryd.ntmps20
 go_wp2
 go_ret
 exact ⟨rfl, below_alloc (Below.refl _ _) _⟩
set_option maxHeartbeats 4000000 in
set_option maxRecDepth 100000 in
theorem post_bad {p : Nat} (x : S29) (A : Option Addr) (c : Nat) (w : World) (hC : Kd.C k109 w A x.f8.length x.f8) (hc : x.f8.length ≤ c) (hT : Tab w) (hf : FitE x) (hne : (chkE x).2 ≠ 0) :
  Calls Tryd.prog 20 #[.pointer (some ⟨p, 0, none⟩), enV x A c] w fun e w' => e = .returned (.int .i64 (chkE x).2) ∧ Below w.heap.size w w' := by
 obtain ⟨k, hk⟩ := (chk_ev x hf).rounds
 obtain ⟨at_, er, he⟩ : ∃ a e, chkE x = (a, e) := ⟨_, _, rfl⟩
 rw [he] at hk hne
 rw [he]
 have d1 : decide (er = 0) = false := decide_eq_false hne
 have HC := Aside0.mk hC
 have HT := Aside0.mk hT
 have HK := Aside0.mk hk
 have HL := Aside0.mk hc
 have HB1 := Aside0.mk (below_alloc (Below.refl w.heap.size w) (.cells #[.int .i64 x.f0, .string x.f1, .int .i64 x.f2, .int .i64 x.f3, .int .i64 x.f4, .string x.f5, .string x.f6, .int .i64 x.f7, .slice A x.f8.length c] 29))
 clear hC hT hk he hc
 go_enter Tryd.func20, Tryd.ntmps20
 go_wp2_with (first | (go_at_call 47; refine (entry_Check.calls k x.f0 x.f1 x.f2 x.f3 x.f4 x.f5 x.f6 x.f7 A c x.f8 at_ er _ (Kd.C_below HC.out HB1.out) HL.out HK.out (HT.out.below HB1.out)).mono ?_; rintro e w2 ⟨rfl, hb⟩))
 go_ret
 exact ⟨rfl, below_then HB1.out HB1.out.size hb⟩
set_option maxHeartbeats 4000000 in
set_option maxRecDepth 100000 in
theorem post_order {base p m : Nat} {E : List S29} (x : S29) (A : Option Addr) (c : Nat) (w : World) (hL : LedE w base p m E) (hC : Kd.C k109 w A x.f8.length x.f8) (hc : x.f8.length ≤ c) (hT : Tab w) (hf : FitE x) (hchk : (chkE x).2 = 0) (hlen : E.length ≤ 100000) (ho : x.f0 ≠ (E.length : Int) + 1) :
  Calls Tryd.prog 20 #[.pointer (some ⟨p, 0, none⟩), enV x A c] w fun e w' => e = .returned (.int .i64 17) ∧ Below w.heap.size w w' := by
 obtain ⟨k, hk⟩ := (chk_ev x hf).rounds
 rw [(chk_two hchk).2.2.2] at hk
 have HC := Aside0.mk hC
 have HT := Aside0.mk hT
 have HK := Aside0.mk hk
 have HLC := Aside0.mk hc
 have HB1 := Aside0.mk (below_alloc (Below.refl w.heap.size w) (.cells #[.int .i64 x.f0, .string x.f1, .int .i64 x.f2, .int .i64 x.f3, .int .i64 x.f4, .string x.f5, .string x.f6, .int .i64 x.f7, .slice A x.f8.length c] 29))
 have HBX := Aside0.mk (blk_new w (.cells #[.int .i64 x.f0, .string x.f1, .int .i64 x.f2, .int .i64 x.f3, .int .i64 x.f4, .string x.f5, .string x.f6, .int .i64 x.f7, .slice A x.f8.length c] 29))
 obtain ⟨L, hLed, hE, hraw⟩ := hL
 have hLn : E.length = L.length := by rw [← hE, List.length_map]
 rw [hLn] at ho hlen
 have HLED := Aside0.mk (hLed.below HB1.out)
 have HHL := Aside0.mk hlen
 clear hC hT hk hc hLed hE hraw hchk hLn
 have hp := (blk_cell HLED.out.blk 0).trans rfl
 have hw1 : wrap64 ((L.length : Int) + 1) = (L.length : Int) + 1 := by unfold wrap64; omega
 have d1 : (x.f0 != (L.length : Int) + 1) = true := by simpa using ho
 go_enter Tryd.func20, Tryd.ntmps20
 go_upto_region 7 with (first | (go_at_call 47; refine (entry_Check.calls k x.f0 x.f1 x.f2 x.f3 x.f4 x.f5 x.f6 x.f7 A c x.f8 (-1) 0 _ (Kd.C_below HC.out HB1.out) HLC.out HK.out (HT.out.below HB1.out)).mono ?_; rintro e w2 ⟨rfl, hb⟩; have HLED2 := Aside0.mk (HLED.out.below hb); have hln := HLED2.out.len 3; have hp2 : w2.cell? ⟨p, 0, none⟩ = some (.map (some m)) := (blk_cell HLED2.out.blk 0).trans rfl; have hb2 := blk_below HBX.out hb; have a0 : w2.cell? ⟨w.heap.size, 0, none⟩ = some (.int .i64 x.f0) := (blk_cell hb2 0).trans rfl; have a2 : w2.cell? ⟨w.heap.size, 2, none⟩ = some (.int .i64 x.f2) := (blk_cell hb2 2).trans rfl; clear hb2 hp))
 have HB2 := Aside0.mk (below_then HB1.out HB1.out.size hb)
 clear hb
 go_big_quiet (fail)
 go_wp2
 go_ret
 exact ⟨rfl, pw_below_drewN HB2.out nq⟩
set_option maxHeartbeats 4000000 in
set_option maxRecDepth 100000 in
theorem post_order2 {base p m : Nat} {E : List S29} (x y : S29) (A : Option Addr) (c : Nat) (w : World) (hL : LedE w base p m E) (hC : Kd.C k109 w A x.f8.length x.f8) (hc : x.f8.length ≤ c) (hT : Tab w) (hf : FitE x) (hchk : (chkE x).2 = 0) (hlen : E.length ≤ 100000) (ho : x.f0 = (E.length : Int) + 1) (hy : E.getLast? = some y) (hxy : x.f2 < y.f2) :
  Calls Tryd.prog 20 #[.pointer (some ⟨p, 0, none⟩), enV x A c] w fun e w' => e = .returned (.int .i64 17) ∧ Below w.heap.size w w' := by
 obtain ⟨k, hk⟩ := (chk_ev x hf).rounds
 rw [(chk_two hchk).2.2.2] at hk
 have HC := Aside0.mk hC
 have HT := Aside0.mk hT
 have HK := Aside0.mk hk
 have HLC := Aside0.mk hc
 have HB1 := Aside0.mk (below_alloc (Below.refl w.heap.size w) (.cells #[.int .i64 x.f0, .string x.f1, .int .i64 x.f2, .int .i64 x.f3, .int .i64 x.f4, .string x.f5, .string x.f6, .int .i64 x.f7, .slice A x.f8.length c] 29))
 have HBX := Aside0.mk (blk_new w (.cells #[.int .i64 x.f0, .string x.f1, .int .i64 x.f2, .int .i64 x.f3, .int .i64 x.f4, .string x.f5, .string x.f6, .int .i64 x.f7, .slice A x.f8.length c] 29))
 obtain ⟨L, hLed, hE, hraw⟩ := hL
 have hLn : E.length = L.length := by rw [← hE, List.length_map]
 rw [hLn] at ho hlen
 have hcl : ∃ d, L[L.length - 1]? = some d ∧ d.h = y ∧ 0 < L.length := by
  rw [← hE, List.getLast?_map, List.getLast?_eq_getElem?] at hy
  obtain ⟨d, hd, rfl⟩ := Option.map_eq_some_iff.1 hy
  exact ⟨d, hd, rfl, by have := (List.getElem?_eq_some_iff.1 hd).1; omega⟩
 obtain ⟨d, hd, rfl, h0⟩ := hcl
 obtain ⟨Ad, cd, hdv⟩ := Kd.R_slice (hLed.row d (List.mem_of_getElem? hd))
 have hval : valL L (L.length : Int) = pstV d.h (.slice Ad d.C.length cd) := by
  have := valL_at hd
  rw [show ((L.length - 1 : Nat) : Int) + 1 = (L.length : Int) from by omega, hdv] at this
  exact this
 unfold pstV at hval
 have HLED := Aside0.mk (hLed.below HB1.out)
 have HHL := Aside0.mk hlen
 have HVAL := Aside0.mk hval
 have HI := Aside0.mk (show i64ok (L.length : Int) from by unfold i64ok; omega)
 have hfa : ∀ w, (Instr.field 118 (.agg #[.int .i64 d.h.f0, .string d.h.f1, .int .i64 d.h.f2, .int .i64 d.h.f3, .int .i64 d.h.f4, .string d.h.f5, .string d.h.f6, .int .i64 d.h.f7, .slice none 0 0, .slice Ad d.C.length cd]) 0).run Tryd.prog w = .ok (.agg #[.int .i64 d.h.f0, .string d.h.f1, .int .i64 d.h.f2, .int .i64 d.h.f3, .int .i64 d.h.f4, .string d.h.f5, .string d.h.f6, .int .i64 d.h.f7, .slice none 0 0]) w := fun w => by kernel_rfl
 have hfb : ∀ w, (Instr.field 29 (.agg #[.int .i64 d.h.f0, .string d.h.f1, .int .i64 d.h.f2, .int .i64 d.h.f3, .int .i64 d.h.f4, .string d.h.f5, .string d.h.f6, .int .i64 d.h.f7, .slice none 0 0]) 2).run Tryd.prog w = .ok (.int .i64 d.h.f2) w := fun w => by kernel_rfl
 have d1 : (x.f0 != (L.length : Int) + 1) = false := by simpa using ho
 have d2 : decide ((0 : Int) < (L.length : Int)) = true := decide_eq_true (by omega)
 have d2' : decide (0 < L.length) = true := decide_eq_true h0
 have d3 : decide (x.f2 < d.h.f2) = true := decide_eq_true hxy
 clear hC hT hk hc hLed hE hraw hchk hLn hd hdv hval hy hxy hlen ho
 have hp := (blk_cell HLED.out.blk 0).trans rfl
 have hw1 : wrap64 ((L.length : Int) + 1) = (L.length : Int) + 1 := by have := HHL.out; unfold wrap64; omega
 go_enter Tryd.func20, Tryd.ntmps20
 go_upto_region 7 with (first | (go_at_call 47; refine (entry_Check.calls k x.f0 x.f1 x.f2 x.f3 x.f4 x.f5 x.f6 x.f7 A c x.f8 (-1) 0 _ (Kd.C_below HC.out HB1.out) HLC.out HK.out (HT.out.below HB1.out)).mono ?_; rintro e w2 ⟨rfl, hb⟩; have HLED2 := Aside0.mk (HLED.out.below hb); have hln := HLED2.out.len 3; have hp2 : w2.cell? ⟨p, 0, none⟩ = some (.map (some m)) := (blk_cell HLED2.out.blk 0).trans rfl; have hb2 := blk_below HBX.out hb; have a0 : w2.cell? ⟨w.heap.size, 0, none⟩ = some (.int .i64 x.f0) := (blk_cell hb2 0).trans rfl; have a2 : w2.cell? ⟨w.heap.size, 2, none⟩ = some (.int .i64 x.f2) := (blk_cell hb2 2).trans rfl; clear hb2 hp))
 have HB2 := Aside0.mk (below_then HB1.out HB1.out.size hb)
 clear hb
 have hlk : ∀ n, (Instr.lookup 119 (.map (some m)) (.int .i64 (L.length : Int)) false).run Tryd.prog (w2.drewN n) = .ok _ (w2.drewN n) := fun n => ((HLED2.out.below (pw_below_drewN (Below.refl _ w2) n)).look HI.out).trans (by rw [HVAL.out])
 go_big_quiet (fail)
 go_wp2
 go_ret
 exact ⟨rfl, pw_below_drewN HB2.out nq⟩
set_option maxHeartbeats 4000000 in
set_option maxRecDepth 100000 in
theorem post_many {base p m : Nat} {E : List S29} (x y : S29) (A : Option Addr) (c : Nat) (w : World) (hL : LedE w base p m E) (hC : Kd.C k109 w A x.f8.length x.f8) (hc : x.f8.length ≤ c) (hT : Tab w) (hf : FitE x) (hchk : (chkE x).2 = 0) (hlen : E.length ≤ 100000) (ho : x.f0 = (E.length : Int) + 1) (hy : E.getLast? = some y) (hxy : ¬ x.f2 < y.f2) (h4 : 4000 ≤ E.length) :
  Calls Tryd.prog 20 #[.pointer (some ⟨p, 0, none⟩), enV x A c] w fun e w' => e = .returned (.int .i64 9) ∧ Below w.heap.size w w' := by
 obtain ⟨k, hk⟩ := (chk_ev x hf).rounds
 rw [(chk_two hchk).2.2.2] at hk
 have HC := Aside0.mk hC
 have HT := Aside0.mk hT
 have HK := Aside0.mk hk
 have HLC := Aside0.mk hc
 have HB1 := Aside0.mk (below_alloc (Below.refl w.heap.size w) (.cells #[.int .i64 x.f0, .string x.f1, .int .i64 x.f2, .int .i64 x.f3, .int .i64 x.f4, .string x.f5, .string x.f6, .int .i64 x.f7, .slice A x.f8.length c] 29))
 have HBX := Aside0.mk (blk_new w (.cells #[.int .i64 x.f0, .string x.f1, .int .i64 x.f2, .int .i64 x.f3, .int .i64 x.f4, .string x.f5, .string x.f6, .int .i64 x.f7, .slice A x.f8.length c] 29))
 obtain ⟨L, hLed, hE, hraw⟩ := hL
 have hLn : E.length = L.length := by rw [← hE, List.length_map]
 rw [hLn] at ho hlen h4
 have hcl : ∃ d, L[L.length - 1]? = some d ∧ d.h = y ∧ 0 < L.length := by
  rw [← hE, List.getLast?_map, List.getLast?_eq_getElem?] at hy
  obtain ⟨d, hd, rfl⟩ := Option.map_eq_some_iff.1 hy
  exact ⟨d, hd, rfl, by have := (List.getElem?_eq_some_iff.1 hd).1; omega⟩
 obtain ⟨d, hd, rfl, h0⟩ := hcl
 obtain ⟨Ad, cd, hdv⟩ := Kd.R_slice (hLed.row d (List.mem_of_getElem? hd))
 have hval : valL L (L.length : Int) = pstV d.h (.slice Ad d.C.length cd) := by
  have := valL_at hd
  rw [show ((L.length - 1 : Nat) : Int) + 1 = (L.length : Int) from by omega, hdv] at this
  exact this
 unfold pstV at hval
 have HLED := Aside0.mk (hLed.below HB1.out)
 have HHL := Aside0.mk hlen
 have HVAL := Aside0.mk hval
 have HI := Aside0.mk (show i64ok (L.length : Int) from by unfold i64ok; omega)
 have hfa : ∀ w, (Instr.field 118 (.agg #[.int .i64 d.h.f0, .string d.h.f1, .int .i64 d.h.f2, .int .i64 d.h.f3, .int .i64 d.h.f4, .string d.h.f5, .string d.h.f6, .int .i64 d.h.f7, .slice none 0 0, .slice Ad d.C.length cd]) 0).run Tryd.prog w = .ok (.agg #[.int .i64 d.h.f0, .string d.h.f1, .int .i64 d.h.f2, .int .i64 d.h.f3, .int .i64 d.h.f4, .string d.h.f5, .string d.h.f6, .int .i64 d.h.f7, .slice none 0 0]) w := fun w => by kernel_rfl
 have hfb : ∀ w, (Instr.field 29 (.agg #[.int .i64 d.h.f0, .string d.h.f1, .int .i64 d.h.f2, .int .i64 d.h.f3, .int .i64 d.h.f4, .string d.h.f5, .string d.h.f6, .int .i64 d.h.f7, .slice none 0 0]) 2).run Tryd.prog w = .ok (.int .i64 d.h.f2) w := fun w => by kernel_rfl
 have d1 : (x.f0 != (L.length : Int) + 1) = false := by simpa using ho
 have d2 : decide ((0 : Int) < (L.length : Int)) = true := decide_eq_true (by omega)
 have d2' : decide (0 < L.length) = true := decide_eq_true h0
 have d3 : decide (x.f2 < d.h.f2) = false := decide_eq_false hxy
 have d4 : decide ((4000 : Int) ≤ (L.length : Int)) = true := decide_eq_true (by omega)
 have d4' : decide (4000 ≤ L.length) = true := decide_eq_true h4
 clear hC hT hk hc hLed hE hraw hchk hLn hd hdv hval hy hxy hlen ho h4
 have hp := (blk_cell HLED.out.blk 0).trans rfl
 have hw1 : wrap64 ((L.length : Int) + 1) = (L.length : Int) + 1 := by have := HHL.out; unfold wrap64; omega
 go_enter Tryd.func20, Tryd.ntmps20
 go_upto_region 7 with (first | (go_at_call 47; refine (entry_Check.calls k x.f0 x.f1 x.f2 x.f3 x.f4 x.f5 x.f6 x.f7 A c x.f8 (-1) 0 _ (Kd.C_below HC.out HB1.out) HLC.out HK.out (HT.out.below HB1.out)).mono ?_; rintro e w2 ⟨rfl, hb⟩; have HLED2 := Aside0.mk (HLED.out.below hb); have hln := HLED2.out.len 3; have hp2 : w2.cell? ⟨p, 0, none⟩ = some (.map (some m)) := (blk_cell HLED2.out.blk 0).trans rfl; have hb2 := blk_below HBX.out hb; have a0 : w2.cell? ⟨w.heap.size, 0, none⟩ = some (.int .i64 x.f0) := (blk_cell hb2 0).trans rfl; have a2 : w2.cell? ⟨w.heap.size, 2, none⟩ = some (.int .i64 x.f2) := (blk_cell hb2 2).trans rfl; clear hb2 hp))
 have HB2 := Aside0.mk (below_then HB1.out HB1.out.size hb)
 clear hb
 have hlk : ∀ n, (Instr.lookup 119 (.map (some m)) (.int .i64 (L.length : Int)) false).run Tryd.prog (w2.drewN n) = .ok _ (w2.drewN n) := fun n => ((HLED2.out.below (pw_below_drewN (Below.refl _ w2) n)).look HI.out).trans (by rw [HVAL.out])
 go_big_quiet (fail)
 go_wp2
 go_ret
 exact ⟨rfl, pw_below_drewN HB2.out nq⟩
theorem cells_kept {w : World} {g0 c : Nat} {A : Option Addr} {x : S29} (h : w.heap[g0]? = some (.cells #[.int .i64 x.f0, .string x.f1, .int .i64 x.f2, .int .i64 x.f3, .int .i64 x.f4, .string x.f5, .string x.f6, .int .i64 x.f7, .slice A x.f8.length c] 29 (0, 0))) : ∀ w', Below w.heap.size w w' → w'.cell? ⟨g0, 0, none⟩ = some (.int .i64 x.f0) ∧ w'.cell? ⟨g0, 1, none⟩ = some (.string x.f1) ∧ w'.cell? ⟨g0, 2, none⟩ = some (.int .i64 x.f2) ∧ w'.cell? ⟨g0, 3, none⟩ = some (.int .i64 x.f3) ∧ w'.cell? ⟨g0, 4, none⟩ = some (.int .i64 x.f4) ∧ w'.cell? ⟨g0, 5, none⟩ = some (.string x.f5) ∧ w'.cell? ⟨g0, 6, none⟩ = some (.string x.f6) ∧ w'.cell? ⟨g0, 7, none⟩ = some (.int .i64 x.f7) ∧ w'.cell? ⟨g0, 8, none⟩ = some (.slice A x.f8.length c) := fun w' hb =>
 have hb2 := blk_below h hb
 ⟨(blk_cell hb2 0).trans rfl, (blk_cell hb2 1).trans rfl, (blk_cell hb2 2).trans rfl, (blk_cell hb2 3).trans rfl, (blk_cell hb2 4).trans rfl, (blk_cell hb2 5).trans rfl, (blk_cell hb2 6).trans rfl, (blk_cell hb2 7).trans rfl, (blk_cell hb2 8).trans rfl⟩
theorem raw_kept {w w3 : World} (x : S29) (A : Option Addr) (c : Nat) (hl : x.f8.length ≤ 100) (hC : Kd.C k109 w A x.f8.length x.f8) (hc : x.f8.length ≤ c) (h3 : Below w.heap.size w w3) : ∀ w', Below w3.heap.size w3 w' → Calls Tryd.prog 51 #[.agg #[.int .i64 x.f0, .string x.f1, .int .i64 x.f2, .int .i64 x.f3, .int .i64 x.f4, .string x.f5, .string x.f6, .int .i64 x.f7, .slice A x.f8.length c]] w' fun e w5 => ∃ v : Value, e = .returned v ∧ Kd.R k112 112 w5 w3.heap.size (fun _ => True) v (rawL x) ∧ Below w3.heap.size w3 w5 ∧ Below w'.heap.size w' w5 := fun w' hb => by
 obtain ⟨k, hk⟩ := (raw_ev x (by omega)).rounds
 refine (ledger_raw.calls k x.f0 x.f1 x.f2 x.f3 x.f4 x.f5 x.f6 x.f7 A c x.f8 (rawL x) w' (Kd.C_below (Kd.C_below hC h3) hb) hc hk).mono ?_
 rintro e w5 ⟨v, rfl, hr, hb5⟩
 exact ⟨v, rfl, Kd.R_lower hr hb.size, below_then hb hb.size hb5, hb5⟩
theorem row118 {w : World} {b g i : Nat} {v u : Value} {l : List S112} {cs : Array Value} (h : Kd.R k112 112 w b (fun _ => True) v l) (hg : w.heap[g]? = some (.cells cs 118 (0, 0))) : Kd.R k112 112 (w.setCell ⟨g, i, none⟩ u) b (fun _ => True) v l := by
 have h1 := Kd.R_mono (Kd.R_tight rfl h) (ok' := fun k => v.ownBlock = some k) (fun k hk => hk.symm)
 have h2 := Kd.R_step h1 (w1 := w.setCell ⟨g, i, none⟩ u) (fun k hk hlt => by
  obtain ⟨cs', hcs⟩ := Kd.R_typed h k hk
  refine Below.heap_setCell _ _ _ _ (fun e => ?_)
  have e' : k = g := e
  rw [e', hg] at hcs
  cases hcs)
 exact Kd.R_mono h2 (fun _ _ => trivial)
structure Kp118 (w3 w : World) (g : Nat) (cs : Array Value) (v : Value) (l : List S112) : Prop where
 blk : w.heap[g]? = some (.cells cs 118 (0, 0))
 row : Kd.R k112 112 w w3.heap.size (fun _ => True) v l
 bel : Below w3.heap.size w3 w
 low : w3.heap.size ≤ g
theorem Kp118.set {w3 w : World} {g : Nat} {cs cs' : Array Value} {v : Value} {l : List S112} (h : Kp118 w3 w g cs v l) (i : Nat) (u : Value) (hc : cs.setIfInBounds i u = cs') : Kp118 w3 (w.setCell ⟨g, i, none⟩ u) g cs' v l :=
 ⟨blk_put h.blk i u hc, row118 h.row h.blk, h.bel.setCell (p := ⟨g, i, none⟩) h.low u, h.low⟩
theorem kp_new {w3 w5 : World} {x : S29} {A : Option Addr} {c : Nat} {v : Value} {l : List S112} (hr : Kd.R k112 112 w5 w3.heap.size (fun _ => True) v l) (hb : Below w3.heap.size w3 w5) : Kp118 w3 (w5.alloc (.cells #[.int .i64 x.f0, .string x.f1, .int .i64 x.f2, .int .i64 x.f3, .int .i64 x.f4, .string x.f5, .string x.f6, .int .i64 x.f7, .slice A x.f8.length c, v] 118)) w5.heap.size #[.int .i64 x.f0, .string x.f1, .int .i64 x.f2, .int .i64 x.f3, .int .i64 x.f4, .string x.f5, .string x.f6, .int .i64 x.f7, .slice A x.f8.length c, v] v l :=
 ⟨blk_new _ _, Kd.R_below hr (below_alloc (Below.refl _ _) _), below_alloc hb _, hb.size⟩
theorem kp_ten {w3 w5 : World} {x : S29} {A : Option Addr} {c g : Nat} {v : Value} {l : List S112} (hz : w5.heap[g]? = some (.cells #[.int .i64 0, .string ⟨#[]⟩, .int .i64 0, .int .i64 0, .int .i64 0, .string ⟨#[]⟩, .string ⟨#[]⟩, .int .i64 0, .slice none 0 0, .slice none 0 0] 118 (0, 0))) (hr : Kd.R k112 112 w5 w3.heap.size (fun _ => True) v l) (hb : Below w3.heap.size w3 w5) (hg : w3.heap.size ≤ g) :
  Kp118 w3 ((((((((((w5.setCell ⟨g, 0, none⟩ (.int .i64 x.f0)).setCell ⟨g, 1, none⟩ (.string x.f1)).setCell ⟨g, 2, none⟩ (.int .i64 x.f2)).setCell ⟨g, 3, none⟩ (.int .i64 x.f3)).setCell ⟨g, 4, none⟩ (.int .i64 x.f4)).setCell ⟨g, 5, none⟩ (.string x.f5)).setCell ⟨g, 6, none⟩ (.string x.f6)).setCell ⟨g, 7, none⟩ (.int .i64 x.f7)).setCell ⟨g, 8, none⟩ (.slice A x.f8.length c)).setCell ⟨g, 9, none⟩ v) g #[.int .i64 x.f0, .string x.f1, .int .i64 x.f2, .int .i64 x.f3, .int .i64 x.f4, .string x.f5, .string x.f6, .int .i64 x.f7, .slice A x.f8.length c, v] v l := by
 have h0 := Kp118.mk hz hr hb hg
 have h1 := h0.set (cs' := #[(.int .i64 x.f0), (.string ⟨#[]⟩), (.int .i64 0), (.int .i64 0), (.int .i64 0), (.string ⟨#[]⟩), (.string ⟨#[]⟩), (.int .i64 0), (.slice none 0 0), (.slice none 0 0)]) 0 (.int .i64 x.f0) rfl
 have h2 := h1.set (cs' := #[(.int .i64 x.f0), (.string x.f1), (.int .i64 0), (.int .i64 0), (.int .i64 0), (.string ⟨#[]⟩), (.string ⟨#[]⟩), (.int .i64 0), (.slice none 0 0), (.slice none 0 0)]) 1 (.string x.f1) rfl
 have h3 := h2.set (cs' := #[(.int .i64 x.f0), (.string x.f1), (.int .i64 x.f2), (.int .i64 0), (.int .i64 0), (.string ⟨#[]⟩), (.string ⟨#[]⟩), (.int .i64 0), (.slice none 0 0), (.slice none 0 0)]) 2 (.int .i64 x.f2) rfl
 have h4 := h3.set (cs' := #[(.int .i64 x.f0), (.string x.f1), (.int .i64 x.f2), (.int .i64 x.f3), (.int .i64 0), (.string ⟨#[]⟩), (.string ⟨#[]⟩), (.int .i64 0), (.slice none 0 0), (.slice none 0 0)]) 3 (.int .i64 x.f3) rfl
 have h5 := h4.set (cs' := #[(.int .i64 x.f0), (.string x.f1), (.int .i64 x.f2), (.int .i64 x.f3), (.int .i64 x.f4), (.string ⟨#[]⟩), (.string ⟨#[]⟩), (.int .i64 0), (.slice none 0 0), (.slice none 0 0)]) 4 (.int .i64 x.f4) rfl
 have h6 := h5.set (cs' := #[(.int .i64 x.f0), (.string x.f1), (.int .i64 x.f2), (.int .i64 x.f3), (.int .i64 x.f4), (.string x.f5), (.string ⟨#[]⟩), (.int .i64 0), (.slice none 0 0), (.slice none 0 0)]) 5 (.string x.f5) rfl
 have h7 := h6.set (cs' := #[(.int .i64 x.f0), (.string x.f1), (.int .i64 x.f2), (.int .i64 x.f3), (.int .i64 x.f4), (.string x.f5), (.string x.f6), (.int .i64 0), (.slice none 0 0), (.slice none 0 0)]) 6 (.string x.f6) rfl
 have h8 := h7.set (cs' := #[(.int .i64 x.f0), (.string x.f1), (.int .i64 x.f2), (.int .i64 x.f3), (.int .i64 x.f4), (.string x.f5), (.string x.f6), (.int .i64 x.f7), (.slice none 0 0), (.slice none 0 0)]) 7 (.int .i64 x.f7) rfl
 have h9 := h8.set (cs' := #[(.int .i64 x.f0), (.string x.f1), (.int .i64 x.f2), (.int .i64 x.f3), (.int .i64 x.f4), (.string x.f5), (.string x.f6), (.int .i64 x.f7), (.slice A x.f8.length c), (.slice none 0 0)]) 8 (.slice A x.f8.length c) rfl
 have h10 := h9.set (cs' := #[(.int .i64 x.f0), (.string x.f1), (.int .i64 x.f2), (.int .i64 x.f3), (.int .i64 x.f4), (.string x.f5), (.string x.f6), (.int .i64 x.f7), (.slice A x.f8.length c), v]) 9 v rfl
 exact h10
set_option maxHeartbeats 4000000 in
set_option maxRecDepth 100000 in
theorem post_putn {base p m : Nat} {E : List S29} (x y : S29) (A : Option Addr) (c : Nat) (w : World) (hL : LedE w base p m E) (hC : Kd.C k109 w A x.f8.length x.f8) (hc : x.f8.length ≤ c) (hT : Tab w) (hf : FitE x) (hchk : (chkE x).2 = 0) (hlen : E.length ≤ 100000) (ho : x.f0 = (E.length : Int) + 1) (hy : E.getLast? = some y) (hxy : ¬ x.f2 < y.f2) (h4 : ¬ 4000 ≤ E.length) :
  Calls Tryd.prog 20 #[.pointer (some ⟨p, 0, none⟩), enV x A c] w fun e w' => e = .returned (.int .i64 0) ∧ LedE w' base p m (E ++ [x]) ∧ But (fun k => k = m) w w' := by
 obtain ⟨k, hk⟩ := (chk_ev x hf).rounds
 rw [(chk_two hchk).2.2.2] at hk
 have HC := Aside0.mk hC
 have HT := Aside0.mk hT
 have HK := Aside0.mk hk
 have HLC := Aside0.mk hc
 have HB1 := Aside0.mk (below_alloc (Below.refl w.heap.size w) (.cells #[.int .i64 x.f0, .string x.f1, .int .i64 x.f2, .int .i64 x.f3, .int .i64 x.f4, .string x.f5, .string x.f6, .int .i64 x.f7, .slice A x.f8.length c] 29))
 have HBX := Aside0.mk (blk_new w (.cells #[.int .i64 x.f0, .string x.f1, .int .i64 x.f2, .int .i64 x.f3, .int .i64 x.f4, .string x.f5, .string x.f6, .int .i64 x.f7, .slice A x.f8.length c] 29))
 obtain ⟨L, hLed, hE, hraw⟩ := hL
 have hLn : E.length = L.length := by rw [← hE, List.length_map]
 rw [hLn] at ho hlen h4
 have hcl : ∃ d, L[L.length - 1]? = some d ∧ d.h = y ∧ 0 < L.length := by
  rw [← hE, List.getLast?_map, List.getLast?_eq_getElem?] at hy
  obtain ⟨d, hd, rfl⟩ := Option.map_eq_some_iff.1 hy
  exact ⟨d, hd, rfl, by have := (List.getElem?_eq_some_iff.1 hd).1; omega⟩
 obtain ⟨d, hd, rfl, h0⟩ := hcl
 obtain ⟨Ad, cd, hdv⟩ := Kd.R_slice (hLed.row d (List.mem_of_getElem? hd))
 have hval : valL L (L.length : Int) = pstV d.h (.slice Ad d.C.length cd) := by
  have := valL_at hd
  rw [show ((L.length - 1 : Nat) : Int) + 1 = (L.length : Int) from by omega, hdv] at this
  exact this
 unfold pstV at hval
 have HLED := Aside0.mk (hLed.below HB1.out)
 have HHL := Aside0.mk hlen
 have HVAL := Aside0.mk hval
 have HI := Aside0.mk (show i64ok (L.length : Int) from by unfold i64ok; omega)
 have hfa : ∀ w, (Instr.field 118 (.agg #[.int .i64 d.h.f0, .string d.h.f1, .int .i64 d.h.f2, .int .i64 d.h.f3, .int .i64 d.h.f4, .string d.h.f5, .string d.h.f6, .int .i64 d.h.f7, .slice none 0 0, .slice Ad d.C.length cd]) 0).run Tryd.prog w = .ok (.agg #[.int .i64 d.h.f0, .string d.h.f1, .int .i64 d.h.f2, .int .i64 d.h.f3, .int .i64 d.h.f4, .string d.h.f5, .string d.h.f6, .int .i64 d.h.f7, .slice none 0 0]) w := fun w => by kernel_rfl
 have hfb : ∀ w, (Instr.field 29 (.agg #[.int .i64 d.h.f0, .string d.h.f1, .int .i64 d.h.f2, .int .i64 d.h.f3, .int .i64 d.h.f4, .string d.h.f5, .string d.h.f6, .int .i64 d.h.f7, .slice none 0 0]) 2).run Tryd.prog w = .ok (.int .i64 d.h.f2) w := fun w => by kernel_rfl
 have hl100 := (head_len (chk_two hchk).1).2.1
 have HO := Aside0.mk ho
 have H4 := Aside0.mk h4
 have HD := Aside0.mk hE
 have HRW := Aside0.mk hraw
 have d1 : (x.f0 != (L.length : Int) + 1) = false := by simpa using ho
 have d2 : decide ((0 : Int) < (L.length : Int)) = true := decide_eq_true (by omega)
 have d2' : decide (0 < L.length) = true := decide_eq_true h0
 have d3 : decide (x.f2 < d.h.f2) = false := decide_eq_false hxy
 have d4 : decide ((4000 : Int) ≤ (L.length : Int)) = false := decide_eq_false (by omega)
 have d4' : decide (4000 ≤ L.length) = false := decide_eq_false h4
 clear hC hT hk hc hLed hE hraw hchk hLn hd hdv hval hy hxy hlen ho h4
 have hp := (blk_cell HLED.out.blk 0).trans rfl
 have hw1 : wrap64 ((L.length : Int) + 1) = (L.length : Int) + 1 := by have := HHL.out; unfold wrap64; omega
 go_enter Tryd.func20, Tryd.ntmps20
 go_upto_region 7 with (first | (go_at_call 47; refine (entry_Check.calls k x.f0 x.f1 x.f2 x.f3 x.f4 x.f5 x.f6 x.f7 A c x.f8 (-1) 0 _ (Kd.C_below HC.out HB1.out) HLC.out HK.out (HT.out.below HB1.out)).mono ?_; rintro e w2 ⟨rfl, hb⟩; have HLED2 := Aside0.mk (HLED.out.below hb); have hln := HLED2.out.len 3; have hp2 : w2.cell? ⟨p, 0, none⟩ = some (.map (some m)) := (blk_cell HLED2.out.blk 0).trans rfl; have hb2 := blk_below HBX.out hb; have HBX2 := Aside0.mk hb2; have a0 : w2.cell? ⟨w.heap.size, 0, none⟩ = some (.int .i64 x.f0) := (blk_cell hb2 0).trans rfl; have a2 : w2.cell? ⟨w.heap.size, 2, none⟩ = some (.int .i64 x.f2) := (blk_cell hb2 2).trans rfl; clear hb2 hp))
 have HB2 := Aside0.mk (below_then HB1.out HB1.out.size hb)
 clear hb
 have hlk : ∀ n, (Instr.lookup 119 (.map (some m)) (.int .i64 (L.length : Int)) false).run Tryd.prog (w2.drewN n) = .ok _ (w2.drewN n) := fun n => ((HLED2.out.below (pw_below_drewN (Below.refl _ w2) n)).look HI.out).trans (by rw [HVAL.out])
 go_big_quiet (fail)
 go_upto_region 11 with (fail)
 refine with_world (P := fun x => Code.wp _ _ _ _ x) _ ?_
 intro w3 hw3
 have HLED3 := Aside0.mk (show Led w3 base p m L from hw3 ▸ HLED2.out.below (pw_below_drewN (Below.refl _ w2) nq))
 have HB3 := Aside0.mk (show Below w.heap.size w w3 from hw3 ▸ pw_below_drewN HB2.out nq)
 obtain ⟨g0, hg0⟩ : ∃ g0, w.heap.size = g0 := ⟨_, rfl⟩
 have HG0 := Aside0.mk hg0
 have hbx3 : w3.heap[g0]? = some (.cells #[.int .i64 x.f0, .string x.f1, .int .i64 x.f2, .int .i64 x.f3, .int .i64 x.f4, .string x.f5, .string x.f6, .int .i64 x.f7, .slice A x.f8.length c] 29 (0, 0)) := by
  rw [hw3, ← hg0]
  exact blk_drewN HBX2.out nq
 try rw [hg0]
 have HBX3 := Aside0.mk hbx3
 have HQS := Aside0.mk (cells_kept hbx3)
 obtain ⟨r0, r1, r2, r3, r4, r5, r6, r7, r8⟩ := HQS.out w3 (Below.refl _ _)
 have HRC := Aside0.mk (raw_kept (w := w) x A c hl100 HC.out HLC.out HB3.out)
 clear hw3 hg0 hbx3 a0 a2 hlk hp2
 obtain ⟨q0, q1, q2, q3, q4, q5, q6, q7, q8⟩ := HQS.out ((w3.alloc (.cells #[.int .i64 0, .string ⟨#[]⟩, .int .i64 0, .int .i64 0, .int .i64 0, .string ⟨#[]⟩, .string ⟨#[]⟩, .int .i64 0, .slice none 0 0, .slice none 0 0] 118)).drew) (below_drew (below_alloc (Below.refl _ _) _))
 go_cut [8, 48, 49, 50, 51] (fun v8 _ _ _ _ wc => ∃ (g : Nat) (A5 : Option Addr) (c5 : Nat), v8 = .pointer (some ⟨g, 0, none⟩) ∧ Aside0 (Kp118 w3 wc g #[.int .i64 x.f0, .string x.f1, .int .i64 x.f2, .int .i64 x.f3, .int .i64 x.f4, .string x.f5, .string x.f6, .int .i64 x.f7, .slice A x.f8.length c, .slice A5 (rawL x).length c5] (.slice A5 (rawL x).length c5) (rawL x)))
 case first =>
  go_region_law (first | (go_simp; go_at_call 51; (with_reducible refine (HRC.out _ ?hbl).mono ?_); (case hbl => repeat (first | (with_reducible exact Below.refl _ _) | apply below_drew | refine below_alloc ?_ _)); rintro e_ w5 ⟨v5, rfl, hr5, hb5, hb6⟩; obtain ⟨A5, c5, rfl⟩ := Kd.R_slice hr5; have HR5 := Aside0.mk hr5; have HB5 := Aside0.mk hb5; have HB6 := Aside0.mk hb6; obtain ⟨s0, s1, s2, s3, s4, s5, s6, s7, s8⟩ := HQS.out w5 hb5; obtain ⟨t0, t1, t2, t3, t4, t5, t6, t7, t8⟩ := HQS.out (w5.alloc (.cells #[.int .i64 0, .string ⟨#[]⟩, .int .i64 0, .int .i64 0, .int .i64 0, .string ⟨#[]⟩, .string ⟨#[]⟩, .int .i64 0, .slice none 0 0, .slice none 0 0] 118)) (below_alloc hb5 _); try (have hbz : w5.heap[w3.heap.size]? = some (.cells #[.int .i64 0, .string ⟨#[]⟩, .int .i64 0, .int .i64 0, .int .i64 0, .string ⟨#[]⟩, .string ⟨#[]⟩, .int .i64 0, .slice none 0 0, .slice none 0 0] 118 (0, 0)) := blk_below (by first | exact blk_new _ _ | exact blk_drew (blk_new _ _)) hb6; have z0 : w5.cell? ⟨w3.heap.size, 0, none⟩ = some (.int .i64 0) := (blk_cell hbz 0).trans rfl; have f0 := blk_frozen hbz 0; have z1 : w5.cell? ⟨w3.heap.size, 1, none⟩ = some (.string ⟨#[]⟩) := (blk_cell hbz 1).trans rfl; have f1 := blk_frozen hbz 1; have z2 : w5.cell? ⟨w3.heap.size, 2, none⟩ = some (.int .i64 0) := (blk_cell hbz 2).trans rfl; have f2 := blk_frozen hbz 2; have z3 : w5.cell? ⟨w3.heap.size, 3, none⟩ = some (.int .i64 0) := (blk_cell hbz 3).trans rfl; have f3 := blk_frozen hbz 3; have z4 : w5.cell? ⟨w3.heap.size, 4, none⟩ = some (.int .i64 0) := (blk_cell hbz 4).trans rfl; have f4 := blk_frozen hbz 4; have z5 : w5.cell? ⟨w3.heap.size, 5, none⟩ = some (.string ⟨#[]⟩) := (blk_cell hbz 5).trans rfl; have f5 := blk_frozen hbz 5; have z6 : w5.cell? ⟨w3.heap.size, 6, none⟩ = some (.string ⟨#[]⟩) := (blk_cell hbz 6).trans rfl; have f6 := blk_frozen hbz 6; have z7 : w5.cell? ⟨w3.heap.size, 7, none⟩ = some (.int .i64 0) := (blk_cell hbz 7).trans rfl; have f7 := blk_frozen hbz 7; have z8 : w5.cell? ⟨w3.heap.size, 8, none⟩ = some (.slice none 0 0) := (blk_cell hbz 8).trans rfl; have f8 := blk_frozen hbz 8; have z9 : w5.cell? ⟨w3.heap.size, 9, none⟩ = some (.slice none 0 0) := (blk_cell hbz 9).trans rfl; have f9 := blk_frozen hbz 9; have HBZ := Aside0.mk hbz; clear hbz); clear hr5 hb5 hb6))
  all_goals
   go_wp2_with fail
   go_meet
  all_goals
   case rel =>
    first
    | (with_reducible exact ⟨w3.heap.size, A5, c5, rfl, ⟨kp_ten HBZ.out HR5.out HB5.out (Nat.le_refl _)⟩⟩)
    | exact ⟨w5.heap.size, A5, c5, rfl, ⟨kp_new HR5.out HB5.out⟩⟩
 case rest =>
  obtain ⟨g, A5, c5, rfl, HKP⟩ := hcut
  have c8 : wc.cell? ⟨g, 8, none⟩ = some (.slice A x.f8.length c) := (blk_cell HKP.out.blk 8).trans rfl
  have f8 := blk_frozen HKP.out.blk 8
  go_upto_region 13 with (fail)
  refine with_world (P := fun x => Code.wp _ _ _ _ x) _ ?_
  intro w6 hw6
  have HK6 := Aside0.mk (show Kp118 w3 w6 g #[.int .i64 x.f0, .string x.f1, .int .i64 x.f2, .int .i64 x.f3, .int .i64 x.f4, .string x.f5, .string x.f6, .int .i64 x.f7, .slice none 0 0, .slice A5 (rawL x).length c5] (.slice A5 (rawL x).length c5) (rawL x) from hw6 ▸ HKP.out.set 8 _ rfl)
  clear hw6 HKP c8 f8
  have hrow : Kd.R k112 112 w6 base (fun _ => True) (.slice A5 (rawL x).length c5) (rawL x) := Kd.R_lower HK6.out.row (by have := HLED3.out.ltm; have := HLED3.out.lowm; omega)
  have HLED6 := Aside0.mk ((HLED3.out.below HK6.out.bel).below (below_drew (Below.refl _ w6)))
  obtain ⟨w7, hup, hLed7, hg7⟩ := HLED6.out.put (c := ⟨x, rawL x, .slice A5 (rawL x).length c5⟩) (by have := HHL.out; omega) (Kd.R_below hrow (below_drew (Below.refl _ w6)))
  have HL7 := Aside0.mk hLed7
  have HG7 := Aside0.mk hg7
  clear hLed7 hg7 hrow
  unfold pstV at hup
  rw [← HO.out] at hup
  obtain ⟨q0, q1, q2, q3, q4, q5, q6, q7, q8⟩ := HQS.out w6 HK6.out.bel
  clear q1 q2 q3 q4 q5 q6 q7 q8
  have e0 : w6.cell? ⟨g, 0, none⟩ = some (.int .i64 x.f0) := (blk_cell HK6.out.blk 0).trans rfl
  have e1 : w6.cell? ⟨g, 1, none⟩ = some (.string x.f1) := (blk_cell HK6.out.blk 1).trans rfl
  have e2 : w6.cell? ⟨g, 2, none⟩ = some (.int .i64 x.f2) := (blk_cell HK6.out.blk 2).trans rfl
  have e3 : w6.cell? ⟨g, 3, none⟩ = some (.int .i64 x.f3) := (blk_cell HK6.out.blk 3).trans rfl
  have e4 : w6.cell? ⟨g, 4, none⟩ = some (.int .i64 x.f4) := (blk_cell HK6.out.blk 4).trans rfl
  have e5 : w6.cell? ⟨g, 5, none⟩ = some (.string x.f5) := (blk_cell HK6.out.blk 5).trans rfl
  have e6 : w6.cell? ⟨g, 6, none⟩ = some (.string x.f6) := (blk_cell HK6.out.blk 6).trans rfl
  have e7 : w6.cell? ⟨g, 7, none⟩ = some (.int .i64 x.f7) := (blk_cell HK6.out.blk 7).trans rfl
  have e8 : w6.cell? ⟨g, 8, none⟩ = some (.slice none 0 0) := (blk_cell HK6.out.blk 8).trans rfl
  have e9 : w6.cell? ⟨g, 9, none⟩ = some (.slice A5 (rawL x).length c5) := (blk_cell HK6.out.blk 9).trans rfl
  have ep : w6.cell? ⟨p, 0, none⟩ = some (.map (some m)) := (blk_cell HLED6.out.blk 0).trans rfl
  go_still_tail 7, (by kernel_rfl)
  change wpList _ _ _ _ _ w6.drew
  go_wp2
  go_ret
  refine ⟨rfl, ⟨_, HL7.out, ?_, fun d' hd' => ?_⟩, ?_⟩
  ·rw [List.map_append, HD.out]
   rfl
  ·rcases List.mem_append.1 hd' with hd' | hd'
   ·exact HRW.out d' hd'
   ·rw [List.mem_singleton] at hd'
    subst hd'
    rfl
  ·have hb6 : Below w.heap.size w w6.drew := below_drew (below_then HB3.out HB3.out.size HK6.out.bel)
   exact (But.of_below hb6 _).trans (But.of_grown HG7.out (fun k hk => (Option.some.inj hk).symm))
end Go.Proofs.YtppcjoaghlecmaaDoor.P
