/- Texts of mine and of the print, joined: HandMon, HandInk, Px16, SrtI, SrtR, SrtM, SrtS, HandClone, HandOne, Px17, HandBrd, HandNil, HandGrp0, HandGrp, SpecG, HandOf, HandCat, HandKept, HandMatch. -/
import Derived.Test.YtppcjoaghlecmaaDoorLa
import Derived.Test.YtppcjoaghlecmaaDoorLb
import Derived.Lib.OthersKept
import Derived.Laws.RangeAny
import Derived.Laws.RangeString
import Derived.Sort.WalkA
import Derived.Deep.RegionLaw
import Derived.Lib.SliceRun
import Derived.Deep.AppendLies
import Derived.Deep.RegionHeld3
import Derived.Lib.AppendZerosOnto
import Derived.Laws.BitsLemmas
namespace Go.Proofs.YtppcjoaghlecmaaDoor.P
open Go.RowKit Go.Lib Go.Proofs.YtppcjoaghlecmaaDoorW.PrintWords Go.Proofs.YtppcjoaghlecmaaDoorW.PrintLast Go.Proofs.YtppcjoaghlecmaaDoorW.PrintMore
set_option linter.unusedVariables false
set_option linter.unusedSimpArgs false
def upC (c : UInt8) : Bool := decide (65 ≤ c.toNat) && decide (c.toNat ≤ 90)
def monB (s : ByteArray) : Bool := decide (s.size = 3) && s.data.toList.all upC
theorem mon_bad {s : ByteArray} {i : Nat} (h : i < s.size) (hu : upC s[i] = false) : monB s = false := by
 unfold monB
 rw [Bool.and_eq_false_iff]
 right
 rw [List.all_eq_false]
 exact ⟨s[i], by
  rw [show s[i] = s.data.toList[i]'(by simpa using h) from by simp [ByteArray.getElem_eq_getElem_data]]
  exact List.getElem_mem _, by simp [hu]⟩
theorem mon_end {s : ByteArray} (h : ∀ j, (hj : j < s.size) → upC s[j] = true) : monB s = decide (s.size = 3) := by
 unfold monB
 rw [List.all_eq_true.2, Bool.and_true]
 intro c hc
 obtain ⟨j, hj, rfl⟩ := List.mem_iff_getElem.1 hc
 have hj' : j < s.size := by simpa using hj
 have := h j hj'
 rw [show s[j] = s.data.toList[j] from by simp [ByteArray.getElem_eq_getElem_data]] at this
 exact this
set_option maxHeartbeats 2000000 in
set_option maxRecDepth 100000 in
theorem money_calls (s : ByteArray) (w : World) (hs : s.size ≤ maxLen) : Calls Tryd.prog 81 #[.string s] w fun e w' => e = .returned (.bool (monB s)) ∧ Below w.heap.size w w' := by
 obtain ⟨g, hg⟩ : ∃ g, w.heap.size = g := ⟨_, rfl⟩
 obtain ⟨res, hres⟩ : ∃ r, monB s = r := ⟨_, rfl⟩
 have HR := Aside0.mk hres
 have hlen : s.size ≤ 9223372036854775807 := by unfold maxLen at hs; omega
 clear hs
 rw [hres]
 clear hres
 go_enter Tryd.func81, Tryd.ntmps81
 go_upto_region 3 with (fail)
 refine with_world (P := fun x => Code.wp _ _ _ _ x) _ ?_
 intro w1 hw1
 replace hw1 : w1 = w.alloc (.stringIter s 0) := hw1
 (try rw [hg])
 have HI := Aside0.mk (show w1.heap[g]? = some (.stringIter s 0) from by rw [hw1, ← hg]; exact blk_new _ _)
 have HB1 := Aside0.mk (show Below g w w1 from by rw [hw1, ← hg]; exact below_alloc (Below.refl _ _) _)
 clear hw1
 go_loopw [2, 3, 5, 8, 9, 10, 11, 12, 13, 14, 15, 16, 17, 18] (fun _ v3 _ _ _ _ _ _ _ _ _ _ _ _ wr => ∃ n : Nat, n ≤ s.size ∧ v3 = .int .i64 n ∧ Aside0 (wr.heap[g]? = some (.stringIter s n)) ∧ Aside0 (Below g w wr) ∧ Aside0 (∀ j, (hj : j < s.size) → j < n → upC s[j] = true)) (fun _ v3 _ _ _ _ _ _ _ _ _ _ _ _ _ => s.size - (intOf v3).toNat)
 case atStart => exact ⟨0, Nat.zero_le _, rfl, HI, HB1, ⟨fun j _ h => absurd h (by omega)⟩⟩
 case round =>
  clear HI HB1
  obtain ⟨n, hn, rfl, HI, HB, HU⟩ := hrel
  by_cases hlt : n < s.size
  ·by_cases hc : upC s[n] = true
   ·have hu := hc
    unfold upC at hu
    rw [Bool.and_eq_true, decide_eq_true_iff, decide_eq_true_iff] at hu
    have hnx := run_next_ascii_at (P := Tryd.prog) wr g s n 0 HI.out hlt (by omega)
    have HC := Aside0.mk hc
    clear hc
    obtain ⟨c, hcc⟩ : ∃ c : Int, ((s[n].toNat : Nat) : Int) = c := ⟨_, rfl⟩
    rw [hcc] at hnx
    have d1 : decide (c < 65) = false := decide_eq_false (by omega)
    have d2 : decide (90 < c) = false := decide_eq_false (by omega)
    have hw : wrap64 ((n : Int) + 1) = ((n + 1 : Nat) : Int) := by unfold wrap64; omega
    clear hcc
    go_wp2
    go_roundw
    case rel =>
     refine ⟨n + 1, by omega, by go_num, ⟨iterAt_heap wr g s n (n + 1) HI.out⟩, ⟨below_iterAt HB.out (Nat.le_refl _) s (n + 1)⟩, ⟨fun j hj hjn => ?_⟩⟩
     rcases Nat.lt_succ_iff_lt_or_eq.1 hjn with h | h
     ·exact HU.out j hj h
     ·subst h; exact HC.out
    case measure => simp [intOf]; omega
   ·have hc' : upC s[n] = false := by simpa using hc
    obtain ⟨r, k, hr, hnx⟩ : ∃ (r : Int) (k : Nat), (r < 65 ∨ 90 < r) ∧ (Instr.next (.pointer (some ⟨g, 0, none⟩)) true 0).run Tryd.prog wr = .ok (.tuple #[.bool true, .int .i64 n, .int .i32 r]) (wr.iterAt g s (n + k)) := by
     refine ⟨_, _, ?_, run_next_any_at (P := Tryd.prog) wr g s n 0 HI.out hlt⟩
     by_cases ha : (s[n]'hlt).toNat < 128
     ·rw [decode_ascii s n hlt ha]
      unfold upC at hc'
      rw [Bool.and_eq_false_iff, decide_eq_false_iff_not, decide_eq_false_iff_not] at hc'
      show ((s[n].toNat : Nat) : Int) < 65 ∨ 90 < ((s[n].toNat : Nat) : Int)
      omega
     ·have := (decode_high s n hlt (by omega)).1
      right
      omega
    have hres : false = res := (mon_bad hlt hc').symm.trans HR.out
    subst hres
    have HB2 := Aside0.mk (below_iterAt HB.out (Nat.le_refl g) s (n + k))
    clear hc hc'
    by_cases h1 : r < 65
    ·have d1 : decide (r < 65) = true := decide_eq_true h1
     go_wp2
     go_ret
     exact ⟨rfl, by first | exact HB2.out | (rw [hg]; exact HB2.out)⟩
    ·have d1 : decide (r < 65) = false := decide_eq_false h1
     have d2 : decide (90 < r) = true := decide_eq_true (by omega)
     go_wp2
     go_ret
     exact ⟨rfl, by first | exact HB2.out | (rw [hg]; exact HB2.out)⟩
  ·obtain rfl : n = s.size := by omega
   have hnx := run_next_end_at (P := Tryd.prog) wr g s s.size 0 HI.out hlt
   have hres : decide (s.size = 3) = res := (mon_end (fun j hj => HU.out j hj hj)).symm.trans HR.out
   go_wp2
   go_ret
   refine ⟨?_, by first | exact HB.out | (rw [hg]; exact HB.out)⟩
   rw [← hres]
   show Ending.returned (Value.bool ((s.size : Int) == 3)) = Ending.returned (Value.bool (decide (s.size = 3)))
   have e : ((s.size : Int) == 3) = decide (s.size = 3) := by rw [Bool.eq_iff_iff, beq_iff_eq, decide_eq_true_iff]; omega
   rw [e]
end Go.Proofs.YtppcjoaghlecmaaDoor.P
namespace Go.Proofs.YtppcjoaghlecmaaDoor.P
open Go.RowKit Go.Sort Go.Proofs.YtppcjoaghlecmaaDoorW.PrintWords Go.Proofs.YtppcjoaghlecmaaDoorW.PrintLast Go.Proofs.YtppcjoaghlecmaaDoorW.PrintMore
set_option linter.unusedVariables false
def sheet_Right.f (l0 : List S112) : Option Bool := some (rightB l0)
theorem sheet_Right.calls (A0 : Option Addr) (c0 : Nat) (l0 : List (S112)) (r : Bool) (w : World) (hr0 : Kd.C k112 w A0 l0.length l0) (hc0 : l0.length ≤ c0) (h : sheet_Right.f l0 = some r) :
  Calls Tryd.prog 34 #[.slice A0 l0.length c0] w fun e w' => e = .returned (.bool r) ∧ Below w.heap.size w w' := by
 cases h
 refine (right_calls A0 c0 l0 w hr0 hc0).mono ?_
 rintro e w' ⟨rfl, hg⟩
 exact ⟨rfl, hg.below⟩
def money_Code.f (a0 : ByteArray) : Option Bool := if a0.size ≤ maxLen then some (monB a0) else none
theorem money_Code.calls (a0 : ByteArray) (r : Bool) (w : World) (h : money_Code.f a0 = some r) :
  Calls Tryd.prog 81 #[.string a0] w fun e w' => e = .returned (.bool r) ∧ Below w.heap.size w w' := by
 unfold money_Code.f at h
 split at h
 ·rename_i hs
  obtain rfl := Option.some.inj h
  exact money_calls a0 w hs
 ·cases h
end Go.Proofs.YtppcjoaghlecmaaDoor.P
namespace Go.Proofs.YtppcjoaghlecmaaDoor.P
open Go.RowKit Go.Proofs.YtppcjoaghlecmaaDoorW.PrintWords Go.Proofs.YtppcjoaghlecmaaDoorW.PrintLast Go.Proofs.YtppcjoaghlecmaaDoorW.PrintMore
attribute [local go_sem] max2_int min2_int max_two min_two max_three min_three max_four min_four
set_option linter.unusedVariables false
set_option linter.unusedSimpArgs false
mutual
def entry_Line.j0 : Nat → Bool → ByteArray → ByteArray → Int → Int → ByteArray → ByteArray → List (S213) → Option (Int)
 | 0, _, _, _, _, _, _, _, _ => none
 | k + 1, x3, x135000, x135001, x135002, x135003, x135004, x135005, x135006 => if x3 = true then (some 7) else ((money_Code.f x135001).bind fun t138 => (if t138 = true then ((entry_within.f x135002 1000000000000).bind fun t139 => (if t139 = true then ((entry_within.f x135003 1000000000000).bind fun t140 => (entry_Line.j1 k (!t140) x135000 x135001 x135002 x135003 x135004 x135005 x135006)) else (entry_Line.j1 k true x135000 x135001 x135002 x135003 x135004 x135005 x135006))) else (some 13)))
def entry_Line.j1 : Nat → Bool → ByteArray → ByteArray → Int → Int → ByteArray → ByteArray → List (S213) → Option (Int)
 | 0, _, _, _, _, _, _, _, _ => none
 | k + 1, x25, x135000, x135001, x135002, x135003, x135004, x135005, x135006 => if x25 = true then (some 4) else (if x135002 = 0 then (entry_Line.j2 k (x135003 == 0) x135000 x135001 x135002 x135003 x135004 x135005 x135006) else (entry_Line.j2 k false x135000 x135001 x135002 x135003 x135004 x135005 x135006))
def entry_Line.j2 : Nat → Bool → ByteArray → ByteArray → Int → Int → ByteArray → ByteArray → List (S213) → Option (Int)
 | 0, _, _, _, _, _, _, _, _ => none
 | k + 1, x36, x135000, x135001, x135002, x135003, x135004, x135005, x135006 => if x36 = true then (some 2) else ((dims_Right.f k x135006).bind fun t141 => (if t141 = true then (some 0) else (some 14)))
end
def entry_Line.f (k : Nat) (a0_0 : ByteArray) (a0_1 : ByteArray) (a0_2 : Int) (a0_3 : Int) (a0_4 : ByteArray) (a0_5 : ByteArray) (l0_6 : List (S213)) : Option (Int) := (words_Code.f a0_0).bind fun t135 => (if t135 = true then ((entry_optional.f a0_4).bind fun t136 => (if t136 = true then ((entry_optional.f a0_5).bind fun t137 => (entry_Line.j0 k (!t137) a0_0 a0_1 a0_2 a0_3 a0_4 a0_5 l0_6)) else (entry_Line.j0 k true a0_0 a0_1 a0_2 a0_3 a0_4 a0_5 l0_6))) else (entry_Line.j0 k true a0_0 a0_1 a0_2 a0_3 a0_4 a0_5 l0_6))
theorem entry_Line.mono_l : ∀ k, (∀ y0 y1 y2 y3 y4 y5 y6 y7, LeO (entry_Line.j0 k y0 y1 y2 y3 y4 y5 y6 y7) (entry_Line.j0 (k + 1) y0 y1 y2 y3 y4 y5 y6 y7)) ∧ (∀ y0 y1 y2 y3 y4 y5 y6 y7, LeO (entry_Line.j1 k y0 y1 y2 y3 y4 y5 y6 y7) (entry_Line.j1 (k + 1) y0 y1 y2 y3 y4 y5 y6 y7)) ∧ (∀ y0 y1 y2 y3 y4 y5 y6 y7, LeO (entry_Line.j2 k y0 y1 y2 y3 y4 y5 y6 y7) (entry_Line.j2 (k + 1) y0 y1 y2 y3 y4 y5 y6 y7))
 | 0 => ⟨fun _ _ _ _ _ _ _ _ r h => by simp [entry_Line.j0] at h, fun _ _ _ _ _ _ _ _ r h => by simp [entry_Line.j1] at h, fun _ _ _ _ _ _ _ _ r h => by simp [entry_Line.j2] at h⟩
 | k + 1 => by
  obtain ⟨ih0, ih1, ih2⟩ := entry_Line.mono_l k
  refine ⟨?_, ?_, ?_⟩
  ·intro y0 y1 y2 y3 y4 y5 y6 y7
   unfold entry_Line.j0
   repeat' first
   | (with_reducible exact ih0 _ _ _ _ _ _ _ _)
   | (with_reducible exact ih1 _ _ _ _ _ _ _ _)
   | (with_reducible exact ih2 _ _ _ _ _ _ _ _)
   | (with_reducible exact dims_Right.mono _ _)
   | (with_reducible exact LeO.refl _)
   | (with_reducible exact LeO.none _)
   | (with_reducible refine LeO.ite ?_ ?_)
   | (with_reducible refine LeO.bind ?_ (fun _ => ?_))
   | exact ih0 _ _ _ _ _ _ _ _
   | exact ih1 _ _ _ _ _ _ _ _
   | exact ih2 _ _ _ _ _ _ _ _
   | exact dims_Right.mono _ _
   | exact LeO.none _
   | refine LeO.ite ?_ ?_
   | refine LeO.bind ?_ (fun _ => ?_)
  ·intro y0 y1 y2 y3 y4 y5 y6 y7
   unfold entry_Line.j1
   repeat' first
   | (with_reducible exact ih0 _ _ _ _ _ _ _ _)
   | (with_reducible exact ih1 _ _ _ _ _ _ _ _)
   | (with_reducible exact ih2 _ _ _ _ _ _ _ _)
   | (with_reducible exact dims_Right.mono _ _)
   | (with_reducible exact LeO.refl _)
   | (with_reducible exact LeO.none _)
   | (with_reducible refine LeO.ite ?_ ?_)
   | (with_reducible refine LeO.bind ?_ (fun _ => ?_))
   | exact ih0 _ _ _ _ _ _ _ _
   | exact ih1 _ _ _ _ _ _ _ _
   | exact ih2 _ _ _ _ _ _ _ _
   | exact dims_Right.mono _ _
   | exact LeO.none _
   | refine LeO.ite ?_ ?_
   | refine LeO.bind ?_ (fun _ => ?_)
  ·intro y0 y1 y2 y3 y4 y5 y6 y7
   unfold entry_Line.j2
   repeat' first
   | (with_reducible exact ih0 _ _ _ _ _ _ _ _)
   | (with_reducible exact ih1 _ _ _ _ _ _ _ _)
   | (with_reducible exact ih2 _ _ _ _ _ _ _ _)
   | (with_reducible exact dims_Right.mono _ _)
   | (with_reducible exact LeO.refl _)
   | (with_reducible exact LeO.none _)
   | (with_reducible refine LeO.ite ?_ ?_)
   | (with_reducible refine LeO.bind ?_ (fun _ => ?_))
   | exact ih0 _ _ _ _ _ _ _ _
   | exact ih1 _ _ _ _ _ _ _ _
   | exact ih2 _ _ _ _ _ _ _ _
   | exact dims_Right.mono _ _
   | exact LeO.none _
   | refine LeO.ite ?_ ?_
   | refine LeO.bind ?_ (fun _ => ?_)
theorem entry_Line.mono : ∀ a0 a1 a2 a3 a4 a5 a6 k, LeO (entry_Line.f k a0 a1 a2 a3 a4 a5 a6) (entry_Line.f (k + 1) a0 a1 a2 a3 a4 a5 a6) := by
 intro a0 a1 a2 a3 a4 a5 a6 k
 obtain ⟨ih0, ih1, ih2⟩ := entry_Line.mono_l k
 unfold entry_Line.f
 repeat' first
   | (with_reducible exact ih0 _ _ _ _ _ _ _ _)
   | (with_reducible exact ih1 _ _ _ _ _ _ _ _)
   | (with_reducible exact ih2 _ _ _ _ _ _ _ _)
   | (with_reducible exact dims_Right.mono _ _)
   | (with_reducible exact LeO.refl _)
   | (with_reducible exact LeO.none _)
   | (with_reducible refine LeO.ite ?_ ?_)
   | (with_reducible refine LeO.bind ?_ (fun _ => ?_))
   | exact ih0 _ _ _ _ _ _ _ _
   | exact ih1 _ _ _ _ _ _ _ _
   | exact ih2 _ _ _ _ _ _ _ _
   | exact dims_Right.mono _ _
   | exact LeO.none _
   | refine LeO.ite ?_ ?_
   | refine LeO.bind ?_ (fun _ => ?_)
set_option maxHeartbeats 8000000 in
set_option maxRecDepth 100000 in
theorem entry_Line.calls (k : Nat) (a0_0 : ByteArray) (a0_1 : ByteArray) (a0_2 : Int) (a0_3 : Int) (a0_4 : ByteArray) (a0_5 : ByteArray) (A0_6 : Option Addr) (c0_6 : Nat) (l0_6 : List (S213)) (r : Int) (w : World) (hr0_6 : Kd.C k213 w A0_6 l0_6.length l0_6) (hc0_6 : l0_6.length ≤ c0_6) (h : entry_Line.f k a0_0 a0_1 a0_2 a0_3 a0_4 a0_5 l0_6 = some r) :
  Calls Tryd.prog 95 #[.agg #[.string a0_0, .string a0_1, .int .i64 a0_2, .int .i64 a0_3, .string a0_4, .string a0_5, .slice A0_6 l0_6.length c0_6]] w fun e w' => e = .returned (.int .i64 r) ∧ Below w.heap.size w w' := by
 have hu109 := Tryd.underlying109
 have HR0_6 := Aside0.mk hr0_6
 have HC0_6 := Aside0.mk hc0_6
 clear hr0_6 hc0_6
 have HB := Aside0.mk (Below.refl w.heap.size w)
 have H : ((words_Code.f a0_0).bind fun t135 => (if t135 = true then ((entry_optional.f a0_4).bind fun t136 => (if t136 = true then ((entry_optional.f a0_5).bind fun t137 => (entry_Line.j0 k (!t137) a0_0 a0_1 a0_2 a0_3 a0_4 a0_5 l0_6)) else (entry_Line.j0 k true a0_0 a0_1 a0_2 a0_3 a0_4 a0_5 l0_6))) else (entry_Line.j0 k true a0_0 a0_1 a0_2 a0_3 a0_4 a0_5 l0_6))) = some r := h
 clear h
 have HC2 := Aside0.mk H
 clear H
 go_enter Tryd.func95, Tryd.ntmps95
 go_upto_region 1 with (first | ((with_reducible refine gate_dst (N := 1) rfl ?_); refine box_event ?hg (N := 1) ?hd (cs := #[.string a0_0, .string a0_1, .int .i64 a0_2, .int .i64 a0_3, .string a0_4, .string a0_5, .slice A0_6 l0_6.length c0_6]) (t := 109) ?hr ?_; (case hd => rfl); (case hg => rfl); (case hr => first | (go_simp; done) | (go_simp; rfl)); intro gb134 hg w3 hbox hb; have n0_ := Aside0.mk (below_step (by repeat (first | (with_reducible first | exact HB.out | apply below_alloc | apply pw_below_drewN | apply below_drew1) | exact HB.out)) hb); have n1_ := Aside0.mk (hbox); have n2_ := Aside0.mk ((by rw [hg]; exact (below_size (by repeat (first | (with_reducible first | exact HB.out | apply below_alloc | apply pw_below_drewN | apply below_drew1) | exact HB.out))) : w.heap.size ≤ gb134)); have n3_ := Aside0.mk ((by rw [hg]; exact (below_size (by repeat (first | (with_reducible first | exact HB.out | apply below_alloc | apply pw_below_drewN | apply below_drew1) | exact HB.out))) : w.heap.size ≤ gb134)); clear HB; have HB := n0_; have BK134 := n1_; have GW134 := n2_; have GE134 := n3_; clear n0_ n1_ n2_ n3_; clear hb hbox hg))
 (try simp only [Act.put, List.setIfInBounds_toArray, List.set_cons_zero, List.set_cons_succ])
 go_cut [3] (fun v3 wc => ∃ (kq : Nat) (x3_1 : Bool), v3 = .bool x3_1 ∧ Aside0 (entry_Line.j0 kq x3_1 a0_0 a0_1 a0_2 a0_3 a0_4 a0_5 l0_6 = some r) ∧ Aside0 (kq ≤ k) ∧ Aside0 (wc.heap[gb134]? = some (.cells #[.string a0_0, .string a0_1, .int .i64 a0_2, .int .i64 a0_3, .string a0_4, .string a0_5, (.slice A0_6 l0_6.length c0_6)] 109 (0, 0))) ∧ Aside0 (Below w.heap.size w wc))
 case first =>
  have H := HC2.out
  clear HC2
  replace H := Option.bind_eq_some_iff.mp H
  obtain ⟨t135, A40, H⟩ := H
  try dsimp only at H
  have A4 := Aside0.mk A40
  clear A40
  by_cases c5 : t135 = true
  ·subst c5
   have H1 : ((entry_optional.f a0_4).bind fun t136 => (if t136 = true then ((entry_optional.f a0_5).bind fun t137 => (entry_Line.j0 k (!t137) a0_0 a0_1 a0_2 a0_3 a0_4 a0_5 l0_6)) else (entry_Line.j0 k true a0_0 a0_1 a0_2 a0_3 a0_4 a0_5 l0_6))) = some r := by rw [if_pos rfl] at H; exact H
   clear H
   have H := H1
   clear H1
   replace H := Option.bind_eq_some_iff.mp H
   obtain ⟨t136, A60, H⟩ := H
   try dsimp only at H
   have A6 := Aside0.mk A60
   clear A60
   by_cases c7 : t136 = true
   ·subst c7
    have H1 : ((entry_optional.f a0_5).bind fun t137 => (entry_Line.j0 k (!t137) a0_0 a0_1 a0_2 a0_3 a0_4 a0_5 l0_6)) = some r := by rw [if_pos rfl] at H; exact H
    clear H
    have H := H1
    clear H1
    replace H := Option.bind_eq_some_iff.mp H
    obtain ⟨t137, A80, H⟩ := H
    replace H : (entry_Line.j0 k (!t137) a0_0 a0_1 a0_2 a0_3 a0_4 a0_5 l0_6) = some r := H
    have A8 := Aside0.mk A80
    clear A80
    have H' := Aside0.mk H
    clear H
    have hcz9_0 : w3.cell? ⟨gb134, 0, none⟩ = some (.string a0_0) := (blk_cell BK134.out 0).trans rfl
    have hcz9_1 : w3.cell? ⟨gb134, 1, none⟩ = some (.string a0_1) := (blk_cell BK134.out 1).trans rfl
    have hcz9_2 : w3.cell? ⟨gb134, 2, none⟩ = some (.int .i64 a0_2) := (blk_cell BK134.out 2).trans rfl
    have hcz9_3 : w3.cell? ⟨gb134, 3, none⟩ = some (.int .i64 a0_3) := (blk_cell BK134.out 3).trans rfl
    have hcz9_4 : w3.cell? ⟨gb134, 4, none⟩ = some (.string a0_4) := (blk_cell BK134.out 4).trans rfl
    have hcz9_5 : w3.cell? ⟨gb134, 5, none⟩ = some (.string a0_5) := (blk_cell BK134.out 5).trans rfl
    have hcz9_6 : w3.cell? ⟨gb134, 6, none⟩ = some (.slice A0_6 l0_6.length c0_6) := (blk_cell BK134.out 6).trans rfl
    have hfz9_0 := blk_frozen BK134.out 0
    have hfz9_1 := blk_frozen BK134.out 1
    have hfz9_2 := blk_frozen BK134.out 2
    have hfz9_3 := blk_frozen BK134.out 3
    have hfz9_4 := blk_frozen BK134.out 4
    have hfz9_5 := blk_frozen BK134.out 5
    have hfz9_6 := blk_frozen BK134.out 6
    go_wp2_with (first | ((with_reducible refine gate_callee (f := 80) rfl ?_); refine goesL_ (some 6) rfl rfl Tryd.func80 (by kernel_rfl) rfl #[.string a0_0] rfl (by (try simp only [List.map_toArray, List.map_cons, List.map_nil]); first | done | rfl | (simp only [List.length_drop, List.length_take]; rfl)) ?_; (with_reducible refine (words_Code.calls a0_0 true _ A4.out).mono ?_); rintro e w' ⟨rfl, ⟨nd, rfl⟩⟩; refine ⟨_, rfl, ?_⟩) | (go_at_call 133; (with_reducible refine (entry_optional.calls a0_4 true _ A6.out).mono ?_); rintro e w' ⟨rfl, ⟨nd, rfl⟩⟩) | (go_at_call 133; (with_reducible refine (entry_optional.calls a0_5 t137 _ A8.out).mono ?_); rintro e w' ⟨rfl, ⟨nd, rfl⟩⟩))
    go_meet
    case rel => exact ⟨_, (!t137), (by first | rfl | (simp; done) | (simp [*]; done)), H', ⟨by first | omega | exact Nat.le_refl _⟩, ⟨by (with_reducible repeat (first | refine blk_drewN ?_ _ | refine blk_drew ?_ | refine blk_alloc ?_ _)); exact BK134.out⟩, ⟨by repeat (first | (with_reducible first | exact HB.out | apply below_alloc | apply pw_below_drewN | apply below_drew1 | refine below_set ?_ GE134.out) | exact HB.out)⟩⟩
   ·replace c7 := Bool.eq_false_iff.mpr c7
    subst c7
    have H1 : (entry_Line.j0 k true a0_0 a0_1 a0_2 a0_3 a0_4 a0_5 l0_6) = some r := by rw [if_neg (show ¬ (false = true) by decide)] at H; exact H
    clear H
    have H := H1
    clear H1
    have H' := Aside0.mk H
    clear H
    have hcz10_0 : w3.cell? ⟨gb134, 0, none⟩ = some (.string a0_0) := (blk_cell BK134.out 0).trans rfl
    have hcz10_1 : w3.cell? ⟨gb134, 1, none⟩ = some (.string a0_1) := (blk_cell BK134.out 1).trans rfl
    have hcz10_2 : w3.cell? ⟨gb134, 2, none⟩ = some (.int .i64 a0_2) := (blk_cell BK134.out 2).trans rfl
    have hcz10_3 : w3.cell? ⟨gb134, 3, none⟩ = some (.int .i64 a0_3) := (blk_cell BK134.out 3).trans rfl
    have hcz10_4 : w3.cell? ⟨gb134, 4, none⟩ = some (.string a0_4) := (blk_cell BK134.out 4).trans rfl
    have hcz10_5 : w3.cell? ⟨gb134, 5, none⟩ = some (.string a0_5) := (blk_cell BK134.out 5).trans rfl
    have hcz10_6 : w3.cell? ⟨gb134, 6, none⟩ = some (.slice A0_6 l0_6.length c0_6) := (blk_cell BK134.out 6).trans rfl
    have hfz10_0 := blk_frozen BK134.out 0
    have hfz10_1 := blk_frozen BK134.out 1
    have hfz10_2 := blk_frozen BK134.out 2
    have hfz10_3 := blk_frozen BK134.out 3
    have hfz10_4 := blk_frozen BK134.out 4
    have hfz10_5 := blk_frozen BK134.out 5
    have hfz10_6 := blk_frozen BK134.out 6
    go_wp2_with (first | ((with_reducible refine gate_callee (f := 80) rfl ?_); refine goesL_ (some 6) rfl rfl Tryd.func80 (by kernel_rfl) rfl #[.string a0_0] rfl (by (try simp only [List.map_toArray, List.map_cons, List.map_nil]); first | done | rfl | (simp only [List.length_drop, List.length_take]; rfl)) ?_; (with_reducible refine (words_Code.calls a0_0 true _ A4.out).mono ?_); rintro e w' ⟨rfl, ⟨nd, rfl⟩⟩; refine ⟨_, rfl, ?_⟩) | (go_at_call 133; (with_reducible refine (entry_optional.calls a0_4 false _ A6.out).mono ?_); rintro e w' ⟨rfl, ⟨nd, rfl⟩⟩))
    go_meet
    case rel => exact ⟨_, (true), (by first | rfl | (simp; done) | (simp [*]; done)), H', ⟨by first | omega | exact Nat.le_refl _⟩, ⟨by (with_reducible repeat (first | refine blk_drewN ?_ _ | refine blk_drew ?_ | refine blk_alloc ?_ _)); exact BK134.out⟩, ⟨by repeat (first | (with_reducible first | exact HB.out | apply below_alloc | apply pw_below_drewN | apply below_drew1 | refine below_set ?_ GE134.out) | exact HB.out)⟩⟩
  ·replace c5 := Bool.eq_false_iff.mpr c5
   subst c5
   have H1 : (entry_Line.j0 k true a0_0 a0_1 a0_2 a0_3 a0_4 a0_5 l0_6) = some r := by rw [if_neg (show ¬ (false = true) by decide)] at H; exact H
   clear H
   have H := H1
   clear H1
   have H' := Aside0.mk H
   clear H
   have hcz11_0 : w3.cell? ⟨gb134, 0, none⟩ = some (.string a0_0) := (blk_cell BK134.out 0).trans rfl
   have hcz11_1 : w3.cell? ⟨gb134, 1, none⟩ = some (.string a0_1) := (blk_cell BK134.out 1).trans rfl
   have hcz11_2 : w3.cell? ⟨gb134, 2, none⟩ = some (.int .i64 a0_2) := (blk_cell BK134.out 2).trans rfl
   have hcz11_3 : w3.cell? ⟨gb134, 3, none⟩ = some (.int .i64 a0_3) := (blk_cell BK134.out 3).trans rfl
   have hcz11_4 : w3.cell? ⟨gb134, 4, none⟩ = some (.string a0_4) := (blk_cell BK134.out 4).trans rfl
   have hcz11_5 : w3.cell? ⟨gb134, 5, none⟩ = some (.string a0_5) := (blk_cell BK134.out 5).trans rfl
   have hcz11_6 : w3.cell? ⟨gb134, 6, none⟩ = some (.slice A0_6 l0_6.length c0_6) := (blk_cell BK134.out 6).trans rfl
   have hfz11_0 := blk_frozen BK134.out 0
   have hfz11_1 := blk_frozen BK134.out 1
   have hfz11_2 := blk_frozen BK134.out 2
   have hfz11_3 := blk_frozen BK134.out 3
   have hfz11_4 := blk_frozen BK134.out 4
   have hfz11_5 := blk_frozen BK134.out 5
   have hfz11_6 := blk_frozen BK134.out 6
   go_wp2_with (first | ((with_reducible refine gate_callee (f := 80) rfl ?_); refine goesL_ (some 6) rfl rfl Tryd.func80 (by kernel_rfl) rfl #[.string a0_0] rfl (by (try simp only [List.map_toArray, List.map_cons, List.map_nil]); first | done | rfl | (simp only [List.length_drop, List.length_take]; rfl)) ?_; (with_reducible refine (words_Code.calls a0_0 false _ A4.out).mono ?_); rintro e w' ⟨rfl, ⟨nd, rfl⟩⟩; refine ⟨_, rfl, ?_⟩))
   go_meet
   case rel => exact ⟨_, (true), (by first | rfl | (simp; done) | (simp [*]; done)), H', ⟨by first | omega | exact Nat.le_refl _⟩, ⟨by (with_reducible repeat (first | refine blk_drewN ?_ _ | refine blk_drew ?_ | refine blk_alloc ?_ _)); exact BK134.out⟩, ⟨by repeat (first | (with_reducible first | exact HB.out | apply below_alloc | apply pw_below_drewN | apply below_drew1 | refine below_set ?_ GE134.out) | exact HB.out)⟩⟩
 case rest =>
  clear HC2
  try clear p2
  try clear c5
  try clear c7
  try clear c8
  try clear c9
  try clear hcz10_0
  try clear hcz10_1
  try clear hcz10_2
  try clear hcz10_3
  try clear hcz10_4
  try clear hcz10_5
  try clear hcz10_6
  try clear hcz11_0
  try clear hcz11_1
  try clear hcz11_2
  try clear hcz11_3
  try clear hcz11_4
  try clear hcz11_5
  try clear hcz11_6
  try clear hcz9_0
  try clear hcz9_1
  try clear hcz9_2
  try clear hcz9_3
  try clear hcz9_4
  try clear hcz9_5
  try clear hcz9_6
  try clear hfz10_0
  try clear hfz10_1
  try clear hfz10_2
  try clear hfz10_3
  try clear hfz10_4
  try clear hfz10_5
  try clear hfz10_6
  try clear hfz11_0
  try clear hfz11_1
  try clear hfz11_2
  try clear hfz11_3
  try clear hfz11_4
  try clear hfz11_5
  try clear hfz11_6
  try clear hfz9_0
  try clear hfz9_1
  try clear hfz9_2
  try clear hfz9_3
  try clear hfz9_4
  try clear hfz9_5
  try clear hfz9_6
  obtain ⟨kq, x3_1, rfl, HA, HJ1, BK134, HB⟩ := hcut
  cases kq with
  | zero => exact absurd HA.out (by simp [entry_Line.j0])
  | succ kj1 =>
   have H := HA.out
   clear HA
   simp only [entry_Line.j0] at H
   by_cases c12 : x3_1 = true
   ·subst c12
    have H1 : (some 7) = some r := by rw [if_pos rfl] at H; exact H
    clear H
    have H := H1
    clear H1
    obtain rfl := Option.some.inj H
    go_wp2
    go_ret
    exact ⟨by first | rfl | (simp [errW_none, errW_some] <;> rfl) | (simp [*, errW_none, errW_some] <;> rfl), by repeat (first | (with_reducible first | exact HB.out | apply below_alloc | apply pw_below_drewN | apply below_drew1 | refine below_set ?_ GE134.out) | exact HB.out)⟩
   ·replace c12 := Bool.eq_false_iff.mpr c12
    subst c12
    have H1 : ((money_Code.f a0_1).bind fun t138 => (if t138 = true then ((entry_within.f a0_2 1000000000000).bind fun t139 => (if t139 = true then ((entry_within.f a0_3 1000000000000).bind fun t140 => (entry_Line.j1 kj1 (!t140) a0_0 a0_1 a0_2 a0_3 a0_4 a0_5 l0_6)) else (entry_Line.j1 kj1 true a0_0 a0_1 a0_2 a0_3 a0_4 a0_5 l0_6))) else (some 13))) = some r := by rw [if_neg (show ¬ (false = true) by decide)] at H; exact H
    clear H
    have H := H1
    clear H1
    replace H := Option.bind_eq_some_iff.mp H
    obtain ⟨t138, A130, H⟩ := H
    try dsimp only at H
    have A13 := Aside0.mk A130
    clear A130
    by_cases c14 : t138 = true
    ·subst c14
     have H1 : ((entry_within.f a0_2 1000000000000).bind fun t139 => (if t139 = true then ((entry_within.f a0_3 1000000000000).bind fun t140 => (entry_Line.j1 kj1 (!t140) a0_0 a0_1 a0_2 a0_3 a0_4 a0_5 l0_6)) else (entry_Line.j1 kj1 true a0_0 a0_1 a0_2 a0_3 a0_4 a0_5 l0_6))) = some r := by rw [if_pos rfl] at H; exact H
     clear H
     have H := H1
     clear H1
     have HC15 := Aside0.mk H
     clear H
     have hcz16_0 : wc.cell? ⟨gb134, 0, none⟩ = some (.string a0_0) := (blk_cell BK134.out 0).trans rfl
     have hcz16_1 : wc.cell? ⟨gb134, 1, none⟩ = some (.string a0_1) := (blk_cell BK134.out 1).trans rfl
     have hcz16_2 : wc.cell? ⟨gb134, 2, none⟩ = some (.int .i64 a0_2) := (blk_cell BK134.out 2).trans rfl
     have hcz16_3 : wc.cell? ⟨gb134, 3, none⟩ = some (.int .i64 a0_3) := (blk_cell BK134.out 3).trans rfl
     have hcz16_4 : wc.cell? ⟨gb134, 4, none⟩ = some (.string a0_4) := (blk_cell BK134.out 4).trans rfl
     have hcz16_5 : wc.cell? ⟨gb134, 5, none⟩ = some (.string a0_5) := (blk_cell BK134.out 5).trans rfl
     have hcz16_6 : wc.cell? ⟨gb134, 6, none⟩ = some (.slice A0_6 l0_6.length c0_6) := (blk_cell BK134.out 6).trans rfl
     have hfz16_0 := blk_frozen BK134.out 0
     have hfz16_1 := blk_frozen BK134.out 1
     have hfz16_2 := blk_frozen BK134.out 2
     have hfz16_3 := blk_frozen BK134.out 3
     have hfz16_4 := blk_frozen BK134.out 4
     have hfz16_5 := blk_frozen BK134.out 5
     have hfz16_6 := blk_frozen BK134.out 6
     go_upto_region 5 with (first | ((with_reducible refine gate_callee (f := 81) rfl ?_); refine goesL_ (some 23) rfl rfl Tryd.func81 (by kernel_rfl) rfl #[.string a0_1] rfl (by (try simp only [List.map_toArray, List.map_cons, List.map_nil]); first | done | rfl | (simp only [List.length_drop, List.length_take]; rfl)) ?_; (with_reducible refine (money_Code.calls a0_1 true _ A13.out).mono ?_); rintro e w17 ⟨rfl, hb⟩; refine ⟨_, rfl, ?_⟩; have n0_ := Aside0.mk (blk_below (g := gb134) (o := .cells #[.string a0_0, .string a0_1, .int .i64 a0_2, .int .i64 a0_3, .string a0_4, .string a0_5, .slice A0_6 l0_6.length c0_6] 109 (0, 0)) (by (with_reducible repeat (first | refine blk_drewN ?_ _ | refine blk_drew ?_ | refine blk_alloc ?_ _)); exact BK134.out) hb); have n1_ := Aside0.mk (below_step (by repeat (first | (with_reducible first | exact HB.out | apply below_alloc | apply pw_below_drewN | apply below_drew1 | refine below_set ?_ GE134.out) | exact HB.out)) hb); clear BK134; clear HB; have BK134 := n0_; have HB := n1_; clear n0_ n1_; (try clear hb); (try clear hb2); (try clear hk); (try clear hi)))
     (try simp only [Act.put, List.setIfInBounds_toArray, List.set_cons_zero, List.set_cons_succ])
     go_cut [25] (fun v25 wc => ∃ (kq : Nat) (x25_14 : Bool), v25 = .bool x25_14 ∧ Aside0 (entry_Line.j1 kq x25_14 a0_0 a0_1 a0_2 a0_3 a0_4 a0_5 l0_6 = some r) ∧ Aside0 (kq ≤ kj1) ∧ Aside0 (wc.heap[gb134]? = some (.cells #[.string a0_0, .string a0_1, .int .i64 a0_2, .int .i64 a0_3, .string a0_4, .string a0_5, (.slice A0_6 l0_6.length c0_6)] 109 (0, 0))) ∧ Aside0 (Below w.heap.size w wc))
     case first =>
      have H := HC15.out
      clear HC15
      replace H := Option.bind_eq_some_iff.mp H
      obtain ⟨t139, A180, H⟩ := H
      try dsimp only at H
      have A18 := Aside0.mk A180
      clear A180
      by_cases c19 : t139 = true
      ·subst c19
       have H1 : ((entry_within.f a0_3 1000000000000).bind fun t140 => (entry_Line.j1 kj1 (!t140) a0_0 a0_1 a0_2 a0_3 a0_4 a0_5 l0_6)) = some r := by rw [if_pos rfl] at H; exact H
       clear H
       have H := H1
       clear H1
       replace H := Option.bind_eq_some_iff.mp H
       obtain ⟨t140, A200, H⟩ := H
       replace H : (entry_Line.j1 kj1 (!t140) a0_0 a0_1 a0_2 a0_3 a0_4 a0_5 l0_6) = some r := H
       have A20 := Aside0.mk A200
       clear A200
       have H' := Aside0.mk H
       clear H
       have hcz21_0 : w17.cell? ⟨gb134, 0, none⟩ = some (.string a0_0) := (blk_cell BK134.out 0).trans rfl
       have hcz21_1 : w17.cell? ⟨gb134, 1, none⟩ = some (.string a0_1) := (blk_cell BK134.out 1).trans rfl
       have hcz21_2 : w17.cell? ⟨gb134, 2, none⟩ = some (.int .i64 a0_2) := (blk_cell BK134.out 2).trans rfl
       have hcz21_3 : w17.cell? ⟨gb134, 3, none⟩ = some (.int .i64 a0_3) := (blk_cell BK134.out 3).trans rfl
       have hcz21_4 : w17.cell? ⟨gb134, 4, none⟩ = some (.string a0_4) := (blk_cell BK134.out 4).trans rfl
       have hcz21_5 : w17.cell? ⟨gb134, 5, none⟩ = some (.string a0_5) := (blk_cell BK134.out 5).trans rfl
       have hcz21_6 : w17.cell? ⟨gb134, 6, none⟩ = some (.slice A0_6 l0_6.length c0_6) := (blk_cell BK134.out 6).trans rfl
       have hfz21_0 := blk_frozen BK134.out 0
       have hfz21_1 := blk_frozen BK134.out 1
       have hfz21_2 := blk_frozen BK134.out 2
       have hfz21_3 := blk_frozen BK134.out 3
       have hfz21_4 := blk_frozen BK134.out 4
       have hfz21_5 := blk_frozen BK134.out 5
       have hfz21_6 := blk_frozen BK134.out 6
       go_wp2_with (first | ((with_reducible refine gate_callee (f := 134) rfl ?_); refine goesL_ (some 28) rfl rfl Tryd.func134 (by kernel_rfl) rfl #[.int .i64 a0_2, .int .i64 1000000000000] rfl (by (try simp only [List.map_toArray, List.map_cons, List.map_nil]); first | done | rfl | (simp only [List.length_drop, List.length_take]; rfl)) ?_; (with_reducible refine (entry_within.calls a0_2 1000000000000 true _ A18.out).mono ?_); rintro e w' ⟨rfl, ⟨nd, rfl⟩⟩; refine ⟨_, rfl, ?_⟩) | (go_at_call 134; (with_reducible refine (entry_within.calls a0_3 1000000000000 t140 _ A20.out).mono ?_); rintro e w' ⟨rfl, ⟨nd, rfl⟩⟩))
       go_meet
       case rel => exact ⟨_, (!t140), (by first | rfl | (simp; done) | (simp [*]; done)), H', ⟨by have := HJ1.out; first | omega | exact Nat.le_refl _⟩, ⟨by (with_reducible repeat (first | refine blk_drewN ?_ _ | refine blk_drew ?_ | refine blk_alloc ?_ _)); exact BK134.out⟩, ⟨by repeat (first | (with_reducible first | exact HB.out | apply below_alloc | apply pw_below_drewN | apply below_drew1 | refine below_set ?_ GE134.out) | exact HB.out)⟩⟩
      ·replace c19 := Bool.eq_false_iff.mpr c19
       subst c19
       have H1 : (entry_Line.j1 kj1 true a0_0 a0_1 a0_2 a0_3 a0_4 a0_5 l0_6) = some r := by rw [if_neg (show ¬ (false = true) by decide)] at H; exact H
       clear H
       have H := H1
       clear H1
       have H' := Aside0.mk H
       clear H
       have hcz22_0 : w17.cell? ⟨gb134, 0, none⟩ = some (.string a0_0) := (blk_cell BK134.out 0).trans rfl
       have hcz22_1 : w17.cell? ⟨gb134, 1, none⟩ = some (.string a0_1) := (blk_cell BK134.out 1).trans rfl
       have hcz22_2 : w17.cell? ⟨gb134, 2, none⟩ = some (.int .i64 a0_2) := (blk_cell BK134.out 2).trans rfl
       have hcz22_3 : w17.cell? ⟨gb134, 3, none⟩ = some (.int .i64 a0_3) := (blk_cell BK134.out 3).trans rfl
       have hcz22_4 : w17.cell? ⟨gb134, 4, none⟩ = some (.string a0_4) := (blk_cell BK134.out 4).trans rfl
       have hcz22_5 : w17.cell? ⟨gb134, 5, none⟩ = some (.string a0_5) := (blk_cell BK134.out 5).trans rfl
       have hcz22_6 : w17.cell? ⟨gb134, 6, none⟩ = some (.slice A0_6 l0_6.length c0_6) := (blk_cell BK134.out 6).trans rfl
       have hfz22_0 := blk_frozen BK134.out 0
       have hfz22_1 := blk_frozen BK134.out 1
       have hfz22_2 := blk_frozen BK134.out 2
       have hfz22_3 := blk_frozen BK134.out 3
       have hfz22_4 := blk_frozen BK134.out 4
       have hfz22_5 := blk_frozen BK134.out 5
       have hfz22_6 := blk_frozen BK134.out 6
       go_wp2_with (first | ((with_reducible refine gate_callee (f := 134) rfl ?_); refine goesL_ (some 28) rfl rfl Tryd.func134 (by kernel_rfl) rfl #[.int .i64 a0_2, .int .i64 1000000000000] rfl (by (try simp only [List.map_toArray, List.map_cons, List.map_nil]); first | done | rfl | (simp only [List.length_drop, List.length_take]; rfl)) ?_; (with_reducible refine (entry_within.calls a0_2 1000000000000 false _ A18.out).mono ?_); rintro e w' ⟨rfl, ⟨nd, rfl⟩⟩; refine ⟨_, rfl, ?_⟩))
       go_meet
       case rel => exact ⟨_, (true), (by first | rfl | (simp; done) | (simp [*]; done)), H', ⟨by have := HJ1.out; first | omega | exact Nat.le_refl _⟩, ⟨by (with_reducible repeat (first | refine blk_drewN ?_ _ | refine blk_drew ?_ | refine blk_alloc ?_ _)); exact BK134.out⟩, ⟨by repeat (first | (with_reducible first | exact HB.out | apply below_alloc | apply pw_below_drewN | apply below_drew1 | refine below_set ?_ GE134.out) | exact HB.out)⟩⟩
     case rest =>
      clear HC15
      try clear c1
      try clear p2
      try clear c5
      try clear c7
      try clear c8
      try clear c9
      try clear c12
      try clear c13
      try clear c14
      try clear c19
      try clear hcz10_0
      try clear hcz10_1
      try clear hcz10_2
      try clear hcz10_3
      try clear hcz10_4
      try clear hcz10_5
      try clear hcz10_6
      try clear hcz11_0
      try clear hcz11_1
      try clear hcz11_2
      try clear hcz11_3
      try clear hcz11_4
      try clear hcz11_5
      try clear hcz11_6
      try clear hcz16_0
      try clear hcz16_1
      try clear hcz16_2
      try clear hcz16_3
      try clear hcz16_4
      try clear hcz16_5
      try clear hcz16_6
      try clear hcz21_0
      try clear hcz21_1
      try clear hcz21_2
      try clear hcz21_3
      try clear hcz21_4
      try clear hcz21_5
      try clear hcz21_6
      try clear hcz22_0
      try clear hcz22_1
      try clear hcz22_2
      try clear hcz22_3
      try clear hcz22_4
      try clear hcz22_5
      try clear hcz22_6
      try clear hcz9_0
      try clear hcz9_1
      try clear hcz9_2
      try clear hcz9_3
      try clear hcz9_4
      try clear hcz9_5
      try clear hcz9_6
      try clear hfz10_0
      try clear hfz10_1
      try clear hfz10_2
      try clear hfz10_3
      try clear hfz10_4
      try clear hfz10_5
      try clear hfz10_6
      try clear hfz11_0
      try clear hfz11_1
      try clear hfz11_2
      try clear hfz11_3
      try clear hfz11_4
      try clear hfz11_5
      try clear hfz11_6
      try clear hfz16_0
      try clear hfz16_1
      try clear hfz16_2
      try clear hfz16_3
      try clear hfz16_4
      try clear hfz16_5
      try clear hfz16_6
      try clear hfz21_0
      try clear hfz21_1
      try clear hfz21_2
      try clear hfz21_3
      try clear hfz21_4
      try clear hfz21_5
      try clear hfz21_6
      try clear hfz22_0
      try clear hfz22_1
      try clear hfz22_2
      try clear hfz22_3
      try clear hfz22_4
      try clear hfz22_5
      try clear hfz22_6
      try clear hfz9_0
      try clear hfz9_1
      try clear hfz9_2
      try clear hfz9_3
      try clear hfz9_4
      try clear hfz9_5
      try clear hfz9_6
      try clear p2
      obtain ⟨kq, x25_14, rfl, HA, HJ14, BK134, HB⟩ := hcut
      cases kq with
      | zero => exact absurd HA.out (by simp [entry_Line.j1])
      | succ kj14 =>
       have H := HA.out
       clear HA
       simp only [entry_Line.j1] at H
       by_cases c23 : x25_14 = true
       ·subst c23
        have H1 : (some 4) = some r := by rw [if_pos rfl] at H; exact H
        clear H
        have H := H1
        clear H1
        obtain rfl := Option.some.inj H
        go_wp2
        go_ret
        exact ⟨by first | rfl | (simp [errW_none, errW_some] <;> rfl) | (simp [*, errW_none, errW_some] <;> rfl), by repeat (first | (with_reducible first | exact HB.out | apply below_alloc | apply pw_below_drewN | apply below_drew1 | refine below_set ?_ GE134.out) | exact HB.out)⟩
       ·replace c23 := Bool.eq_false_iff.mpr c23
        subst c23
        have H1 : (if a0_2 = 0 then (entry_Line.j2 kj14 (a0_3 == 0) a0_0 a0_1 a0_2 a0_3 a0_4 a0_5 l0_6) else (entry_Line.j2 kj14 false a0_0 a0_1 a0_2 a0_3 a0_4 a0_5 l0_6)) = some r := by rw [if_neg (show ¬ (false = true) by decide)] at H; exact H
        clear H
        have H := H1
        clear H1
        have HC24 := Aside0.mk H
        clear H
        go_upto_region 7 with (fail)
        go_cut [36] (fun v36 wc => ∃ (kq : Nat) (x36_23 : Bool), v36 = .bool x36_23 ∧ Aside0 (entry_Line.j2 kq x36_23 a0_0 a0_1 a0_2 a0_3 a0_4 a0_5 l0_6 = some r) ∧ Aside0 (kq ≤ kj14) ∧ Aside0 (wc.heap[gb134]? = some (.cells #[.string a0_0, .string a0_1, .int .i64 a0_2, .int .i64 a0_3, .string a0_4, .string a0_5, (.slice A0_6 l0_6.length c0_6)] 109 (0, 0))) ∧ Aside0 (Below w.heap.size w wc))
        case first =>
         have H := HC24.out
         clear HC24
         by_cases c25 : a0_2 = 0
         ·rw [if_pos c25] at H
          have c25b0 : (a0_2 == 0) = true := beq_iff_eq.mpr c25
          have c25b1 : (a0_2 != 0) = false := bne_eq_false_iff_eq.mpr c25
          clear c25
          (first | rw [c25b0] | (simp only [i64_w, i32_w]; rw [c25b0]) | skip)
          have H' := Aside0.mk H
          clear H
          have hcz26_0 : wc.cell? ⟨gb134, 0, none⟩ = some (.string a0_0) := (blk_cell BK134.out 0).trans rfl
          have hcz26_1 : wc.cell? ⟨gb134, 1, none⟩ = some (.string a0_1) := (blk_cell BK134.out 1).trans rfl
          have hcz26_2 : wc.cell? ⟨gb134, 2, none⟩ = some (.int .i64 a0_2) := (blk_cell BK134.out 2).trans rfl
          have hcz26_3 : wc.cell? ⟨gb134, 3, none⟩ = some (.int .i64 a0_3) := (blk_cell BK134.out 3).trans rfl
          have hcz26_4 : wc.cell? ⟨gb134, 4, none⟩ = some (.string a0_4) := (blk_cell BK134.out 4).trans rfl
          have hcz26_5 : wc.cell? ⟨gb134, 5, none⟩ = some (.string a0_5) := (blk_cell BK134.out 5).trans rfl
          have hcz26_6 : wc.cell? ⟨gb134, 6, none⟩ = some (.slice A0_6 l0_6.length c0_6) := (blk_cell BK134.out 6).trans rfl
          have hfz26_0 := blk_frozen BK134.out 0
          have hfz26_1 := blk_frozen BK134.out 1
          have hfz26_2 := blk_frozen BK134.out 2
          have hfz26_3 := blk_frozen BK134.out 3
          have hfz26_4 := blk_frozen BK134.out 4
          have hfz26_5 := blk_frozen BK134.out 5
          have hfz26_6 := blk_frozen BK134.out 6
          go_wp2
          go_meet
          case rel => exact ⟨_, ((a0_3 == 0)), (by first | rfl | (simp; done) | (simp [*]; done)), H', ⟨by have := HJ1.out; have := HJ14.out; first | omega | exact Nat.le_refl _⟩, ⟨by (with_reducible repeat (first | refine blk_drewN ?_ _ | refine blk_drew ?_ | refine blk_alloc ?_ _)); exact BK134.out⟩, ⟨by repeat (first | (with_reducible first | exact HB.out | apply below_alloc | apply pw_below_drewN | apply below_drew1 | refine below_set ?_ GE134.out) | exact HB.out)⟩⟩
         ·rw [if_neg c25] at H
          have c25b0 : (a0_2 == 0) = false := beq_eq_false_iff_ne.mpr c25
          have c25b1 : (a0_2 != 0) = true := bne_iff_ne.mpr c25
          (first | rw [c25b0] | (simp only [i64_w, i32_w]; rw [c25b0]) | skip)
          have H' := Aside0.mk H
          clear H
          have hcz27_0 : wc.cell? ⟨gb134, 0, none⟩ = some (.string a0_0) := (blk_cell BK134.out 0).trans rfl
          have hcz27_1 : wc.cell? ⟨gb134, 1, none⟩ = some (.string a0_1) := (blk_cell BK134.out 1).trans rfl
          have hcz27_2 : wc.cell? ⟨gb134, 2, none⟩ = some (.int .i64 a0_2) := (blk_cell BK134.out 2).trans rfl
          have hcz27_3 : wc.cell? ⟨gb134, 3, none⟩ = some (.int .i64 a0_3) := (blk_cell BK134.out 3).trans rfl
          have hcz27_4 : wc.cell? ⟨gb134, 4, none⟩ = some (.string a0_4) := (blk_cell BK134.out 4).trans rfl
          have hcz27_5 : wc.cell? ⟨gb134, 5, none⟩ = some (.string a0_5) := (blk_cell BK134.out 5).trans rfl
          have hcz27_6 : wc.cell? ⟨gb134, 6, none⟩ = some (.slice A0_6 l0_6.length c0_6) := (blk_cell BK134.out 6).trans rfl
          have hfz27_0 := blk_frozen BK134.out 0
          have hfz27_1 := blk_frozen BK134.out 1
          have hfz27_2 := blk_frozen BK134.out 2
          have hfz27_3 := blk_frozen BK134.out 3
          have hfz27_4 := blk_frozen BK134.out 4
          have hfz27_5 := blk_frozen BK134.out 5
          have hfz27_6 := blk_frozen BK134.out 6
          go_wp2
          go_meet
          case rel => exact ⟨_, (false), (by first | rfl | (simp; done) | (simp [*]; done)), H', ⟨by have := HJ1.out; have := HJ14.out; first | omega | exact Nat.le_refl _⟩, ⟨by (with_reducible repeat (first | refine blk_drewN ?_ _ | refine blk_drew ?_ | refine blk_alloc ?_ _)); exact BK134.out⟩, ⟨by repeat (first | (with_reducible first | exact HB.out | apply below_alloc | apply pw_below_drewN | apply below_drew1 | refine below_set ?_ GE134.out) | exact HB.out)⟩⟩
        case rest =>
         clear HC24
         try clear c1
         try clear c2
         try clear p2
         try clear c5
         try clear c7
         try clear c8
         try clear c9
         try clear c12
         try clear c13
         try clear c14
         try clear c19
         try clear c23
         try clear c25
         try clear c25b0
         try clear c25b1
         try clear hcz10_0
         try clear hcz10_1
         try clear hcz10_2
         try clear hcz10_3
         try clear hcz10_4
         try clear hcz10_5
         try clear hcz10_6
         try clear hcz11_0
         try clear hcz11_1
         try clear hcz11_2
         try clear hcz11_3
         try clear hcz11_4
         try clear hcz11_5
         try clear hcz11_6
         try clear hcz16_0
         try clear hcz16_1
         try clear hcz16_2
         try clear hcz16_3
         try clear hcz16_4
         try clear hcz16_5
         try clear hcz16_6
         try clear hcz21_0
         try clear hcz21_1
         try clear hcz21_2
         try clear hcz21_3
         try clear hcz21_4
         try clear hcz21_5
         try clear hcz21_6
         try clear hcz22_0
         try clear hcz22_1
         try clear hcz22_2
         try clear hcz22_3
         try clear hcz22_4
         try clear hcz22_5
         try clear hcz22_6
         try clear hcz26_0
         try clear hcz26_1
         try clear hcz26_2
         try clear hcz26_3
         try clear hcz26_4
         try clear hcz26_5
         try clear hcz26_6
         try clear hcz27_0
         try clear hcz27_1
         try clear hcz27_2
         try clear hcz27_3
         try clear hcz27_4
         try clear hcz27_5
         try clear hcz27_6
         try clear hcz9_0
         try clear hcz9_1
         try clear hcz9_2
         try clear hcz9_3
         try clear hcz9_4
         try clear hcz9_5
         try clear hcz9_6
         try clear hfz10_0
         try clear hfz10_1
         try clear hfz10_2
         try clear hfz10_3
         try clear hfz10_4
         try clear hfz10_5
         try clear hfz10_6
         try clear hfz11_0
         try clear hfz11_1
         try clear hfz11_2
         try clear hfz11_3
         try clear hfz11_4
         try clear hfz11_5
         try clear hfz11_6
         try clear hfz16_0
         try clear hfz16_1
         try clear hfz16_2
         try clear hfz16_3
         try clear hfz16_4
         try clear hfz16_5
         try clear hfz16_6
         try clear hfz21_0
         try clear hfz21_1
         try clear hfz21_2
         try clear hfz21_3
         try clear hfz21_4
         try clear hfz21_5
         try clear hfz21_6
         try clear hfz22_0
         try clear hfz22_1
         try clear hfz22_2
         try clear hfz22_3
         try clear hfz22_4
         try clear hfz22_5
         try clear hfz22_6
         try clear hfz26_0
         try clear hfz26_1
         try clear hfz26_2
         try clear hfz26_3
         try clear hfz26_4
         try clear hfz26_5
         try clear hfz26_6
         try clear hfz27_0
         try clear hfz27_1
         try clear hfz27_2
         try clear hfz27_3
         try clear hfz27_4
         try clear hfz27_5
         try clear hfz27_6
         try clear hfz9_0
         try clear hfz9_1
         try clear hfz9_2
         try clear hfz9_3
         try clear hfz9_4
         try clear hfz9_5
         try clear hfz9_6
         try clear p2
         obtain ⟨kq, x36_23, rfl, HA, HJ23, BK134, HB⟩ := hcut
         cases kq with
         | zero => exact absurd HA.out (by simp [entry_Line.j2])
         | succ kj23 =>
          have H := HA.out
          clear HA
          simp only [entry_Line.j2] at H
          by_cases c28 : x36_23 = true
          ·subst c28
           have H1 : (some 2) = some r := by rw [if_pos rfl] at H; exact H
           clear H
           have H := H1
           clear H1
           obtain rfl := Option.some.inj H
           go_wp2
           go_ret
           exact ⟨by first | rfl | (simp [errW_none, errW_some] <;> rfl) | (simp [*, errW_none, errW_some] <;> rfl), by repeat (first | (with_reducible first | exact HB.out | apply below_alloc | apply pw_below_drewN | apply below_drew1 | refine below_set ?_ GE134.out) | exact HB.out)⟩
          ·replace c28 := Bool.eq_false_iff.mpr c28
           subst c28
           have H1 : ((dims_Right.f kj23 l0_6).bind fun t141 => (if t141 = true then (some 0) else (some 14))) = some r := by rw [if_neg (show ¬ (false = true) by decide)] at H; exact H
           clear H
           have H := H1
           clear H1
           replace H := Option.bind_eq_some_iff.mp H
           obtain ⟨t141, A290, H⟩ := H
           replace H : (if t141 = true then (some 0) else (some 14)) = some r := H
           have A29 := Aside0.mk A290
           clear A290
           by_cases c30 : t141 = true
           ·subst c30
            have H1 : (some 0) = some r := by rw [if_pos rfl] at H; exact H
            clear H
            have H := H1
            clear H1
            obtain rfl := Option.some.inj H
            have hcz31_0 : wc.cell? ⟨gb134, 0, none⟩ = some (.string a0_0) := (blk_cell BK134.out 0).trans rfl
            have hcz31_1 : wc.cell? ⟨gb134, 1, none⟩ = some (.string a0_1) := (blk_cell BK134.out 1).trans rfl
            have hcz31_2 : wc.cell? ⟨gb134, 2, none⟩ = some (.int .i64 a0_2) := (blk_cell BK134.out 2).trans rfl
            have hcz31_3 : wc.cell? ⟨gb134, 3, none⟩ = some (.int .i64 a0_3) := (blk_cell BK134.out 3).trans rfl
            have hcz31_4 : wc.cell? ⟨gb134, 4, none⟩ = some (.string a0_4) := (blk_cell BK134.out 4).trans rfl
            have hcz31_5 : wc.cell? ⟨gb134, 5, none⟩ = some (.string a0_5) := (blk_cell BK134.out 5).trans rfl
            have hcz31_6 : wc.cell? ⟨gb134, 6, none⟩ = some (.slice A0_6 l0_6.length c0_6) := (blk_cell BK134.out 6).trans rfl
            have hfz31_0 := blk_frozen BK134.out 0
            have hfz31_1 := blk_frozen BK134.out 1
            have hfz31_2 := blk_frozen BK134.out 2
            have hfz31_3 := blk_frozen BK134.out 3
            have hfz31_4 := blk_frozen BK134.out 4
            have hfz31_5 := blk_frozen BK134.out 5
            have hfz31_6 := blk_frozen BK134.out 6
            go_wp2_with (first | ((with_reducible refine gate_callee (f := 129) rfl ?_); refine goesL_ (some 48) rfl rfl Tryd.func129 (by kernel_rfl) rfl #[.slice A0_6 l0_6.length c0_6] rfl (by (try simp only [List.map_toArray, List.map_cons, List.map_nil]); first | done | rfl | (simp only [List.length_drop, List.length_take]; rfl)) ?_; (with_reducible refine (dims_Right.calls kj23 _ _ l0_6 true _ ?side1 ?side2 A29.out).mono ?_); (case side1 => repeat (first | exact (Kd.C_below HR0_6.out HB.out) | (with_reducible refine Kd.C_alloc ?_ _) | (with_reducible refine Kd.C_drewN ?_ _) | (with_reducible refine Kd.C_drew ?_))); (case side2 => exact HC0_6.out); rintro e w32 ⟨rfl, hb⟩; refine ⟨_, rfl, ?_⟩; have n0_ := Aside0.mk (blk_below (g := gb134) (o := .cells #[.string a0_0, .string a0_1, .int .i64 a0_2, .int .i64 a0_3, .string a0_4, .string a0_5, .slice A0_6 l0_6.length c0_6] 109 (0, 0)) (by (with_reducible repeat (first | refine blk_drewN ?_ _ | refine blk_drew ?_ | refine blk_alloc ?_ _)); exact BK134.out) hb); have n1_ := Aside0.mk (below_step (by repeat (first | (with_reducible first | exact HB.out | apply below_alloc | apply pw_below_drewN | apply below_drew1 | refine below_set ?_ GE134.out) | exact HB.out)) hb); clear BK134; clear HB; have BK134 := n0_; have HB := n1_; clear n0_ n1_; (try clear hb); (try clear hb2); (try clear hk); (try clear hi)))
            go_ret
            exact ⟨by first | rfl | (simp [errW_none, errW_some] <;> rfl) | (simp [*, errW_none, errW_some] <;> rfl), by repeat (first | (with_reducible first | exact HB.out | apply below_alloc | apply pw_below_drewN | apply below_drew1 | refine below_set ?_ GE134.out) | exact HB.out)⟩
           ·replace c30 := Bool.eq_false_iff.mpr c30
            subst c30
            have H1 : (some 14) = some r := by rw [if_neg (show ¬ (false = true) by decide)] at H; exact H
            clear H
            have H := H1
            clear H1
            obtain rfl := Option.some.inj H
            have hcz33_0 : wc.cell? ⟨gb134, 0, none⟩ = some (.string a0_0) := (blk_cell BK134.out 0).trans rfl
            have hcz33_1 : wc.cell? ⟨gb134, 1, none⟩ = some (.string a0_1) := (blk_cell BK134.out 1).trans rfl
            have hcz33_2 : wc.cell? ⟨gb134, 2, none⟩ = some (.int .i64 a0_2) := (blk_cell BK134.out 2).trans rfl
            have hcz33_3 : wc.cell? ⟨gb134, 3, none⟩ = some (.int .i64 a0_3) := (blk_cell BK134.out 3).trans rfl
            have hcz33_4 : wc.cell? ⟨gb134, 4, none⟩ = some (.string a0_4) := (blk_cell BK134.out 4).trans rfl
            have hcz33_5 : wc.cell? ⟨gb134, 5, none⟩ = some (.string a0_5) := (blk_cell BK134.out 5).trans rfl
            have hcz33_6 : wc.cell? ⟨gb134, 6, none⟩ = some (.slice A0_6 l0_6.length c0_6) := (blk_cell BK134.out 6).trans rfl
            have hfz33_0 := blk_frozen BK134.out 0
            have hfz33_1 := blk_frozen BK134.out 1
            have hfz33_2 := blk_frozen BK134.out 2
            have hfz33_3 := blk_frozen BK134.out 3
            have hfz33_4 := blk_frozen BK134.out 4
            have hfz33_5 := blk_frozen BK134.out 5
            have hfz33_6 := blk_frozen BK134.out 6
            go_wp2_with (first | ((with_reducible refine gate_callee (f := 129) rfl ?_); refine goesL_ (some 48) rfl rfl Tryd.func129 (by kernel_rfl) rfl #[.slice A0_6 l0_6.length c0_6] rfl (by (try simp only [List.map_toArray, List.map_cons, List.map_nil]); first | done | rfl | (simp only [List.length_drop, List.length_take]; rfl)) ?_; (with_reducible refine (dims_Right.calls kj23 _ _ l0_6 false _ ?side1 ?side2 A29.out).mono ?_); (case side1 => repeat (first | exact (Kd.C_below HR0_6.out HB.out) | (with_reducible refine Kd.C_alloc ?_ _) | (with_reducible refine Kd.C_drewN ?_ _) | (with_reducible refine Kd.C_drew ?_))); (case side2 => exact HC0_6.out); rintro e w34 ⟨rfl, hb⟩; refine ⟨_, rfl, ?_⟩; have n0_ := Aside0.mk (blk_below (g := gb134) (o := .cells #[.string a0_0, .string a0_1, .int .i64 a0_2, .int .i64 a0_3, .string a0_4, .string a0_5, .slice A0_6 l0_6.length c0_6] 109 (0, 0)) (by (with_reducible repeat (first | refine blk_drewN ?_ _ | refine blk_drew ?_ | refine blk_alloc ?_ _)); exact BK134.out) hb); have n1_ := Aside0.mk (below_step (by repeat (first | (with_reducible first | exact HB.out | apply below_alloc | apply pw_below_drewN | apply below_drew1 | refine below_set ?_ GE134.out) | exact HB.out)) hb); clear BK134; clear HB; have BK134 := n0_; have HB := n1_; clear n0_ n1_; (try clear hb); (try clear hb2); (try clear hk); (try clear hi)))
            go_ret
            exact ⟨by first | rfl | (simp [errW_none, errW_some] <;> rfl) | (simp [*, errW_none, errW_some] <;> rfl), by repeat (first | (with_reducible first | exact HB.out | apply below_alloc | apply pw_below_drewN | apply below_drew1 | refine below_set ?_ GE134.out) | exact HB.out)⟩
    ·replace c14 := Bool.eq_false_iff.mpr c14
     subst c14
     have H1 : (some 13) = some r := by rw [if_neg (show ¬ (false = true) by decide)] at H; exact H
     clear H
     have H := H1
     clear H1
     obtain rfl := Option.some.inj H
     have hcz35_0 : wc.cell? ⟨gb134, 0, none⟩ = some (.string a0_0) := (blk_cell BK134.out 0).trans rfl
     have hcz35_1 : wc.cell? ⟨gb134, 1, none⟩ = some (.string a0_1) := (blk_cell BK134.out 1).trans rfl
     have hcz35_2 : wc.cell? ⟨gb134, 2, none⟩ = some (.int .i64 a0_2) := (blk_cell BK134.out 2).trans rfl
     have hcz35_3 : wc.cell? ⟨gb134, 3, none⟩ = some (.int .i64 a0_3) := (blk_cell BK134.out 3).trans rfl
     have hcz35_4 : wc.cell? ⟨gb134, 4, none⟩ = some (.string a0_4) := (blk_cell BK134.out 4).trans rfl
     have hcz35_5 : wc.cell? ⟨gb134, 5, none⟩ = some (.string a0_5) := (blk_cell BK134.out 5).trans rfl
     have hcz35_6 : wc.cell? ⟨gb134, 6, none⟩ = some (.slice A0_6 l0_6.length c0_6) := (blk_cell BK134.out 6).trans rfl
     have hfz35_0 := blk_frozen BK134.out 0
     have hfz35_1 := blk_frozen BK134.out 1
     have hfz35_2 := blk_frozen BK134.out 2
     have hfz35_3 := blk_frozen BK134.out 3
     have hfz35_4 := blk_frozen BK134.out 4
     have hfz35_5 := blk_frozen BK134.out 5
     have hfz35_6 := blk_frozen BK134.out 6
     go_wp2_with (first | ((with_reducible refine gate_callee (f := 81) rfl ?_); refine goesL_ (some 23) rfl rfl Tryd.func81 (by kernel_rfl) rfl #[.string a0_1] rfl (by (try simp only [List.map_toArray, List.map_cons, List.map_nil]); first | done | rfl | (simp only [List.length_drop, List.length_take]; rfl)) ?_; (with_reducible refine (money_Code.calls a0_1 false _ A13.out).mono ?_); rintro e w36 ⟨rfl, hb⟩; refine ⟨_, rfl, ?_⟩; have n0_ := Aside0.mk (blk_below (g := gb134) (o := .cells #[.string a0_0, .string a0_1, .int .i64 a0_2, .int .i64 a0_3, .string a0_4, .string a0_5, .slice A0_6 l0_6.length c0_6] 109 (0, 0)) (by (with_reducible repeat (first | refine blk_drewN ?_ _ | refine blk_drew ?_ | refine blk_alloc ?_ _)); exact BK134.out) hb); have n1_ := Aside0.mk (below_step (by repeat (first | (with_reducible first | exact HB.out | apply below_alloc | apply pw_below_drewN | apply below_drew1 | refine below_set ?_ GE134.out) | exact HB.out)) hb); clear BK134; clear HB; have BK134 := n0_; have HB := n1_; clear n0_ n1_; (try clear hb); (try clear hb2); (try clear hk); (try clear hi)))
     go_ret
     exact ⟨by first | rfl | (simp [errW_none, errW_some] <;> rfl) | (simp [*, errW_none, errW_some] <;> rfl), by repeat (first | (with_reducible first | exact HB.out | apply below_alloc | apply pw_below_drewN | apply below_drew1 | refine below_set ?_ GE134.out) | exact HB.out)⟩
end Go.Proofs.YtppcjoaghlecmaaDoor.P
namespace Go.Proofs.YtppcjoaghlecmaaDoor.P
open Go.RowKit Go.Sort Go.Proofs.YtppcjoaghlecmaaDoorW.PrintWords Go.Proofs.YtppcjoaghlecmaaDoorW.PrintLast Go.Proofs.YtppcjoaghlecmaaDoorW.PrintMore
set_option linter.unusedVariables false
set_option linter.unusedSimpArgs false
structure CmpB (w0 : World) (blk pc pk : Nat) : Prop where
 hc : w0.cell? ⟨pc, 0, none⟩ = some (.func (.func 62) #[] #[])
 hk : w0.cell? ⟨pk, 0, none⟩ = some (.func (.func 61) #[] #[])
 nc : pc ≠ blk
 nk : pk ≠ blk
theorem comp_grown {w0 W : World} {blk off pc pk : Nat} {dk : Array S112} (h : SWK e34 7 w0 blk off dk W) (C : CmpB w0 blk pc pk) (x y : S112) (n : Nat) (os : Array Obj) :
  Calls Tryd.prog 109 #[.agg #[.string x.f0.f0, .string x.f0.f1, .string x.f0.f2, .string x.f0.f3, .string x.f0.f4, .int .i64 x.f1, .int .i64 x.f2], .agg #[.string y.f0.f0, .string y.f0.f1, .string y.f0.f2, .string y.f0.f3, .string y.f0.f4, .int .i64 y.f1, .int .i64 y.f2], .pointer (some ⟨pc, 0, none⟩), .pointer (some ⟨pk, 0, none⟩)] (grow (W.drewN n) os) fun e w' => e = .returned (.int .i64 (cmpC x y)) ∧ ∃ q os', w' = grow ((grow (W.drewN n) os).drewN q) os' :=
 comp_calls x y pc pk _ (keep_grow (swk_cell h C.nc C.hc)) (keep_grow (swk_cell h C.nk C.hk))
abbrev ltC : S112 → S112 → Bool := Go.Proofs.ltOf cmpC
set_option maxHeartbeats 8000000 in
set_option maxRecDepth 1000000 in
theorem insertion_calls (blk off cap a b pc pk : Nat) (d0 d : Array S112) (w0 w : World) (R : RowK e34 7 w0 blk off d0) (C : CmpB w0 blk pc pk) (hs : d0.size = d.size) (S : SWK e34 7 w0 blk off d w) (hab : a ≤ b) (hb : b ≤ d.size) (hsz : d.size < 2305843009213693952) :
  Calls Tryd.prog 175 #[.slice (some ⟨blk, off, none⟩) d.size cap, .int .i64 a, .int .i64 b, .func (.func 109) #[] #[.pointer (some ⟨pc, 0, none⟩), .pointer (some ⟨pk, 0, none⟩)]] w fun e w' => e = .returned (.tuple #[]) ∧ SWK e34 7 w0 blk off (Sort.insertionSort ltC d a b) w' := by
 have S0 := Aside0.mk S
 have HR := Aside0.mk R
 have HCB := Aside0.mk C
 clear S R C
 go_enter Tryd.func175, Tryd.ntmps175
 go_wp2
 go_loopw [8, 9, 12, 13, 14, 15, 16, 17, 18, 19, 20, 21, 22, 23, 24, 25, 26, 27, 28, 29, 30, 31, 32, 33, 34, 35, 36, 37, 38, 39, 40, 41, 42, 43, 44, 45, 46, 47, 48, 49, 50, 51, 52] (fun v8 _ _ _ _ _ _ _ _ _ _ _ _ _ _ _ _ _ _ _ _ _ _ _ _ _ _ _ _ _ _ _ _ _ _ _ _ _ _ _ _ _ _ wr => ∃ (i : Nat) (dk : Array S112), a + 1 ≤ i ∧ i ≤ b + 1 ∧ v8 = .int .i64 i ∧ dk.size = d.size ∧ Aside0 (SWK e34 7 w0 blk off dk wr) ∧ Aside0 (insOuter ltC a b i dk = insOuter ltC a b (a + 1) d)) (fun v8 _ _ _ _ _ _ _ _ _ _ _ _ _ _ _ _ _ _ _ _ _ _ _ _ _ _ _ _ _ _ _ _ _ _ _ _ _ _ _ _ _ _ _ => b + 1 - (intOf v8).toNat)
 case atStart => exact ⟨a + 1, d, Nat.le_refl _, by omega, by go_num, rfl, S0, ⟨rfl⟩⟩
 case round =>
  clear S0
  obtain ⟨i, dk, hai, hib, rfl, hdz, S1, HO⟩ := hrel
  by_cases hlt : i < b
  ·have d1 : decide ((i : Int) < (b : Int)) = true := decide_eq_true (by omega)
   have d2 : decide (i < b) = true := decide_eq_true hlt
   go_wp2
   go_loopw [9, 18, 19, 20, 21, 22, 23, 24, 25, 26, 27, 28, 29, 30, 31, 32, 33, 34, 35, 36, 37, 38, 39, 40, 41, 42, 43, 44, 45, 46, 47, 48, 49, 50, 51, 52] (fun v9 _ _ _ _ _ _ _ _ _ _ _ _ _ _ _ _ _ _ _ _ _ _ _ _ _ _ _ _ _ _ _ _ _ _ _ wr => ∃ (j : Nat) (dj : Array S112), a ≤ j ∧ j ≤ i ∧ v9 = .int .i64 j ∧ dj.size = d.size ∧ Aside0 (SWK e34 7 w0 blk off dj wr) ∧ Aside0 (insInner ltC a j dj = insInner ltC a i dk)) (fun v9 _ _ _ _ _ _ _ _ _ _ _ _ _ _ _ _ _ _ _ _ _ _ _ _ _ _ _ _ _ _ _ _ _ _ _ _ => (intOf v9).toNat)
   case atStart => exact ⟨i, dk, by omega, Nat.le_refl _, rfl, hdz, S1, ⟨rfl⟩⟩
   case round =>
    clear S1
    obtain ⟨j, dj, haj, hji, rfl, hjz, S1, HI⟩ := hrel
    have OUT := Aside0.mk (show (j ≤ a ∨ ltC dj[j]! dj[j - 1]! = false) → insOuter ltC a b (i + 1) dj = insOuter ltC a b (a + 1) d from fun hs => by
     rw [← HO.out, insOuter_go _ _ _ _ _ hlt, ← HI.out, insInner_stop _ _ _ _ hs])
    by_cases hja : a < j
    ·have d3 : decide ((a : Int) < (j : Int)) = true := decide_eq_true (by omega)
     have d4 : decide (a < j) = true := decide_eq_true hja
     obtain ⟨p, rfl⟩ : ∃ p, j = p + 1 := ⟨j - 1, by omega⟩
     have e1 : ((p + 1 : Nat) : Int) = (p : Int) + 1 := by omega
     have e2 : IntKind.i64.wrap (p : Int) = (p : Int) := by rw [IntKind.wrap_i64]; omega
     have d5 : decide ((a : Int) < (p : Int) + 1) = true := decide_eq_true (by omega)
     have E1 := Aside0.mk e1
     clear e1
     cases hl : ltC dj[p + 1]! dj[p]! with
     | true =>
      have HL := Aside0.mk hl
      clear hl
      have hn_6576 : ((p : Int) + 1).toNat = p + 1 := by omega
      have hp_6576 : (0 : Int) ≤ (p : Int) + 1 := by omega
      have hq_6576 : (p : Int) + 1 < (d.size : Int) := by omega
      have hw_6576 : IntKind.i64.wrap ((p : Int) + 1) = (p : Int) + 1 := by rw [IntKind.wrap_i64]; omega
      have hn_88947 : ((p : Int)).toNat = p := by omega
      have hp_88947 : (0 : Int) ≤ (p : Int) := by omega
      have hq_88947 : (p : Int) < (d.size : Int) := by omega
      have hw_88947 : IntKind.i64.wrap ((p : Int)) = (p : Int) := by rw [IntKind.wrap_i64]; omega
      obtain ⟨x, hx⟩ : ∃ x, dj[p + 1]! = x := ⟨_, rfl⟩
      obtain ⟨y, hy⟩ : ∃ y, dj[p]! = y := ⟨_, rfl⟩
      have cx := (sw_at S1.out HR.out (by omega) (show p + 1 < dj.size by omega)).1
      have cy := (sw_at S1.out HR.out (by omega) (show p < dj.size by omega)).1
      rw [hx] at cx
      rw [hy] at cy
      have hd : decide (cmpC x y < 0) = true := by rw [← hx, ← hy]; exact HL.out
      have hcall := fun n os => comp_grown S1.out HCB.out x y n os
      obtain ⟨x0, x1, x2, x3, x4, x5, x6⟩ := cx
      obtain ⟨y0, y1, y2, y3, y4, y5, y6⟩ := cy
      have x0 := cell_all x0
      have x1 := cell_all x1
      have x2 := cell_all x2
      have x3 := cell_all x3
      have x4 := cell_all x4
      have x5 := cell_all x5
      have x6 := cell_all x6
      have y0 := cell_all y0
      have y1 := cell_all y1
      have y2 := cell_all y2
      have y3 := cell_all y3
      have y4 := cell_all y4
      have y5 := cell_all y5
      have y6 := cell_all y6
      clear hx hy
      have mixed : Tryd.prog.follows .mixedOrders = true := by kernel_rfl
      go_wp2_with fail
      go_quiet_grown ((go_at_call 109; refine Calls.grown_of (hcall _ _)))
      have S2 := Aside0.mk (S1.out.grown nq osq)
      clear x0 x1 x2 x3 x4 x5 x6 y0 y1 y2 y3 y4 y5 y6 hcall S1 mixed
      generalize grow (wr.drewN nq) osq = w2 at S2 ⊢
      clear nq osq
      go_wp2_with fail
      have hn_6576 : ((p : Int) + 1).toNat = p + 1 := by omega
      have hp_6576 : (0 : Int) ≤ (p : Int) + 1 := by omega
      have hq_6576 : (p : Int) + 1 < (d.size : Int) := by omega
      have hw_6576 : IntKind.i64.wrap ((p : Int) + 1) = (p : Int) + 1 := by rw [IntKind.wrap_i64]; omega
      have hn_88947 : ((p : Int)).toNat = p := by omega
      have hp_88947 : (0 : Int) ≤ (p : Int) := by omega
      have hq_88947 : (p : Int) < (d.size : Int) := by omega
      have hw_88947 : IntKind.i64.wrap ((p : Int)) = (p : Int) := by rw [IntKind.wrap_i64]; omega
      obtain ⟨x, hx⟩ : ∃ x, dj[p + 1]! = x := ⟨_, rfl⟩
      obtain ⟨y, hy⟩ : ∃ y, dj[p]! = y := ⟨_, rfl⟩
      have hsw := S2.out.swapped HR.out (p + 1) (p) (by omega) (by omega)
      rw [hx, hy, sets34, sets34] at hsw
      simp only [set_drew] at hsw
      have HSW := Aside0.mk hsw
      obtain ⟨cx, fx⟩ := sw_at S2.out HR.out (by omega) (show p + 1 < dj.size by omega)
      obtain ⟨cy, fy⟩ := sw_at S2.out HR.out (by omega) (show p < dj.size by omega)
      rw [hx] at cx
      rw [hy] at cy
      obtain ⟨x0, x1, x2, x3, x4, x5, x6⟩ := cx
      obtain ⟨y0, y1, y2, y3, y4, y5, y6⟩ := cy
      obtain ⟨fx0, fx1, fx2, fx3, fx4, fx5, fx6⟩ := fx
      obtain ⟨fy0, fy1, fy2, fy3, fy4, fy5, fy6⟩ := fy
      clear hx hy hsw
      have mixed : Tryd.prog.follows .mixedOrders = true := by kernel_rfl
      go_wp2_with fail
      go_big_region_o
      refine with_world (P := fun x => Exit.inBlock _ _ _ _ x) _ ?_
      intro w3 hw3
      have S3 := Aside0.mk (show SWK e34 7 w0 blk off (swp dj (p + 1) (p)) w3 from by rw [hw3]; exact HSW.out)
      clear hw3 HSW S2 x0 x1 x2 x3 x4 x5 x6 y0 y1 y2 y3 y4 y5 y6 fx0 fx1 fx2 fx3 fx4 fx5 fx6 fy0 fy1 fy2 fy3 fy4 fy5 fy6 mixed
      go_wp2
      go_roundw
      case rel =>
       refine ⟨p, _, by omega, by omega, by first | rfl | go_num, by rw [size_swp]; exact hjz, S3, ⟨?_⟩⟩
       have := insInner_go ltC a (p + 1) dj (by omega) HL.out
       rw [← HI.out, this]
       rfl
      case measure => simp [intOf]; try omega
     | false =>
      have HL := Aside0.mk hl
      clear hl
      have hn_6576 : ((p : Int) + 1).toNat = p + 1 := by omega
      have hp_6576 : (0 : Int) ≤ (p : Int) + 1 := by omega
      have hq_6576 : (p : Int) + 1 < (d.size : Int) := by omega
      have hw_6576 : IntKind.i64.wrap ((p : Int) + 1) = (p : Int) + 1 := by rw [IntKind.wrap_i64]; omega
      have hn_88947 : ((p : Int)).toNat = p := by omega
      have hp_88947 : (0 : Int) ≤ (p : Int) := by omega
      have hq_88947 : (p : Int) < (d.size : Int) := by omega
      have hw_88947 : IntKind.i64.wrap ((p : Int)) = (p : Int) := by rw [IntKind.wrap_i64]; omega
      obtain ⟨x, hx⟩ : ∃ x, dj[p + 1]! = x := ⟨_, rfl⟩
      obtain ⟨y, hy⟩ : ∃ y, dj[p]! = y := ⟨_, rfl⟩
      have cx := (sw_at S1.out HR.out (by omega) (show p + 1 < dj.size by omega)).1
      have cy := (sw_at S1.out HR.out (by omega) (show p < dj.size by omega)).1
      rw [hx] at cx
      rw [hy] at cy
      have hd : decide (cmpC x y < 0) = false := by rw [← hx, ← hy]; exact HL.out
      have hcall := fun n os => comp_grown S1.out HCB.out x y n os
      obtain ⟨x0, x1, x2, x3, x4, x5, x6⟩ := cx
      obtain ⟨y0, y1, y2, y3, y4, y5, y6⟩ := cy
      have x0 := cell_all x0
      have x1 := cell_all x1
      have x2 := cell_all x2
      have x3 := cell_all x3
      have x4 := cell_all x4
      have x5 := cell_all x5
      have x6 := cell_all x6
      have y0 := cell_all y0
      have y1 := cell_all y1
      have y2 := cell_all y2
      have y3 := cell_all y3
      have y4 := cell_all y4
      have y5 := cell_all y5
      have y6 := cell_all y6
      clear hx hy
      have mixed : Tryd.prog.follows .mixedOrders = true := by kernel_rfl
      go_wp2_with fail
      go_quiet_grown ((go_at_call 109; refine Calls.grown_of (hcall _ _)))
      have S2 := Aside0.mk (S1.out.grown nq osq)
      clear x0 x1 x2 x3 x4 x5 x6 y0 y1 y2 y3 y4 y5 y6 hcall S1 mixed
      generalize grow (wr.drewN nq) osq = w2 at S2 ⊢
      clear nq osq
      go_wp2
      go_roundw
      case rel => exact ⟨i + 1, dj, by omega, by omega, by go_num, hjz, S2, ⟨OUT.out (.inr HL.out)⟩⟩
      case measure => simp [intOf]; omega
    ·have d3 : decide ((a : Int) < (j : Int)) = false := decide_eq_false (by omega)
     have d4 : decide (a < j) = false := decide_eq_false hja
     have mixed : Tryd.prog.follows .mixedOrders = true := by kernel_rfl
     have S2 := Aside0.mk S1.out.drew
     go_wp2_with fail
     go_big_region_o
     clear S1
     generalize wr.drew = w2 at S2 ⊢
     go_wp2
     go_roundw
     case rel => exact ⟨i + 1, dj, by omega, by omega, by go_num, hjz, S2, ⟨OUT.out (.inl (by omega))⟩⟩
     case measure => simp [intOf]; omega
  ·have d1 : decide ((i : Int) < (b : Int)) = false := decide_eq_false (by omega)
   have d2 : decide (i < b) = false := decide_eq_false hlt
   go_wp2
   go_end0
   refine ⟨rfl, ?_⟩
   have e : Sort.insertionSort ltC d a b = dk := by
    unfold Sort.insertionSort
    rw [← HO.out, insOuter_stop _ _ _ _ _ hlt]
   rw [e]
   exact S1.out
set_option maxHeartbeats 4000000 in
set_option maxRecDepth 1000000 in
theorem rotate_calls (blk off cap a m b : Nat) (d0 d : Array S112) (w0 w : World) (cmp : Value) (R : RowK e34 7 w0 blk off d0) (hs : d0.size = d.size) (S : SWK e34 7 w0 blk off d w) (h1 : a < m) (h2 : m < b) (h3 : b ≤ d.size) (hsz : d.size < 2305843009213693952) :
  Calls Tryd.prog 182 #[.slice (some ⟨blk, off, none⟩) d.size cap, .int .i64 a, .int .i64 m, .int .i64 b, cmp] w fun e w' => e = .returned (.tuple #[]) ∧ ∃ e', Rot a m b d e' ∧ SWK e34 7 w0 blk off e' w' := by
 have S0 := Aside0.mk S
 have HR := Aside0.mk R
 clear S R
 have HST := Aside0.mk (RotSt.start d h1 h2)
 go_enter Tryd.func182, Tryd.ntmps182
 go_wp2
 go_loopw [10, 11, 18, 19, 20, 21, 22, 23, 24, 25, 26, 27, 28, 29, 30, 31, 32, 33, 34, 35, 36, 37, 38, 39, 40, 41, 42, 43, 44, 45, 46, 47, 48, 49] (fun v10 v11 _ _ _ _ _ _ _ _ _ _ _ _ _ _ _ _ _ _ _ _ _ _ _ _ _ _ _ _ _ _ _ _ wr => ∃ (i j : Nat) (e : Array S112), v10 = .int .i64 i ∧ v11 = .int .i64 j ∧ Aside0 (RotSt a m b i j d e) ∧ Aside0 (SWK e34 7 w0 blk off e wr)) (fun v10 v11 _ _ _ _ _ _ _ _ _ _ _ _ _ _ _ _ _ _ _ _ _ _ _ _ _ _ _ _ _ _ _ _ _ => (intOf v10).toNat + (intOf v11).toNat)
 case atStart => exact ⟨m - a, b - m, d, by go_num, by go_num, HST, S0⟩
 case round =>
  clear S0 HST
  obtain ⟨i, j, e, rfl, rfl, HST, S1⟩ := hrel
  obtain ⟨g1, g2⟩ := HST.out.hi
  obtain ⟨g3, g4⟩ := HST.out.hj
  have hez := HST.out.perm.1
  by_cases hij : i = j
  ·subst hij
   have dn : ((i : Int) != (i : Int)) = false := bne_eq_false_iff_eq.mpr rfl
   have HEZ := Aside0.mk hez
   have e1 : (m : Int) - (i : Int) = ((m - i : Nat) : Int) := by omega
   have e2 : IntKind.i64.wrap ((m : Int) - (i : Int)) = ((m - i : Nat) : Int) := by rw [IntKind.wrap_i64]; omega
   have HC := Aside0.mk (swapRange_calls blk off cap (m - i) m i d0 e w0 wr cmp HR.out (by omega) S1.out (by omega) (by omega) (by omega))
   rw [HEZ.out] at HC
   clear hez
   go_wp2_with (first | (go_at_call 184; refine HC.out.mono ?_; rintro e_ w2 ⟨rfl, hs_⟩; have S2 := Aside0.mk hs_; clear hs_))
   go_end0
   exact ⟨rfl, _, HST.out.last h1 h2 h3, S2.out⟩
  ·have dn : ((i : Int) != (j : Int)) = true := bne_iff_ne.mpr (by omega)
   have HEZ := Aside0.mk hez
   by_cases hlt : j < i
   ·have d1 : decide ((j : Int) < (i : Int)) = true := decide_eq_true (by omega)
    have d2 : decide (j < i) = true := decide_eq_true hlt
    have e1 : (m : Int) - (i : Int) = ((m - i : Nat) : Int) := by omega
    have e2 : IntKind.i64.wrap ((m : Int) - (i : Int)) = ((m - i : Nat) : Int) := by rw [IntKind.wrap_i64]; omega
    have HC := Aside0.mk (swapRange_calls blk off cap (m - i) m j d0 e w0 wr cmp HR.out (by omega) S1.out (by omega) (by omega) (by omega))
    have HN := Aside0.mk (HST.out.left h1 h2 h3 hlt)
    rw [HEZ.out] at HC
    clear hez hij
    go_wp2_with (first | (go_at_call 184; refine HC.out.mono ?_; rintro e_ w2 ⟨rfl, hs_⟩; have S2 := Aside0.mk hs_; clear hs_))
    go_roundw
    case rel => exact ⟨i - j, j, _, by go_num, rfl, HN, S2⟩
    case measure => simp [intOf]; omega
   ·have d1 : decide ((j : Int) < (i : Int)) = false := decide_eq_false (by omega)
    have d2 : decide (j < i) = false := decide_eq_false hlt
    have e1 : (m : Int) - (i : Int) = ((m - i : Nat) : Int) := by omega
    have e2 : IntKind.i64.wrap ((m : Int) - (i : Int)) = ((m - i : Nat) : Int) := by rw [IntKind.wrap_i64]; omega
    have e3 : IntKind.i64.wrap ((m : Int) + (j : Int)) = (m : Int) + (j : Int) := by rw [IntKind.wrap_i64]; omega
    have e4 : IntKind.i64.wrap ((m : Int) + (j : Int) - (i : Int)) = ((m + j - i : Nat) : Int) := by rw [IntKind.wrap_i64]; omega
    have e5 : (m : Int) + (j : Int) - (i : Int) = ((m + j - i : Nat) : Int) := by omega
    have HC := Aside0.mk (swapRange_calls blk off cap (m - i) (m + j - i) i d0 e w0 wr cmp HR.out (by omega) S1.out (by omega) (by omega) (by omega))
    have HN := Aside0.mk (HST.out.right h1 h2 h3 (by omega))
    rw [HEZ.out] at HC
    clear hez
    go_wp2_with (first | (go_at_call 184; refine HC.out.mono ?_; rintro e_ w2 ⟨rfl, hs_⟩; have S2 := Aside0.mk hs_; clear hs_))
    go_roundw
    case rel => exact ⟨i, j - i, _, rfl, by go_num, HN, S2⟩
    case measure => simp [intOf]; omega
theorem lt_le_true {x y z : S112} (h1 : ltC x z = true) (h2 : ltC x y = false) : ltC y z = true := lt_of_le_lt swo_C h2 h1
theorem le_lt_true {x y z : S112} (h1 : ltC x z = true) (h2 : ltC y z = false) : ltC x y = true := lt_of_lt_le swo_C h1 h2
set_option maxHeartbeats 64000000 in
set_option maxRecDepth 1000000 in
theorem symMerge_calls (blk off cap pc pk : Nat) (d0 : Array S112) (w0 : World) (R : RowK e34 7 w0 blk off d0) (C : CmpB w0 blk pc pk) (hsz : d0.size < 2305843009213693952) :
  ∀ (N a m b : Nat) (d : Array S112) (w : World), b - a < N → d0.size = d.size → SWK e34 7 w0 blk off d w → a < m → m < b → b ≤ d.size → SortedIn ltC a m d → SortedIn ltC m b d →
  Calls Tryd.prog 176 #[.slice (some ⟨blk, off, none⟩) d0.size cap, .int .i64 a, .int .i64 m, .int .i64 b, .func (.func 109) #[] #[.pointer (some ⟨pc, 0, none⟩), .pointer (some ⟨pk, 0, none⟩)]] w fun e w' => e = .returned (.tuple #[]) ∧ ∃ e', Mrg ltC a b d e' ∧ SWK e34 7 w0 blk off e' w' := by
 have HR := Aside0.mk R
 have HCB := Aside0.mk C
 clear R C
 intro N
 induction N with
 | zero => intro a m b d w h; exact absurd h (Nat.not_lt_zero _)
 | succ N ih =>
  intro a m b d w hN hs S h1 h2 h3 lo hi
  have IH := Aside0.mk ih
  have S0 := Aside0.mk S
  have LO := Aside0.mk lo
  have HI := Aside0.mk hi
  clear ih S lo hi
  rw [hs] at hsz IH ⊢
  have HS := Aside0.mk hs
  by_cases n1 : m = a + 1
  ·have f1 : IntKind.i64.wrap ((m : Int) - (a : Int)) = 1 := by rw [IntKind.wrap_i64]; omega
   have f5 : (m : Int) - (a : Int) = 1 := by omega
   have HI := Aside0.mk (show SortedIn ltC (a + 1) b d from by rw [← n1]; exact HI.out)
   have hm1 : a + 1 ≤ m := by omega
   have hm2 : m ≤ a + 1 := by omega
   clear hs h1 IH n1
   go_enter Tryd.func176, Tryd.ntmps176
   go_wp2
   go_loopw [10, 11, 12, 31, 32, 33, 34, 35, 36, 37, 38, 39, 40, 41, 42, 43, 44, 45, 46, 47, 48, 49, 50, 51, 52, 53] (fun v10 v11 _ _ _ _ _ _ _ _ _ _ _ _ _ _ _ _ _ _ _ _ _ _ _ _ wr => ∃ i j : Nat, a + 1 ≤ i ∧ i ≤ j ∧ j ≤ b ∧ v10 = .int .i64 i ∧ v11 = .int .i64 j ∧ Aside0 (∀ t, a + 1 ≤ t → t < i → ltC d[t]! d[a]! = true) ∧ Aside0 (∀ t, j ≤ t → t < b → ltC d[t]! d[a]! = false) ∧ Aside0 (SWK e34 7 w0 blk off d wr)) (fun v10 v11 _ _ _ _ _ _ _ _ _ _ _ _ _ _ _ _ _ _ _ _ _ _ _ _ _ => (intOf v11).toNat - (intOf v10).toNat)
   case atStart => exact ⟨m, b, hm1, by omega, Nat.le_refl _, rfl, rfl, ⟨fun t k1 k2 => by omega⟩, ⟨fun t k1 k2 => by omega⟩, S0⟩
   case round =>
    clear S0
    obtain ⟨i, j, hi1, hij, hjb, rfl, rfl, HB, HA, S1⟩ := hrel
    by_cases hlt : i < j
    ·have d1 : decide ((i : Int) < (j : Int)) = true := decide_eq_true (by omega)
     have d2 : decide (i < j) = true := decide_eq_true hlt
     obtain ⟨h, hh⟩ : ∃ h, (i + j) / 2 = h := ⟨_, rfl⟩
     have eh : ((i : Int) + (j : Int)) / 2 = (h : Int) := by omega
     have gh1 : i ≤ h := by omega
     have gh2 : h < j := by omega
     have ga : a < d.size := by omega
     have gh : h < d.size := by omega
     clear hh
     cases hl : ltC d[h]! d[a]! with
     | true =>
      have HL := Aside0.mk hl
      clear hl
      go_upto_region 5 with (fail)
      clear eh
      have hn_3655 : ((h : Int)).toNat = h := by omega
      have hp_3655 : (0 : Int) ≤ (h : Int) := by omega
      have hq_3655 : (h : Int) < (d.size : Int) := by omega
      have hw_3655 : IntKind.i64.wrap ((h : Int)) = (h : Int) := by rw [IntKind.wrap_i64]; omega
      have hn_51610 : ((a : Int)).toNat = a := by omega
      have hp_51610 : (0 : Int) ≤ (a : Int) := by omega
      have hq_51610 : (a : Int) < (d.size : Int) := by omega
      have hw_51610 : IntKind.i64.wrap ((a : Int)) = (a : Int) := by rw [IntKind.wrap_i64]; omega
      obtain ⟨x, hx⟩ : ∃ x, d[h]! = x := ⟨_, rfl⟩
      obtain ⟨y, hy⟩ : ∃ y, d[a]! = y := ⟨_, rfl⟩
      have cx := (sw_at S1.out HR.out (by have := HS.out; omega) (show h < d.size by omega)).1
      have cy := (sw_at S1.out HR.out (by have := HS.out; omega) (show a < d.size by omega)).1
      rw [hx] at cx
      rw [hy] at cy
      have hd : decide (cmpC x y < 0) = true := by rw [← hx, ← hy]; exact HL.out
      have hcall := fun n os => comp_grown S1.out HCB.out x y n os
      obtain ⟨x0, x1, x2, x3, x4, x5, x6⟩ := cx
      obtain ⟨y0, y1, y2, y3, y4, y5, y6⟩ := cy
      have x0 := cell_all x0
      have x1 := cell_all x1
      have x2 := cell_all x2
      have x3 := cell_all x3
      have x4 := cell_all x4
      have x5 := cell_all x5
      have x6 := cell_all x6
      have y0 := cell_all y0
      have y1 := cell_all y1
      have y2 := cell_all y2
      have y3 := cell_all y3
      have y4 := cell_all y4
      have y5 := cell_all y5
      have y6 := cell_all y6
      clear hx hy
      have mixed : Tryd.prog.follows .mixedOrders = true := by kernel_rfl
      go_wp2_with fail
      go_quiet_grown ((go_at_call 109; refine Calls.grown_of (hcall _ _)))
      have S2 := Aside0.mk (S1.out.grown nq osq)
      clear x0 x1 x2 x3 x4 x5 x6 y0 y1 y2 y3 y4 y5 y6 hcall S1 mixed
      generalize grow (wr.drewN nq) osq = w2 at S2 ⊢
      clear nq osq
      go_wp2
      go_roundw
      case rel => exact ⟨h + 1, j, by omega, by omega, hjb, by go_num, rfl, ⟨fun t k1 k2 => lt_le_true HL.out (sorted_le swo_C HI.out k1 (by omega) (by omega))⟩, HA, S2⟩
      case measure => simp [intOf]; try omega
     | false =>
      have HL := Aside0.mk hl
      clear hl
      go_upto_region 5 with (fail)
      clear eh
      have hn_3655 : ((h : Int)).toNat = h := by omega
      have hp_3655 : (0 : Int) ≤ (h : Int) := by omega
      have hq_3655 : (h : Int) < (d.size : Int) := by omega
      have hw_3655 : IntKind.i64.wrap ((h : Int)) = (h : Int) := by rw [IntKind.wrap_i64]; omega
      have hn_51610 : ((a : Int)).toNat = a := by omega
      have hp_51610 : (0 : Int) ≤ (a : Int) := by omega
      have hq_51610 : (a : Int) < (d.size : Int) := by omega
      have hw_51610 : IntKind.i64.wrap ((a : Int)) = (a : Int) := by rw [IntKind.wrap_i64]; omega
      obtain ⟨x, hx⟩ : ∃ x, d[h]! = x := ⟨_, rfl⟩
      obtain ⟨y, hy⟩ : ∃ y, d[a]! = y := ⟨_, rfl⟩
      have cx := (sw_at S1.out HR.out (by have := HS.out; omega) (show h < d.size by omega)).1
      have cy := (sw_at S1.out HR.out (by have := HS.out; omega) (show a < d.size by omega)).1
      rw [hx] at cx
      rw [hy] at cy
      have hd : decide (cmpC x y < 0) = false := by rw [← hx, ← hy]; exact HL.out
      have hcall := fun n os => comp_grown S1.out HCB.out x y n os
      obtain ⟨x0, x1, x2, x3, x4, x5, x6⟩ := cx
      obtain ⟨y0, y1, y2, y3, y4, y5, y6⟩ := cy
      have x0 := cell_all x0
      have x1 := cell_all x1
      have x2 := cell_all x2
      have x3 := cell_all x3
      have x4 := cell_all x4
      have x5 := cell_all x5
      have x6 := cell_all x6
      have y0 := cell_all y0
      have y1 := cell_all y1
      have y2 := cell_all y2
      have y3 := cell_all y3
      have y4 := cell_all y4
      have y5 := cell_all y5
      have y6 := cell_all y6
      clear hx hy
      have mixed : Tryd.prog.follows .mixedOrders = true := by kernel_rfl
      go_wp2_with fail
      go_quiet_grown ((go_at_call 109; refine Calls.grown_of (hcall _ _)))
      have S2 := Aside0.mk (S1.out.grown nq osq)
      clear x0 x1 x2 x3 x4 x5 x6 y0 y1 y2 y3 y4 y5 y6 hcall S1 mixed
      generalize grow (wr.drewN nq) osq = w2 at S2 ⊢
      clear nq osq
      go_wp2
      go_roundw
      case rel => exact ⟨i, h, hi1, gh1, by omega, rfl, rfl, HB, ⟨fun t k1 k2 => swo_C.ntrans _ _ _ (sorted_le swo_C HI.out (by omega) k1 k2) HL.out⟩, S2⟩
      case measure => simp [intOf]; try omega
    ·obtain rfl : i = j := by omega
     have d1 : decide ((i : Int) < (i : Int)) = false := decide_eq_false (by omega)
     have d2 : decide (i < i) = false := decide_eq_false (by omega)
     have HM := Aside0.mk (mrg_first swo_C (show a + 1 < b by omega) h3 HI.out hi1 hjb HB.out HA.out)
     have S2 := Aside0.mk (show SWK e34 7 w0 blk off (upN d a 0) wr from S1.out)
     clear S1 HA HB
     go_wp2
     go_loopw [13, 55, 56, 57, 58, 59, 60, 61, 62, 63, 64, 65, 66, 67, 68, 69, 70, 71, 72, 73, 74, 75, 76] (fun v13 _ _ _ _ _ _ _ _ _ _ _ _ _ _ _ _ _ _ _ _ _ _ wr => ∃ n : Nat, n ≤ i - 1 - a ∧ v13 = .int .i64 (a + n : Nat) ∧ Aside0 (SWK e34 7 w0 blk off (upN d a n) wr)) (fun v13 _ _ _ _ _ _ _ _ _ _ _ _ _ _ _ _ _ _ _ _ _ _ _ => i - (intOf v13).toNat)
     case atStart => exact ⟨0, Nat.zero_le _, rfl, S2⟩
     case round =>
      clear S2
      obtain ⟨n, hn, rfl, S1⟩ := hrel
      have hz := upN_size d a n
      obtain ⟨k, hk⟩ : ∃ k, a + n = k := ⟨_, rfl⟩
      have ei : IntKind.i64.wrap ((i : Int) - 1) = (i : Int) - 1 := by rw [IntKind.wrap_i64]; omega
      by_cases hlt2 : n < i - 1 - a
      ·have d3 : decide ((k : Int) < (i : Int) - 1) = true := decide_eq_true (by omega)
       have d4 : decide ((k : Int) + 1 < (i : Int)) = true := decide_eq_true (by omega)
       obtain ⟨e, he⟩ : ∃ e, upN d a n = e := ⟨_, rfl⟩
       have EN := Aside0.mk (show upN d a (n + 1) = swp e k (k + 1) from by rw [← he, ← hk]; rfl)
       rw [he] at S1 hz
       rw [hk]
       have HK := Aside0.mk hk
       have HZ := Aside0.mk hz
       have gk : k + 1 < e.size := by omega
       have gk2 : k + 1 < d.size := by omega
       clear he hk hz
       go_upto_region 11 with (fail)
       have hn_72215 : ((k : Int)).toNat = k := by omega
       have hp_72215 : (0 : Int) ≤ (k : Int) := by omega
       have hq_72215 : (k : Int) < (d.size : Int) := by omega
       have hw_72215 : IntKind.i64.wrap ((k : Int)) = (k : Int) := by rw [IntKind.wrap_i64]; omega
       have hn_80118 : ((k : Int) + 1).toNat = k + 1 := by omega
       have hp_80118 : (0 : Int) ≤ (k : Int) + 1 := by omega
       have hq_80118 : (k : Int) + 1 < (d.size : Int) := by omega
       have hw_80118 : IntKind.i64.wrap ((k : Int) + 1) = (k : Int) + 1 := by rw [IntKind.wrap_i64]; omega
       obtain ⟨x, hx⟩ : ∃ x, e[k]! = x := ⟨_, rfl⟩
       obtain ⟨y, hy⟩ : ∃ y, e[k + 1]! = y := ⟨_, rfl⟩
       have hsw := S1.out.swapped HR.out (k) (k + 1) (by omega) (by omega)
       rw [hx, hy, sets34, sets34] at hsw
       simp only [set_drew] at hsw
       have HSW := Aside0.mk hsw
       obtain ⟨cx, fx⟩ := sw_at S1.out HR.out (by have := HS.out; have := HZ.out; omega) (show k < e.size by omega)
       obtain ⟨cy, fy⟩ := sw_at S1.out HR.out (by have := HS.out; have := HZ.out; omega) (show k + 1 < e.size by omega)
       rw [hx] at cx
       rw [hy] at cy
       obtain ⟨x0, x1, x2, x3, x4, x5, x6⟩ := cx
       obtain ⟨y0, y1, y2, y3, y4, y5, y6⟩ := cy
       obtain ⟨fx0, fx1, fx2, fx3, fx4, fx5, fx6⟩ := fx
       obtain ⟨fy0, fy1, fy2, fy3, fy4, fy5, fy6⟩ := fy
       clear hx hy hsw
       have mixed : Tryd.prog.follows .mixedOrders = true := by kernel_rfl
       go_wp2_with fail
       go_big_region_o
       refine with_world (P := fun x => Exit.inBlock _ _ _ _ x) _ ?_
       intro w3 hw3
       have S2 := Aside0.mk (show SWK e34 7 w0 blk off (swp e (k) (k + 1)) w3 from by rw [hw3]; exact HSW.out)
       clear hw3 HSW S1 x0 x1 x2 x3 x4 x5 x6 y0 y1 y2 y3 y4 y5 y6 fx0 fx1 fx2 fx3 fx4 fx5 fx6 fy0 fy1 fy2 fy3 fy4 fy5 fy6 mixed
       go_wp2
       go_roundw
       case rel => exact ⟨n + 1, by omega, by have := HK.out; first | (congr 2; omega) | go_num, ⟨by rw [EN.out]; exact S2.out⟩⟩
       case measure => have := HK.out; simp [intOf]; try omega
      ·have d3 : decide ((k : Int) < (i : Int) - 1) = false := decide_eq_false (by omega)
       have d4 : decide ((k : Int) + 1 < (i : Int)) = false := decide_eq_false (by omega)
       obtain rfl : n = i - 1 - a := by omega
       rw [hk]
       clear hk hz
       go_wp2
       refine bodyPost_ret (results_none rfl _ _ _) rfl ?_
       exact ⟨rfl, _, HM.out, S1.out⟩
  ·have f1 : IntKind.i64.wrap ((m : Int) - (a : Int)) = ((m - a : Nat) : Int) := by rw [IntKind.wrap_i64]; omega
   have f2 : (((m - a : Nat) : Int) == (1 : Int)) = false := beq_eq_false_iff_ne.mpr (by omega)
   have f2' : (m - a == 1) = false := beq_eq_false_iff_ne.mpr (by omega)
   have f5 : (m : Int) - (a : Int) = ((m - a : Nat) : Int) := by omega
   by_cases n2 : b = m + 1
   ·have f3 : IntKind.i64.wrap ((b : Int) - (m : Int)) = 1 := by rw [IntKind.wrap_i64]; omega
    have f6 : (b : Int) - (m : Int) = 1 := by omega
    have HBM := Aside0.mk n2
    have hb1 : m + 1 ≤ d.size := by omega
    clear hs h2 IH n2
    go_enter Tryd.func176, Tryd.ntmps176
    go_wp2
    clear f1 f2 f2' f5
    go_loopw [14, 15, 16, 83, 84, 85, 86, 87, 88, 89, 90, 91, 92, 93, 94, 95, 96, 97, 98, 99, 100, 101, 102, 103, 104, 105, 106] (fun v14 v15 _ _ _ _ _ _ _ _ _ _ _ _ _ _ _ _ _ _ _ _ _ _ _ _ _ wr => ∃ i j : Nat, a ≤ i ∧ i ≤ j ∧ j ≤ m ∧ v14 = .int .i64 i ∧ v15 = .int .i64 j ∧ Aside0 (∀ t, a ≤ t → t < i → ltC d[m]! d[t]! = false) ∧ Aside0 (∀ t, j ≤ t → t < m → ltC d[m]! d[t]! = true) ∧ Aside0 (SWK e34 7 w0 blk off d wr)) (fun v14 v15 _ _ _ _ _ _ _ _ _ _ _ _ _ _ _ _ _ _ _ _ _ _ _ _ _ _ => (intOf v15).toNat - (intOf v14).toNat)
    case atStart => exact ⟨a, m, Nat.le_refl _, by omega, Nat.le_refl _, rfl, rfl, ⟨fun t k1 k2 => by omega⟩, ⟨fun t k1 k2 => by omega⟩, S0⟩
    case round =>
     clear S0
     obtain ⟨i, j, hi1, hij, hjb, rfl, rfl, HB, HA, S1⟩ := hrel
     by_cases hlt : i < j
     ·have d1 : decide ((i : Int) < (j : Int)) = true := decide_eq_true (by omega)
      have d2 : decide (i < j) = true := decide_eq_true hlt
      obtain ⟨h, hh⟩ : ∃ h, (i + j) / 2 = h := ⟨_, rfl⟩
      have eh : ((i : Int) + (j : Int)) / 2 = (h : Int) := by omega
      have gh1 : i ≤ h := by omega
      have gh2 : h < j := by omega
      have ga : m < d.size := by omega
      have gh : h < d.size := by omega
      clear hh
      cases hl : ltC d[m]! d[h]! with
      | false =>
       have HL := Aside0.mk hl
       clear hl
       go_upto_region 17 with (fail)
       clear eh
       have hn_38314 : ((m : Int)).toNat = m := by omega
       have hp_38314 : (0 : Int) ≤ (m : Int) := by omega
       have hq_38314 : (m : Int) < (d.size : Int) := by omega
       have hw_38314 : IntKind.i64.wrap ((m : Int)) = (m : Int) := by rw [IntKind.wrap_i64]; omega
       have hn_3655 : ((h : Int)).toNat = h := by omega
       have hp_3655 : (0 : Int) ≤ (h : Int) := by omega
       have hq_3655 : (h : Int) < (d.size : Int) := by omega
       have hw_3655 : IntKind.i64.wrap ((h : Int)) = (h : Int) := by rw [IntKind.wrap_i64]; omega
       obtain ⟨x, hx⟩ : ∃ x, d[m]! = x := ⟨_, rfl⟩
       obtain ⟨y, hy⟩ : ∃ y, d[h]! = y := ⟨_, rfl⟩
       have cx := (sw_at S1.out HR.out (by have := HS.out; omega) (show m < d.size by omega)).1
       have cy := (sw_at S1.out HR.out (by have := HS.out; omega) (show h < d.size by omega)).1
       rw [hx] at cx
       rw [hy] at cy
       have hd : decide (cmpC x y < 0) = false := by rw [← hx, ← hy]; exact HL.out
       have hcall := fun n os => comp_grown S1.out HCB.out x y n os
       obtain ⟨x0, x1, x2, x3, x4, x5, x6⟩ := cx
       obtain ⟨y0, y1, y2, y3, y4, y5, y6⟩ := cy
       have x0 := cell_all x0
       have x1 := cell_all x1
       have x2 := cell_all x2
       have x3 := cell_all x3
       have x4 := cell_all x4
       have x5 := cell_all x5
       have x6 := cell_all x6
       have y0 := cell_all y0
       have y1 := cell_all y1
       have y2 := cell_all y2
       have y3 := cell_all y3
       have y4 := cell_all y4
       have y5 := cell_all y5
       have y6 := cell_all y6
       clear hx hy
       have mixed : Tryd.prog.follows .mixedOrders = true := by kernel_rfl
       go_wp2_with fail
       go_quiet_grown ((go_at_call 109; refine Calls.grown_of (hcall _ _)))
       have S2 := Aside0.mk (S1.out.grown nq osq)
       clear x0 x1 x2 x3 x4 x5 x6 y0 y1 y2 y3 y4 y5 y6 hcall S1 mixed
       generalize grow (wr.drewN nq) osq = w2 at S2 ⊢
       clear nq osq
       go_wp2
       go_roundw
       case rel => exact ⟨h + 1, j, by omega, by omega, hjb, by go_num, rfl, ⟨fun t k1 k2 => swo_C.ntrans _ _ _ HL.out (sorted_le swo_C LO.out k1 (by omega) (by omega))⟩, HA, S2⟩
       case measure => simp [intOf]; try omega
      | true =>
       have HL := Aside0.mk hl
       clear hl
       go_upto_region 17 with (fail)
       clear eh
       have hn_38314 : ((m : Int)).toNat = m := by omega
       have hp_38314 : (0 : Int) ≤ (m : Int) := by omega
       have hq_38314 : (m : Int) < (d.size : Int) := by omega
       have hw_38314 : IntKind.i64.wrap ((m : Int)) = (m : Int) := by rw [IntKind.wrap_i64]; omega
       have hn_3655 : ((h : Int)).toNat = h := by omega
       have hp_3655 : (0 : Int) ≤ (h : Int) := by omega
       have hq_3655 : (h : Int) < (d.size : Int) := by omega
       have hw_3655 : IntKind.i64.wrap ((h : Int)) = (h : Int) := by rw [IntKind.wrap_i64]; omega
       obtain ⟨x, hx⟩ : ∃ x, d[m]! = x := ⟨_, rfl⟩
       obtain ⟨y, hy⟩ : ∃ y, d[h]! = y := ⟨_, rfl⟩
       have cx := (sw_at S1.out HR.out (by have := HS.out; omega) (show m < d.size by omega)).1
       have cy := (sw_at S1.out HR.out (by have := HS.out; omega) (show h < d.size by omega)).1
       rw [hx] at cx
       rw [hy] at cy
       have hd : decide (cmpC x y < 0) = true := by rw [← hx, ← hy]; exact HL.out
       have hcall := fun n os => comp_grown S1.out HCB.out x y n os
       obtain ⟨x0, x1, x2, x3, x4, x5, x6⟩ := cx
       obtain ⟨y0, y1, y2, y3, y4, y5, y6⟩ := cy
       have x0 := cell_all x0
       have x1 := cell_all x1
       have x2 := cell_all x2
       have x3 := cell_all x3
       have x4 := cell_all x4
       have x5 := cell_all x5
       have x6 := cell_all x6
       have y0 := cell_all y0
       have y1 := cell_all y1
       have y2 := cell_all y2
       have y3 := cell_all y3
       have y4 := cell_all y4
       have y5 := cell_all y5
       have y6 := cell_all y6
       clear hx hy
       have mixed : Tryd.prog.follows .mixedOrders = true := by kernel_rfl
       go_wp2_with fail
       go_quiet_grown ((go_at_call 109; refine Calls.grown_of (hcall _ _)))
       have S2 := Aside0.mk (S1.out.grown nq osq)
       clear x0 x1 x2 x3 x4 x5 x6 y0 y1 y2 y3 y4 y5 y6 hcall S1 mixed
       generalize grow (wr.drewN nq) osq = w2 at S2 ⊢
       clear nq osq
       go_wp2
       go_roundw
       case rel => exact ⟨i, h, hi1, gh1, by omega, rfl, rfl, HB, ⟨fun t k1 k2 => le_lt_true HL.out (sorted_le swo_C LO.out (by omega) k1 k2)⟩, S2⟩
       case measure => simp [intOf]; try omega
     ·obtain rfl : i = j := by omega
      have d1 : decide ((i : Int) < (i : Int)) = false := decide_eq_false (by omega)
      have d2 : decide (i < i) = false := decide_eq_false (by omega)
      have HM := Aside0.mk (show Mrg ltC a b d (downN d m (m - i)) from by rw [HBM.out]; exact mrg_last swo_C h1 hb1 LO.out hi1 hjb HB.out HA.out)
      have S2 := Aside0.mk (show SWK e34 7 w0 blk off (downN d m 0) wr from S1.out)
      clear S1 HA HB
      go_wp2
      go_loopw [17, 108, 109, 110, 111, 112, 113, 114, 115, 116, 117, 118, 119, 120, 121, 122, 123, 124, 125, 126, 127, 128] (fun v17 _ _ _ _ _ _ _ _ _ _ _ _ _ _ _ _ _ _ _ _ _ wr => ∃ n : Nat, n ≤ m - i ∧ v17 = .int .i64 (m - n : Nat) ∧ Aside0 (SWK e34 7 w0 blk off (downN d m n) wr)) (fun v17 _ _ _ _ _ _ _ _ _ _ _ _ _ _ _ _ _ _ _ _ _ _ => (intOf v17).toNat)
      case atStart => exact ⟨0, Nat.zero_le _, rfl, S2⟩
      case round =>
       clear S2
       obtain ⟨n, hn, rfl, S1⟩ := hrel
       have hz := downN_size d m n
       obtain ⟨k, hk⟩ : ∃ k, m - n = k := ⟨_, rfl⟩
       by_cases hlt2 : n < m - i
       ·have d3 : decide ((i : Int) < (k : Int)) = true := decide_eq_true (by omega)
        have d4 : decide (i < k) = true := decide_eq_true (by omega)
        obtain ⟨p, hp⟩ : ∃ p, k = p + 1 := ⟨k - 1, by omega⟩
        subst hp
        obtain ⟨e, he⟩ : ∃ e, downN d m n = e := ⟨_, rfl⟩
        have EN := Aside0.mk (show downN d m (n + 1) = swp e (p + 1) p from by rw [← he]; show swp (downN d m n) (m - n) (m - n - 1) = _; rw [hk]; rfl)
        rw [he] at S1 hz
        rw [hk]
        have HK := Aside0.mk hk
        have HZ := Aside0.mk hz
        have gk : p + 1 < e.size := by omega
        have gk2 : p + 1 < d.size := by omega
        have e9 : IntKind.i64.wrap (p : Int) = (p : Int) := by rw [IntKind.wrap_i64]; omega
        have d5 : decide ((i : Int) < (p : Int) + 1) = true := decide_eq_true (by omega)
        clear he hk hz
        go_upto_region 23 with (fail)
        have hn_53579 : ((p : Int) + 1).toNat = p + 1 := by omega
        have hp_53579 : (0 : Int) ≤ (p : Int) + 1 := by omega
        have hq_53579 : (p : Int) + 1 < (d.size : Int) := by omega
        have hw_53579 : IntKind.i64.wrap ((p : Int) + 1) = (p : Int) + 1 := by rw [IntKind.wrap_i64]; omega
        have hn_46417 : ((p : Int)).toNat = p := by omega
        have hp_46417 : (0 : Int) ≤ (p : Int) := by omega
        have hq_46417 : (p : Int) < (d.size : Int) := by omega
        have hw_46417 : IntKind.i64.wrap ((p : Int)) = (p : Int) := by rw [IntKind.wrap_i64]; omega
        obtain ⟨x, hx⟩ : ∃ x, e[p + 1]! = x := ⟨_, rfl⟩
        obtain ⟨y, hy⟩ : ∃ y, e[p]! = y := ⟨_, rfl⟩
        have hsw := S1.out.swapped HR.out (p + 1) (p) (by omega) (by omega)
        rw [hx, hy, sets34, sets34] at hsw
        simp only [set_drew] at hsw
        have HSW := Aside0.mk hsw
        obtain ⟨cx, fx⟩ := sw_at S1.out HR.out (by have := HS.out; have := HZ.out; omega) (show p + 1 < e.size by omega)
        obtain ⟨cy, fy⟩ := sw_at S1.out HR.out (by have := HS.out; have := HZ.out; omega) (show p < e.size by omega)
        rw [hx] at cx
        rw [hy] at cy
        obtain ⟨x0, x1, x2, x3, x4, x5, x6⟩ := cx
        obtain ⟨y0, y1, y2, y3, y4, y5, y6⟩ := cy
        obtain ⟨fx0, fx1, fx2, fx3, fx4, fx5, fx6⟩ := fx
        obtain ⟨fy0, fy1, fy2, fy3, fy4, fy5, fy6⟩ := fy
        clear hx hy hsw
        have mixed : Tryd.prog.follows .mixedOrders = true := by kernel_rfl
        go_wp2_with fail
        go_big_region_o
        refine with_world (P := fun x => Exit.inBlock _ _ _ _ x) _ ?_
        intro w3 hw3
        have S2 := Aside0.mk (show SWK e34 7 w0 blk off (swp e (p + 1) (p)) w3 from by rw [hw3]; exact HSW.out)
        clear hw3 HSW S1 x0 x1 x2 x3 x4 x5 x6 y0 y1 y2 y3 y4 y5 y6 fx0 fx1 fx2 fx3 fx4 fx5 fx6 fy0 fy1 fy2 fy3 fy4 fy5 fy6 mixed
        go_wp2
        go_roundw
        case rel => exact ⟨n + 1, by have := HK.out; omega, by have := HK.out; first | (congr 2; omega) | go_num, ⟨by rw [EN.out]; exact S2.out⟩⟩
        case measure => have := HK.out; simp [intOf]; try omega
       ·have d3 : decide ((i : Int) < (k : Int)) = false := decide_eq_false (by omega)
        have d4 : decide (i < k) = false := decide_eq_false (by omega)
        obtain rfl : n = m - i := by omega
        rw [hk]
        clear hk hz
        go_wp2
        refine bodyPost_ret (results_none rfl _ _ _) rfl ?_
        exact ⟨rfl, _, HM.out, S1.out⟩
   ·have f3 : IntKind.i64.wrap ((b : Int) - (m : Int)) = ((b - m : Nat) : Int) := by rw [IntKind.wrap_i64]; omega
    have f4 : (((b - m : Nat) : Int) == (1 : Int)) = false := beq_eq_false_iff_ne.mpr (by omega)
    have f4' : (b - m == 1) = false := beq_eq_false_iff_ne.mpr (by omega)
    have f6 : (b : Int) - (m : Int) = ((b - m : Nat) : Int) := by omega
    obtain ⟨mid, hmid⟩ : ∃ mid, (a + b) / 2 = mid := ⟨_, rfl⟩
    have em : ((a : Int) + (b : Int)) / 2 = (mid : Int) := by omega
    obtain ⟨n, hn⟩ : ∃ n, mid + m = n := ⟨_, rfl⟩
    have en : (mid : Int) + (m : Int) = (n : Int) := by omega
    obtain ⟨q, hq⟩ : ∃ q, n - 1 = q := ⟨_, rfl⟩
    have eq' : (n : Int) - 1 = (q : Int) := by omega
    obtain ⟨s0, hs0⟩ : ∃ s0, sStart a m b = s0 := ⟨_, rfl⟩
    obtain ⟨r0, hr0⟩ : ∃ r0, sEnd a m b = r0 := ⟨_, rfl⟩
    have HS0 := Aside0.mk hs0
    have HR0 := Aside0.mk hr0
    have HMID := Aside0.mk hmid
    have HN := Aside0.mk hn
    have HQ := Aside0.mk hq
    have HST0 := Aside0.mk (show Srch ltC d ((a + b) / 2 + m - 1) (sStart a m b) (sEnd a m b) s0 r0 from by rw [← hs0, ← hr0]; exact srch_start (s_le h1 h2))
    have z7 : (mid : Int) ≤ (mid : Int) := by omega
    by_cases hmm : mid < m
    ·have z1 : decide ((mid : Int) < (m : Int)) = true := decide_eq_true (by omega)
     have z2 : decide (mid < m) = true := decide_eq_true hmm
     have es : (n : Int) - (b : Int) = (s0 : Int) := by unfold sStart at hs0; rw [if_pos (by omega)] at hs0; omega
     have hr1 : mid = r0 := by unfold sEnd at hr0; rw [if_pos (by omega)] at hr0; omega
     have HR1 := Aside0.mk hr1
     clear hs0 hr0 hmid hn hq hs hr1 z7
     go_enter Tryd.func176, Tryd.ntmps176
     go_wp2
     clear f1 f2 f2' f5 f3 f4 f4' f6 em en eq' es z1 z2
     go_loopw [20, 21, 23, 149, 150, 151, 152, 153, 154, 155, 156, 157, 158, 159, 160, 161, 162, 163, 164, 165, 166, 167, 168, 169, 170, 171, 172, 173, 174] (fun v20 v21 _ _ _ _ _ _ _ _ _ _ _ _ _ _ _ _ _ _ _ _ _ _ _ _ _ _ _ wr => ∃ s r : Nat, v20 = .int .i64 s ∧ v21 = .int .i64 r ∧ Aside0 (Srch ltC d ((a + b) / 2 + m - 1) (sStart a m b) (sEnd a m b) s r) ∧ Aside0 (SWK e34 7 w0 blk off d wr)) (fun v20 v21 _ _ _ _ _ _ _ _ _ _ _ _ _ _ _ _ _ _ _ _ _ _ _ _ _ _ _ _ => (intOf v21).toNat - (intOf v20).toNat)
     case atStart => exact ⟨s0, r0, rfl, by rw [← HR1.out], HST0, S0⟩
     case round =>
      clear S0 HST0
      obtain ⟨s, r, rfl, rfl, HST, S1⟩ := hrel
      have hxy := HST.out.hxy
      have hx1 := HST.out.hx
      have hy1 := HST.out.hy
      have hse : sEnd a m b ≤ m := by unfold sEnd; split <;> omega
      have hmid := HMID.out
      have hn := HN.out
      have hq := HQ.out
      by_cases hlt : s < r
      ·have d1 : decide ((s : Int) < (r : Int)) = true := decide_eq_true (by omega)
       have d2 : decide (s < r) = true := decide_eq_true hlt
       obtain ⟨c, hc⟩ : ∃ c, (s + r) / 2 = c := ⟨_, rfl⟩
       have ec : ((s : Int) + (r : Int)) / 2 = (c : Int) := by omega
       have gc1 : s ≤ c := by omega
       have gc2 : c < r := by omega
       obtain ⟨b1, b2, b3, b4⟩ := s_bounds h1 h2 (show sStart a m b ≤ c by omega) (show c < sEnd a m b by omega)
       obtain ⟨u, hu⟩ : ∃ u, (a + b) / 2 + m - 1 - c = u := ⟨_, rfl⟩
       have eu : (q : Int) - (c : Int) = (u : Int) := by omega
       have gu : u < d.size := by omega
       have gc : c < d.size := by omega
       have hxb : s < 2305843009213693952 := by omega
       have hyb : r < 2305843009213693952 := by omega
       have HU := Aside0.mk hu
       have GE := Aside0.mk eu
       clear hc hu b1 b2 b3 b4 hmid hn hq hx1 hy1 eu
       cases hl : ltC d[u]! d[c]! with
       | false =>
        have HL := Aside0.mk hl
        clear hl
        go_upto_region 35 with (fail)
        clear ec
        have eu := GE.out
        have eu2 : IntKind.i64.wrap ((q : Int) - (c : Int)) = (u : Int) := by rw [eu, IntKind.wrap_i64]; omega
        have hn_39321 : ((u : Int)).toNat = u := by omega
        have hp_39321 : (0 : Int) ≤ (u : Int) := by omega
        have hq_39321 : (u : Int) < (d.size : Int) := by omega
        have hw_39321 : IntKind.i64.wrap ((u : Int)) = (u : Int) := by rw [IntKind.wrap_i64]; omega
        have hn_75478 : ((c : Int)).toNat = c := by omega
        have hp_75478 : (0 : Int) ≤ (c : Int) := by omega
        have hq_75478 : (c : Int) < (d.size : Int) := by omega
        have hw_75478 : IntKind.i64.wrap ((c : Int)) = (c : Int) := by rw [IntKind.wrap_i64]; omega
        obtain ⟨x, hx⟩ : ∃ x, d[u]! = x := ⟨_, rfl⟩
        obtain ⟨y, hy⟩ : ∃ y, d[c]! = y := ⟨_, rfl⟩
        have cx := (sw_at S1.out HR.out (by have := HS.out; omega) (show u < d.size by omega)).1
        have cy := (sw_at S1.out HR.out (by have := HS.out; omega) (show c < d.size by omega)).1
        rw [hx] at cx
        rw [hy] at cy
        have hd : decide (cmpC x y < 0) = false := by rw [← hx, ← hy]; exact HL.out
        have hcall := fun n os => comp_grown S1.out HCB.out x y n os
        obtain ⟨x0, x1, x2, x3, x4, x5, x6⟩ := cx
        obtain ⟨y0, y1, y2, y3, y4, y5, y6⟩ := cy
        have x0 := cell_all x0
        have x1 := cell_all x1
        have x2 := cell_all x2
        have x3 := cell_all x3
        have x4 := cell_all x4
        have x5 := cell_all x5
        have x6 := cell_all x6
        have y0 := cell_all y0
        have y1 := cell_all y1
        have y2 := cell_all y2
        have y3 := cell_all y3
        have y4 := cell_all y4
        have y5 := cell_all y5
        have y6 := cell_all y6
        clear hx hy
        have mixed : Tryd.prog.follows .mixedOrders = true := by kernel_rfl
        go_wp2_with fail
        go_quiet_grown ((go_at_call 109; refine Calls.grown_of (hcall _ _)))
        have S2 := Aside0.mk (S1.out.grown nq osq)
        clear x0 x1 x2 x3 x4 x5 x6 y0 y1 y2 y3 y4 y5 y6 hcall S1 mixed
        generalize grow (wr.drewN nq) osq = w2 at S2 ⊢
        clear nq osq
        clear eu eu2
        go_wp2
        go_roundw
        case rel => exact ⟨c + 1, r, by go_num, rfl, ⟨HST.out.less swo_C LO.out HI.out h1 h2 gc1 gc2 (by rw [HU.out]; exact HL.out)⟩, S2⟩
        case measure => simp [intOf]; try omega
       | true =>
        have HL := Aside0.mk hl
        clear hl
        go_upto_region 35 with (fail)
        clear ec
        have eu := GE.out
        have eu2 : IntKind.i64.wrap ((q : Int) - (c : Int)) = (u : Int) := by rw [eu, IntKind.wrap_i64]; omega
        have hn_39321 : ((u : Int)).toNat = u := by omega
        have hp_39321 : (0 : Int) ≤ (u : Int) := by omega
        have hq_39321 : (u : Int) < (d.size : Int) := by omega
        have hw_39321 : IntKind.i64.wrap ((u : Int)) = (u : Int) := by rw [IntKind.wrap_i64]; omega
        have hn_75478 : ((c : Int)).toNat = c := by omega
        have hp_75478 : (0 : Int) ≤ (c : Int) := by omega
        have hq_75478 : (c : Int) < (d.size : Int) := by omega
        have hw_75478 : IntKind.i64.wrap ((c : Int)) = (c : Int) := by rw [IntKind.wrap_i64]; omega
        obtain ⟨x, hx⟩ : ∃ x, d[u]! = x := ⟨_, rfl⟩
        obtain ⟨y, hy⟩ : ∃ y, d[c]! = y := ⟨_, rfl⟩
        have cx := (sw_at S1.out HR.out (by have := HS.out; omega) (show u < d.size by omega)).1
        have cy := (sw_at S1.out HR.out (by have := HS.out; omega) (show c < d.size by omega)).1
        rw [hx] at cx
        rw [hy] at cy
        have hd : decide (cmpC x y < 0) = true := by rw [← hx, ← hy]; exact HL.out
        have hcall := fun n os => comp_grown S1.out HCB.out x y n os
        obtain ⟨x0, x1, x2, x3, x4, x5, x6⟩ := cx
        obtain ⟨y0, y1, y2, y3, y4, y5, y6⟩ := cy
        have x0 := cell_all x0
        have x1 := cell_all x1
        have x2 := cell_all x2
        have x3 := cell_all x3
        have x4 := cell_all x4
        have x5 := cell_all x5
        have x6 := cell_all x6
        have y0 := cell_all y0
        have y1 := cell_all y1
        have y2 := cell_all y2
        have y3 := cell_all y3
        have y4 := cell_all y4
        have y5 := cell_all y5
        have y6 := cell_all y6
        clear hx hy
        have mixed : Tryd.prog.follows .mixedOrders = true := by kernel_rfl
        go_wp2_with fail
        go_quiet_grown ((go_at_call 109; refine Calls.grown_of (hcall _ _)))
        have S2 := Aside0.mk (S1.out.grown nq osq)
        clear x0 x1 x2 x3 x4 x5 x6 y0 y1 y2 y3 y4 y5 y6 hcall S1 mixed
        generalize grow (wr.drewN nq) osq = w2 at S2 ⊢
        clear nq osq
        clear eu eu2
        go_wp2
        go_roundw
        case rel => exact ⟨s, c, rfl, rfl, ⟨HST.out.more swo_C LO.out HI.out h1 h2 gc1 gc2 (by rw [HU.out]; exact HL.out)⟩, S2⟩
        case measure => simp [intOf]; try omega
      ·obtain rfl : s = r := by omega
       have d1 : decide ((s : Int) < (s : Int)) = false := decide_eq_false (by omega)
       have d2 : decide (s < s) = false := decide_eq_false (by omega)
       have HCT := Aside0.mk (HST.out.cut swo_C LO.out HI.out h1 h2)
       clear HST
       obtain ⟨t, ht⟩ : ∃ t, n - s = t := ⟨_, rfl⟩
       have et : (n : Int) - (s : Int) = (t : Int) := by omega
       obtain ⟨hcut, hxm⟩ := HCT.out
       rw [show (a + b) / 2 + m - s = t by omega] at hcut hxm
       rw [hmid] at hxm
       have k1 := hcut.has
       have k2 := hcut.hsm
       have k3 := hcut.hmn
       have k4 := hcut.hnb
       have HCD := Aside0.mk hcut
       clear hcut HCT
       by_cases cP : s < m
       ·by_cases cQ : m < t
        ·by_cases cA : a < s
         ·by_cases cB : t < b
          ·have zp1 : decide ((s : Int) < (m : Int)) = true := decide_eq_true (by omega)
           have zp2 : decide (s < m) = true := decide_eq_true (by omega)
           have zq1 : decide ((m : Int) < (t : Int)) = true := decide_eq_true (by omega)
           have zq2 : decide (m < t) = true := decide_eq_true (by omega)
           have za1 : decide ((a : Int) < (s : Int)) = true := decide_eq_true (by omega)
           have za2 : decide (a < s) = true := decide_eq_true (by omega)
           have zx1 : decide ((s : Int) < (mid : Int)) = true := decide_eq_true (by omega)
           have zx2 : decide (s < mid) = true := decide_eq_true (by omega)
           have zt1 : decide ((mid : Int) < (t : Int)) = true := decide_eq_true (by omega)
           have zt2 : decide (mid < t) = true := decide_eq_true (by omega)
           have zb1 : decide ((t : Int) < (b : Int)) = true := decide_eq_true (by omega)
           have zb2 : decide (t < b) = true := decide_eq_true (by omega)
           have HSX := Aside0.mk (show d.size = d.size from rfl)
           have hr_d : a < mid := by omega
           have hr_e : mid < b := by omega
           have HRT := Aside0.mk (rotate_calls blk off cap s m t d0 d w0 wr (.func (.func 109) #[] #[.pointer (some ⟨pc, 0, none⟩), .pointer (some ⟨pk, 0, none⟩)]) HR.out HS.out S1.out (by omega) (by omega) (by omega) hsz)
           go_wp2_with (first | (go_at_call 182; refine HRT.out.mono ?_; rintro e_ w2 ⟨rfl, e, hr_, hs_⟩; have S2 := Aside0.mk hs_; have HRO := Aside0.mk hr_; have HRN := Aside0.mk (HCD.out.runs hr_); clear hs_ hr_) | (go_at_call 176; (with_reducible refine (IH.out a s mid e _ (by omega) (by have := HRO.out.size; omega) S2.out (by omega) (by omega) (by have := HRO.out.size; omega) HRN.out.1 (by have h_ := HRN.out.2.1; rw [hxm] at h_; exact h_)).mono ?_); rintro e_ w4 ⟨rfl, e1, hm_, hs_⟩; have S4 := Aside0.mk hs_; have HM1 := Aside0.mk hm_; clear hs_ hm_) | (go_at_call 176; have z_ := (show e1.size = e.size from HM1.out.perm.1); have q1_ : SortedIn ltC mid t e1 := (fun i j g1 g2 g3 => by rw [HM1.out.perm.2.1 i (.inr (by omega)), HM1.out.perm.2.1 j (.inr (by omega))]; have h_ := HRN.out.2.2.1; rw [hxm] at h_; exact h_ i j g1 g2 g3); have q2_ : SortedIn ltC t b e1 := (fun i j g1 g2 g3 => by rw [HM1.out.perm.2.1 i (.inr (by omega)), HM1.out.perm.2.1 j (.inr (by omega))]; exact HRN.out.2.2.2.1 i j g1 g2 g3); (with_reducible refine (IH.out mid t b e1 _ (by omega) (by have := HRO.out.size; omega) S4.out (by omega) (by omega) (by have := HRO.out.size; omega) q1_ q2_).mono ?_); rintro e_ w5 ⟨rfl, e2, hm_, hs_⟩; have S5 := Aside0.mk hs_; have HM2 := Aside0.mk hm_; clear hs_ hm_ q1_ q2_))
           go_end0
           refine ⟨rfl, e2, HCD.out.merged h3 HRO.out (e1 := e1) ?_ ?_, S5.out⟩
           ·rw [hxm]; exact HM1.out
           ·rw [hxm]; exact HM2.out
          ·have zp1 : decide ((s : Int) < (m : Int)) = true := decide_eq_true (by omega)
           have zp2 : decide (s < m) = true := decide_eq_true (by omega)
           have zq1 : decide ((m : Int) < (t : Int)) = true := decide_eq_true (by omega)
           have zq2 : decide (m < t) = true := decide_eq_true (by omega)
           have za1 : decide ((a : Int) < (s : Int)) = true := decide_eq_true (by omega)
           have za2 : decide (a < s) = true := decide_eq_true (by omega)
           have zx1 : decide ((s : Int) < (mid : Int)) = true := decide_eq_true (by omega)
           have zx2 : decide (s < mid) = true := decide_eq_true (by omega)
           have zt1 : decide ((mid : Int) < (t : Int)) = true := decide_eq_true (by omega)
           have zt2 : decide (mid < t) = true := decide_eq_true (by omega)
           have zb1 : decide ((t : Int) < (b : Int)) = false := decide_eq_false (by omega)
           have zb2 : decide (t < b) = false := decide_eq_false (by omega)
           have HSX := Aside0.mk (show d.size = d.size from rfl)
           have hr_d : a < mid := by omega
           have hr_e : mid < b := by omega
           have HRT := Aside0.mk (rotate_calls blk off cap s m t d0 d w0 wr (.func (.func 109) #[] #[.pointer (some ⟨pc, 0, none⟩), .pointer (some ⟨pk, 0, none⟩)]) HR.out HS.out S1.out (by omega) (by omega) (by omega) hsz)
           go_wp2_with (first | (go_at_call 182; refine HRT.out.mono ?_; rintro e_ w2 ⟨rfl, e, hr_, hs_⟩; have S2 := Aside0.mk hs_; have HRO := Aside0.mk hr_; have HRN := Aside0.mk (HCD.out.runs hr_); clear hs_ hr_) | (go_at_call 176; (with_reducible refine (IH.out a s mid e _ (by omega) (by have := HRO.out.size; omega) S2.out (by omega) (by omega) (by have := HRO.out.size; omega) HRN.out.1 (by have h_ := HRN.out.2.1; rw [hxm] at h_; exact h_)).mono ?_); rintro e_ w4 ⟨rfl, e1, hm_, hs_⟩; have S4 := Aside0.mk hs_; have HM1 := Aside0.mk hm_; clear hs_ hm_))
           go_end0
           have HM2 := Aside0.mk (show Mrg ltC mid b e1 e1 from Mrg.refl (fun i j g1 g2 g3 => by rw [HM1.out.perm.2.1 i (.inr (by omega)), HM1.out.perm.2.1 j (.inr (by omega))]; exact HRN.out.2.2.1 i j (by omega) g2 (by omega)))
           refine ⟨rfl, e1, HCD.out.merged h3 HRO.out (e1 := e1) ?_ ?_, S4.out⟩
           ·rw [hxm]; exact HM1.out
           ·rw [hxm]; exact HM2.out
         ·by_cases cB : t < b
          ·have zp1 : decide ((s : Int) < (m : Int)) = true := decide_eq_true (by omega)
           have zp2 : decide (s < m) = true := decide_eq_true (by omega)
           have zq1 : decide ((m : Int) < (t : Int)) = true := decide_eq_true (by omega)
           have zq2 : decide (m < t) = true := decide_eq_true (by omega)
           have za1 : decide ((a : Int) < (s : Int)) = false := decide_eq_false (by omega)
           have za2 : decide (a < s) = false := decide_eq_false (by omega)
           have zx1 : decide ((s : Int) < (mid : Int)) = true := decide_eq_true (by omega)
           have zx2 : decide (s < mid) = true := decide_eq_true (by omega)
           have zt1 : decide ((mid : Int) < (t : Int)) = true := decide_eq_true (by omega)
           have zt2 : decide (mid < t) = true := decide_eq_true (by omega)
           have zb1 : decide ((t : Int) < (b : Int)) = true := decide_eq_true (by omega)
           have zb2 : decide (t < b) = true := decide_eq_true (by omega)
           have HSX := Aside0.mk (show d.size = d.size from rfl)
           have hr_d : a < mid := by omega
           have hr_e : mid < b := by omega
           have HRT := Aside0.mk (rotate_calls blk off cap s m t d0 d w0 wr (.func (.func 109) #[] #[.pointer (some ⟨pc, 0, none⟩), .pointer (some ⟨pk, 0, none⟩)]) HR.out HS.out S1.out (by omega) (by omega) (by omega) hsz)
           go_wp2_with (first | (go_at_call 182; refine HRT.out.mono ?_; rintro e_ w2 ⟨rfl, e, hr_, hs_⟩; have S2 := Aside0.mk hs_; have HRO := Aside0.mk hr_; have HRN := Aside0.mk (HCD.out.runs hr_); clear hs_ hr_) | (go_at_call 176; have q1_ : SortedIn ltC mid t e := (fun i j g1 g2 g3 => by have h_ := HRN.out.2.2.1; rw [hxm] at h_; exact h_ i j g1 g2 g3); have q2_ : SortedIn ltC t b e := (fun i j g1 g2 g3 => by exact HRN.out.2.2.2.1 i j g1 g2 g3); (with_reducible refine (IH.out mid t b e _ (by omega) (by have := HRO.out.size; omega) S2.out (by omega) (by omega) (by have := HRO.out.size; omega) q1_ q2_).mono ?_); rintro e_ w5 ⟨rfl, e2, hm_, hs_⟩; have S5 := Aside0.mk hs_; have HM2 := Aside0.mk hm_; clear hs_ hm_ q1_ q2_))
           go_end0
           have HM1 := Aside0.mk (show Mrg ltC a mid e e from Mrg.refl (sorted_sub (show SortedIn ltC s (s + (t - m)) e from HRN.out.2.1) (by omega) (by omega)))
           refine ⟨rfl, e2, HCD.out.merged h3 HRO.out (e1 := e) ?_ ?_, S5.out⟩
           ·rw [hxm]; exact HM1.out
           ·rw [hxm]; exact HM2.out
          ·have zp1 : decide ((s : Int) < (m : Int)) = true := decide_eq_true (by omega)
           have zp2 : decide (s < m) = true := decide_eq_true (by omega)
           have zq1 : decide ((m : Int) < (t : Int)) = true := decide_eq_true (by omega)
           have zq2 : decide (m < t) = true := decide_eq_true (by omega)
           have za1 : decide ((a : Int) < (s : Int)) = false := decide_eq_false (by omega)
           have za2 : decide (a < s) = false := decide_eq_false (by omega)
           have zx1 : decide ((s : Int) < (mid : Int)) = true := decide_eq_true (by omega)
           have zx2 : decide (s < mid) = true := decide_eq_true (by omega)
           have zt1 : decide ((mid : Int) < (t : Int)) = true := decide_eq_true (by omega)
           have zt2 : decide (mid < t) = true := decide_eq_true (by omega)
           have zb1 : decide ((t : Int) < (b : Int)) = false := decide_eq_false (by omega)
           have zb2 : decide (t < b) = false := decide_eq_false (by omega)
           have HSX := Aside0.mk (show d.size = d.size from rfl)
           have hr_d : a < mid := by omega
           have hr_e : mid < b := by omega
           have HRT := Aside0.mk (rotate_calls blk off cap s m t d0 d w0 wr (.func (.func 109) #[] #[.pointer (some ⟨pc, 0, none⟩), .pointer (some ⟨pk, 0, none⟩)]) HR.out HS.out S1.out (by omega) (by omega) (by omega) hsz)
           go_wp2_with (first | (go_at_call 182; refine HRT.out.mono ?_; rintro e_ w2 ⟨rfl, e, hr_, hs_⟩; have S2 := Aside0.mk hs_; have HRO := Aside0.mk hr_; have HRN := Aside0.mk (HCD.out.runs hr_); clear hs_ hr_))
           go_end0
           have HM1 := Aside0.mk (show Mrg ltC a mid e e from Mrg.refl (sorted_sub (show SortedIn ltC s (s + (t - m)) e from HRN.out.2.1) (by omega) (by omega)))
           have HM2 := Aside0.mk (show Mrg ltC mid b e e from Mrg.refl (fun i j g1 g2 g3 => by exact HRN.out.2.2.1 i j (by omega) g2 (by omega)))
           refine ⟨rfl, e, HCD.out.merged h3 HRO.out (e1 := e) ?_ ?_, S2.out⟩
           ·rw [hxm]; exact HM1.out
           ·rw [hxm]; exact HM2.out
        ·by_cases cA : a < s
         ·by_cases cB : t < b
          ·have zp1 : decide ((s : Int) < (m : Int)) = true := decide_eq_true (by omega)
           have zp2 : decide (s < m) = true := decide_eq_true (by omega)
           have zq1 : decide ((m : Int) < (t : Int)) = false := decide_eq_false (by omega)
           have zq2 : decide (m < t) = false := decide_eq_false (by omega)
           have za1 : decide ((a : Int) < (s : Int)) = true := decide_eq_true (by omega)
           have za2 : decide (a < s) = true := decide_eq_true (by omega)
           have zx1 : decide ((s : Int) < (mid : Int)) = false := decide_eq_false (by omega)
           have zx2 : decide (s < mid) = false := decide_eq_false (by omega)
           have zt1 : decide ((mid : Int) < (t : Int)) = true := decide_eq_true (by omega)
           have zt2 : decide (mid < t) = true := decide_eq_true (by omega)
           have zb1 : decide ((t : Int) < (b : Int)) = true := decide_eq_true (by omega)
           have zb2 : decide (t < b) = true := decide_eq_true (by omega)
           have HSX := Aside0.mk (show d.size = d.size from rfl)
           have hr_d : a < mid := by omega
           have hr_e : mid < b := by omega
           have HRO := Aside0.mk (rot_none (d := d) (show s = m ∨ m = t by omega) k2 k3)
           have HRN := Aside0.mk (HCD.out.runs HRO.out)
           have S2 := S1
           go_wp2_with (first | (go_at_call 176; have q1_ : SortedIn ltC mid t d := (fun i j g1 g2 g3 => by have h_ := HRN.out.2.2.1; rw [hxm] at h_; exact h_ i j g1 g2 g3); have q2_ : SortedIn ltC t b d := (fun i j g1 g2 g3 => by exact HRN.out.2.2.2.1 i j g1 g2 g3); (with_reducible refine (IH.out mid t b d _ (by omega) (by have := HRO.out.size; omega) S2.out (by omega) (by omega) (by have := HRO.out.size; omega) q1_ q2_).mono ?_); rintro e_ w5 ⟨rfl, e2, hm_, hs_⟩; have S5 := Aside0.mk hs_; have HM2 := Aside0.mk hm_; clear hs_ hm_ q1_ q2_))
           go_end0
           have HM1 := Aside0.mk (show Mrg ltC a mid d d from Mrg.refl (sorted_sub HRN.out.1 (Nat.le_refl _) (by omega)))
           refine ⟨rfl, e2, HCD.out.merged h3 HRO.out (e1 := d) ?_ ?_, S5.out⟩
           ·rw [hxm]; exact HM1.out
           ·rw [hxm]; exact HM2.out
          ·exfalso; omega
         ·by_cases cB : t < b
          ·have zp1 : decide ((s : Int) < (m : Int)) = true := decide_eq_true (by omega)
           have zp2 : decide (s < m) = true := decide_eq_true (by omega)
           have zq1 : decide ((m : Int) < (t : Int)) = false := decide_eq_false (by omega)
           have zq2 : decide (m < t) = false := decide_eq_false (by omega)
           have za1 : decide ((a : Int) < (s : Int)) = false := decide_eq_false (by omega)
           have za2 : decide (a < s) = false := decide_eq_false (by omega)
           have zx1 : decide ((s : Int) < (mid : Int)) = false := decide_eq_false (by omega)
           have zx2 : decide (s < mid) = false := decide_eq_false (by omega)
           have zt1 : decide ((mid : Int) < (t : Int)) = true := decide_eq_true (by omega)
           have zt2 : decide (mid < t) = true := decide_eq_true (by omega)
           have zb1 : decide ((t : Int) < (b : Int)) = true := decide_eq_true (by omega)
           have zb2 : decide (t < b) = true := decide_eq_true (by omega)
           have HSX := Aside0.mk (show d.size = d.size from rfl)
           have hr_d : a < mid := by omega
           have hr_e : mid < b := by omega
           have HRO := Aside0.mk (rot_none (d := d) (show s = m ∨ m = t by omega) k2 k3)
           have HRN := Aside0.mk (HCD.out.runs HRO.out)
           have S2 := S1
           go_wp2_with (first | (go_at_call 176; have q1_ : SortedIn ltC mid t d := (fun i j g1 g2 g3 => by have h_ := HRN.out.2.2.1; rw [hxm] at h_; exact h_ i j g1 g2 g3); have q2_ : SortedIn ltC t b d := (fun i j g1 g2 g3 => by exact HRN.out.2.2.2.1 i j g1 g2 g3); (with_reducible refine (IH.out mid t b d _ (by omega) (by have := HRO.out.size; omega) S2.out (by omega) (by omega) (by have := HRO.out.size; omega) q1_ q2_).mono ?_); rintro e_ w5 ⟨rfl, e2, hm_, hs_⟩; have S5 := Aside0.mk hs_; have HM2 := Aside0.mk hm_; clear hs_ hm_ q1_ q2_))
           go_end0
           have HM1 := Aside0.mk (show Mrg ltC a mid d d from Mrg.refl (sorted_sub (show SortedIn ltC s (s + (t - m)) d from HRN.out.2.1) (by omega) (by omega)))
           refine ⟨rfl, e2, HCD.out.merged h3 HRO.out (e1 := d) ?_ ?_, S5.out⟩
           ·rw [hxm]; exact HM1.out
           ·rw [hxm]; exact HM2.out
          ·exfalso; omega
       ·by_cases cQ : m < t
        ·by_cases cA : a < s
         ·by_cases cB : t < b
          ·have zp1 : decide ((s : Int) < (m : Int)) = false := decide_eq_false (by omega)
           have zp2 : decide (s < m) = false := decide_eq_false (by omega)
           have zq1 : decide ((m : Int) < (t : Int)) = true := decide_eq_true (by omega)
           have zq2 : decide (m < t) = true := decide_eq_true (by omega)
           have za1 : decide ((a : Int) < (s : Int)) = true := decide_eq_true (by omega)
           have za2 : decide (a < s) = true := decide_eq_true (by omega)
           have zx1 : decide ((s : Int) < (mid : Int)) = true := decide_eq_true (by omega)
           have zx2 : decide (s < mid) = true := decide_eq_true (by omega)
           have zt1 : decide ((mid : Int) < (t : Int)) = false := decide_eq_false (by omega)
           have zt2 : decide (mid < t) = false := decide_eq_false (by omega)
           have zb1 : decide ((t : Int) < (b : Int)) = true := decide_eq_true (by omega)
           have zb2 : decide (t < b) = true := decide_eq_true (by omega)
           have HSX := Aside0.mk (show d.size = d.size from rfl)
           have hr_d : a < mid := by omega
           have hr_e : mid < b := by omega
           have HRO := Aside0.mk (rot_none (d := d) (show s = m ∨ m = t by omega) k2 k3)
           have HRN := Aside0.mk (HCD.out.runs HRO.out)
           have S2 := S1
           go_wp2_with (first | (go_at_call 176; (with_reducible refine (IH.out a s mid d _ (by omega) (by have := HRO.out.size; omega) S2.out (by omega) (by omega) (by have := HRO.out.size; omega) HRN.out.1 (by have h_ := HRN.out.2.1; rw [hxm] at h_; exact h_)).mono ?_); rintro e_ w4 ⟨rfl, e1, hm_, hs_⟩; have S4 := Aside0.mk hs_; have HM1 := Aside0.mk hm_; clear hs_ hm_))
           go_end0
           have HM2 := Aside0.mk (show Mrg ltC mid b e1 e1 from Mrg.refl (fun i j g1 g2 g3 => by rw [HM1.out.perm.2.1 i (.inr (by omega)), HM1.out.perm.2.1 j (.inr (by omega))]; exact HRN.out.2.2.2.1 i j (by omega) g2 (by omega)))
           refine ⟨rfl, e1, HCD.out.merged h3 HRO.out (e1 := e1) ?_ ?_, S4.out⟩
           ·rw [hxm]; exact HM1.out
           ·rw [hxm]; exact HM2.out
          ·have zp1 : decide ((s : Int) < (m : Int)) = false := decide_eq_false (by omega)
           have zp2 : decide (s < m) = false := decide_eq_false (by omega)
           have zq1 : decide ((m : Int) < (t : Int)) = true := decide_eq_true (by omega)
           have zq2 : decide (m < t) = true := decide_eq_true (by omega)
           have za1 : decide ((a : Int) < (s : Int)) = true := decide_eq_true (by omega)
           have za2 : decide (a < s) = true := decide_eq_true (by omega)
           have zx1 : decide ((s : Int) < (mid : Int)) = true := decide_eq_true (by omega)
           have zx2 : decide (s < mid) = true := decide_eq_true (by omega)
           have zt1 : decide ((mid : Int) < (t : Int)) = false := decide_eq_false (by omega)
           have zt2 : decide (mid < t) = false := decide_eq_false (by omega)
           have zb1 : decide ((t : Int) < (b : Int)) = false := decide_eq_false (by omega)
           have zb2 : decide (t < b) = false := decide_eq_false (by omega)
           have HSX := Aside0.mk (show d.size = d.size from rfl)
           have hr_d : a < mid := by omega
           have hr_e : mid < b := by omega
           have HRO := Aside0.mk (rot_none (d := d) (show s = m ∨ m = t by omega) k2 k3)
           have HRN := Aside0.mk (HCD.out.runs HRO.out)
           have S2 := S1
           go_wp2_with (first | (go_at_call 176; (with_reducible refine (IH.out a s mid d _ (by omega) (by have := HRO.out.size; omega) S2.out (by omega) (by omega) (by have := HRO.out.size; omega) HRN.out.1 (by have h_ := HRN.out.2.1; rw [hxm] at h_; exact h_)).mono ?_); rintro e_ w4 ⟨rfl, e1, hm_, hs_⟩; have S4 := Aside0.mk hs_; have HM1 := Aside0.mk hm_; clear hs_ hm_))
           go_end0
           have HM2 := Aside0.mk (show Mrg ltC mid b e1 e1 from Mrg.refl (fun i j g1 g2 g3 => by rw [HM1.out.perm.2.1 i (.inr (by omega)), HM1.out.perm.2.1 j (.inr (by omega))]; exact HRN.out.2.2.2.1 i j (by omega) g2 (by omega)))
           refine ⟨rfl, e1, HCD.out.merged h3 HRO.out (e1 := e1) ?_ ?_, S4.out⟩
           ·rw [hxm]; exact HM1.out
           ·rw [hxm]; exact HM2.out
         ·by_cases cB : t < b
          ·exfalso; omega
          ·exfalso; omega
        ·by_cases cA : a < s
         ·by_cases cB : t < b
          ·have zp1 : decide ((s : Int) < (m : Int)) = false := decide_eq_false (by omega)
           have zp2 : decide (s < m) = false := decide_eq_false (by omega)
           have zq1 : decide ((m : Int) < (t : Int)) = false := decide_eq_false (by omega)
           have zq2 : decide (m < t) = false := decide_eq_false (by omega)
           have za1 : decide ((a : Int) < (s : Int)) = true := decide_eq_true (by omega)
           have za2 : decide (a < s) = true := decide_eq_true (by omega)
           have zx1 : decide ((s : Int) < (mid : Int)) = false := decide_eq_false (by omega)
           have zx2 : decide (s < mid) = false := decide_eq_false (by omega)
           have zt1 : decide ((mid : Int) < (t : Int)) = false := decide_eq_false (by omega)
           have zt2 : decide (mid < t) = false := decide_eq_false (by omega)
           have zb1 : decide ((t : Int) < (b : Int)) = true := decide_eq_true (by omega)
           have zb2 : decide (t < b) = true := decide_eq_true (by omega)
           have HSX := Aside0.mk (show d.size = d.size from rfl)
           have hr_d : a < mid := by omega
           have hr_e : mid < b := by omega
           have HRO := Aside0.mk (rot_none (d := d) (show s = m ∨ m = t by omega) k2 k3)
           have HRN := Aside0.mk (HCD.out.runs HRO.out)
           have S2 := S1
           go_wp2
           go_end0
           have HM1 := Aside0.mk (show Mrg ltC a mid d d from Mrg.refl (sorted_sub HRN.out.1 (Nat.le_refl _) (by omega)))
           have HM2 := Aside0.mk (show Mrg ltC mid b d d from Mrg.refl (fun i j g1 g2 g3 => by exact HRN.out.2.2.2.1 i j (by omega) g2 (by omega)))
           refine ⟨rfl, d, HCD.out.merged h3 HRO.out (e1 := d) ?_ ?_, S2.out⟩
           ·rw [hxm]; exact HM1.out
           ·rw [hxm]; exact HM2.out
          ·exfalso; omega
         ·by_cases cB : t < b
          ·exfalso; omega
          ·exfalso; omega
    ·have z1 : decide ((mid : Int) < (m : Int)) = false := decide_eq_false (by omega)
     have z2 : decide (mid < m) = false := decide_eq_false hmm
     have hs1 : a = s0 := by unfold sStart at hs0; rw [if_neg (by omega)] at hs0; omega
     have hr1 : m = r0 := by unfold sEnd at hr0; rw [if_neg (by omega)] at hr0; omega
     have HR1 := Aside0.mk hr1
     have HS1 := Aside0.mk hs1
     clear hs0 hr0 hmid hn hq hs hs1 hr1 z7
     go_enter Tryd.func176, Tryd.ntmps176
     go_wp2
     clear f1 f2 f2' f5 f3 f4 f4' f6 em en eq' z1 z2
     go_loopw [20, 21, 23, 149, 150, 151, 152, 153, 154, 155, 156, 157, 158, 159, 160, 161, 162, 163, 164, 165, 166, 167, 168, 169, 170, 171, 172, 173, 174] (fun v20 v21 _ _ _ _ _ _ _ _ _ _ _ _ _ _ _ _ _ _ _ _ _ _ _ _ _ _ _ wr => ∃ s r : Nat, v20 = .int .i64 s ∧ v21 = .int .i64 r ∧ Aside0 (Srch ltC d ((a + b) / 2 + m - 1) (sStart a m b) (sEnd a m b) s r) ∧ Aside0 (SWK e34 7 w0 blk off d wr)) (fun v20 v21 _ _ _ _ _ _ _ _ _ _ _ _ _ _ _ _ _ _ _ _ _ _ _ _ _ _ _ _ => (intOf v21).toNat - (intOf v20).toNat)
     case atStart => exact ⟨s0, r0, by rw [← HS1.out], by rw [← HR1.out], HST0, S0⟩
     case round =>
      clear S0 HST0
      obtain ⟨s, r, rfl, rfl, HST, S1⟩ := hrel
      have hxy := HST.out.hxy
      have hx1 := HST.out.hx
      have hy1 := HST.out.hy
      have hse : sEnd a m b ≤ m := by unfold sEnd; split <;> omega
      have hmid := HMID.out
      have hn := HN.out
      have hq := HQ.out
      by_cases hlt : s < r
      ·have d1 : decide ((s : Int) < (r : Int)) = true := decide_eq_true (by omega)
       have d2 : decide (s < r) = true := decide_eq_true hlt
       obtain ⟨c, hc⟩ : ∃ c, (s + r) / 2 = c := ⟨_, rfl⟩
       have ec : ((s : Int) + (r : Int)) / 2 = (c : Int) := by omega
       have gc1 : s ≤ c := by omega
       have gc2 : c < r := by omega
       obtain ⟨b1, b2, b3, b4⟩ := s_bounds h1 h2 (show sStart a m b ≤ c by omega) (show c < sEnd a m b by omega)
       obtain ⟨u, hu⟩ : ∃ u, (a + b) / 2 + m - 1 - c = u := ⟨_, rfl⟩
       have eu : (q : Int) - (c : Int) = (u : Int) := by omega
       have gu : u < d.size := by omega
       have gc : c < d.size := by omega
       have hxb : s < 2305843009213693952 := by omega
       have hyb : r < 2305843009213693952 := by omega
       have HU := Aside0.mk hu
       have GE := Aside0.mk eu
       clear hc hu b1 b2 b3 b4 hmid hn hq hx1 hy1 eu
       cases hl : ltC d[u]! d[c]! with
       | false =>
        have HL := Aside0.mk hl
        clear hl
        go_upto_region 35 with (fail)
        clear ec
        have eu := GE.out
        have eu2 : IntKind.i64.wrap ((q : Int) - (c : Int)) = (u : Int) := by rw [eu, IntKind.wrap_i64]; omega
        have hn_39321 : ((u : Int)).toNat = u := by omega
        have hp_39321 : (0 : Int) ≤ (u : Int) := by omega
        have hq_39321 : (u : Int) < (d.size : Int) := by omega
        have hw_39321 : IntKind.i64.wrap ((u : Int)) = (u : Int) := by rw [IntKind.wrap_i64]; omega
        have hn_75478 : ((c : Int)).toNat = c := by omega
        have hp_75478 : (0 : Int) ≤ (c : Int) := by omega
        have hq_75478 : (c : Int) < (d.size : Int) := by omega
        have hw_75478 : IntKind.i64.wrap ((c : Int)) = (c : Int) := by rw [IntKind.wrap_i64]; omega
        obtain ⟨x, hx⟩ : ∃ x, d[u]! = x := ⟨_, rfl⟩
        obtain ⟨y, hy⟩ : ∃ y, d[c]! = y := ⟨_, rfl⟩
        have cx := (sw_at S1.out HR.out (by have := HS.out; omega) (show u < d.size by omega)).1
        have cy := (sw_at S1.out HR.out (by have := HS.out; omega) (show c < d.size by omega)).1
        rw [hx] at cx
        rw [hy] at cy
        have hd : decide (cmpC x y < 0) = false := by rw [← hx, ← hy]; exact HL.out
        have hcall := fun n os => comp_grown S1.out HCB.out x y n os
        obtain ⟨x0, x1, x2, x3, x4, x5, x6⟩ := cx
        obtain ⟨y0, y1, y2, y3, y4, y5, y6⟩ := cy
        have x0 := cell_all x0
        have x1 := cell_all x1
        have x2 := cell_all x2
        have x3 := cell_all x3
        have x4 := cell_all x4
        have x5 := cell_all x5
        have x6 := cell_all x6
        have y0 := cell_all y0
        have y1 := cell_all y1
        have y2 := cell_all y2
        have y3 := cell_all y3
        have y4 := cell_all y4
        have y5 := cell_all y5
        have y6 := cell_all y6
        clear hx hy
        have mixed : Tryd.prog.follows .mixedOrders = true := by kernel_rfl
        go_wp2_with fail
        go_quiet_grown ((go_at_call 109; refine Calls.grown_of (hcall _ _)))
        have S2 := Aside0.mk (S1.out.grown nq osq)
        clear x0 x1 x2 x3 x4 x5 x6 y0 y1 y2 y3 y4 y5 y6 hcall S1 mixed
        generalize grow (wr.drewN nq) osq = w2 at S2 ⊢
        clear nq osq
        clear eu eu2
        go_wp2
        go_roundw
        case rel => exact ⟨c + 1, r, by go_num, rfl, ⟨HST.out.less swo_C LO.out HI.out h1 h2 gc1 gc2 (by rw [HU.out]; exact HL.out)⟩, S2⟩
        case measure => simp [intOf]; try omega
       | true =>
        have HL := Aside0.mk hl
        clear hl
        go_upto_region 35 with (fail)
        clear ec
        have eu := GE.out
        have eu2 : IntKind.i64.wrap ((q : Int) - (c : Int)) = (u : Int) := by rw [eu, IntKind.wrap_i64]; omega
        have hn_39321 : ((u : Int)).toNat = u := by omega
        have hp_39321 : (0 : Int) ≤ (u : Int) := by omega
        have hq_39321 : (u : Int) < (d.size : Int) := by omega
        have hw_39321 : IntKind.i64.wrap ((u : Int)) = (u : Int) := by rw [IntKind.wrap_i64]; omega
        have hn_75478 : ((c : Int)).toNat = c := by omega
        have hp_75478 : (0 : Int) ≤ (c : Int) := by omega
        have hq_75478 : (c : Int) < (d.size : Int) := by omega
        have hw_75478 : IntKind.i64.wrap ((c : Int)) = (c : Int) := by rw [IntKind.wrap_i64]; omega
        obtain ⟨x, hx⟩ : ∃ x, d[u]! = x := ⟨_, rfl⟩
        obtain ⟨y, hy⟩ : ∃ y, d[c]! = y := ⟨_, rfl⟩
        have cx := (sw_at S1.out HR.out (by have := HS.out; omega) (show u < d.size by omega)).1
        have cy := (sw_at S1.out HR.out (by have := HS.out; omega) (show c < d.size by omega)).1
        rw [hx] at cx
        rw [hy] at cy
        have hd : decide (cmpC x y < 0) = true := by rw [← hx, ← hy]; exact HL.out
        have hcall := fun n os => comp_grown S1.out HCB.out x y n os
        obtain ⟨x0, x1, x2, x3, x4, x5, x6⟩ := cx
        obtain ⟨y0, y1, y2, y3, y4, y5, y6⟩ := cy
        have x0 := cell_all x0
        have x1 := cell_all x1
        have x2 := cell_all x2
        have x3 := cell_all x3
        have x4 := cell_all x4
        have x5 := cell_all x5
        have x6 := cell_all x6
        have y0 := cell_all y0
        have y1 := cell_all y1
        have y2 := cell_all y2
        have y3 := cell_all y3
        have y4 := cell_all y4
        have y5 := cell_all y5
        have y6 := cell_all y6
        clear hx hy
        have mixed : Tryd.prog.follows .mixedOrders = true := by kernel_rfl
        go_wp2_with fail
        go_quiet_grown ((go_at_call 109; refine Calls.grown_of (hcall _ _)))
        have S2 := Aside0.mk (S1.out.grown nq osq)
        clear x0 x1 x2 x3 x4 x5 x6 y0 y1 y2 y3 y4 y5 y6 hcall S1 mixed
        generalize grow (wr.drewN nq) osq = w2 at S2 ⊢
        clear nq osq
        clear eu eu2
        go_wp2
        go_roundw
        case rel => exact ⟨s, c, rfl, rfl, ⟨HST.out.more swo_C LO.out HI.out h1 h2 gc1 gc2 (by rw [HU.out]; exact HL.out)⟩, S2⟩
        case measure => simp [intOf]; try omega
      ·obtain rfl : s = r := by omega
       have d1 : decide ((s : Int) < (s : Int)) = false := decide_eq_false (by omega)
       have d2 : decide (s < s) = false := decide_eq_false (by omega)
       have HCT := Aside0.mk (HST.out.cut swo_C LO.out HI.out h1 h2)
       clear HST
       obtain ⟨t, ht⟩ : ∃ t, n - s = t := ⟨_, rfl⟩
       have et : (n : Int) - (s : Int) = (t : Int) := by omega
       obtain ⟨hcut, hxm⟩ := HCT.out
       rw [show (a + b) / 2 + m - s = t by omega] at hcut hxm
       rw [hmid] at hxm
       have k1 := hcut.has
       have k2 := hcut.hsm
       have k3 := hcut.hmn
       have k4 := hcut.hnb
       have HCD := Aside0.mk hcut
       clear hcut HCT
       by_cases cP : s < m
       ·by_cases cQ : m < t
        ·by_cases cA : a < s
         ·by_cases cB : t < b
          ·have zp1 : decide ((s : Int) < (m : Int)) = true := decide_eq_true (by omega)
           have zp2 : decide (s < m) = true := decide_eq_true (by omega)
           have zq1 : decide ((m : Int) < (t : Int)) = true := decide_eq_true (by omega)
           have zq2 : decide (m < t) = true := decide_eq_true (by omega)
           have za1 : decide ((a : Int) < (s : Int)) = true := decide_eq_true (by omega)
           have za2 : decide (a < s) = true := decide_eq_true (by omega)
           have zx1 : decide ((s : Int) < (mid : Int)) = true := decide_eq_true (by omega)
           have zx2 : decide (s < mid) = true := decide_eq_true (by omega)
           have zt1 : decide ((mid : Int) < (t : Int)) = true := decide_eq_true (by omega)
           have zt2 : decide (mid < t) = true := decide_eq_true (by omega)
           have zb1 : decide ((t : Int) < (b : Int)) = true := decide_eq_true (by omega)
           have zb2 : decide (t < b) = true := decide_eq_true (by omega)
           have HSX := Aside0.mk (show d.size = d.size from rfl)
           have hr_d : a < mid := by omega
           have hr_e : mid < b := by omega
           have HRT := Aside0.mk (rotate_calls blk off cap s m t d0 d w0 wr (.func (.func 109) #[] #[.pointer (some ⟨pc, 0, none⟩), .pointer (some ⟨pk, 0, none⟩)]) HR.out HS.out S1.out (by omega) (by omega) (by omega) hsz)
           go_wp2_with (first | (go_at_call 182; refine HRT.out.mono ?_; rintro e_ w2 ⟨rfl, e, hr_, hs_⟩; have S2 := Aside0.mk hs_; have HRO := Aside0.mk hr_; have HRN := Aside0.mk (HCD.out.runs hr_); clear hs_ hr_) | (go_at_call 176; (with_reducible refine (IH.out a s mid e _ (by omega) (by have := HRO.out.size; omega) S2.out (by omega) (by omega) (by have := HRO.out.size; omega) HRN.out.1 (by have h_ := HRN.out.2.1; rw [hxm] at h_; exact h_)).mono ?_); rintro e_ w4 ⟨rfl, e1, hm_, hs_⟩; have S4 := Aside0.mk hs_; have HM1 := Aside0.mk hm_; clear hs_ hm_) | (go_at_call 176; have z_ := (show e1.size = e.size from HM1.out.perm.1); have q1_ : SortedIn ltC mid t e1 := (fun i j g1 g2 g3 => by rw [HM1.out.perm.2.1 i (.inr (by omega)), HM1.out.perm.2.1 j (.inr (by omega))]; have h_ := HRN.out.2.2.1; rw [hxm] at h_; exact h_ i j g1 g2 g3); have q2_ : SortedIn ltC t b e1 := (fun i j g1 g2 g3 => by rw [HM1.out.perm.2.1 i (.inr (by omega)), HM1.out.perm.2.1 j (.inr (by omega))]; exact HRN.out.2.2.2.1 i j g1 g2 g3); (with_reducible refine (IH.out mid t b e1 _ (by omega) (by have := HRO.out.size; omega) S4.out (by omega) (by omega) (by have := HRO.out.size; omega) q1_ q2_).mono ?_); rintro e_ w5 ⟨rfl, e2, hm_, hs_⟩; have S5 := Aside0.mk hs_; have HM2 := Aside0.mk hm_; clear hs_ hm_ q1_ q2_))
           go_end0
           refine ⟨rfl, e2, HCD.out.merged h3 HRO.out (e1 := e1) ?_ ?_, S5.out⟩
           ·rw [hxm]; exact HM1.out
           ·rw [hxm]; exact HM2.out
          ·have zp1 : decide ((s : Int) < (m : Int)) = true := decide_eq_true (by omega)
           have zp2 : decide (s < m) = true := decide_eq_true (by omega)
           have zq1 : decide ((m : Int) < (t : Int)) = true := decide_eq_true (by omega)
           have zq2 : decide (m < t) = true := decide_eq_true (by omega)
           have za1 : decide ((a : Int) < (s : Int)) = true := decide_eq_true (by omega)
           have za2 : decide (a < s) = true := decide_eq_true (by omega)
           have zx1 : decide ((s : Int) < (mid : Int)) = true := decide_eq_true (by omega)
           have zx2 : decide (s < mid) = true := decide_eq_true (by omega)
           have zt1 : decide ((mid : Int) < (t : Int)) = true := decide_eq_true (by omega)
           have zt2 : decide (mid < t) = true := decide_eq_true (by omega)
           have zb1 : decide ((t : Int) < (b : Int)) = false := decide_eq_false (by omega)
           have zb2 : decide (t < b) = false := decide_eq_false (by omega)
           have HSX := Aside0.mk (show d.size = d.size from rfl)
           have hr_d : a < mid := by omega
           have hr_e : mid < b := by omega
           have HRT := Aside0.mk (rotate_calls blk off cap s m t d0 d w0 wr (.func (.func 109) #[] #[.pointer (some ⟨pc, 0, none⟩), .pointer (some ⟨pk, 0, none⟩)]) HR.out HS.out S1.out (by omega) (by omega) (by omega) hsz)
           go_wp2_with (first | (go_at_call 182; refine HRT.out.mono ?_; rintro e_ w2 ⟨rfl, e, hr_, hs_⟩; have S2 := Aside0.mk hs_; have HRO := Aside0.mk hr_; have HRN := Aside0.mk (HCD.out.runs hr_); clear hs_ hr_) | (go_at_call 176; (with_reducible refine (IH.out a s mid e _ (by omega) (by have := HRO.out.size; omega) S2.out (by omega) (by omega) (by have := HRO.out.size; omega) HRN.out.1 (by have h_ := HRN.out.2.1; rw [hxm] at h_; exact h_)).mono ?_); rintro e_ w4 ⟨rfl, e1, hm_, hs_⟩; have S4 := Aside0.mk hs_; have HM1 := Aside0.mk hm_; clear hs_ hm_))
           go_end0
           have HM2 := Aside0.mk (show Mrg ltC mid b e1 e1 from Mrg.refl (fun i j g1 g2 g3 => by rw [HM1.out.perm.2.1 i (.inr (by omega)), HM1.out.perm.2.1 j (.inr (by omega))]; exact HRN.out.2.2.1 i j (by omega) g2 (by omega)))
           refine ⟨rfl, e1, HCD.out.merged h3 HRO.out (e1 := e1) ?_ ?_, S4.out⟩
           ·rw [hxm]; exact HM1.out
           ·rw [hxm]; exact HM2.out
         ·by_cases cB : t < b
          ·have zp1 : decide ((s : Int) < (m : Int)) = true := decide_eq_true (by omega)
           have zp2 : decide (s < m) = true := decide_eq_true (by omega)
           have zq1 : decide ((m : Int) < (t : Int)) = true := decide_eq_true (by omega)
           have zq2 : decide (m < t) = true := decide_eq_true (by omega)
           have za1 : decide ((a : Int) < (s : Int)) = false := decide_eq_false (by omega)
           have za2 : decide (a < s) = false := decide_eq_false (by omega)
           have zx1 : decide ((s : Int) < (mid : Int)) = true := decide_eq_true (by omega)
           have zx2 : decide (s < mid) = true := decide_eq_true (by omega)
           have zt1 : decide ((mid : Int) < (t : Int)) = true := decide_eq_true (by omega)
           have zt2 : decide (mid < t) = true := decide_eq_true (by omega)
           have zb1 : decide ((t : Int) < (b : Int)) = true := decide_eq_true (by omega)
           have zb2 : decide (t < b) = true := decide_eq_true (by omega)
           have HSX := Aside0.mk (show d.size = d.size from rfl)
           have hr_d : a < mid := by omega
           have hr_e : mid < b := by omega
           have HRT := Aside0.mk (rotate_calls blk off cap s m t d0 d w0 wr (.func (.func 109) #[] #[.pointer (some ⟨pc, 0, none⟩), .pointer (some ⟨pk, 0, none⟩)]) HR.out HS.out S1.out (by omega) (by omega) (by omega) hsz)
           go_wp2_with (first | (go_at_call 182; refine HRT.out.mono ?_; rintro e_ w2 ⟨rfl, e, hr_, hs_⟩; have S2 := Aside0.mk hs_; have HRO := Aside0.mk hr_; have HRN := Aside0.mk (HCD.out.runs hr_); clear hs_ hr_) | (go_at_call 176; have q1_ : SortedIn ltC mid t e := (fun i j g1 g2 g3 => by have h_ := HRN.out.2.2.1; rw [hxm] at h_; exact h_ i j g1 g2 g3); have q2_ : SortedIn ltC t b e := (fun i j g1 g2 g3 => by exact HRN.out.2.2.2.1 i j g1 g2 g3); (with_reducible refine (IH.out mid t b e _ (by omega) (by have := HRO.out.size; omega) S2.out (by omega) (by omega) (by have := HRO.out.size; omega) q1_ q2_).mono ?_); rintro e_ w5 ⟨rfl, e2, hm_, hs_⟩; have S5 := Aside0.mk hs_; have HM2 := Aside0.mk hm_; clear hs_ hm_ q1_ q2_))
           go_end0
           have HM1 := Aside0.mk (show Mrg ltC a mid e e from Mrg.refl (sorted_sub (show SortedIn ltC s (s + (t - m)) e from HRN.out.2.1) (by omega) (by omega)))
           refine ⟨rfl, e2, HCD.out.merged h3 HRO.out (e1 := e) ?_ ?_, S5.out⟩
           ·rw [hxm]; exact HM1.out
           ·rw [hxm]; exact HM2.out
          ·have zp1 : decide ((s : Int) < (m : Int)) = true := decide_eq_true (by omega)
           have zp2 : decide (s < m) = true := decide_eq_true (by omega)
           have zq1 : decide ((m : Int) < (t : Int)) = true := decide_eq_true (by omega)
           have zq2 : decide (m < t) = true := decide_eq_true (by omega)
           have za1 : decide ((a : Int) < (s : Int)) = false := decide_eq_false (by omega)
           have za2 : decide (a < s) = false := decide_eq_false (by omega)
           have zx1 : decide ((s : Int) < (mid : Int)) = true := decide_eq_true (by omega)
           have zx2 : decide (s < mid) = true := decide_eq_true (by omega)
           have zt1 : decide ((mid : Int) < (t : Int)) = true := decide_eq_true (by omega)
           have zt2 : decide (mid < t) = true := decide_eq_true (by omega)
           have zb1 : decide ((t : Int) < (b : Int)) = false := decide_eq_false (by omega)
           have zb2 : decide (t < b) = false := decide_eq_false (by omega)
           have HSX := Aside0.mk (show d.size = d.size from rfl)
           have hr_d : a < mid := by omega
           have hr_e : mid < b := by omega
           have HRT := Aside0.mk (rotate_calls blk off cap s m t d0 d w0 wr (.func (.func 109) #[] #[.pointer (some ⟨pc, 0, none⟩), .pointer (some ⟨pk, 0, none⟩)]) HR.out HS.out S1.out (by omega) (by omega) (by omega) hsz)
           go_wp2_with (first | (go_at_call 182; refine HRT.out.mono ?_; rintro e_ w2 ⟨rfl, e, hr_, hs_⟩; have S2 := Aside0.mk hs_; have HRO := Aside0.mk hr_; have HRN := Aside0.mk (HCD.out.runs hr_); clear hs_ hr_))
           go_end0
           have HM1 := Aside0.mk (show Mrg ltC a mid e e from Mrg.refl (sorted_sub (show SortedIn ltC s (s + (t - m)) e from HRN.out.2.1) (by omega) (by omega)))
           have HM2 := Aside0.mk (show Mrg ltC mid b e e from Mrg.refl (fun i j g1 g2 g3 => by exact HRN.out.2.2.1 i j (by omega) g2 (by omega)))
           refine ⟨rfl, e, HCD.out.merged h3 HRO.out (e1 := e) ?_ ?_, S2.out⟩
           ·rw [hxm]; exact HM1.out
           ·rw [hxm]; exact HM2.out
        ·by_cases cA : a < s
         ·by_cases cB : t < b
          ·have zp1 : decide ((s : Int) < (m : Int)) = true := decide_eq_true (by omega)
           have zp2 : decide (s < m) = true := decide_eq_true (by omega)
           have zq1 : decide ((m : Int) < (t : Int)) = false := decide_eq_false (by omega)
           have zq2 : decide (m < t) = false := decide_eq_false (by omega)
           have za1 : decide ((a : Int) < (s : Int)) = true := decide_eq_true (by omega)
           have za2 : decide (a < s) = true := decide_eq_true (by omega)
           have zx1 : decide ((s : Int) < (mid : Int)) = false := decide_eq_false (by omega)
           have zx2 : decide (s < mid) = false := decide_eq_false (by omega)
           have zt1 : decide ((mid : Int) < (t : Int)) = true := decide_eq_true (by omega)
           have zt2 : decide (mid < t) = true := decide_eq_true (by omega)
           have zb1 : decide ((t : Int) < (b : Int)) = true := decide_eq_true (by omega)
           have zb2 : decide (t < b) = true := decide_eq_true (by omega)
           have HSX := Aside0.mk (show d.size = d.size from rfl)
           have hr_d : a < mid := by omega
           have hr_e : mid < b := by omega
           have HRO := Aside0.mk (rot_none (d := d) (show s = m ∨ m = t by omega) k2 k3)
           have HRN := Aside0.mk (HCD.out.runs HRO.out)
           have S2 := S1
           go_wp2_with (first | (go_at_call 176; have q1_ : SortedIn ltC mid t d := (fun i j g1 g2 g3 => by have h_ := HRN.out.2.2.1; rw [hxm] at h_; exact h_ i j g1 g2 g3); have q2_ : SortedIn ltC t b d := (fun i j g1 g2 g3 => by exact HRN.out.2.2.2.1 i j g1 g2 g3); (with_reducible refine (IH.out mid t b d _ (by omega) (by have := HRO.out.size; omega) S2.out (by omega) (by omega) (by have := HRO.out.size; omega) q1_ q2_).mono ?_); rintro e_ w5 ⟨rfl, e2, hm_, hs_⟩; have S5 := Aside0.mk hs_; have HM2 := Aside0.mk hm_; clear hs_ hm_ q1_ q2_))
           go_end0
           have HM1 := Aside0.mk (show Mrg ltC a mid d d from Mrg.refl (sorted_sub HRN.out.1 (Nat.le_refl _) (by omega)))
           refine ⟨rfl, e2, HCD.out.merged h3 HRO.out (e1 := d) ?_ ?_, S5.out⟩
           ·rw [hxm]; exact HM1.out
           ·rw [hxm]; exact HM2.out
          ·exfalso; omega
         ·by_cases cB : t < b
          ·have zp1 : decide ((s : Int) < (m : Int)) = true := decide_eq_true (by omega)
           have zp2 : decide (s < m) = true := decide_eq_true (by omega)
           have zq1 : decide ((m : Int) < (t : Int)) = false := decide_eq_false (by omega)
           have zq2 : decide (m < t) = false := decide_eq_false (by omega)
           have za1 : decide ((a : Int) < (s : Int)) = false := decide_eq_false (by omega)
           have za2 : decide (a < s) = false := decide_eq_false (by omega)
           have zx1 : decide ((s : Int) < (mid : Int)) = false := decide_eq_false (by omega)
           have zx2 : decide (s < mid) = false := decide_eq_false (by omega)
           have zt1 : decide ((mid : Int) < (t : Int)) = true := decide_eq_true (by omega)
           have zt2 : decide (mid < t) = true := decide_eq_true (by omega)
           have zb1 : decide ((t : Int) < (b : Int)) = true := decide_eq_true (by omega)
           have zb2 : decide (t < b) = true := decide_eq_true (by omega)
           have HSX := Aside0.mk (show d.size = d.size from rfl)
           have hr_d : a < mid := by omega
           have hr_e : mid < b := by omega
           have HRO := Aside0.mk (rot_none (d := d) (show s = m ∨ m = t by omega) k2 k3)
           have HRN := Aside0.mk (HCD.out.runs HRO.out)
           have S2 := S1
           go_wp2_with (first | (go_at_call 176; have q1_ : SortedIn ltC mid t d := (fun i j g1 g2 g3 => by have h_ := HRN.out.2.2.1; rw [hxm] at h_; exact h_ i j g1 g2 g3); have q2_ : SortedIn ltC t b d := (fun i j g1 g2 g3 => by exact HRN.out.2.2.2.1 i j g1 g2 g3); (with_reducible refine (IH.out mid t b d _ (by omega) (by have := HRO.out.size; omega) S2.out (by omega) (by omega) (by have := HRO.out.size; omega) q1_ q2_).mono ?_); rintro e_ w5 ⟨rfl, e2, hm_, hs_⟩; have S5 := Aside0.mk hs_; have HM2 := Aside0.mk hm_; clear hs_ hm_ q1_ q2_))
           go_end0
           have HM1 := Aside0.mk (show Mrg ltC a mid d d from Mrg.refl (sorted_sub (show SortedIn ltC s (s + (t - m)) d from HRN.out.2.1) (by omega) (by omega)))
           refine ⟨rfl, e2, HCD.out.merged h3 HRO.out (e1 := d) ?_ ?_, S5.out⟩
           ·rw [hxm]; exact HM1.out
           ·rw [hxm]; exact HM2.out
          ·exfalso; omega
       ·by_cases cQ : m < t
        ·by_cases cA : a < s
         ·by_cases cB : t < b
          ·have zp1 : decide ((s : Int) < (m : Int)) = false := decide_eq_false (by omega)
           have zp2 : decide (s < m) = false := decide_eq_false (by omega)
           have zq1 : decide ((m : Int) < (t : Int)) = true := decide_eq_true (by omega)
           have zq2 : decide (m < t) = true := decide_eq_true (by omega)
           have za1 : decide ((a : Int) < (s : Int)) = true := decide_eq_true (by omega)
           have za2 : decide (a < s) = true := decide_eq_true (by omega)
           have zx1 : decide ((s : Int) < (mid : Int)) = true := decide_eq_true (by omega)
           have zx2 : decide (s < mid) = true := decide_eq_true (by omega)
           have zt1 : decide ((mid : Int) < (t : Int)) = false := decide_eq_false (by omega)
           have zt2 : decide (mid < t) = false := decide_eq_false (by omega)
           have zb1 : decide ((t : Int) < (b : Int)) = true := decide_eq_true (by omega)
           have zb2 : decide (t < b) = true := decide_eq_true (by omega)
           have HSX := Aside0.mk (show d.size = d.size from rfl)
           have hr_d : a < mid := by omega
           have hr_e : mid < b := by omega
           have HRO := Aside0.mk (rot_none (d := d) (show s = m ∨ m = t by omega) k2 k3)
           have HRN := Aside0.mk (HCD.out.runs HRO.out)
           have S2 := S1
           go_wp2_with (first | (go_at_call 176; (with_reducible refine (IH.out a s mid d _ (by omega) (by have := HRO.out.size; omega) S2.out (by omega) (by omega) (by have := HRO.out.size; omega) HRN.out.1 (by have h_ := HRN.out.2.1; rw [hxm] at h_; exact h_)).mono ?_); rintro e_ w4 ⟨rfl, e1, hm_, hs_⟩; have S4 := Aside0.mk hs_; have HM1 := Aside0.mk hm_; clear hs_ hm_))
           go_end0
           have HM2 := Aside0.mk (show Mrg ltC mid b e1 e1 from Mrg.refl (fun i j g1 g2 g3 => by rw [HM1.out.perm.2.1 i (.inr (by omega)), HM1.out.perm.2.1 j (.inr (by omega))]; exact HRN.out.2.2.2.1 i j (by omega) g2 (by omega)))
           refine ⟨rfl, e1, HCD.out.merged h3 HRO.out (e1 := e1) ?_ ?_, S4.out⟩
           ·rw [hxm]; exact HM1.out
           ·rw [hxm]; exact HM2.out
          ·have zp1 : decide ((s : Int) < (m : Int)) = false := decide_eq_false (by omega)
           have zp2 : decide (s < m) = false := decide_eq_false (by omega)
           have zq1 : decide ((m : Int) < (t : Int)) = true := decide_eq_true (by omega)
           have zq2 : decide (m < t) = true := decide_eq_true (by omega)
           have za1 : decide ((a : Int) < (s : Int)) = true := decide_eq_true (by omega)
           have za2 : decide (a < s) = true := decide_eq_true (by omega)
           have zx1 : decide ((s : Int) < (mid : Int)) = true := decide_eq_true (by omega)
           have zx2 : decide (s < mid) = true := decide_eq_true (by omega)
           have zt1 : decide ((mid : Int) < (t : Int)) = false := decide_eq_false (by omega)
           have zt2 : decide (mid < t) = false := decide_eq_false (by omega)
           have zb1 : decide ((t : Int) < (b : Int)) = false := decide_eq_false (by omega)
           have zb2 : decide (t < b) = false := decide_eq_false (by omega)
           have HSX := Aside0.mk (show d.size = d.size from rfl)
           have hr_d : a < mid := by omega
           have hr_e : mid < b := by omega
           have HRO := Aside0.mk (rot_none (d := d) (show s = m ∨ m = t by omega) k2 k3)
           have HRN := Aside0.mk (HCD.out.runs HRO.out)
           have S2 := S1
           go_wp2_with (first | (go_at_call 176; (with_reducible refine (IH.out a s mid d _ (by omega) (by have := HRO.out.size; omega) S2.out (by omega) (by omega) (by have := HRO.out.size; omega) HRN.out.1 (by have h_ := HRN.out.2.1; rw [hxm] at h_; exact h_)).mono ?_); rintro e_ w4 ⟨rfl, e1, hm_, hs_⟩; have S4 := Aside0.mk hs_; have HM1 := Aside0.mk hm_; clear hs_ hm_))
           go_end0
           have HM2 := Aside0.mk (show Mrg ltC mid b e1 e1 from Mrg.refl (fun i j g1 g2 g3 => by rw [HM1.out.perm.2.1 i (.inr (by omega)), HM1.out.perm.2.1 j (.inr (by omega))]; exact HRN.out.2.2.2.1 i j (by omega) g2 (by omega)))
           refine ⟨rfl, e1, HCD.out.merged h3 HRO.out (e1 := e1) ?_ ?_, S4.out⟩
           ·rw [hxm]; exact HM1.out
           ·rw [hxm]; exact HM2.out
         ·by_cases cB : t < b
          ·exfalso; omega
          ·exfalso; omega
        ·by_cases cA : a < s
         ·by_cases cB : t < b
          ·have zp1 : decide ((s : Int) < (m : Int)) = false := decide_eq_false (by omega)
           have zp2 : decide (s < m) = false := decide_eq_false (by omega)
           have zq1 : decide ((m : Int) < (t : Int)) = false := decide_eq_false (by omega)
           have zq2 : decide (m < t) = false := decide_eq_false (by omega)
           have za1 : decide ((a : Int) < (s : Int)) = true := decide_eq_true (by omega)
           have za2 : decide (a < s) = true := decide_eq_true (by omega)
           have zx1 : decide ((s : Int) < (mid : Int)) = false := decide_eq_false (by omega)
           have zx2 : decide (s < mid) = false := decide_eq_false (by omega)
           have zt1 : decide ((mid : Int) < (t : Int)) = false := decide_eq_false (by omega)
           have zt2 : decide (mid < t) = false := decide_eq_false (by omega)
           have zb1 : decide ((t : Int) < (b : Int)) = true := decide_eq_true (by omega)
           have zb2 : decide (t < b) = true := decide_eq_true (by omega)
           have HSX := Aside0.mk (show d.size = d.size from rfl)
           have hr_d : a < mid := by omega
           have hr_e : mid < b := by omega
           have HRO := Aside0.mk (rot_none (d := d) (show s = m ∨ m = t by omega) k2 k3)
           have HRN := Aside0.mk (HCD.out.runs HRO.out)
           have S2 := S1
           go_wp2
           go_end0
           have HM1 := Aside0.mk (show Mrg ltC a mid d d from Mrg.refl (sorted_sub HRN.out.1 (Nat.le_refl _) (by omega)))
           have HM2 := Aside0.mk (show Mrg ltC mid b d d from Mrg.refl (fun i j g1 g2 g3 => by exact HRN.out.2.2.2.1 i j (by omega) g2 (by omega)))
           refine ⟨rfl, d, HCD.out.merged h3 HRO.out (e1 := d) ?_ ?_, S2.out⟩
           ·rw [hxm]; exact HM1.out
           ·rw [hxm]; exact HM2.out
          ·exfalso; omega
         ·by_cases cB : t < b
          ·exfalso; omega
          ·exfalso; omega
section
variable {α : Type} [Inhabited α] {lt : α → α → Bool} {d e : Array α} {s t a n : Nat}
theorem mul_cases (s k t : Nat) (hs : 0 < s) : s * k + s ≤ s * t ∨ s * k = s * t ∨ s * t + s ≤ s * k := by
 rcases Nat.lt_trichotomy k t with h | h | h
 ·left
  have := Nat.mul_le_mul_left s (show k + 1 ≤ t from h)
  rwa [Nat.mul_add, Nat.mul_one] at this
 ·right; left; rw [h]
 ·right; right
  have := Nat.mul_le_mul_left s (show t + 1 ≤ k from h)
  rwa [Nat.mul_add, Nat.mul_one] at this
def Upto (lt : α → α → Bool) (s a : Nat) (d : Array α) : Prop := ∀ k, s * k + s ≤ a → SortedIn lt (s * k) (s * k + s) d
theorem upto_step (hs : 0 < s) (ha : a = s * t) (h : Upto lt s a d) {b : Nat} (hp : PermIn a b d e) (hr : SortedIn lt a (a + s) e) : Upto lt s (a + s) e := by
 intro k hk
 rcases mul_cases s k t hs with h1 | h1 | h1
 ·intro i j k1 k2 k3
  rw [hp.2.1 i (.inl (by omega)), hp.2.1 j (.inl (by omega))]
  exact h k (by omega) i j k1 k2 k3
 ·rw [h1, ← ha]
  exact hr
 ·omega
theorem blks_of (hs : 0 < s) (ha : a = s * t) (h : Upto lt s a d) (hn : n < a + s) (hr : SortedIn lt a n d) : Blks lt s n d := by
 intro k
 rcases mul_cases s k t hs with h1 | h1 | h1
 ·exact sorted_sub (h k (by omega)) (Nat.le_refl _) (Nat.min_le_left _ _)
 ·rw [h1, ← ha]
  exact sorted_sub hr (Nat.le_refl _) (Nat.min_le_right _ _)
 ·intro i j k1 k2 k3
  have := Nat.min_le_right (s * k + s) n
  omega
def Tail (lt : α → α → Bool) (s a n : Nat) (d : Array α) : Prop := ∀ k, a ≤ s * k → SortedIn lt (s * k) (min (s * k + s) n) d
theorem Tail.step (h : Tail lt s a n d) {b : Nat} (hab : a ≤ b) (hp : PermIn a b d e) : Tail lt s b n e := by
 intro k hk i j k1 k2 k3
 rw [hp.2.1 i (.inr (by omega)), hp.2.1 j (.inr (by omega))]
 exact h k (by omega) i j k1 k2 k3
theorem Tail.lo (h : Tail lt s a n d) (ha : a = 2 * s * t) {m : Nat} (hm : m ≤ a + s) (hn : m ≤ n) : SortedIn lt a m d := by
 have e1 : s * (2 * t) = a := by rw [ha, Nat.mul_comm 2 s, Nat.mul_assoc]
 have h1 := h (2 * t) (by omega)
 rw [e1] at h1
 exact sorted_sub h1 (Nat.le_refl _) (Nat.le_min.2 ⟨hm, hn⟩)
theorem Tail.hi (h : Tail lt s a n d) (ha : a = 2 * s * t) {m : Nat} (hm : m ≤ a + s + s) (hn : m ≤ n) : SortedIn lt (a + s) m d := by
 have e1 : s * (2 * t + 1) = a + s := by rw [ha, Nat.mul_add, Nat.mul_one, Nat.mul_comm 2 s, Nat.mul_assoc]
 have h1 := h (2 * t + 1) (by omega)
 rw [e1] at h1
 exact sorted_sub h1 (Nat.le_refl _) (Nat.le_min.2 ⟨hm, hn⟩)
end
set_option maxHeartbeats 8000000 in
set_option maxRecDepth 1000000 in
theorem stable_calls (blk off cap pc pk : Nat) (d : Array S112) (w : World) (R : RowK e34 7 w blk off d) (C : CmpB w blk pc pk) (hsz : d.size < 2305843009213693952) :
  Calls Tryd.prog 148 #[.slice (some ⟨blk, off, none⟩) d.size cap, .int .i64 d.size, .func (.func 109) #[] #[.pointer (some ⟨pc, 0, none⟩), .pointer (some ⟨pk, 0, none⟩)]] w fun e w' => e = .returned (.tuple #[]) ∧ ∃ e', Mrg ltC 0 d.size d e' ∧ SWK e34 7 w blk off e' w' := by
 have S0 := Aside0.mk (SWK.start R.hH)
 have HR := Aside0.mk R
 have HCB := Aside0.mk C
 clear R C
 go_enter Tryd.func148, Tryd.ntmps148
 go_wp2
 go_loopw [7, 8, 11, 12, 13, 14, 15, 16, 17, 18, 19, 20, 21, 22] (fun v7 v8 _ _ _ _ _ _ _ _ _ _ _ _ wr => ∃ (a t : Nat) (e : Array S112), a = 20 * t ∧ a ≤ d.size ∧ v7 = .int .i64 a ∧ v8 = .int .i64 (a + 20 : Nat) ∧ Aside0 (PermIn 0 d.size d e) ∧ Aside0 (Upto ltC 20 a e) ∧ Aside0 (SWK e34 7 w blk off e wr)) (fun v7 _ _ _ _ _ _ _ _ _ _ _ _ _ _ => d.size + 1 - (intOf v7).toNat)
 case atStart => exact ⟨0, 0, d, rfl, Nat.zero_le _, rfl, rfl, ⟨permIn_refl _ _ _⟩, ⟨fun k hk => by omega⟩, S0⟩
 case round =>
  clear S0
  obtain ⟨a, t, e, hat, hax, rfl, rfl, HP, HU, S1⟩ := hrel
  have HAT := Aside0.mk hat
  have HPS := Aside0.mk (show e.size = d.size from HP.out.1)
  obtain ⟨b, hb⟩ : ∃ b, a + 20 = b := ⟨_, rfl⟩
  rw [hb]
  clear hat
  by_cases hlt : b ≤ d.size
  ·have d1 : decide ((b : Int) ≤ (d.size : Int)) = true := decide_eq_true (by omega)
   have d2 : decide (b ≤ d.size) = true := decide_eq_true hlt
   have HIN := Aside0.mk (insertion_calls blk off cap a b pc pk d e w wr HR.out HCB.out HPS.out.symm S1.out (by omega) (by have := HPS.out; omega) (by have := HPS.out; omega))
   have HSO := Aside0.mk (insertionSort_holds swo_C e a b (by omega) (by have := HPS.out; omega))
   rw [HPS.out] at HIN
   have HB := Aside0.mk hb
   clear hb
   go_wp2_with (first | (go_at_call 175; refine HIN.out.mono ?_; rintro e_ w2 ⟨rfl, hs_⟩; have S2 := Aside0.mk hs_; clear hs_))
   go_roundw
   case rel =>
    have hb := HB.out
    refine ⟨b, t + 1, _, by have := HAT.out; omega, hlt, rfl, by go_num, ⟨permIn_trans _ _ _ _ _ HP.out (permIn_mono _ _ _ _ _ _ (Nat.zero_le _) hlt (by have := HPS.out; omega) HSO.out.1)⟩, ⟨?_⟩, S2⟩
    have hso := HSO.out
    rw [← hb] at hso ⊢
    exact upto_step (by decide) HAT.out HU.out hso.1 hso.2
   case measure => have := HB.out; simp [intOf]; omega
  ·have d1 : decide ((b : Int) ≤ (d.size : Int)) = false := decide_eq_false (by omega)
   have d2 : decide (b ≤ d.size) = false := decide_eq_false hlt
   have HIN := Aside0.mk (insertion_calls blk off cap a d.size pc pk d e w wr HR.out HCB.out HPS.out.symm S1.out hax (by have := HPS.out; omega) (by have := HPS.out; omega))
   have HSO := Aside0.mk (insertionSort_holds swo_C e a d.size hax (by have := HPS.out; omega))
   rw [HPS.out] at HIN
   have HB := Aside0.mk hb
   have HLT := Aside0.mk hlt
   clear hb hlt
   go_upto_region 7 with (first | (go_at_call 175; refine HIN.out.mono ?_; rintro e_ w2 ⟨rfl, hs_⟩; have S2 := Aside0.mk hs_; clear hs_))
   have HP2 := Aside0.mk (permIn_trans _ _ _ _ _ HP.out (permIn_mono _ _ _ _ _ _ (Nat.zero_le _) (Nat.le_refl _) (by have := HPS.out; omega) HSO.out.1))
   have HBL := Aside0.mk (show Blks ltC 20 d.size (Sort.insertionSort ltC e a d.size) from blks_of (by decide) HAT.out (fun k hk i j k1 k2 k3 => by
    rw [HSO.out.1.2.1 i (.inl (by omega)), HSO.out.1.2.1 j (.inl (by omega))]
    exact HU.out k hk i j k1 k2 k3) (by have := HB.out; have := HLT.out; omega) HSO.out.2)
   generalize Sort.insertionSort ltC e a d.size = e at S2 HP2 HBL
   clear HIN HSO S1 HP HU HPS HAT HB HLT d1 d2 hax
   go_loopw [6, 7, 8, 9, 28, 29, 30, 31, 32, 33, 34, 35, 36, 37, 38, 39, 40, 41, 42, 43, 44, 45, 46, 47, 48, 49, 50, 51, 52, 53, 54, 55, 56, 57, 58, 59, 60, 61, 62] (fun v6 _ _ _ _ _ _ _ _ _ _ _ _ _ _ _ _ _ _ _ _ _ _ _ _ _ _ _ _ _ _ _ _ _ _ _ _ _ _ wr => ∃ (s : Nat) (e : Array S112), 0 < s ∧ s ≤ 2 * d.size + 20 ∧ v6 = .int .i64 s ∧ Aside0 (PermIn 0 d.size d e) ∧ Aside0 (Blks ltC s d.size e) ∧ Aside0 (SWK e34 7 w blk off e wr)) (fun v6 _ _ _ _ _ _ _ _ _ _ _ _ _ _ _ _ _ _ _ _ _ _ _ _ _ _ _ _ _ _ _ _ _ _ _ _ _ _ _ => d.size - (intOf v6).toNat)
   case atStart => exact ⟨20, _, by decide, by omega, rfl, HP2, HBL, S2⟩
   case round =>
    clear HP2 HBL S2
    obtain ⟨s, e, hs0, hs1, rfl, HP, HBL, S1⟩ := hrel
    by_cases hlt : s < d.size
    ·have d1 : decide ((s : Int) < (d.size : Int)) = true := decide_eq_true (by omega)
     have d2 : decide (s < d.size) = true := decide_eq_true hlt
     obtain ⟨s2, hs2⟩ : ∃ s2, 2 * s = s2 := ⟨_, rfl⟩
     have es : (2 : Int) * (s : Int) = (s2 : Int) := by omega
     have es2 : (s : Int) * 2 = (s2 : Int) := by omega
     have es3 : IntKind.i64.wrap (2 * (s : Int)) = (s2 : Int) := by rw [es, IntKind.wrap_i64]; omega
     have es4 : IntKind.i64.wrap ((s : Int) * 2) = (s2 : Int) := by rw [es2, IntKind.wrap_i64]; omega
     have hs2b : s2 < 4611686018427387904 := by omega
     have hs20 : 0 < s2 := by omega
     have HS2 := Aside0.mk hs2
     have HTL := Aside0.mk (show Tail ltC s 0 d.size e from fun k _ => HBL.out k)
     clear hs2 HBL
     go_wp2
     go_loopw [7, 8, 33, 34, 35, 36, 37, 38, 39, 40, 41, 42, 43, 44, 45, 46, 47, 48] (fun v7 v8 _ _ _ _ _ _ _ _ _ _ _ _ _ _ _ _ wr => ∃ (a t : Nat) (e : Array S112), a = s2 * t ∧ a ≤ d.size ∧ v7 = .int .i64 a ∧ v8 = .int .i64 (a + s2 : Nat) ∧ Aside0 (PermIn 0 d.size d e) ∧ Aside0 (Upto ltC s2 a e) ∧ Aside0 (Tail ltC s a d.size e) ∧ Aside0 (SWK e34 7 w blk off e wr)) (fun v7 _ _ _ _ _ _ _ _ _ _ _ _ _ _ _ _ _ _ => d.size + 1 - (intOf v7).toNat)
     case atStart => exact ⟨0, 0, e, by rw [Nat.mul_zero], Nat.zero_le _, rfl, by go_num, HP, ⟨fun k hk => by omega⟩, HTL, S1⟩
     case round =>
      clear HP HTL S1
      obtain ⟨a, t, e, hat, hax, rfl, rfl, HP, HU, HT, S1⟩ := hrel
      have HAT := Aside0.mk hat
      have HAT2 := Aside0.mk (show a = 2 * s * t from by rw [HS2.out]; exact hat)
      have HPS := Aside0.mk (show e.size = d.size from HP.out.1)
      obtain ⟨b, hb⟩ : ∃ b, a + s2 = b := ⟨_, rfl⟩
      obtain ⟨m, hm⟩ : ∃ m, a + s = m := ⟨_, rfl⟩
      rw [hb]
      have em : (a : Int) + (s : Int) = (m : Int) := by omega
      have em2 : IntKind.i64.wrap ((a : Int) + (s : Int)) = (m : Int) := by rw [em, IntKind.wrap_i64]; omega
      clear hat
      by_cases hlt2 : b ≤ d.size
      ·have d3 : decide ((b : Int) ≤ (d.size : Int)) = true := decide_eq_true (by omega)
       have d4 : decide (b ≤ d.size) = true := decide_eq_true hlt2
       have HCL := Aside0.mk (symMerge_calls blk off cap pc pk d w HR.out HCB.out hsz (b - a + 1) a m b e wr (by omega) HPS.out.symm S1.out (by omega) (by have := HS2.out; omega) (by have := HPS.out; omega) (HT.out.lo HAT2.out (by omega) (by have := HS2.out; omega)) (by have h_ := HT.out.hi HAT2.out (m := b) (by have := HS2.out; omega) hlt2; rw [hm] at h_; exact h_))
       have HB := Aside0.mk hb
       clear hb hm
       go_wp2_with (first | (go_at_call 176; refine HCL.out.mono ?_; rintro e_ w2 ⟨rfl, e2, hm_, hs_⟩; have S2 := Aside0.mk hs_; have HM := Aside0.mk hm_; clear hs_ hm_))
       go_roundw
       case rel =>
        have hb := HB.out
        refine ⟨b, t + 1, e2, by rw [Nat.mul_add, Nat.mul_one]; have := HAT.out; omega, hlt2, rfl, by go_num, ⟨permIn_trans _ _ _ _ _ HP.out (permIn_mono _ _ _ _ _ _ (Nat.zero_le _) hlt2 (by have := HPS.out; omega) HM.out.perm)⟩, ⟨?_⟩, ⟨HT.out.step (by omega) HM.out.perm⟩, S2⟩
        have h1 := HM.out.perm
        have h2 := HM.out.sorted
        rw [← hb] at h1 h2 ⊢
        exact upto_step hs20 HAT.out HU.out h1 h2
       case measure => have := HB.out; simp [intOf]; omega
      ·have d3 : decide ((b : Int) ≤ (d.size : Int)) = false := decide_eq_false (by omega)
       have d4 : decide (b ≤ d.size) = false := decide_eq_false hlt2
       have HB := Aside0.mk hb
       by_cases hm2 : m < d.size
       ·have d5 : decide ((m : Int) < (d.size : Int)) = true := decide_eq_true (by omega)
        have d6 : decide (m < d.size) = true := decide_eq_true hm2
        have HCL := Aside0.mk (symMerge_calls blk off cap pc pk d w HR.out HCB.out hsz (d.size - a + 1) a m d.size e wr (by omega) HPS.out.symm S1.out (by omega) hm2 (by have := HPS.out; omega) (HT.out.lo HAT2.out (by omega) (by omega)) (by have h_ := HT.out.hi HAT2.out (m := d.size) (by have := HS2.out; omega) (Nat.le_refl _); rw [hm] at h_; exact h_))
        have HLT := Aside0.mk hlt2
        clear hb hm hlt2
        go_wp2_with (first | (go_at_call 176; refine HCL.out.mono ?_; rintro e_ w2 ⟨rfl, e2, hm_, hs_⟩; have S2 := Aside0.mk hs_; have HM := Aside0.mk hm_; clear hs_ hm_))
        go_roundw
        case rel => exact ⟨s2, e2, hs20, by have := HS2.out; omega, by go_num, ⟨permIn_trans _ _ _ _ _ HP.out (permIn_mono _ _ _ _ _ _ (Nat.zero_le _) (Nat.le_refl _) (by have := HPS.out; omega) HM.out.perm)⟩, ⟨blks_of hs20 HAT.out (fun k hk i j k1 k2 k3 => by
         rw [HM.out.perm.2.1 i (.inl (by omega)), HM.out.perm.2.1 j (.inl (by omega))]
         exact HU.out k hk i j k1 k2 k3) (by have := HB.out; have := HLT.out; omega) HM.out.sorted⟩, S2⟩
        case measure => have := HS2.out; simp [intOf]; omega
       ·have d5 : decide ((m : Int) < (d.size : Int)) = false := decide_eq_false (by omega)
        have d6 : decide (m < d.size) = false := decide_eq_false hm2
        have HLO := Aside0.mk (HT.out.lo HAT2.out (m := d.size) (by omega) (Nat.le_refl _))
        have HLT := Aside0.mk hlt2
        clear hb hm hlt2
        go_wp2
        go_roundw
        case rel => exact ⟨s2, e, hs20, by have := HS2.out; omega, by go_num, HP, ⟨blks_of hs20 HAT.out HU.out (by have := HB.out; have := HLT.out; omega) HLO.out⟩, S1⟩
        case measure => have := HS2.out; simp [intOf]; omega
    ·have d1 : decide ((s : Int) < (d.size : Int)) = false := decide_eq_false (by omega)
     have d2 : decide (s < d.size) = false := decide_eq_false hlt
     go_wp2
     go_end0
     exact ⟨rfl, e, ⟨HP.out, blks_all HBL.out (by omega)⟩, S1.out⟩
set_option maxHeartbeats 2000000 in
theorem sortStable_calls (blk off cap pc pk : Nat) (d : Array S112) (w : World) (R : RowK e34 7 w blk off d) (C : CmpB w blk pc pk) (hsz : d.size < 2305843009213693952) :
  Calls Tryd.prog 108 #[.slice (some ⟨blk, off, none⟩) d.size cap, .func (.func 109) #[] #[.pointer (some ⟨pc, 0, none⟩), .pointer (some ⟨pk, 0, none⟩)]] w fun e w' => e = .returned (.tuple #[]) ∧ ∃ e', Mrg ltC 0 d.size d e' ∧ SWK e34 7 w blk off e' w' := by
 have HC := Aside0.mk (stable_calls blk off cap pc pk d w R C hsz)
 clear R C
 go_enter Tryd.func108, Tryd.ntmps108
 go_wp2_with (first | (go_at_call 148; refine HC.out.mono ?_; rintro e_ w2 ⟨rfl, e2, hm_, hs_⟩; have S2 := Aside0.mk hs_; have HM := Aside0.mk hm_; clear hs_ hm_))
 go_end0
 exact ⟨rfl, e2, HM.out, S2.out⟩
abbrev zc112 : Value := .agg #[.string ⟨#[]⟩, .string ⟨#[]⟩, .string ⟨#[]⟩, .string ⟨#[]⟩, .string ⟨#[]⟩, .int .i64 0, .int .i64 0]
theorem R_made (w : World) (base : Nat) (ok : Nat → Prop) (cur : Array Value) (cap : Nat) (hb : base ≤ w.heap.size) (hok : ok w.heap.size) (hm : cap ≤ maxLen) (hs : cur.size = cap * 7) :
  k112.R 112 (w.alloc (.cells cur 112)) base ok (.slice (some ⟨w.heap.size, 0, none⟩) 0 cap) [] :=
 ⟨fun k hk => by cases hk; exact hok, [], World.ownsRow_made w cur cap hb hm hs, Reps.none _ _⟩
set_option maxHeartbeats 4000000 in
set_option maxRecDepth 100000 in
theorem clone_calls (A : Option Addr) (c : Nat) (l : List S112) (w : World) (h : Kd.C k112 w A l.length l) (hc : l.length ≤ c) (hl : l.length ≤ 1000000) :
  Calls Tryd.prog 63 #[.slice A l.length c] w fun e w' => ∃ v, e = .returned v ∧ k112.R 112 w' w.heap.size (fun k => w.heap.size ≤ k) v l ∧ Below w.heap.size w w' := by
 have q22 : ∀ (w : World) (a : Option Addr) (n c n' c' : Nat), (binOp .eql 32 (.slice a n c) (.slice none n' c')).run Tryd.prog w = .ok (.bool a.isNone) w := fun w a n c n' c' => Lib.run_eql_slice_nil w _ _ a n c n' c' Tryd.underlying32
 have HC := Aside0.mk h
 cases A with
 | none =>
  have hz : l = [] := by
   cases l with
   | nil => rfl
   | cons x r => obtain ⟨ad, e, _⟩ := h.2.2 (by simp); cases e
  subst hz
  clear h
  go_enter Tryd.func63, Tryd.ntmps63
  go_wp2
  go_ret
  exact ⟨_, rfl, Kd.R_nil _ _ _ _ _, Below.refl _ _⟩
 | some ad =>
  clear h
  have HM := Aside0.mk (R_made w w.heap.size (fun k => w.heap.size ≤ k) #[] 0 (Nat.le_refl _) (Nat.le_refl _) (Nat.zero_le _) rfl)
  have HC1 := Aside0.mk (Kd.C_alloc HC.out (.cells #[] 112))
  have HB1 := Aside0.mk (below_alloc (Below.refl w.heap.size w) (.cells #[] 112))
  go_enter Tryd.func63, Tryd.ntmps63
  go_wp2_with (first | ((with_reducible refine gate_builtin (b := .append) (xs := #[.tmp 5, .tmp 6]) rfl ?_); at_builtin; refine Kd.R_append_rows k112 (w0 := w) (Rr := k112.K w) w.heap.size rfl (.tmp 5) (.tmp 6) 32 112 zc112 96 rfl Tryd.underlying32 info112 rfl (by decide) (by omega) (.slice (some ⟨w.heap.size, 0, none⟩) 0 0) [] l (some ad) l.length c (fun k => w.heap.size ≤ k) (fun _ => False) rfl rfl ?aO ?aR ?aK (fun _ hk => hk.elim) ?aF ?aB ?aS ?aL ?_; (case aO => exact HM.out); (case aR => exact HC1.out); (case aK => exact fun x cs hx => by obtain rfl := k112_open hx; exact k112_mkM _ _ _ _); (case aF => exact fun k hk => Nat.le_trans (by simp) hk); (case aB => exact HB1.out); (case aS => simp); (case aL => simp; omega); intro v1 w1 ho hb hg hat; have HO := Aside0.mk ho; have HB := Aside0.mk hb; clear ho hb hg hat))
  go_ret
  exact ⟨_, rfl, HO.out, HB.out⟩
def zsI (xs : List Int) (i : Nat) : List Int := xs.take i ++ List.replicate (xs.length - i) 0
theorem zsI_len (xs : List Int) {i : Nat} (h : i ≤ xs.length) : (zsI xs i).length = xs.length := by unfold zsI; simp; omega
theorem zsI_set (xs : List Int) {i : Nat} (h : i < xs.length) : (zsI xs i).set i xs[i] = zsI xs (i + 1) := by
 unfold zsI
 have h1 : (xs.take i).length = i := by simp; omega
 rw [List.set_append_right _ _ (by omega), h1, Nat.sub_self, show xs.length - i = (xs.length - (i + 1)) + 1 by omega, List.replicate_succ, List.set_cons_zero, List.take_add_one, List.getElem?_eq_getElem h]
 show _ = (xs.take i ++ [xs[i]]) ++ _
 rw [List.append_assoc]
 rfl
theorem zsI_all (xs : List Int) : zsI xs xs.length = xs := by unfold zsI; simp
def amts (g : List S112) : List Int := g.map S112.f1
def bass (g : List S112) : List Int := g.map S112.f2
def oneOf (g : List S112) (out : List S112) : Bool × List S112 :=
 ((totF (amts g)).2 && (totF (bass g)).2, if (totF (amts g)).2 = true ∧ (totF (bass g)).2 = true ∧ ((totF (amts g)).1 ≠ 0 ∨ (totF (bass g)).1 ≠ 0) then out ++ [⟨(rd_T112 g 0).f0, (totF (amts g)).1, (totF (bass g)).1⟩] else out)
structure But (X : Nat → Prop) (w w' : World) : Prop where
 os : w'.os = w.os
 tape : w'.tape = w.tape
 output : w'.output = w.output
 size : w.heap.size ≤ w'.heap.size
 block : ∀ k, k < w.heap.size → ¬ X k → w'.heap[k]? = w.heap[k]?
theorem But.refl (X : Nat → Prop) (w : World) : But X w w := ⟨rfl, rfl, rfl, Nat.le_refl _, fun _ _ _ => rfl⟩
theorem But.trans {X : Nat → Prop} {a b c : World} (h : But X a b) (k : But X b c) : But X a c :=
 ⟨k.os.trans h.os, k.tape.trans h.tape, k.output.trans h.output, Nat.le_trans h.size k.size, fun i hi hx => (k.block i (Nat.lt_of_lt_of_le hi h.size) hx).trans (h.block i hi hx)⟩
theorem But.mono {X Y : Nat → Prop} {w w' : World} (h : But X w w') (hx : ∀ k, k < w.heap.size → X k → Y k) : But Y w w' := ⟨h.os, h.tape, h.output, h.size, fun k hk hy => h.block k hk (fun e => hy (hx k hk e))⟩
theorem But.of_below {w w' : World} (h : Below w.heap.size w w') (X : Nat → Prop) : But X w w' := ⟨h.os, h.tape, h.output, h.size, fun k hk _ => h.block k hk⟩
theorem But.of_grown {w w' : World} {row : Option Nat} (h : w.grownBy w' row) {X : Nat → Prop} (hx : ∀ k, row = some k → X k) : But X w w' := ⟨h.os, h.tape, h.output, h.size, fun k hk hn => h.block k hk (fun e => hn (hx k e.symm))⟩
theorem But.alloc {X : Nat → Prop} {a w : World} (h : But X a w) (o : Obj) : But X a (w.alloc o) := h.trans (But.of_below ((Below.refl _ w).alloc (Nat.le_refl _) o) X)
theorem But.drewN {X : Nat → Prop} {a w : World} (h : But X a w) (n : Nat) : But X a (w.drewN n) := h.trans (But.of_below (pw_below_drewN (Below.refl _ w) n) X)
theorem But.setCell {X : Nat → Prop} {a w : World} (h : But X a w) {p : Addr} (hp : X p.block) (u : Value) : But X a (w.setCell p u) :=
 h.trans ⟨rfl, rfl, rfl, by simp [World.setCell], fun k hk hn => Below.heap_setCell _ _ _ _ (fun e => hn (by rw [e]; exact hp))⟩
theorem But.below {X : Nat → Prop} {w0 w w' : World} {n : Nat} (h0 : Below n w0 w) (h : But X w w') (hn : n ≤ w.heap.size) (hx : ∀ k, X k → n ≤ k) : Below n w0 w' :=
 h0.trans ⟨h.os, h.tape, h.output, h.size, fun k hk => h.block k (by omega) (fun e => by have := hx k e; omega)⟩
theorem But.obj {X : Nat → Prop} {w w' : World} (h : But X w w') {k : Nat} {o : Obj} (ho : w.heap[k]? = some o) (hx : ¬ X k) : w'.heap[k]? = some o := (h.block k (Array.getElem?_eq_some_iff.1 ho).1 hx).trans ho
theorem But.cell {X : Nat → Prop} {w w' : World} (h : But X w w') {a : Addr} {v : Value} (hv : w.cell? a = some v) (hx : ¬ X a.block) : w'.cell? a = some v :=
 (World.cell?_of_block (h.block a.block (World.block_lt_of_cell? w a hv) hx)).trans hv
def OnePost (rs base : Nat) (ok : Nat → Prop) (v : Value) (g out : List S112) (w : World) (e : Ending) (w' : World) : Prop :=
 e = .returned (.bool (oneOf g out).1) ∧ But (fun k => k = rs ∨ v.ownBlock = some k) w w' ∧ ∃ v', w'.heap[rs]? = some (.cells #[v'] 32 (0, 0)) ∧ k112.R 112 w' base ok v' (oneOf g out).2
theorem OnePost.same {rs base : Nat} {ok : Nat → Prop} {v : Value} {g out : List S112} {w w' : World} {r : Bool} (h : oneOf g out = (r, out)) (hb : Below w.heap.size w w') (hrs : w.heap[rs]? = some (.cells #[v] 32 (0, 0))) (hv : k112.R 112 w base ok v out) : OnePost rs base ok v g out w (.returned (.bool r)) w' := by
 unfold OnePost
 rw [h]
 exact ⟨rfl, But.of_below hb _, v, blk_below hrs hb, Kd.R_below hv hb⟩
structure Rows2 (w : World) (base ga gb n : Nat) (xs ys : List Int) : Prop where
 a : w.ownsRow base 3 1 (.slice (some ⟨ga, 0, none⟩) n n) n (nums .i64 xs)
 b : w.ownsRow base 3 1 (.slice (some ⟨gb, 0, none⟩) n n) n (nums .i64 ys)
 ne : ga ≠ gb
theorem Rows2.below {w w1 : World} {base ga gb n : Nat} {xs ys : List Int} (h : Rows2 w base ga gb n xs ys) (hb : Below w.heap.size w w1) : Rows2 w1 base ga gb n xs ys := ⟨pw_own_below h.a hb, pw_own_below h.b hb, h.ne⟩
theorem Rows2.set {w : World} {base ga gb n : Nat} {xs ys : List Int} (h : Rows2 w base ga gb n xs ys) (i : Nat) (x y : Int) :
  Rows2 ((w.setCell ⟨ga, i, none⟩ (.int .i64 x)).setCell ⟨gb, i, none⟩ (.int .i64 y)) base ga gb n (xs.set i x) (ys.set i y) := by
 have ha := own_store h.a (i : Int) x
 rw [Int.toNat_natCast] at ha
 have hb := own_other h.b ha.2 (.inr (by intro e; exact h.ne (Option.some.inj e).symm))
 have hb2 := own_store hb (i : Int) y
 rw [Int.toNat_natCast] at hb2
 exact ⟨own_other ha.1 hb2.2 (.inr (by intro e; exact h.ne (Option.some.inj e))), hb2.1, h.ne⟩
set_option maxHeartbeats 8000000 in
set_option maxRecDepth 100000 in
theorem one_calls (A : Option Addr) (c : Nat) (g : List S112) (rs base : Nat) (ok : Nat → Prop) (v : Value) (out : List S112) (w : World) (h : Kd.C k112 w A g.length g) (hc : g.length ≤ c) (hg0 : 0 < g.length) (hgl : g.length ≤ 1000000) (hi : ∀ x ∈ g, i64ok x.f1 ∧ i64ok x.f2)
  (hrs : w.heap[rs]? = some (.cells #[v] 32 (0, 0))) (hv : k112.R 112 w base ok v out) (hok : ∀ k, w.heap.size ≤ k → ok k) (hbs : base ≤ w.heap.size) (hol : out.length ≤ 1000000) (hsep : ∀ ad, A = some ad → v.ownBlock ≠ some ad.block ∧ rs ≠ ad.block) :
  Calls Tryd.prog 58 #[.slice A g.length c, .pointer (some ⟨rs, 0, none⟩)] w fun e w' => OnePost rs base ok v g out w e w' := by
 have HC := Aside0.mk h
 have HRS := Aside0.mk hrs
 have HV := Aside0.mk hv
 have HOK := Aside0.mk hok
 have HI := Aside0.mk hi
 have HSEP := Aside0.mk hsep
 obtain ⟨n, hn⟩ : ∃ n, g.length = n := ⟨_, rfl⟩
 have HN := Aside0.mk hn
 have hna : (amts g).length = n := by rw [← hn]; exact List.length_map ..
 have hnb : (bass g).length = n := by rw [← hn]; exact List.length_map ..
 have HNA := Aside0.mk hna
 have HNB := Aside0.mk hnb
 rw [hn] at hc hg0 hgl HC ⊢
 clear h hrs hv hok hi hn hna hnb hsep
 have hmk := print_make (P := Tryd.prog) 43 3 .i64 8 Tryd.underlying43 info3 (by decide) n (by omega)
 go_enter Tryd.func58, Tryd.ntmps58
 go_upto_region 1 with (fail)
 go_cut [4, 5, 12, 13, 14, 15, 16, 17] (fun v4 v5 _ _ _ _ _ _ wc => ∃ ga gb : Nat, v4 = .slice (some ⟨ga, 0, none⟩) n n ∧ v5 = .slice (some ⟨gb, 0, none⟩) n n ∧ Aside0 (Rows2 wc w.heap.size ga gb n (zsI (amts g) 0) (zsI (bass g) 0)) ∧ Aside0 (Below w.heap.size w wc))
 case first =>
  have hza : zsI (amts g) 0 = List.replicate n 0 := by unfold zsI; rw [HNA.out]; rfl
  have hzb : zsI (bass g) 0 = List.replicate n 0 := by unfold zsI; rw [HNB.out]; rfl
  have HZ := Aside0.mk (And.intro hza hzb)
  clear hza hzb
  have m1 := own_made w w.heap.size 3 .i64 n (Nat.le_refl _) (by omega)
  have m2 := own_made (w.alloc (.cells (madeCells #[.int .i64 0] n) 3)) w.heap.size 3 .i64 n (by simp) (by omega)
  rw [show (w.alloc (.cells (madeCells #[.int .i64 0] n) 3)).heap.size = w.heap.size + 1 by simp] at m2
  have m3 := pw_own_below m1 (below_alloc (Below.refl _ (w.alloc (.cells (madeCells #[.int .i64 0] n) 3))) (.cells (madeCells #[.int .i64 0] n) 3))
  have M2 := Aside0.mk m2
  have M3 := Aside0.mk m3
  clear m1 m2 m3
  go_region
  all_goals
   go_wp2
   go_meet
  case rel => exact ⟨_, _, rfl, rfl, ⟨⟨by rw [HZ.out.1]; exact M3.out, by rw [HZ.out.2]; exact M2.out, by omega⟩⟩, ⟨below_drew (below_alloc (below_alloc (Below.refl _ _) _) _)⟩⟩
  case rel => exact ⟨_, _, rfl, rfl, ⟨⟨by rw [HZ.out.1]; exact M2.out, by rw [HZ.out.2]; exact M3.out, by omega⟩⟩, ⟨below_drew (below_alloc (below_alloc (Below.refl _ _) _) _)⟩⟩
 case rest =>
  obtain ⟨ga, gb, rfl, rfl, HR, HB⟩ := hcut
  clear hmk
  go_wp2
  go_loopw [6, 7, 20, 21, 22, 23, 24, 25, 26, 27, 28, 29, 30, 31, 32, 33, 34, 35] (fun _ _ v20 _ _ _ _ _ _ _ _ _ _ _ _ _ _ _ wr => ∃ k : Nat, k ≤ n ∧ v20 = .int .i64 k ∧ Aside0 (Rows2 wr w.heap.size ga gb n (zsI (amts g) k) (zsI (bass g) k)) ∧ Aside0 (Below w.heap.size w wr)) (fun _ _ v20 _ _ _ _ _ _ _ _ _ _ _ _ _ _ _ _ => n - (intOf v20).toNat)
  case atStart => exact ⟨0, Nat.zero_le _, rfl, HR, HB⟩
  case round =>
   clear HR HB
   obtain ⟨k, hk, rfl, HR, HB⟩ := hrel
   by_cases hlt : k < n
   ·have d1 : decide ((k : Int) < (n : Int)) = true := decide_eq_true (by omega)
    have d2 : decide (k < n) = true := decide_eq_true hlt
    have p0 : (0 : Int) ≤ (k : Int) := by omega
    have p1 : (k : Int) < (n : Int) := by omega
    have hgk : k < g.length := by rw [HN.out]; exact hlt
    obtain ⟨ad, e, q0, q1, q2, q3, q4, q5, q6⟩ := at_T112 (Kd.C_below HC.out HB.out) (k : Int) (by omega) (by omega)
    rw [Int.toNat_natCast] at q0 q1 q2 q3 q4 q5 q6
    have hx0 : rd_T112 g (k : Int) = g[k] := by simp [rd_T112, hgk]
    obtain ⟨x, hx⟩ : ∃ x, rd_T112 g (k : Int) = x := ⟨_, rfl⟩
    rw [hx] at q0 q1 q2 q3 q4 q5 q6 hx0
    have hka : k < (amts g).length := by rw [HNA.out]; exact hlt
    have hkb : k < (bass g).length := by rw [HNB.out]; exact hlt
    have HSA := Aside0.mk (show (zsI (amts g) k).set k x.f1 = zsI (amts g) (k + 1) from by rw [← zsI_set (amts g) hka]; congr 1; rw [hx0]; simp [amts])
    have HSB := Aside0.mk (show (zsI (bass g) k).set k x.f2 = zsI (bass g) (k + 1) from by rw [← zsI_set (bass g) hkb]; congr 1; rw [hx0]; simp [bass])
    have HAD := Aside0.mk e
    subst e
    clear hx hx0 hka hkb hgk
    go_upto_region 5 with (fail)
    refine with_world (P := fun x => Code.wp _ _ _ _ x) _ ?_
    intro w2 hw2
    obtain ⟨b, hb⟩ : ∃ b, wr.heap.size = b := ⟨_, rfl⟩
    have BX := Aside0.mk (show w2.heap[b]? = some (.cells #[.string x.f0.f0, .string x.f0.f1, .string x.f0.f2, .string x.f0.f3, .string x.f0.f4, .int .i64 x.f1, .int .i64 x.f2] 112 (0, 0)) from by rw [hw2, ← hb]; exact blk_new wr _)
    have HB2 := Aside0.mk (show Below w.heap.size w w2 from by rw [hw2]; exact below_alloc HB.out _)
    have HR2 := Aside0.mk (show Rows2 w2 w.heap.size ga gb n (zsI (amts g) k) (zsI (bass g) k) from by rw [hw2]; exact HR.out.below (below_alloc (Below.refl _ _) _))
    have hba : ¬ b = ga := fun e => by have := (HR.out.a.lt ga rfl).2; omega
    have hbb : ¬ b = gb := fun e => by have := (HR.out.b.lt gb rfl).2; omega
    rw [hb]
    clear hw2 hb q0 q1 q2 q3 q4 q5 q6 HB HR
    have c5 : w2.cell? ⟨b, 5, none⟩ = some (.int .i64 x.f1) := (blk_cell BX.out 5).trans rfl
    have c6 : w2.cell? ⟨b, 6, none⟩ = some (.int .i64 x.f2) := (blk_cell BX.out 6).trans rfl
    obtain ⟨a1, a2⟩ := own_at HR2.out.a (k : Int) p0 p1
    obtain ⟨b1, b2⟩ := own_at HR2.out.b (k : Int) p0 p1
    rw [Int.toNat_natCast] at a1 a2 b1 b2
    have hne := HR2.out.ne
    have hne' : ¬ gb = ga := fun e => hne e.symm
    go_region
    refine with_world (P := fun x => Exit.inBlock _ _ _ _ x) _ ?_
    intro w3 hw3
    have HR3 := Aside0.mk (show Rows2 w3 w.heap.size ga gb n (zsI (amts g) (k + 1)) (zsI (bass g) (k + 1)) from by rw [hw3, ← HSA.out, ← HSB.out]; exact (HR2.out.set k x.f1 x.f2).below (below_drew (Below.refl _ _)))
    have HB3 := Aside0.mk (show Below w.heap.size w w3 from by rw [hw3]; exact below_drew (below_set (below_set HB2.out (HR2.out.a.lt ga rfl).1) (HR2.out.b.lt gb rfl).1))
    clear hw3 c5 c6 a1 a2 b1 b2 hne hne' hba hbb HR2 HB2 BX
    go_wp2
    go_roundw
    case rel => exact ⟨k + 1, by omega, by go_num, HR3, HB3⟩
    case measure => simp [intOf]; omega
   ·obtain rfl : k = n := by omega
    have d1 : decide ((k : Int) < (k : Int)) = false := decide_eq_false (by omega)
    have d2 : decide (k < k) = false := decide_eq_false (by omega)
    obtain ⟨⟨a1, a2⟩, hta⟩ : ∃ q, totF (amts g) = q := ⟨_, rfl⟩
    obtain ⟨⟨b1, b2⟩, htb⟩ : ∃ q, totF (bass g) = q := ⟨_, rfl⟩
    have hone : oneOf g out = (a2 && b2, if a2 = true ∧ b2 = true ∧ (a1 ≠ 0 ∨ b1 ≠ 0) then out ++ [⟨(rd_T112 g 0).f0, a1, b1⟩] else out) := by unfold oneOf; rw [hta, htb]
    have HONE := Aside0.mk hone
    have oa := HR.out.a
    have ob := HR.out.b
    rw [show zsI (amts g) k = amts g from by have := zsI_all (amts g); rwa [HNA.out] at this] at oa
    rw [show zsI (bass g) k = bass g from by have := zsI_all (bass g); rwa [HNB.out] at this] at ob
    have ra : (Kd.int .i64).C wr (some ⟨ga, 0, none⟩) (amts g).length (amts g) := (Kd.R_reads' (Kd.R_of_own (e := 3) (base := w.heap.size) (v := .slice (some ⟨ga, 0, none⟩) k k) (by rw [HNA.out]; exact oa) (ok := fun _ => True) (h1 := fun _ => rfl) (fun _ _ => trivial))).2.2
    have rb : (Kd.int .i64).C wr (some ⟨gb, 0, none⟩) (bass g).length (bass g) := (Kd.R_reads' (Kd.R_of_own (e := 3) (base := w.heap.size) (v := .slice (some ⟨gb, 0, none⟩) k k) (by rw [HNB.out]; exact ob) (ok := fun _ => True) (h1 := fun _ => rfl) (fun _ _ => trivial))).2.2
    have HTA := Aside0.mk (show ∀ W, Below wr.heap.size wr W → Calls Tryd.prog 59 #[.slice (some ⟨ga, 0, none⟩) k k] W fun e w' => e = .returned (.tuple #[.int .i64 a1, .bool a2]) ∧ Drawn0 W w' from fun W hW => by
     have h_ := total_calls (some ⟨ga, 0, none⟩) k (amts g) W (Kd.C_below ra hW) (by rw [HNA.out]; exact Nat.le_refl _) (by rw [HNA.out]; exact hgl) (fun x hx => by
      obtain ⟨y, hy, rfl⟩ := List.mem_map.1 hx
      exact (HI.out y hy).1)
     rw [HNA.out, hta] at h_
     exact h_)
    have HTB := Aside0.mk (show ∀ W, Below wr.heap.size wr W → Calls Tryd.prog 59 #[.slice (some ⟨gb, 0, none⟩) k k] W fun e w' => e = .returned (.tuple #[.int .i64 b1, .bool b2]) ∧ Drawn0 W w' from fun W hW => by
     have h_ := total_calls (some ⟨gb, 0, none⟩) k (bass g) W (Kd.C_below rb hW) (by rw [HNB.out]; exact Nat.le_refl _) (by rw [HNB.out]; exact hgl) (fun x hx => by
      obtain ⟨y, hy, rfl⟩ := List.mem_map.1 hx
      exact (HI.out y hy).2)
     rw [HNB.out, htb] at h_
     exact h_)
    clear hta htb hone oa ob ra rb HR
    go_upto_region 9 with (first | (go_at_call 59; (with_reducible refine (HTA.out _ (Below.refl _ _)).mono ?_); rintro e_ w4 ⟨rfl, hd_⟩; have HD4 := Aside0.mk hd_.below; clear hd_) | (go_at_call 59; (with_reducible refine (HTB.out _ HD4.out).mono ?_); rintro e_ w5 ⟨rfl, hd_⟩; have HD5 := Aside0.mk hd_.below; clear hd_))
    have HB5 := Aside0.mk (below_then (below_then HB.out HB.out.size HD4.out) (Nat.le_trans HB.out.size HD4.out.size) HD5.out)
    clear HTA HTB HD4 HD5 HB
    by_cases hno : a2 = true ∧ b2 = true ∧ (a1 ≠ 0 ∨ b1 ≠ 0)
    ·have HON := Aside0.mk (show oneOf g out = (true, out ++ [⟨(rd_T112 g 0).f0, a1, b1⟩]) from by rw [HONE.out, if_pos hno, hno.1, hno.2.1]; rfl)
     obtain ⟨rfl, rfl, hz⟩ := hno
     have crs : w5.cell? ⟨rs, 0, none⟩ = some v := (blk_cell (blk_below HRS.out HB5.out) 0).trans rfl
     have frs := blk_frozen (blk_below HRS.out HB5.out) 0
     have hrl := blk_lt (blk_below HRS.out HB5.out)
     obtain ⟨ad, e, q0, q1, q2, q3, q4, q5, q6⟩ := at_T112 (Kd.C_below HC.out HB5.out) 0 (by omega) (by omega)
     obtain ⟨x, hx⟩ : ∃ x, (rd_T112 g 0).f0 = x := ⟨_, rfl⟩
     have HAD := Aside0.mk e
     rw [hx] at q0 q1 q2 q3 q4
     rw [hx] at HON
     subst e
     have p1 : (0 : Int) < (k : Int) := by omega
     have ea : ad.add (Int.toNat 0 * 7) = ad := by simp [Addr.add]
     rw [ea] at q0 q1 q2 q3 q4
     clear q5 q6 hx HONE ea
     have HNR := Aside0.mk (show some rs ≠ v.ownBlock from fun e => by
      obtain ⟨cells, hcl⟩ := Kd.R_typed HV.out rs e.symm
      rw [HRS.out] at hcl
      cases hcl)
     have hva : some ad.block ≠ v.ownBlock := fun e => (HSEP.out ad rfl).1 e.symm
     have hna : ad.block ≠ rs := fun e => (HSEP.out ad rfl).2 e.symm
     by_cases ha0 : a1 = 0
     ·have e1 : (a1 != (0 : Int)) = false := bne_eq_false_iff_eq.mpr ha0
      have e2 : (b1 != (0 : Int)) = true := bne_iff_ne.mpr (hz.resolve_left (fun h => h ha0))
      clear ha0 hz
      go_upto_region 10 with (fail)
      go_region_law (first | (refine Kd.R_append_step k112 (w0 := w5) (W := w5.drew) base (by rfl) (.tmp 58) (.tmp 66) 32 112 zc112 96 rfl Tryd.underlying32 info112 rfl (by decide) (by omega) v out ⟨x, a1, b1⟩ [.string x.f0, .string x.f1, .string x.f2, .string x.f3, .string x.f4, .int .i64 a1, .int .i64 b1] ok (fun _ => False) rfl rfl ?aP (fun _ hk => hk.elim) ?aF ?aO ?aB ?aS ?aL ?_; (case aP => exact k112_mkM _ _ _ (⟨x, a1, b1⟩ : S112)); (case aF => exact fun k hk => HOK.out k (Nat.le_trans HB5.out.size hk)); (case aO => exact Kd.R_drew (Kd.R_below HV.out HB5.out)); (case aB => exact ⟨rfl, rfl, rfl, Nat.le_refl _, fun _ _ => rfl⟩); (case aS => exact Nat.le_trans hbs HB5.out.size); (case aL => omega); intro v1 w6 hro hbl hg hat; obtain ⟨A1, c1, rfl⟩ := Kd.R_slice hro; have HO := Aside0.mk hro; have B6 := blk_grown (blk_drew (blk_below HRS.out HB5.out)) hg HNR.out; have HB6 := Aside0.mk B6; have crs6 : w6.cell? ⟨rs, 0, none⟩ = some v := (blk_cell B6 0).trans rfl; have frs6 := blk_frozen B6 0; have HG := Aside0.mk hg; have HAT := Aside0.mk hat;clear hro hbl hg hat B6))
      all_goals
       go_wp2
       go_ret
       unfold OnePost
       rw [HON.out]
       have hbd : But (fun k => k = rs ∨ v.ownBlock = some k) w w5.drew := But.of_below (below_drew HB5.out) _
       have hb6 := hbd.trans (But.of_grown HG.out (fun k e => .inr e))
       refine ⟨rfl, hb6.setCell (.inl rfl) _, _, blk_put HB6.out 0 _ rfl, ?_⟩
       have h_ := Kd.R_mono (ok' := ok) (Kd.R_far (p := ⟨rs, 0, none⟩) (u := .slice A1 (out.length + 1) c1) (Kd.R_types (Kd.R_bound HO.out) HB6.out (by decide)) (fun k hk => hk.2)) (fun k hk => hk.1.1)
       rw [show (out ++ [(⟨x, a1, b1⟩ : S112)]).length = out.length + 1 by simp] at h_
       exact h_
     ·have e1 : (a1 != (0 : Int)) = true := bne_iff_ne.mpr ha0
      clear ha0 hz
      go_upto_region 10 with (fail)
      go_region_law (first | (refine Kd.R_append_step k112 (w0 := w5) (W := w5.drew) base (by rfl) (.tmp 58) (.tmp 66) 32 112 zc112 96 rfl Tryd.underlying32 info112 rfl (by decide) (by omega) v out ⟨x, a1, b1⟩ [.string x.f0, .string x.f1, .string x.f2, .string x.f3, .string x.f4, .int .i64 a1, .int .i64 b1] ok (fun _ => False) rfl rfl ?aP (fun _ hk => hk.elim) ?aF ?aO ?aB ?aS ?aL ?_; (case aP => exact k112_mkM _ _ _ (⟨x, a1, b1⟩ : S112)); (case aF => exact fun k hk => HOK.out k (Nat.le_trans HB5.out.size hk)); (case aO => exact Kd.R_drew (Kd.R_below HV.out HB5.out)); (case aB => exact ⟨rfl, rfl, rfl, Nat.le_refl _, fun _ _ => rfl⟩); (case aS => exact Nat.le_trans hbs HB5.out.size); (case aL => omega); intro v1 w6 hro hbl hg hat; obtain ⟨A1, c1, rfl⟩ := Kd.R_slice hro; have HO := Aside0.mk hro; have B6 := blk_grown (blk_drew (blk_below HRS.out HB5.out)) hg HNR.out; have HB6 := Aside0.mk B6; have crs6 : w6.cell? ⟨rs, 0, none⟩ = some v := (blk_cell B6 0).trans rfl; have frs6 := blk_frozen B6 0; have HG := Aside0.mk hg; have HAT := Aside0.mk hat;clear hro hbl hg hat B6))
      all_goals
       go_wp2
       go_ret
       unfold OnePost
       rw [HON.out]
       have hbd : But (fun k => k = rs ∨ v.ownBlock = some k) w w5.drew := But.of_below (below_drew HB5.out) _
       have hb6 := hbd.trans (But.of_grown HG.out (fun k e => .inr e))
       refine ⟨rfl, hb6.setCell (.inl rfl) _, _, blk_put HB6.out 0 _ rfl, ?_⟩
       have h_ := Kd.R_mono (ok' := ok) (Kd.R_far (p := ⟨rs, 0, none⟩) (u := .slice A1 (out.length + 1) c1) (Kd.R_types (Kd.R_bound HO.out) HB6.out (by decide)) (fun k hk => hk.2)) (fun k hk => hk.1.1)
       rw [show (out ++ [(⟨x, a1, b1⟩ : S112)]).length = out.length + 1 by simp] at h_
       exact h_
    ·have HOF := Aside0.mk (show oneOf g out = (a2 && b2, out) from by rw [HONE.out, if_neg hno])
     clear HONE
     cases a2 with
     | false =>
      clear hno
      go_wp2
      go_ret
      exact OnePost.same HOF.out HB5.out HRS.out HV.out
     | true =>
      cases b2 with
      | false =>
       clear hno
       go_wp2
       go_ret
       exact OnePost.same HOF.out HB5.out HRS.out HV.out
      | true =>
       have za : a1 = 0 := by
        rcases Decidable.em (a1 = 0) with h | h
        ·exact h
        ·exact absurd ⟨rfl, rfl, .inl h⟩ hno
       have zb : b1 = 0 := by
        rcases Decidable.em (b1 = 0) with h | h
        ·exact h
        ·exact absurd ⟨rfl, rfl, .inr h⟩ hno
       subst za
       subst zb
       clear hno
       go_wp2
       go_ret
       exact OnePost.same HOF.out HB5.out HRS.out HV.out
end Go.Proofs.YtppcjoaghlecmaaDoor.P
namespace Go.Proofs.YtppcjoaghlecmaaDoor.P
open Go.RowKit Go.Proofs.YtppcjoaghlecmaaDoorW.PrintWords Go.Proofs.YtppcjoaghlecmaaDoorW.PrintLast Go.Proofs.YtppcjoaghlecmaaDoorW.PrintMore
attribute [local go_sem] max2_int min2_int max_two min_two max_three min_three max_four min_four
set_option linter.unusedVariables false
set_option linter.unusedSimpArgs false
def entry_currency.f (a0_0 : ByteArray) (a0_1 : ByteArray) (a0_2 : Int) (a0_3 : Int) (a0_4 : ByteArray) (a0_5 : ByteArray) (l0_6 : List (S213)) : Option (ByteArray) := some a0_1
set_option maxHeartbeats 8000000 in
set_option maxRecDepth 100000 in
theorem entry_currency.calls (a0_0 : ByteArray) (a0_1 : ByteArray) (a0_2 : Int) (a0_3 : Int) (a0_4 : ByteArray) (a0_5 : ByteArray) (A0_6 : Option Addr) (c0_6 : Nat) (l0_6 : List (S213)) (r : ByteArray) (w : World) (hr0_6 : Kd.C k213 w A0_6 l0_6.length l0_6) (hc0_6 : l0_6.length ≤ c0_6) (h : entry_currency.f a0_0 a0_1 a0_2 a0_3 a0_4 a0_5 l0_6 = some r) :
  Calls Tryd.prog 136 #[.agg #[.string a0_0, .string a0_1, .int .i64 a0_2, .int .i64 a0_3, .string a0_4, .string a0_5, .slice A0_6 l0_6.length c0_6]] w fun e w' => e = .returned (.string r) ∧ Below w.heap.size w w' := by
 have hu109 := Tryd.underlying109
 have HR0_6 := Aside0.mk hr0_6
 have HC0_6 := Aside0.mk hc0_6
 clear hr0_6 hc0_6
 have HB := Aside0.mk (Below.refl w.heap.size w)
 have H : (some a0_1) = some r := h
 clear h
 obtain rfl := Option.some.inj H
 go_enter Tryd.func136, Tryd.ntmps136
 go_wp2_with (first | ((with_reducible refine gate_dst (N := 1) rfl ?_); refine box_event ?hg (N := 1) ?hd (cs := #[.string a0_0, .string a0_1, .int .i64 a0_2, .int .i64 a0_3, .string a0_4, .string a0_5, .slice A0_6 l0_6.length c0_6]) (t := 109) ?hr ?_; (case hd => rfl); (case hg => rfl); (case hr => first | (go_simp; done) | (go_simp; rfl)); intro gb143 hg w2 hbox hb; have n0_ := Aside0.mk (below_step (by repeat (first | (with_reducible first | exact HB.out | apply below_alloc | apply pw_below_drewN | apply below_drew1) | exact HB.out)) hb); have n1_ := Aside0.mk (hbox); have n2_ := Aside0.mk ((by rw [hg]; exact (below_size (by repeat (first | (with_reducible first | exact HB.out | apply below_alloc | apply pw_below_drewN | apply below_drew1) | exact HB.out))) : w.heap.size ≤ gb143)); have n3_ := Aside0.mk ((by rw [hg]; exact (below_size (by repeat (first | (with_reducible first | exact HB.out | apply below_alloc | apply pw_below_drewN | apply below_drew1) | exact HB.out))) : w.heap.size ≤ gb143)); clear HB; have HB := n0_; have BK143 := n1_; have GW143 := n2_; have GE143 := n3_; clear n0_ n1_ n2_ n3_; clear hb hbox hg; have hcz3_0 : w2.cell? ⟨gb143, 0, none⟩ = some (.string a0_0) := (blk_cell BK143.out 0).trans rfl; have hcz3_1 : w2.cell? ⟨gb143, 1, none⟩ = some (.string a0_1) := (blk_cell BK143.out 1).trans rfl; have hcz3_2 : w2.cell? ⟨gb143, 2, none⟩ = some (.int .i64 a0_2) := (blk_cell BK143.out 2).trans rfl; have hcz3_3 : w2.cell? ⟨gb143, 3, none⟩ = some (.int .i64 a0_3) := (blk_cell BK143.out 3).trans rfl; have hcz3_4 : w2.cell? ⟨gb143, 4, none⟩ = some (.string a0_4) := (blk_cell BK143.out 4).trans rfl; have hcz3_5 : w2.cell? ⟨gb143, 5, none⟩ = some (.string a0_5) := (blk_cell BK143.out 5).trans rfl; have hcz3_6 : w2.cell? ⟨gb143, 6, none⟩ = some (.slice A0_6 l0_6.length c0_6) := (blk_cell BK143.out 6).trans rfl; have hfz3_0 := blk_frozen BK143.out 0; have hfz3_1 := blk_frozen BK143.out 1; have hfz3_2 := blk_frozen BK143.out 2; have hfz3_3 := blk_frozen BK143.out 3; have hfz3_4 := blk_frozen BK143.out 4; have hfz3_5 := blk_frozen BK143.out 5; have hfz3_6 := blk_frozen BK143.out 6))
 go_ret
 exact ⟨by first | rfl | (simp [errW_none, errW_some] <;> rfl) | (simp [*, errW_none, errW_some] <;> rfl), by repeat (first | (with_reducible first | exact HB.out | apply below_alloc | apply pw_below_drewN | apply below_drew1 | refine below_set ?_ GE143.out) | exact HB.out)⟩
end Go.Proofs.YtppcjoaghlecmaaDoor.P
namespace Go.Proofs.YtppcjoaghlecmaaDoor.P
open Go.RowKit Go.Sort Go.Proofs.YtppcjoaghlecmaaDoorW.PrintWords Go.Proofs.YtppcjoaghlecmaaDoorW.PrintLast Go.Proofs.YtppcjoaghlecmaaDoorW.PrintMore
set_option linter.unusedVariables false
set_option linter.unusedSimpArgs false
theorem frozen_own {w : World} {g : Nat} {cells : Array Value} {e : TypeId} (h : w.heap[g]? = some (.cells cells e (0, 0))) (j : Nat) : w.frozen? ⟨g, j, none⟩ = false := by
 simp [World.frozen?, h]
theorem holds_of_R {w : World} {base : Nat} {ok : Nat → Prop} {g cap : Nat} {l : List S112} (h : k112.R 112 w base ok (.slice (some ⟨g, 0, none⟩) l.length cap) l) : HoldsK e34 7 w g 0 l.toArray := by
 obtain ⟨cells, hty⟩ := Kd.R_typed h g rfl
 have hc := (Kd.R_reads' h).2.2
 intro t ht
 rw [size_flatK, List.size_toArray] at ht
 refine ⟨?_, frozen_own hty _⟩
 have hd : t / 7 < l.length := Nat.div_lt_of_lt_mul (by omega)
 have hm : t % 7 < 7 := Nat.mod_lt _ (by decide)
 obtain ⟨ad, e, hcell⟩ := hc.2.2 (by omega)
 cases e
 obtain ⟨c, h1, h2, h3⟩ := hcell (t / 7) l[t / 7] (List.getElem?_eq_getElem hd)
 obtain rfl := k112_open h2
 rw [get_flatK _ _ _ _ (by rw [List.size_toArray]; exact ht)]
 have hx : (l.toArray)[t / 7]! = l[t / 7] := by rw [getElem!_pos _ _ (by simpa using hd)]; simp
 rw [hx]
 have h4 := h3 (t % 7) (e34 l[t / 7])[t % 7]! (by
  show (e34 l[t / 7])[t % 7]? = _
  rw [List.getElem?_eq_getElem (by rw [e34_len]; exact hm), getElem!_pos _ _ (by rw [e34_len]; exact hm)])
 have e5 : (⟨g, 0, none⟩ : Addr).add (t / 7 * k112.sz + t % 7) = ⟨g, 0 + t, none⟩ := by
  have : t / 7 * k112.sz + t % 7 = t := by show t / 7 * 7 + t % 7 = t; omega
  rw [this]
  unfold Addr.add
  by_cases h0 : t = 0 <;> simp [h0]
 rw [e5] at h4
 exact h4
theorem C_of_holds {W : World} {g : Nat} {d : Array S112} (h : HoldsK e34 7 W g 0 d) (hl : d.size ≤ 1000000) : Kd.C k112 W (some ⟨g, 0, none⟩) d.toList.length d.toList := by
 refine ⟨rfl, by rw [Array.length_toList]; omega, fun hp => ⟨_, rfl, fun j p hj => ?_⟩⟩
 have hj2 : j < d.size := by
  have := (List.getElem?_eq_some_iff.1 hj).1
  rwa [Array.length_toList] at this
 have hp2 : d[j]! = p := by
  rw [getElem!_pos d j hj2]
  have := (List.getElem?_eq_some_iff.1 hj).2
  simpa using this
 refine ⟨e34 p, rfl, k112_mk W p, fun i u hu => ?_⟩
 have hi : i < 7 := by
  have := (List.getElem?_eq_some_iff.1 hu).1
  rwa [e34_len] at this
 have h1 := (h.cell hj2 hi).1
 rw [hp2, getElem!_pos _ i (by rw [e34_len]; exact hi), (List.getElem?_eq_some_iff.1 hu).2] at h1
 have e5 : (⟨g, 0, none⟩ : Addr).add (j * k112.sz + i) = ⟨g, 0 + j * 7 + i, none⟩ := by
  show (⟨g, 0, none⟩ : Addr).add (j * 7 + i) = _
  unfold Addr.add
  by_cases h0 : j * 7 + i = 0
  ·rw [if_pos h0, Nat.add_assoc, h0]
  ·rw [if_neg h0]; simp
 rw [e5]
 exact h1
theorem C_but {X : Nat → Prop} {w w' : World} {A : Option Addr} {n : Nat} {l : List S112} (h : Kd.C k112 w A n l) (hb : But X w w') (hx : ∀ ad, A = some ad → ¬ X ad.block) : Kd.C k112 w' A n l := by
 refine ⟨h.1, h.2.1, fun hp => ?_⟩
 obtain ⟨ad, rfl, hc⟩ := h.2.2 hp
 refine ⟨ad, rfl, fun j p hj => ?_⟩
 obtain ⟨c, h1, h2, h3⟩ := hc j p hj
 obtain rfl := k112_open h2
 refine ⟨_, rfl, k112_mk _ p, fun i u hu => hb.cell (h3 i u hu) ?_⟩
 rw [show (ad.add (j * k112.sz + i)).block = ad.block by unfold Addr.add; split <;> rfl]
 exact hx ad rfl
theorem But.of_swk {w W : World} {blk off : Nat} {d : Array S112} (h : SWK e34 7 w blk off d W) : But (fun k => k = blk) w W := by
 have hle := h.le
 obtain ⟨n, os, rfl⟩ := h
 refine ⟨rfl, rfl, rfl, hle, fun k hk hx => ?_⟩
 unfold sortWorldK
 rw [heap_grow_old _ os (by rw [size_putRowK]; exact hk)]
 unfold putRowK putRow mapBlock
 rw [Array.getElem?_modify, if_neg (fun e => hx e.symm)]
 rfl
def goOf : List S112 → List S112 → Bool × List S112
 | [], out => (true, out)
 | x :: r, out => if (oneOf (x :: r.takeWhile (fun y => decide (cmpK x.f0 y.f0 = 0))) out).1 = true then goOf (r.dropWhile (fun y => decide (cmpK x.f0 y.f0 = 0))) (oneOf (x :: r.takeWhile (fun y => decide (cmpK x.f0 y.f0 = 0))) out).2 else (false, out)
 termination_by l => l.length
 decreasing_by
  have := (List.dropWhile_sublist (fun y : S112 => decide (cmpK x.f0 y.f0 = 0)) (l := r)).length_le
  simp only [List.length_cons]
  omega
theorem take_while {α : Type} (p : α → Bool) : ∀ (l : List α) (k : Nat), k ≤ l.length → (∀ j, (h : j < l.length) → j < k → p l[j] = true) → (∀ h : k < l.length, p l[k] = false) → l.takeWhile p = l.take k ∧ l.dropWhile p = l.drop k
 | [], k, hk, _, _ => by simp
 | x :: r, 0, _, _, h2 => by
  have := h2 (by simp)
  simp only [List.getElem_cons_zero] at this
  simp [this]
 | x :: r, k + 1, hk, h1, h2 => by
  have hx : p x = true := h1 0 (by simp) (by omega)
  have ih := take_while p r k (by simpa using hk) (fun j hj hjk => by
   have := h1 (j + 1) (by simpa using hj) (by omega)
   simpa using this) (fun hk2 => by
   have := h2 (by simpa using hk2)
   simpa using this)
  rw [List.takeWhile_cons, if_pos hx, List.dropWhile_cons, if_pos hx, ih.1, ih.2]
  exact ⟨rfl, rfl⟩
theorem go_step {s out : List S112} {a b : Nat} (ha : a < b) (hb : b ≤ s.length) (h1 : ∀ j, a ≤ j → j < b → cmpK (rd_T112 s a).f0 (rd_T112 s j).f0 = 0) (h2 : b < s.length → ¬ cmpK (rd_T112 s a).f0 (rd_T112 s b).f0 = 0) :
  goOf (s.drop a) out = if (oneOf ((s.take b).drop a) out).1 = true then goOf (s.drop b) (oneOf ((s.take b).drop a) out).2 else (false, out) := by
 have hal : a < s.length := by omega
 have rd : ∀ j, (h : j < s.length) → rd_T112 s (j : Int) = s[j] := fun j h => by simp [rd_T112, h]
 have e1 : s.drop a = s[a] :: s.drop (a + 1) := List.drop_eq_getElem_cons hal
 have hw := take_while (fun y : S112 => decide (cmpK s[a].f0 y.f0 = 0)) (s.drop (a + 1)) (b - (a + 1)) (by rw [List.length_drop]; omega) (fun j hj hjk => by
  rw [List.length_drop] at hj
  have h3 := h1 (a + 1 + j) (by omega) (by omega)
  rw [rd a hal, rd (a + 1 + j) (by omega)] at h3
  rw [List.getElem_drop]
  exact decide_eq_true h3) (fun hk => by
  rw [List.length_drop] at hk
  have h3 := h2 (by omega)
  rw [rd a hal, rd b (by omega)] at h3
  rw [List.getElem_drop]
  have e2 : a + 1 + (b - (a + 1)) = b := by omega
  simp only [e2]
  exact decide_eq_false h3)
 have e2 : (s.take b).drop a = s[a] :: (s.drop (a + 1)).take (b - (a + 1)) := by
  rw [← List.drop_take, List.drop_eq_getElem_cons (by rw [List.length_take]; omega), List.getElem_take]
 have e3 : (s.drop (a + 1)).drop (b - (a + 1)) = s.drop b := by rw [List.drop_drop]; congr 1; omega
 rw [e1, goOf, hw.1, hw.2, e2, e3]
theorem goOf_nil (out : List S112) : goOf [] out = (true, out) := by rw [goOf]
theorem oneOf_len (g out : List S112) : (oneOf g out).2.length ≤ out.length + 1 := by
 unfold oneOf
 split
 ·simp
 ·simp
set_option maxHeartbeats 4000000 in
set_option maxRecDepth 1000000 in
theorem insertion_nil (A : Option Addr) (c : Nat) (f : Value) (w : World) : Calls Tryd.prog 175 #[.slice A 0 c, .int .i64 0, .int .i64 0, f] w fun e w' => e = .returned (.tuple #[]) ∧ w' = w := by
 go_enter Tryd.func175, Tryd.ntmps175
 go_wp2
 go_loopw [8, 9, 12, 13, 14, 15, 16, 17, 18, 19, 20, 21, 22, 23, 24, 25, 26, 27, 28, 29, 30, 31, 32, 33, 34, 35, 36, 37, 38, 39, 40, 41, 42, 43, 44, 45, 46, 47, 48, 49, 50, 51, 52] (fun v8 _ _ _ _ _ _ _ _ _ _ _ _ _ _ _ _ _ _ _ _ _ _ _ _ _ _ _ _ _ _ _ _ _ _ _ _ _ _ _ _ _ _ wr => v8 = .int .i64 1 ∧ wr = w) (fun _ _ _ _ _ _ _ _ _ _ _ _ _ _ _ _ _ _ _ _ _ _ _ _ _ _ _ _ _ _ _ _ _ _ _ _ _ _ _ _ _ _ _ _ => 0)
 case atStart => exact ⟨rfl, rfl⟩
 case round =>
  obtain ⟨rfl, rfl⟩ := hrel
  go_wp2
  go_end0
  exact ⟨rfl, rfl⟩
set_option maxHeartbeats 4000000 in
set_option maxRecDepth 1000000 in
theorem stable_nil (A : Option Addr) (c : Nat) (f : Value) (w : World) : Calls Tryd.prog 148 #[.slice A 0 c, .int .i64 0, f] w fun e w' => e = .returned (.tuple #[]) ∧ w' = w := by
 have HIN := Aside0.mk (insertion_nil A c f)
 go_enter Tryd.func148, Tryd.ntmps148
 go_wp2
 go_loopw [7, 8, 11, 12, 13, 14, 15, 16, 17, 18, 19, 20, 21, 22] (fun v7 v8 _ _ _ _ _ _ _ _ _ _ _ _ wr => v7 = .int .i64 0 ∧ v8 = .int .i64 20 ∧ wr = w) (fun _ _ _ _ _ _ _ _ _ _ _ _ _ _ _ => 0)
 case atStart => exact ⟨rfl, rfl, rfl⟩
 case round =>
  obtain ⟨rfl, rfl, rfl⟩ := hrel
  go_upto_region 7 with (first | (go_at_call 175; refine (HIN.out _).mono ?_; rintro e_ w2 ⟨rfl, rfl⟩))
  go_loopw [6, 7, 8, 9, 28, 29, 30, 31, 32, 33, 34, 35, 36, 37, 38, 39, 40, 41, 42, 43, 44, 45, 46, 47, 48, 49, 50, 51, 52, 53, 54, 55, 56, 57, 58, 59, 60, 61, 62] (fun v6 _ _ _ _ _ _ _ _ _ _ _ _ _ _ _ _ _ _ _ _ _ _ _ _ _ _ _ _ _ _ _ _ _ _ _ _ _ _ wr => v6 = .int .i64 20 ∧ wr = w2) (fun _ _ _ _ _ _ _ _ _ _ _ _ _ _ _ _ _ _ _ _ _ _ _ _ _ _ _ _ _ _ _ _ _ _ _ _ _ _ _ _ => 0)
  case atStart => exact ⟨rfl, rfl⟩
  case round =>
   obtain ⟨rfl, rfl⟩ := hrel
   go_wp2
   go_end0
   exact ⟨rfl, rfl⟩
theorem sortStable_nil (A : Option Addr) (c : Nat) (f : Value) (w : World) : Calls Tryd.prog 108 #[.slice A 0 c, f] w fun e w' => e = .returned (.tuple #[]) ∧ w' = w := by
 have HC := Aside0.mk (stable_nil A c f)
 go_enter Tryd.func108, Tryd.ntmps108
 go_wp2_with (first | (go_at_call 148; refine (HC.out _).mono ?_; rintro e_ w2 ⟨rfl, rfl⟩))
 go_end0
 exact ⟨rfl, rfl⟩
theorem mrg_perm {l : List S112} {s : Array S112} (h : Mrg ltC 0 l.toArray.size l.toArray s) : s.toList.Perm l := by
 have h1 := h.perm.2.2
 have h2 := h.perm.1
 rw [← h2, Array.extract_size] at h1
 rw [h2, Array.extract_size] at h1
 exact h1
def GrpPost (rs base : Nat) (l : List S112) (w : World) (e : Ending) (w' : World) : Prop :=
 ∃ s : Array S112, Mrg ltC 0 l.toArray.size l.toArray s ∧ e = .returned (.bool (goOf s.toList []).1) ∧ But (fun k => k = rs) w w' ∧
  (∃ v, w'.heap[rs]? = some (.cells #[v] 32 (0, 0)) ∧ ((goOf s.toList []).1 = true → k112.R 112 w' base (fun k => w.heap.size ≤ k) v (goOf s.toList []).2))
structure Box2 (w : World) (pk pc : Nat) : Prop where
 k : w.heap[pk]? = some (.cells #[.func (.func 61) #[] #[]] 132 (0, 0))
 c : w.heap[pc]? = some (.cells #[.func (.func 62) #[] #[]] 133 (0, 0))
theorem Box2.but {X : Nat → Prop} {w w' : World} {pk pc : Nat} (h : Box2 w pk pc) (hb : But X w w') (hk : ¬ X pk) (hc : ¬ X pc) : Box2 w' pk pc := ⟨hb.obj h.k hk, hb.obj h.c hc⟩
theorem Box2.cells {w : World} {pk pc : Nat} (h : Box2 w pk pc) : w.cell? ⟨pk, 0, none⟩ = some (.func (.func 61) #[] #[]) ∧ w.cell? ⟨pc, 0, none⟩ = some (.func (.func 62) #[] #[]) := ⟨(blk_cell h.k 0).trans rfl, (blk_cell h.c 0).trans rfl⟩
set_option maxHeartbeats 8000000 in
set_option maxRecDepth 100000 in
theorem grouped_nil (A : Option Addr) (c rs base : Nat) (w : World) (h : Kd.C k112 w A 0 []) (hrs : w.heap[rs]? = some (.cells #[.slice none 0 0] 32 (0, 0))) :
  Calls Tryd.prog 60 #[.slice A 0 c, .func (.func 61) #[] #[], .func (.func 62) #[] #[], .func (.func 58) #[] #[.pointer (some ⟨rs, 0, none⟩)]] w fun e w' => GrpPost rs base [] w e w' := by
 have HC := Aside0.mk h
 have HRS := Aside0.mk hrs
 clear h hrs
 go_enter Tryd.func60, Tryd.ntmps60
 go_upto_region 1 with (fail)
 refine with_world (P := fun x => Code.wp _ _ _ _ x) _ ?_
 intro w1 hw1
 have HB1 := Aside0.mk (show Below w.heap.size w w1 from by rw [hw1]; exact below_alloc (below_alloc (Below.refl _ _) _) _)
 clear hw1
 have HC1 := Aside0.mk (Kd.C_below HC.out HB1.out)
 go_upto_region 2 with (first | (go_at_call 63; (refine (clone_calls A c [] _ HC1.out (Nat.zero_le _) (by decide)).mono ?_); rintro e_ w2 ⟨v, rfl, hR, hB⟩; obtain ⟨A1, c1, rfl⟩ := Kd.R_slice hR; have HB2 := Aside0.mk (below_then HB1.out HB1.out.size hB); clear hR hB))
 go_upto_region 3 with (first | (go_at_call 108; (refine (sortStable_nil A1 c1 _ _).mono ?_); rintro e_ w3 ⟨rfl, rfl⟩))
 go_wp2
 go_loopw [10, 11, 17, 18, 19, 20, 21, 22, 23, 24, 25, 26, 27, 28, 29, 30, 31, 32, 33, 34, 35, 36, 37, 38, 39, 40, 41, 42, 43, 44, 45, 46, 47, 48, 49, 50, 51, 52, 53] (fun v10 _ _ _ _ _ _ _ _ _ _ _ _ _ _ _ _ _ _ _ _ _ _ _ _ _ _ _ _ _ _ _ _ _ _ _ _ _ _ wr => v10 = .int .i64 0 ∧ wr = w3) (fun _ _ _ _ _ _ _ _ _ _ _ _ _ _ _ _ _ _ _ _ _ _ _ _ _ _ _ _ _ _ _ _ _ _ _ _ _ _ _ _ => 0)
 case atStart => exact ⟨rfl, rfl⟩
 case round =>
  obtain ⟨rfl, rfl⟩ := hrel
  go_wp2
  go_ret
  refine ⟨#[], Mrg.refl (sorted_empty (Nat.zero_le _)), ?_, But.of_below HB2.out _, ⟨_, blk_below HRS.out HB2.out, fun _ => ?_⟩⟩
  ·show _ = Ending.returned (.bool (goOf [] []).1)
   rw [goOf_nil]
   rfl
  ·show k112.R _ _ _ _ _ (goOf [] []).2
   rw [goOf_nil]
   exact Kd.R_nil _ _ _ _ _
set_option maxHeartbeats 1000000 in
set_option maxRecDepth 100000 in
theorem grouped_cons (A : Option Addr) (c : Nat) (l : List S112) (rs base : Nat) (w : World) (h : Kd.C k112 w A l.length l) (hc : l.length ≤ c) (h0 : 0 < l.length) (hl : l.length ≤ 1000000) (hi : ∀ x ∈ l, i64ok x.f1 ∧ i64ok x.f2) (hbs : base ≤ w.heap.size) (hrs : w.heap[rs]? = some (.cells #[.slice none 0 0] 32 (0, 0))) :
  Calls Tryd.prog 60 #[.slice A l.length c, .func (.func 61) #[] #[], .func (.func 62) #[] #[], .func (.func 58) #[] #[.pointer (some ⟨rs, 0, none⟩)]] w fun e w' => GrpPost rs base l w e w' := by
 have HC := Aside0.mk h
 have HRS := Aside0.mk hrs
 have HI := Aside0.mk hi
 have HL := Aside0.mk (And.intro h0 hl)
 have HBS := Aside0.mk hbs
 clear h hrs hi hbs
 go_enter Tryd.func60, Tryd.ntmps60
 go_upto_region 1 with (fail)
 refine with_world (P := fun x => Code.wp _ _ _ _ x) _ ?_
 intro w1 hw1
 obtain ⟨g, hg⟩ : ∃ g, w.heap.size = g := ⟨_, rfl⟩
 have HBX := Aside0.mk (show Box2 w1 g (g + 1) from ⟨by rw [hw1, ← hg]; exact blk_alloc (blk_new w _) _, by rw [hw1, ← hg]; exact blk_newAt _ _ _ (by simp)⟩)
 have HB1 := Aside0.mk (show Below w.heap.size w w1 from by rw [hw1]; exact below_alloc (below_alloc (Below.refl _ _) _) _)
 have HS1 := Aside0.mk (show w1.heap.size = g + 2 from by rw [hw1, ← hg]; simp)
 have HG := Aside0.mk hg
 rw [hg]
 clear hw1 hg
 have HC1 := Aside0.mk (Kd.C_below HC.out HB1.out)
 go_upto_region 2 with (first | (go_at_call 63; (with_reducible refine (clone_calls A c l _ HC1.out hc hl).mono ?_); rintro e_ w2 ⟨v, rfl, hR, hB⟩; obtain ⟨b, c1, rfl, hb1, hb2, _⟩ := Kd.R_form hR HL.out.1; have HR2 := Aside0.mk hR; have HB2 := Aside0.mk hB; clear hR hB))
 have HBX2 := Aside0.mk (show Box2 w2 g (g + 1) from ⟨blk_below HBX.out.k HB2.out, blk_below HBX.out.c HB2.out⟩)
 have HN := Aside0.mk (show g + 2 ≤ b ∧ b < w2.heap.size from ⟨by have := HS1.out; omega, hb2⟩)
 have HB02 := Aside0.mk (below_then HB1.out HB1.out.size HB2.out)
 have hcell := HBX2.out.cells
 have HSO := Aside0.mk (sortStable_calls b 0 c1 (g + 1) g l.toArray w2 ⟨e34_len, e34_one, holds_of_R HR2.out, hb2⟩ ⟨hcell.2, hcell.1, by have := HN.out.1; omega, by have := HN.out.1; omega⟩ (by rw [List.size_toArray]; omega))
 have HH := Aside0.mk (holds_of_R HR2.out)
 have HCAP := Aside0.mk (show l.length ≤ c1 from (Kd.R_reads' HR2.out).2.1)
 clear hcell HB1 HBX HC1 HR2 HB2 hb1 hb2
 go_upto_region 3 with (first | (go_at_call 108; (refine HSO.out.mono ?_); rintro e_ w3 ⟨rfl, s, hm_, hs_⟩; have HM := Aside0.mk hm_; have HS := Aside0.mk hs_; clear hm_ hs_))
 have HB3 := Aside0.mk (But.of_swk HS.out)
 have HZ := Aside0.mk (show s.toList.length = l.length from by
  have := HM.out.perm.1
  rw [Array.length_toList, this, List.size_toArray])
 have HC3 := Aside0.mk (C_of_holds (HS.out.holds HN.out.2 HH.out (by have := HM.out.perm.1; rw [this])) (by have := HZ.out; rw [Array.length_toList] at this; omega))
 have HBX3 := Aside0.mk (HBX2.out.but HB3.out (by have := HN.out.1; omega) (by have := HN.out.1; omega))
 have HI3 := Aside0.mk (show ∀ x ∈ s.toList, i64ok x.f1 ∧ i64ok x.f2 from fun x hx => HI.out x ((mrg_perm HM.out).mem_iff.1 hx))
 have HNB := Aside0.mk (show rs ≠ b from fun e => by have := blk_lt HRS.out; have := HN.out.1; have := HG.out; omega)
 have HRS3 := Aside0.mk (HB3.out.obj (blk_below HRS.out HB02.out) (fun e => HNB.out e))
 have HALL := Aside0.mk (show But (fun k => k = rs ∨ w.heap.size ≤ k) w w3 from (But.of_below HB02.out _).trans (HB3.out.mono (fun k _ hk => .inr (by have := HN.out.1; have := HG.out; omega))))
 obtain ⟨ad, had⟩ : ∃ ad : Addr, ad = ⟨b, 0, none⟩ := ⟨_, rfl⟩
 have HAD := Aside0.mk had
 rw [← had] at HC3 ⊢
 obtain ⟨n, hn⟩ : ∃ n, l.length = n := ⟨_, rfl⟩
 have HNL := Aside0.mk hn
 rw [hn] at HCAP HZ HL ⊢
 rw [HZ.out] at HC3
 obtain ⟨q, hq⟩ : ∃ q, s.toList = q := ⟨_, rfl⟩
 have HQ := Aside0.mk hq
 rw [hq] at HC3 HI3 HZ
 clear HSO HH HB02 HBX2 HS had hn hq hc h0 hl
 have N0 := Aside0.mk (show goOf (q.drop 0) [] = goOf q [] from rfl)
 go_wp2
 go_loopw [10, 11, 17, 18, 19, 20, 21, 22, 23, 24, 25, 26, 27, 28, 29, 30, 31, 32, 33, 34, 35, 36, 37, 38, 39, 40, 41, 42, 43, 44, 45, 46, 47, 48, 49, 50, 51, 52, 53] (fun v10 _ _ _ _ _ _ _ _ _ _ _ _ _ _ _ _ _ _ _ _ _ _ _ _ _ _ _ _ _ _ _ _ _ _ _ _ _ _ wr => ∃ (a : Nat) (o : List S112) (v : Value), a ≤ n ∧ v10 = .int .i64 a ∧ Aside0 (o.length ≤ a) ∧ Aside0 (goOf (q.drop a) o = goOf q []) ∧ Aside0 (wr.heap[rs]? = some (.cells #[v] 32 (0, 0))) ∧ Aside0 (k112.R 112 wr base (fun k => w3.heap.size ≤ k) v o) ∧ Aside0 (But (fun k => k = rs ∨ w3.heap.size ≤ k) w3 wr)) (fun v10 _ _ _ _ _ _ _ _ _ _ _ _ _ _ _ _ _ _ _ _ _ _ _ _ _ _ _ _ _ _ _ _ _ _ _ _ _ _ _ => n - (intOf v10).toNat)
 case atStart => exact ⟨0, [], _, Nat.zero_le _, rfl, ⟨Nat.le_refl _⟩, N0, HRS3, ⟨Kd.R_nil _ _ _ _ _⟩, ⟨But.refl _ _⟩⟩
 case round =>
  clear N0 HRS3
  obtain ⟨a, o, v, han, rfl, HOL, HGO, HRSr, HV, HBr⟩ := hrel
  by_cases hlt : a < n
  ·have d1 : decide ((a : Int) < (n : Int)) = true := decide_eq_true (by omega)
   have d2 : decide (a < n) = true := decide_eq_true hlt
   have hA0 : (0 : Int) ≤ (a : Int) := by omega
   have hA1 : (a : Int) < (n : Int) := by omega
   have HBXr := Aside0.mk (HBX3.out.but HBr.out (fun e => by rcases e with e | e; (have := blk_lt HRS.out; have := HG.out; omega); (have := blk_lt HBX3.out.k; omega)) (fun e => by rcases e with e | e; (have := blk_lt HRS.out; have := HG.out; omega); (have := blk_lt HBX3.out.c; omega)))
   have HCr := Aside0.mk (C_but HC3.out HBr.out (fun ad' e => by
    cases e
    intro e
    have h1 := HAD.out
    rw [h1] at e
    simp only at e
    rcases e with e | e
    ·exact HNB.out e.symm
    ·have := HN.out.2; have := HB3.out.size; omega))
   have hn1 := HL.out.2
   go_wp2
   rename World => wo
   go_loopw [11, 23, 24, 25, 26, 27, 28, 29, 30, 31, 32, 33, 34, 35, 36, 37, 38, 39, 40, 41, 42, 43, 44, 45] (fun v11 _ _ _ _ _ _ _ _ _ _ _ _ _ _ _ _ _ _ _ _ _ _ _ wq => ∃ b' : Nat, a < b' ∧ b' ≤ n ∧ v11 = .int .i64 b' ∧ Aside0 (∀ j : Nat, a ≤ j → j < b' → cmpK (rd_T112 q (a : Int)).f0 (rd_T112 q (j : Int)).f0 = 0) ∧ Aside0 (Grw wo wq)) (fun v11 _ _ _ _ _ _ _ _ _ _ _ _ _ _ _ _ _ _ _ _ _ _ _ _ => n - (intOf v11).toNat)
   case atStart =>
    refine ⟨a + 1, by omega, by omega, by go_num, ⟨fun j h1 h2 => ?_⟩, ⟨Grw.refl _⟩⟩
    obtain rfl : j = a := by omega
    exact cmp3_K.refl _
   case round =>
    obtain ⟨b', hb1, hb2, rfl, HEQ, HGq⟩ := hrel
    rename World => wq
    have hn1 := HL.out.2
    have HCq := Aside0.mk (Kd.C_below HCr.out HGq.out.below)
    by_cases hlt2 : b' < n
    ·have d3 : decide ((b' : Int) < (n : Int)) = true := decide_eq_true (by omega)
     have d4 : decide (b' < n) = true := decide_eq_true hlt2
     have hB0 : (0 : Int) ≤ (b' : Int) := by omega
     have hB1 : (b' : Int) < (n : Int) := by omega
     obtain ⟨ad1, e1, x0, x1, x2, x3, x4, x5, x6⟩ := at_T112 HCq.out (a : Int) hA0 hA1
     obtain ⟨ad2, e2, y0, y1, y2, y3, y4, y5, y6⟩ := at_T112 HCq.out (b' : Int) hB0 hB1
     cases e1
     cases e2
     have hcells := (Box2.but HBXr.out (But.of_below HGq.out.below (fun _ => False)) (fun h => h) (fun h => h)).cells
     have hk := cell_all hcells.1
     have hc := cell_all hcells.2
     clear hcells
     rw [Int.toNat_natCast] at x0 x1 x2 x3 x4 x5 x6 y0 y1 y2 y3 y4 y5 y6
     obtain ⟨x, hx⟩ : ∃ x, rd_T112 q (a : Int) = x := ⟨_, rfl⟩
     obtain ⟨y, hy⟩ : ∃ y, rd_T112 q (b' : Int) = y := ⟨_, rfl⟩
     rw [hx] at x0 x1 x2 x3 x4 x5 x6
     rw [hy] at y0 y1 y2 y3 y4 y5 y6
     have x0 := cell_all x0
     have x1 := cell_all x1
     have x2 := cell_all x2
     have x3 := cell_all x3
     have x4 := cell_all x4
     have x5 := cell_all x5
     have x6 := cell_all x6
     have y0 := cell_all y0
     have y1 := cell_all y1
     have y2 := cell_all y2
     have y3 := cell_all y3
     have y4 := cell_all y4
     have y5 := cell_all y5
     have y6 := cell_all y6
     obtain ⟨z, hz⟩ : ∃ z, cmpK x.f0 y.f0 = z := ⟨_, rfl⟩
     have hcmp := cmp_calls x.f0 y.f0
     rw [hz] at hcmp
     have mixed : Tryd.prog.follows .mixedOrders = true := by kernel_rfl
     by_cases h00 : z = 0
     ·subst h00
      have HZ0 := Aside0.mk (show cmpK (rd_T112 q (a : Int)).f0 (rd_T112 q (b' : Int)).f0 = 0 from by rw [hx, hy]; exact hz)
      clear hz hx hy
      go_wp2_with fail
      go_quiet_grown (first | (go_at_call 61; (with_reducible refine Calls.grown_of (key_calls x _))) | (go_at_call 61; (with_reducible refine Calls.grown_of (key_calls y _))) | (go_at_call 62; refine Calls.grown_of (hcmp _)))
      have HG2 := Aside0.mk (show Grw wo (grow (wq.drewN nq) osq) from HGq.out.trans ⟨_, _, rfl⟩)
      clear x0 x1 x2 x3 x4 x5 x6 y0 y1 y2 y3 y4 y5 y6 hk hc hcmp mixed HCq HGq
      generalize grow (wq.drewN nq) osq = w4 at HG2 ⊢
      clear nq osq
      go_wp2
      go_roundw
      case rel =>
       refine ⟨b' + 1, by omega, by omega, by go_num, ⟨fun j h1 h2 => ?_⟩, HG2⟩
       rcases Nat.lt_or_ge j b' with h3 | h3
       ·exact HEQ.out j h1 h3
       ·obtain rfl : j = b' := by omega
        exact HZ0.out
      case measure => simp [intOf]; omega
     ·have e1 : (z == (0 : Int)) = false := beq_false_of_ne h00
      have HNE := Aside0.mk (show b' < n → ¬ cmpK (rd_T112 q (a : Int)).f0 (rd_T112 q (b' : Int)).f0 = 0 from fun _ => by rw [hx, hy, hz]; exact h00)
      clear hz hx hy
      go_wp2_with fail
      go_quiet_grown (first | (go_at_call 61; (with_reducible refine Calls.grown_of (key_calls x _))) | (go_at_call 61; (with_reducible refine Calls.grown_of (key_calls y _))) | (go_at_call 62; refine Calls.grown_of (hcmp _)))
      have HG2 := Aside0.mk (show Grw wo (grow (wq.drewN nq) osq) from HGq.out.trans ⟨_, _, rfl⟩)
      clear x0 x1 x2 x3 x4 x5 x6 y0 y1 y2 y3 y4 y5 y6 hk hc hcmp mixed HCq HGq e1 h00
      generalize grow (wq.drewN nq) osq = w4 at HG2 ⊢
      clear nq osq
      rename World => wq
      have HGq := HG2
      have HCq := Aside0.mk (Kd.C_below HCr.out HGq.out.below)
      clear HG2
      have hal : a < q.length := by have := HZ.out; omega
      have HST := Aside0.mk (go_step (s := q) (out := o) hb1 (by have := HZ.out; omega) HEQ.out (fun h => HNE.out (by have := HZ.out; omega)))
      obtain ⟨grp, hgrp⟩ : ∃ grp, (q.take b').drop a = grp := ⟨_, rfl⟩
      have hgl : grp.length = b' - a := by rw [← hgrp, List.length_drop, List.length_take]; have := HZ.out; omega
      have hgi : ∀ x ∈ grp, i64ok x.f1 ∧ i64ok x.f2 := fun x hx => HI3.out x (by rw [← hgrp] at hx; exact List.mem_of_mem_take (List.mem_of_mem_drop hx))
      have hcg := Kd.C_mid (k := k112) (lo := a) (hi := b') (c := c1) (show Kd.C k112 wq (some ad) q.length q from by rw [HZ.out]; exact HCq.out) (by omega) (by have := HZ.out; omega) (by have := HZ.out; have := HCAP.out; omega)
      rw [hgrp, if_neg (show ¬ c1 = a by have := HCAP.out; omega)] at hcg
      obtain ⟨ti, hti, htz⟩ := Option.map_eq_some_iff.1 info112
      have hcut := cut_mid (P := Tryd.prog) 32 112 .i64 .i64 Tryd.underlying32 hti 7 (congrArg (fun t => t.2.1) htz) (some ad) n c1 (a : Int) (b' : Int) (by omega) (by omega) (by omega) HCAP.out
      rw [Int.toNat_natCast, Int.toNat_natCast, if_neg (show ¬ c1 = a by have := HCAP.out; omega)] at hcut
      obtain ⟨gd, hgd⟩ : ∃ gd, ad.add (a * 7) = gd := ⟨_, rfl⟩
      have hgb : gd.block = b := by rw [← hgd, HAD.out]; unfold Addr.add; split <;> rfl
      rw [show (some ad).map (fun x => x.add (a * 7)) = some gd from by rw [← hgd]; rfl] at hcut
      rw [show (some ad).map (fun x => x.add (a * k112.sz)) = some gd from by rw [← hgd]; rfl] at hcg
      have HON := Aside0.mk (one_calls (some gd) (c1 - a) grp rs base (fun k => w3.heap.size ≤ k) v o wq hcg (by rw [hgl]; have := HCAP.out; omega) (by omega) (by have := HL.out; omega) hgi (blk_below HRSr.out HGq.out.below) (Kd.R_below HV.out HGq.out.below) (fun k hk => Nat.le_trans HBr.out.size (Nat.le_trans HGq.out.below.size hk)) (by have := HBS.out; have := HALL.out.size; have := HBr.out.size; have := HGq.out.below.size; omega) (by have := HOL.out; have := HL.out; omega) (fun ad' e => by
       cases e
       rw [hgb]
       exact ⟨fun e => by have := HV.out.1 _ e; have := HN.out.2; have := HB3.out.size; omega, HNB.out⟩))
      rw [hgl] at HON
      rw [hgrp] at HST
      have HBV := Aside0.mk (show But (fun k => k = rs ∨ w3.heap.size ≤ k) w3 wq from HBr.out.trans (But.of_below HGq.out.below _))
      have HVO := Aside0.mk HV.out.1
      have HA := Aside0.mk hb1
      clear hti htz ti hgrp hcg hgd hgb HCq HCr HBXr HBr HRSr HV HGq HEQ HNE hgi hal
      obtain ⟨m, hm⟩ : ∃ m, b' - a = m := ⟨_, rfl⟩
      obtain ⟨cm, hcm⟩ : ∃ cm, c1 - a = cm := ⟨_, rfl⟩
      rw [hm] at HON hcut hgl
      rw [hcm] at HON hcut
      clear hm hcm
      obtain ⟨⟨r, o2⟩, hr⟩ : ∃ r, oneOf grp o = r := ⟨_, rfl⟩
      have HO2 := Aside0.mk (show o2.length ≤ o.length + 1 from by have := oneOf_len grp o; rwa [hr] at this)
      unfold OnePost at HON
      rw [hr] at HON HST
      clear hr hgl
      cases r with
      | true =>
       go_upto_region 10 with (first | (go_at_call 58; (refine HON.out.mono ?_); rintro e_ w5 ⟨rfl, hb_, v', hv_, hr_⟩; have HB5 := Aside0.mk hb_; have HV5 := Aside0.mk hv_; have HR5 := Aside0.mk hr_; clear hb_ hv_ hr_))
       go_wp2
       go_roundw
       case rel =>
        refine ⟨b', o2, v', by omega, rfl, ⟨by have := HO2.out; have := HOL.out; have := HA.out; omega⟩, ⟨?_⟩, HV5, ⟨HR5.out⟩, ⟨HBV.out.trans (HB5.out.mono (fun k hk e => ?_))⟩⟩
        ·rw [← HGO.out, HST.out]
         rfl
        ·rcases e with e | e
         ·exact .inl e
         ·exact .inr (HVO.out k e)
       case measure => have := HA.out; simp [intOf]; omega
      | false =>
       go_wp2_with (first | (go_at_call 58; (refine HON.out.mono ?_); rintro e_ w5 ⟨rfl, hb_, v', hv_, hr_⟩; have HB5 := Aside0.mk hb_; have HV5 := Aside0.mk hv_; clear hb_ hv_ hr_))
       go_ret
       have hg_ : goOf q [] = (false, o) := by rw [← HGO.out, HST.out]; rfl
       refine ⟨s, HM.out, by rw [HQ.out, hg_]; rfl, ?_, ⟨v', HV5.out, fun h => ?_⟩⟩
       ·have h1 := HALL.out.trans ((HBV.out.trans (HB5.out.mono (fun k hk e => e.imp id (HVO.out k)))).mono (fun k hk e => e.imp id (fun e => Nat.le_trans HALL.out.size e)))
        exact h1.mono (fun k hk e => e.elim id (fun e => by omega))
       ·rw [HQ.out, hg_] at h
        cases h
    ·have d3 : decide ((b' : Int) < (n : Int)) = false := decide_eq_false (by omega)
     have d4 : decide (b' < n) = false := decide_eq_false hlt2
     have HNE := Aside0.mk (show b' < n → ¬ cmpK (rd_T112 q (a : Int)).f0 (rd_T112 q (b' : Int)).f0 = 0 from fun h => absurd h hlt2)
     have mixed : Tryd.prog.follows .mixedOrders = true := by kernel_rfl
     have HG2 := Aside0.mk (show Grw wo wq.drew from HGq.out.drew)
     go_wp2_with fail
     go_big_region_o
     clear mixed HCq HGq
     generalize wq.drew = w4 at HG2 ⊢
     rename World => wq
     have HGq := HG2
     have HCq := Aside0.mk (Kd.C_below HCr.out HGq.out.below)
     clear HG2
     have hal : a < q.length := by have := HZ.out; omega
     have HST := Aside0.mk (go_step (s := q) (out := o) hb1 (by have := HZ.out; omega) HEQ.out (fun h => HNE.out (by have := HZ.out; omega)))
     obtain ⟨grp, hgrp⟩ : ∃ grp, (q.take b').drop a = grp := ⟨_, rfl⟩
     have hgl : grp.length = b' - a := by rw [← hgrp, List.length_drop, List.length_take]; have := HZ.out; omega
     have hgi : ∀ x ∈ grp, i64ok x.f1 ∧ i64ok x.f2 := fun x hx => HI3.out x (by rw [← hgrp] at hx; exact List.mem_of_mem_take (List.mem_of_mem_drop hx))
     have hcg := Kd.C_mid (k := k112) (lo := a) (hi := b') (c := c1) (show Kd.C k112 wq (some ad) q.length q from by rw [HZ.out]; exact HCq.out) (by omega) (by have := HZ.out; omega) (by have := HZ.out; have := HCAP.out; omega)
     rw [hgrp, if_neg (show ¬ c1 = a by have := HCAP.out; omega)] at hcg
     obtain ⟨ti, hti, htz⟩ := Option.map_eq_some_iff.1 info112
     have hcut := cut_mid (P := Tryd.prog) 32 112 .i64 .i64 Tryd.underlying32 hti 7 (congrArg (fun t => t.2.1) htz) (some ad) n c1 (a : Int) (b' : Int) (by omega) (by omega) (by omega) HCAP.out
     rw [Int.toNat_natCast, Int.toNat_natCast, if_neg (show ¬ c1 = a by have := HCAP.out; omega)] at hcut
     obtain ⟨gd, hgd⟩ : ∃ gd, ad.add (a * 7) = gd := ⟨_, rfl⟩
     have hgb : gd.block = b := by rw [← hgd, HAD.out]; unfold Addr.add; split <;> rfl
     rw [show (some ad).map (fun x => x.add (a * 7)) = some gd from by rw [← hgd]; rfl] at hcut
     rw [show (some ad).map (fun x => x.add (a * k112.sz)) = some gd from by rw [← hgd]; rfl] at hcg
     have HON := Aside0.mk (one_calls (some gd) (c1 - a) grp rs base (fun k => w3.heap.size ≤ k) v o wq hcg (by rw [hgl]; have := HCAP.out; omega) (by omega) (by have := HL.out; omega) hgi (blk_below HRSr.out HGq.out.below) (Kd.R_below HV.out HGq.out.below) (fun k hk => Nat.le_trans HBr.out.size (Nat.le_trans HGq.out.below.size hk)) (by have := HBS.out; have := HALL.out.size; have := HBr.out.size; have := HGq.out.below.size; omega) (by have := HOL.out; have := HL.out; omega) (fun ad' e => by
      cases e
      rw [hgb]
      exact ⟨fun e => by have := HV.out.1 _ e; have := HN.out.2; have := HB3.out.size; omega, HNB.out⟩))
     rw [hgl] at HON
     rw [hgrp] at HST
     have HBV := Aside0.mk (show But (fun k => k = rs ∨ w3.heap.size ≤ k) w3 wq from HBr.out.trans (But.of_below HGq.out.below _))
     have HVO := Aside0.mk HV.out.1
     have HA := Aside0.mk hb1
     clear hti htz ti hgrp hcg hgd hgb HCq HCr HBXr HBr HRSr HV HGq HEQ HNE hgi hal
     obtain ⟨m, hm⟩ : ∃ m, b' - a = m := ⟨_, rfl⟩
     obtain ⟨cm, hcm⟩ : ∃ cm, c1 - a = cm := ⟨_, rfl⟩
     rw [hm] at HON hcut hgl
     rw [hcm] at HON hcut
     clear hm hcm
     obtain ⟨⟨r, o2⟩, hr⟩ : ∃ r, oneOf grp o = r := ⟨_, rfl⟩
     have HO2 := Aside0.mk (show o2.length ≤ o.length + 1 from by have := oneOf_len grp o; rwa [hr] at this)
     unfold OnePost at HON
     rw [hr] at HON HST
     clear hr hgl
     cases r with
     | true =>
      go_upto_region 10 with (first | (go_at_call 58; (refine HON.out.mono ?_); rintro e_ w5 ⟨rfl, hb_, v', hv_, hr_⟩; have HB5 := Aside0.mk hb_; have HV5 := Aside0.mk hv_; have HR5 := Aside0.mk hr_; clear hb_ hv_ hr_))
      go_wp2
      go_roundw
      case rel =>
       refine ⟨b', o2, v', by omega, rfl, ⟨by have := HO2.out; have := HOL.out; have := HA.out; omega⟩, ⟨?_⟩, HV5, ⟨HR5.out⟩, ⟨HBV.out.trans (HB5.out.mono (fun k hk e => ?_))⟩⟩
       ·rw [← HGO.out, HST.out]
        rfl
       ·rcases e with e | e
        ·exact .inl e
        ·exact .inr (HVO.out k e)
      case measure => have := HA.out; simp [intOf]; omega
     | false =>
      go_wp2_with (first | (go_at_call 58; (refine HON.out.mono ?_); rintro e_ w5 ⟨rfl, hb_, v', hv_, hr_⟩; have HB5 := Aside0.mk hb_; have HV5 := Aside0.mk hv_; clear hb_ hv_ hr_))
      go_ret
      have hg_ : goOf q [] = (false, o) := by rw [← HGO.out, HST.out]; rfl
      refine ⟨s, HM.out, by rw [HQ.out, hg_]; rfl, ?_, ⟨v', HV5.out, fun h => ?_⟩⟩
      ·have h1 := HALL.out.trans ((HBV.out.trans (HB5.out.mono (fun k hk e => e.imp id (HVO.out k)))).mono (fun k hk e => e.imp id (fun e => Nat.le_trans HALL.out.size e)))
       exact h1.mono (fun k hk e => e.elim id (fun e => by omega))
      ·rw [HQ.out, hg_] at h
       cases h
  ·obtain rfl : a = n := by omega
   have d1 : decide ((a : Int) < (a : Int)) = false := decide_eq_false (by omega)
   have d2 : decide (a < a) = false := decide_eq_false (by omega)
   have hg_ : goOf q [] = (true, o) := by rw [← HGO.out, List.drop_of_length_le (by rw [HZ.out]; exact Nat.le_refl _), goOf_nil]
   have HG_ := Aside0.mk hg_
   clear hg_
   go_wp2
   go_ret
   refine ⟨s, HM.out, by rw [HQ.out, HG_.out]; rfl, ?_, ⟨v, HRSr.out, fun h => ?_⟩⟩
   ·exact (HALL.out.trans (HBr.out.mono (fun k hk e => e.imp id (fun e => Nat.le_trans HALL.out.size e)))).mono (fun k hk e => e.elim id (fun e => by omega))
   ·rw [HQ.out, HG_.out]
    exact Kd.R_mono HV.out (fun k hk => Nat.le_trans HALL.out.size hk)
def SS (ks : List S40) : Prop := ks.Pairwise (fun a b => cmpK a b < 0)
def insK (k : S40) : List S40 → List S40
 | [] => [k]
 | h :: t => if cmpK k h < 0 then k :: h :: t else if cmpK k h = 0 then h :: t else h :: insK k t
theorem cmpK_self (k : S40) : cmpK k k = 0 := cmp3_K.refl k
theorem cmpK_flip {a b : S40} (h : ¬ cmpK a b < 0) (h2 : ¬ cmpK a b = 0) : cmpK b a < 0 := by have := cmp3_K.sw a b; omega
theorem cmpK_trans {a b c : S40} (h : cmpK a b < 0) (h2 : cmpK b c < 0) : cmpK a c < 0 := cmp3_K.lt_le h (by omega)
theorem mem_insK (k x : S40) : ∀ ks, x ∈ insK k ks ↔ x = k ∨ x ∈ ks
 | [] => by simp [insK]
 | h :: t => by
  unfold insK
  by_cases h1 : cmpK k h < 0
  ·rw [if_pos h1]; simp
  ·rw [if_neg h1]
   by_cases h2 : cmpK k h = 0
   ·rw [if_pos h2]
    have := cmpK_zero h2
    subst this
    simp
   ·rw [if_neg h2, List.mem_cons, mem_insK k x t, List.mem_cons]
    constructor
    ·rintro (h | h | h)
     ·exact .inr (.inl h)
     ·exact .inl h
     ·exact .inr (.inr h)
    ·rintro (h | h | h)
     ·exact .inr (.inl h)
     ·exact .inl h
     ·exact .inr (.inr h)
theorem ss_insK (k : S40) : ∀ ks, SS ks → SS (insK k ks)
 | [], _ => List.pairwise_singleton _ _
 | h :: t, hs => by
  have h0 := List.pairwise_cons.1 hs
  unfold insK
  by_cases h1 : cmpK k h < 0
  ·rw [if_pos h1]
   refine List.pairwise_cons.2 ⟨fun x hx => ?_, hs⟩
   rcases List.mem_cons.1 hx with rfl | hx
   ·exact h1
   ·exact cmpK_trans h1 (h0.1 x hx)
  ·rw [if_neg h1]
   by_cases h2 : cmpK k h = 0
   ·rw [if_pos h2]; exact hs
   ·rw [if_neg h2]
    refine List.pairwise_cons.2 ⟨fun x hx => ?_, ss_insK k t h0.2⟩
    rcases (mem_insK k x t).1 hx with rfl | hx
    ·exact cmpK_flip h1 h2
    ·exact h0.1 x hx
theorem ss_unique : ∀ {a b : List S40}, SS a → SS b → (∀ k, k ∈ a ↔ k ∈ b) → a = b
 | [], [], _, _, _ => rfl
 | [], y :: b, _, _, h => absurd ((h y).2 (by simp)) (by simp)
 | x :: a, [], _, _, h => absurd ((h x).1 (by simp)) (by simp)
 | x :: a, y :: b, ha, hb, h => by
  have ha' := List.pairwise_cons.1 ha
  have hb' := List.pairwise_cons.1 hb
  have hxy : x = y := by
   rcases List.mem_cons.1 ((h x).1 (by simp)) with h1 | h1
   ·exact h1
   ·rcases List.mem_cons.1 ((h y).2 (by simp)) with h2 | h2
    ·exact h2.symm
    ·have := cmpK_trans (ha'.1 y h2) (hb'.1 x h1)
     rw [cmpK_self] at this
     omega
  subst hxy
  congr 1
  refine ss_unique ha'.2 hb'.2 (fun k => ?_)
  constructor
  ·intro hk
   rcases List.mem_cons.1 ((h k).1 (by simp [hk])) with h1 | h1
   ·have := ha'.1 k hk
    rw [h1, cmpK_self] at this
    omega
   ·exact h1
  ·intro hk
   rcases List.mem_cons.1 ((h k).2 (by simp [hk])) with h1 | h1
   ·have := hb'.1 k hk
    rw [h1, cmpK_self] at this
    omega
   ·exact h1
def keysK : List S112 → List S40
 | [] => []
 | c :: r => insK c.f0 (keysK r)
theorem ss_keysK : ∀ l, SS (keysK l)
 | [] => List.Pairwise.nil
 | c :: r => ss_insK _ _ (ss_keysK r)
theorem mem_keysK (k : S40) : ∀ l, k ∈ keysK l ↔ ∃ c ∈ l, c.f0 = k
 | [] => by simp [keysK]
 | c :: r => by
  unfold keysK
  rw [mem_insK, mem_keysK k r]
  constructor
  ·rintro (rfl | ⟨x, hx, rfl⟩)
   ·exact ⟨c, by simp, rfl⟩
   ·exact ⟨x, by simp [hx], rfl⟩
  ·rintro ⟨x, hx, rfl⟩
   rcases List.mem_cons.1 hx with rfl | hx
   ·exact .inl rfl
   ·exact .inr ⟨x, hx, rfl⟩
theorem keysK_perm {a b : List S112} (h : a.Perm b) : keysK a = keysK b :=
 ss_unique (ss_keysK a) (ss_keysK b) (fun k => by rw [mem_keysK, mem_keysK]; exact ⟨fun ⟨c, h1, h2⟩ => ⟨c, h.mem_iff.1 h1, h2⟩, fun ⟨c, h1, h2⟩ => ⟨c, h.mem_iff.2 h1, h2⟩⟩)
def eqK (k : S40) (c : S112) : Bool := decide (cmpK k c.f0 = 0)
def sumA (l : List S112) (k : S40) : Int := (amts (l.filter (eqK k))).sum
def sumB (l : List S112) (k : S40) : Int := (bass (l.filter (eqK k))).sum
def cellsK (l : List S112) : List S40 → List S112 → Bool × List S112
 | [], out => (true, out)
 | k :: t, out => if fitB (sumA l k) && fitB (sumB l k) then cellsK l t (if sumA l k ≠ 0 ∨ sumB l k ≠ 0 then out ++ [⟨k, sumA l k, sumB l k⟩] else out) else (false, out)
theorem perm_sum {a b : List Int} (h : a.Perm b) : a.sum = b.sum := by
 induction h with
 | nil => rfl
 | cons x _ ih => rw [List.sum_cons, List.sum_cons, ih]
 | swap x y l => simp only [List.sum_cons]; omega
 | trans _ _ h1 h2 => exact h1.trans h2
theorem sumA_perm {a b : List S112} (h : a.Perm b) (k : S40) : sumA a k = sumA b k := perm_sum ((h.filter _).map _)
theorem sumB_perm {a b : List S112} (h : a.Perm b) (k : S40) : sumB a k = sumB b k := perm_sum ((h.filter _).map _)
theorem cellsK_congr {a b : List S112} : ∀ (ks : List S40) (out : List S112), (∀ k ∈ ks, sumA a k = sumA b k ∧ sumB a k = sumB b k) → cellsK a ks out = cellsK b ks out
 | [], out, _ => rfl
 | k :: t, out, h => by
  unfold cellsK
  rw [(h k (by simp)).1, (h k (by simp)).2, cellsK_congr t _ (fun x hx => h x (by simp [hx]))]
theorem fit_i64 {n : Int} (h : fitB n = true) : i64ok n := by
 unfold fitB at h
 simp only [Bool.and_eq_true, decide_eq_true_eq] at h
 exact ⟨by omega, by omega⟩
theorem tot_2 (l : List Int) : (totF l).2 = fitB l.sum := by
 unfold totF
 by_cases h : i64ok l.sum
 ·rw [if_pos h]
 ·rw [if_neg h]
  cases hf : fitB l.sum with
  | false => rfl
  | true => exact absurd (fit_i64 hf) h
theorem tot_1 {l : List Int} (h : fitB l.sum = true) : (totF l).1 = l.sum := by
 unfold totF
 rw [if_pos (fit_i64 h)]
theorem one_fit (g out : List S112) : (oneOf g out).1 = (fitB (amts g).sum && fitB (bass g).sum) := by
 unfold oneOf
 rw [tot_2, tot_2]
theorem one_out {g out : List S112} (h : (fitB (amts g).sum && fitB (bass g).sum) = true) : (oneOf g out).2 = if (amts g).sum ≠ 0 ∨ (bass g).sum ≠ 0 then out ++ [⟨(rd_T112 g 0).f0, (amts g).sum, (bass g).sum⟩] else out := by
 rw [Bool.and_eq_true] at h
 unfold oneOf
 rw [tot_2, tot_2, tot_1 h.1, tot_1 h.2]
 by_cases h2 : (amts g).sum ≠ 0 ∨ (bass g).sum ≠ 0
 ·rw [if_pos ⟨h.1, h.2, h2⟩, if_pos h2]
 ·rw [if_neg (fun h => h2 h.2.2), if_neg h2]
def SL (s : List S112) : Prop := s.Pairwise (fun a b => cmpK a.f0 b.f0 ≤ 0)
theorem take_filter (k : S40) : ∀ (r : List S112), SL r → (∀ y ∈ r, cmpK k y.f0 ≤ 0) → r.takeWhile (eqK k) = r.filter (eqK k) ∧ r.dropWhile (eqK k) = r.filter (fun c => !eqK k c)
 | [], _, _ => by simp
 | y :: r, hs, hk => by
  have hs' := List.pairwise_cons.1 hs
  by_cases h : eqK k y = true
  ·have ih := take_filter k r hs'.2 (fun z hz => hk z (by simp [hz]))
   rw [List.takeWhile_cons, if_pos h, List.dropWhile_cons, if_pos h, List.filter_cons, if_pos h, List.filter_cons, if_neg (by simp [h]), ih.1, ih.2]
   exact ⟨rfl, rfl⟩
  ·have hlt : cmpK k y.f0 < 0 := by
    have h1 := hk y (by simp)
    unfold eqK at h
    have h2 : ¬ cmpK k y.f0 = 0 := fun e => h (decide_eq_true e)
    omega
   have hall : ∀ z ∈ r, eqK k z = false := fun z hz => decide_eq_false (by have := cmp3_K.lt_le hlt (hs'.1 z hz); omega)
   have hf : eqK k y = false := by simpa using h
   rw [List.takeWhile_cons, if_neg h, List.dropWhile_cons, if_neg h, List.filter_cons, if_neg h, List.filter_cons, if_pos (by simp [hf]), List.filter_eq_nil_iff.2 (fun z hz => by simp [hall z hz]), List.filter_eq_self.2 (fun z hz => by simp [hall z hz])]
   exact ⟨rfl, rfl⟩
theorem goOf_cells : ∀ (n : Nat) (s out : List S112), s.length ≤ n → SL s → goOf s out = cellsK s (keysK s) out
 | _, [], out, _, _ => by rw [goOf]; rfl
 | 0, x :: r, out, h, _ => by simp at h
 | n + 1, x :: r, out, h, hs => by
  have hs' := List.pairwise_cons.1 hs
  have hf := take_filter x.f0 r hs'.2 (fun y hy => hs'.1 y hy)
  have hg : x :: r.takeWhile (fun y => decide (cmpK x.f0 y.f0 = 0)) = (x :: r).filter (eqK x.f0) := by
   rw [List.filter_cons, if_pos (by unfold eqK; exact decide_eq_true (cmpK_self _)), ← hf.1]
   rfl
  have hd : r.dropWhile (fun y => decide (cmpK x.f0 y.f0 = 0)) = r.filter (fun c => !eqK x.f0 c) := hf.2
  have hlt : ∀ c ∈ r.filter (fun c => !eqK x.f0 c), cmpK x.f0 c.f0 < 0 := by
   intro c hc
   have h1 := List.mem_filter.1 hc
   have h2 := hs'.1 c h1.1
   have h3 : ¬ cmpK x.f0 c.f0 = 0 := by
    intro e
    have h4 := h1.2
    unfold eqK at h4
    rw [decide_eq_true e] at h4
    cases h4
   omega
  have hk : keysK (x :: r) = x.f0 :: keysK (r.filter (fun c => !eqK x.f0 c)) := by
   refine ss_unique (ss_keysK _) (List.pairwise_cons.2 ⟨fun k hk => ?_, ss_keysK _⟩) (fun k => ?_)
   ·obtain ⟨c, hc, rfl⟩ := (mem_keysK k _).1 hk
    exact hlt c hc
   ·rw [mem_keysK, List.mem_cons, mem_keysK]
    constructor
    ·rintro ⟨c, hc, rfl⟩
     rcases List.mem_cons.1 hc with rfl | hc
     ·exact .inl rfl
     ·by_cases e : cmpK x.f0 c.f0 = 0
      ·exact .inl (cmpK_zero e).symm
      ·exact .inr ⟨c, List.mem_filter.2 ⟨hc, by unfold eqK; rw [decide_eq_false e]; rfl⟩, rfl⟩
    ·rintro (rfl | ⟨c, hc, rfl⟩)
     ·exact ⟨x, by simp, rfl⟩
     ·exact ⟨c, by simp [(List.mem_filter.1 hc).1], rfl⟩
  rw [goOf, hg, hd, hk]
  unfold cellsK
  rw [one_fit]
  show (if (fitB (sumA (x :: r) x.f0) && fitB (sumB (x :: r) x.f0)) = true then _ else _) = _
  by_cases hfit : (fitB (sumA (x :: r) x.f0) && fitB (sumB (x :: r) x.f0)) = true
  ·rw [if_pos hfit, if_pos hfit, one_out hfit]
   have hrd : (rd_T112 ((x :: r).filter (eqK x.f0)) 0).f0 = x.f0 := by rw [← hg]; rfl
   rw [hrd]
   have ih := goOf_cells n (r.filter (fun c => !eqK x.f0 c)) (if sumA (x :: r) x.f0 ≠ 0 ∨ sumB (x :: r) x.f0 ≠ 0 then out ++ [⟨x.f0, sumA (x :: r) x.f0, sumB (x :: r) x.f0⟩] else out) (by
    have := List.length_filter_le (fun c => !eqK x.f0 c) r
    simp only [List.length_cons] at h
    omega) (hs'.2.filter _)
   refine Eq.trans ih (cellsK_congr _ _ (fun k hk => ?_))
   obtain ⟨c, hc, rfl⟩ := (mem_keysK k _).1 hk
   have e : (r.filter (fun c => !eqK x.f0 c)).filter (eqK c.f0) = (x :: r).filter (eqK c.f0) := by
    have hx : ¬ eqK c.f0 x = true := by
     unfold eqK
     intro e
     have h1 := of_decide_eq_true e
     have h2 := hlt c hc
     have := cmp3_K.sw x.f0 c.f0
     omega
    rw [List.filter_cons, if_neg hx, List.filter_filter]
    refine List.filter_congr (fun y hy => ?_)
    by_cases e : eqK c.f0 y = true
    ·rw [e]
     have e1 := cmpK_zero (of_decide_eq_true e)
     have h2 := hlt c hc
     have : eqK x.f0 y = false := decide_eq_false (by rw [← e1]; omega)
     rw [this]
     rfl
    ·rw [Bool.not_eq_true] at e
     rw [e]
     rfl
   unfold sumA sumB
   rw [e]
   exact ⟨rfl, rfl⟩
  ·rw [if_neg hfit, if_neg hfit]
theorem goOf_mrg {l : List S112} {s : Array S112} (h : Mrg ltC 0 l.toArray.size l.toArray s) : goOf s.toList [] = cellsK l (keysK l) [] := by
 have hp := mrg_perm h
 have hs : SL s.toList := by
  refine List.pairwise_iff_getElem.2 (fun i j hi hj hij => ?_)
  rw [Array.length_toList] at hi hj
  have h1 := h.sorted i j (Nat.zero_le _) hij (by have := h.perm.1; omega)
  rw [getElem!_pos s i hi, getElem!_pos s j hj] at h1
  have h2 : ¬ cmpC s[j] s[i] < 0 := of_decide_eq_false h1
  have h3 := cmp3_C.sw s[i] s[j]
  simp only [Array.getElem_toList]
  show cmpC s[i] s[j] ≤ 0
  omega
 rw [goOf_cells _ _ _ (Nat.le_refl _) hs, keysK_perm hp]
 exact cellsK_congr _ _ (fun k _ => ⟨sumA_perm hp k, sumB_perm hp k⟩)
def ofK (l : List S112) : List S112 × Int := if (cellsK l (keysK l) []).1 = true then ((cellsK l (keysK l) []).2, 0) else ([], 4)
theorem grouped_calls (A : Option Addr) (c : Nat) (l : List S112) (rs base : Nat) (w : World) (h : Kd.C k112 w A l.length l) (hc : l.length ≤ c) (hl : l.length ≤ 1000000) (hi : ∀ x ∈ l, i64ok x.f1 ∧ i64ok x.f2) (hbs : base ≤ w.heap.size) (hrs : w.heap[rs]? = some (.cells #[.slice none 0 0] 32 (0, 0))) :
  Calls Tryd.prog 60 #[.slice A l.length c, .func (.func 61) #[] #[], .func (.func 62) #[] #[], .func (.func 58) #[] #[.pointer (some ⟨rs, 0, none⟩)]] w fun e w' => GrpPost rs base l w e w' := by
 cases l with
 | nil => exact grouped_nil A c rs base w h hrs
 | cons x r => exact grouped_cons A c (x :: r) rs base w h hc (by simp) hl hi hbs hrs
set_option maxHeartbeats 2000000 in
set_option maxRecDepth 100000 in
theorem of_calls (A : Option Addr) (c : Nat) (l : List S112) (w : World) (h : Kd.C k112 w A l.length l) (hc : l.length ≤ c) (hl : l.length ≤ 1000000) (hi : ∀ x ∈ l, i64ok x.f1 ∧ i64ok x.f2) :
  Calls Tryd.prog 31 #[.slice A l.length c] w fun e w' => ∃ v, e = .returned (.tuple #[v, .int .i64 (ofK l).2]) ∧ Kd.R k112 112 w' w.heap.size (fun _ => True) v (ofK l).1 ∧ Below w.heap.size w w' := by
 obtain ⟨⟨r, o⟩, hr⟩ : ∃ q, cellsK l (keysK l) [] = q := ⟨_, rfl⟩
 have HR := Aside0.mk hr
 have HK := Aside0.mk (show ofK l = if r = true then (o, 0) else ([], 4) from by unfold ofK; rw [hr])
 have HC := Aside0.mk h
 clear h hr
 go_enter Tryd.func31, Tryd.ntmps31
 go_upto_region 1 with (fail)
 refine with_world (P := fun x => Code.wp _ _ _ _ x) _ ?_
 intro w1 hw1
 obtain ⟨rs, hg⟩ : ∃ g, w.heap.size = g := ⟨_, rfl⟩
 have HRS := Aside0.mk (show w1.heap[rs]? = some (.cells #[.slice none 0 0] 32 (0, 0)) from by rw [hw1, ← hg]; exact blk_new w _)
 have HB1 := Aside0.mk (show Below w.heap.size w w1 from by rw [hw1]; exact below_alloc (Below.refl _ _) _)
 have HG := Aside0.mk hg
 rw [hg]
 clear hw1 hg
 have HGR := Aside0.mk (grouped_calls A c l rs w.heap.size w1 (Kd.C_below HC.out HB1.out) hc hl hi HB1.out.size HRS.out)
 clear hc hl hi
 cases r with
 | true =>
  go_upto_region 2 with (fail)
  go_upto_region 4 with (first | (go_at_call 60; (refine HGR.out.mono ?_); rintro e_ w2 ⟨s, hm_, rfl, hb_, hp_⟩; rw [goOf_mrg hm_, HR.out] at hp_ ⊢; obtain ⟨v, hv_, hr_⟩ := hp_; have hr_ := hr_ rfl; obtain ⟨A1, c1, rfl⟩ := Kd.R_slice hr_; have HB2 := Aside0.mk hb_; have HV := Aside0.mk hv_; have HRR := Aside0.mk hr_; clear hm_ hb_ hv_ hr_))
  have c2 : w2.cell? ⟨rs, 0, none⟩ = some (.slice A1 o.length c1) := (blk_cell HV.out 0).trans rfl
  have f2 := blk_frozen HV.out 0
  have hl2 := blk_lt HV.out
  go_wp2
  have H3 := Aside0.mk (blk_put HV.out 0 (.slice A1 o.length c1) rfl)
  have c3 : (w2.setCell ⟨rs, 0, none⟩ (.slice A1 o.length c1)).cell? ⟨rs, 0, none⟩ = some (.slice A1 o.length c1) := (blk_cell H3.out 0).trans rfl
  refine bodyPost_ret (v := .tuple #[(.slice A1 o.length c1), .int .i64 0]) (by simp [results, Tryd.results31, go_sem, loadVar, c3, Tryd.underlying32]) rfl ?_
  refine ⟨_, by rw [HK.out]; rfl, ?_, ?_⟩
  ·rw [HK.out]
   show k112.R _ _ _ _ _ o
   exact Kd.R_mono (Kd.R_far (p := ⟨rs, 0, none⟩) (Kd.R_types (Kd.R_bound HRR.out) HV.out (by decide)) (fun k hk => hk.2) _) (fun _ _ => trivial)
  ·exact ((HB1.out.trans ⟨HB2.out.os, HB2.out.tape, HB2.out.output, HB2.out.size, fun k hk => HB2.out.block k (Nat.lt_of_lt_of_le hk HB1.out.size) (fun e => by have := HG.out; omega)⟩)).setCell (by have := HG.out; show w.heap.size ≤ rs; omega) _
 | false =>
  go_upto_region 2 with (fail)
  go_upto_region 3 with (first | (go_at_call 60; (refine HGR.out.mono ?_); rintro e_ w2 ⟨s, hm_, rfl, hb_, hp_⟩; rw [goOf_mrg hm_, HR.out] at hp_ ⊢; obtain ⟨v, hv_, hr_⟩ := hp_; have HB2 := Aside0.mk hb_; have HV := Aside0.mk hv_; clear hm_ hb_ hv_ hr_))
  have c2 : w2.cell? ⟨rs, 0, none⟩ = some v := (blk_cell HV.out 0).trans rfl
  have f2 := blk_frozen HV.out 0
  have hl2 := blk_lt HV.out
  go_wp2
  have H3 := Aside0.mk (blk_put HV.out 0 (.slice none 0 0) rfl)
  have c3 : (w2.setCell ⟨rs, 0, none⟩ (.slice none 0 0)).cell? ⟨rs, 0, none⟩ = some (.slice none 0 0) := (blk_cell H3.out 0).trans rfl
  refine bodyPost_ret (v := .tuple #[(.slice none 0 0), .int .i64 4]) (by simp [results, Tryd.results31, go_sem, loadVar, c3, Tryd.underlying32]) rfl ?_
  refine ⟨_, by rw [HK.out]; rfl, ?_, ?_⟩
  ·rw [HK.out]
   exact Kd.R_nil _ _ _ _ _
  ·exact ((HB1.out.trans ⟨HB2.out.os, HB2.out.tape, HB2.out.output, HB2.out.size, fun k hk => HB2.out.block k (Nat.lt_of_lt_of_le hk HB1.out.size) (fun e => by have := HG.out; omega)⟩)).setCell (by have := HG.out; show w.heap.size ≤ rs; omega) _
def rd_LC (xs : List (List S112)) (i : Int) : (List S112) := xs.getD i.toNat ([] : List S112)
theorem at_LC {w : World} {A : Option Addr} {n : Nat} {xs : List (List S112)} (h : Kd.C (Kd.slice 112 k112) w A n xs) (i : Int) (h0 : 0 ≤ i) (h1 : i < n) : ∃ ad A0 c0, A = some ad ∧ w.cell? (ad.add i.toNat) = some (.slice A0 (rd_LC xs i).length c0) ∧ (rd_LC xs i).length ≤ c0 ∧ k112.C w A0 (rd_LC xs i).length (rd_LC xs i) := by
 obtain ⟨ad, c, e, _, hK, hc0⟩ := Kd.C_get h ([] : List S112) i h0 h1
 have hc : ∀ j u, c[j]? = some u → w.cell? (ad.add (i.toNat * 1 + j)) = some u := hc0
 obtain ⟨A0, c0, rfl, l0, g0⟩ := hK
 exact ⟨ad, A0, c0, e, by have hq := hc 0 _ rfl; rwa [Nat.mul_one, Nat.add_zero] at hq, l0, g0⟩
theorem zeroCells_size (z : Array Value) (n : Nat) : (Builtin.zeroCells z n).size = n * z.size := by simp [Builtin.zeroCells]
set_option maxHeartbeats 4000000 in
set_option maxRecDepth 100000 in
theorem grow_calls (n : Nat) (hn : n ≤ 1000000) (w : World) :
  Calls Tryd.prog 111 #[.slice none 0 0, .int .i64 n] w fun e w' => ∃ v, e = .returned v ∧ k112.R 112 w' w.heap.size (fun k => w.heap.size ≤ k) v [] ∧ Below w.heap.size w w' := by
 by_cases h0 : n = 0
 ·subst h0
  go_enter Tryd.func111, Tryd.ntmps111
  go_wp2
  go_ret
  exact ⟨_, rfl, Kd.R_nil _ _ _ _ _, Below.refl _ _⟩
 ·have h1 : ¬ ((n : Int) < 0) := by omega
  have h4 : (n : Int) > 0 := by omega
  have h5 : 0 < n := by omega
  obtain ⟨i0, hi0, hz⟩ := Option.map_eq_some_iff.1 info112
  simp only [Prod.mk.injEq] at hz
  obtain ⟨hz0, hz1, hz2⟩ := hz
  have hold : (Builtin.firstCells i0.size 0 (.slice none 0 0)).run Tryd.prog w.drew = .ok #[] w.drew := run_firstCells_none w.drew i0.size 0 0 0
  have hrz : ∀ ty, (Builtin.append_ #[32, 3] ty #[.slice none 0 0, .int .i64 (n : Int)]).run Tryd.prog w =
    .ok (.slice (some ⟨w.heap.size, 0, none⟩) n (grownCap w n 0 112)) (w.drew.alloc (.cells (#[] ++ Builtin.zeroCells zc112.cells n ++ Builtin.zeroCells zc112.cells (grownCap w n 0 112 - n)) 112)) := fun ty => by
   have h := Lib.run_append_grow_zeros w 32 3 ty 112 i0 zc112 .i64 .i64 Tryd.underlying32 Tryd.underlying3 hi0 hz0 none 0 0 [] (by exact hold) n (by omega) (by rw [hz1]; decide) (by omega) (by omega)
    (by rw [hz2]; omega)
    (by rw [Nat.zero_add]; exact growslice_fits (by omega) (by rw [hz2]; omega))
   rw [Nat.zero_add] at h
   exact h
  have hGn : n ≤ grownCap w n 0 112 := grownCap_ge w _ _ _
  have hGm : grownCap w n 0 112 ≤ maxLen := grownCap_le_maxLen w n 0 112 (by unfold maxLen; omega)
  have HM := Aside0.mk (R_made w.drew w.heap.size (fun k => w.heap.size ≤ k) (#[] ++ Builtin.zeroCells zc112.cells n ++ Builtin.zeroCells zc112.cells (grownCap w n 0 112 - n)) (grownCap w n 0 112) (Nat.le_refl _) (Nat.le_refl _) hGm (by
   rw [Array.size_append, Array.size_append, zeroCells_size, zeroCells_size]
   show 0 + n * 7 + (grownCap w n 0 112 - n) * 7 = _
   omega))
  have HB := Aside0.mk (below_alloc (below_drew (Below.refl w.heap.size w)) (.cells (#[] ++ Builtin.zeroCells zc112.cells n ++ Builtin.zeroCells zc112.cells (grownCap w n 0 112 - n)) 112))
  obtain ⟨G, hG⟩ : ∃ G, G = grownCap w n 0 112 := ⟨_, rfl⟩
  rw [← hG] at hrz hGn hGm HM HB
  generalize (#[] ++ Builtin.zeroCells zc112.cells n ++ Builtin.zeroCells zc112.cells (G - n)) = cs at hrz HM HB
  unfold maxLen at hGm
  clear hold hG hi0 hz0 hz1 hz2
  go_enter Tryd.func111, Tryd.ntmps111
  go_wp2_with (at_builtin; refine Lib.wpList_append_run _ rfl _ _ _ _ rfl _ _ rfl rfl _ _ (hrz _) ?_)
  all_goals (go_ret; exact ⟨_, rfl, HM.out, HB.out⟩)
theorem flat_take {α : Type} (ls : List (List α)) (z : List α) {k : Nat} (hk : k < ls.length) : (ls.take (k + 1)).flatten = (ls.take k).flatten ++ ls.getD k z := by
 rw [List.take_add_one, List.getElem?_eq_getElem hk, List.flatten_append]
 simp [hk]
theorem flat_le {α : Type} (ls : List (List α)) (k : Nat) : (ls.take k).flatten.length ≤ ls.flatten.length := by
 conv => rhs; rw [← List.take_append_drop k ls, List.flatten_append, List.length_append]
 omega
set_option maxHeartbeats 4000000 in
set_option maxRecDepth 100000 in
theorem concat_calls (A : Option Addr) (c : Nat) (ls : List (List S112)) (w : World) (h : Kd.C (Kd.slice 112 k112) w A ls.length ls) (hc : ls.length ≤ c) (hl : ls.length ≤ 1000) (hf : ls.flatten.length ≤ 1000000) :
  Calls Tryd.prog 66 #[.slice A ls.length c] w fun e w' => ∃ v, e = .returned v ∧ k112.R 112 w' w.heap.size (fun k => w.heap.size ≤ k) v ls.flatten ∧ Below w.heap.size w w' := by
 have HC := Aside0.mk h
 clear h
 go_enter Tryd.func66, Tryd.ntmps66
 go_wp2
 go_loopw [3, 5, 11, 12, 13, 14, 15, 16, 17, 18, 19, 20, 21, 22] (fun v3 _ v11 _ _ _ _ _ _ _ _ _ _ _ wr => ∃ k : Nat, k ≤ ls.length ∧ v11 = .int .i64 k ∧ v3 = .int .i64 ((ls.take k).flatten.length : Nat) ∧ wr = w) (fun _ _ v11 _ _ _ _ _ _ _ _ _ _ _ _ => ls.length - (intOf v11).toNat)
 case atStart => exact ⟨0, Nat.zero_le _, rfl, rfl, rfl⟩
 case round =>
  obtain ⟨k, hk, rfl, rfl, hwr⟩ := hrel
  subst hwr
  have hfk := Nat.le_trans (flat_le ls k) hf
  by_cases hlt : k < ls.length
  ·have d1 : decide ((k : Int) < (ls.length : Int)) = true := decide_eq_true (by omega)
   have d2 : decide (k < ls.length) = true := decide_eq_true hlt
   have p0 : (0 : Int) ≤ (k : Int) := by omega
   have p1 : (k : Int) < (ls.length : Int) := by omega
   obtain ⟨ad, A0, c0, e, q0, l0, g0⟩ := at_LC HC.out (k : Int) (by omega) (by omega)
   rw [Int.toNat_natCast] at q0
   obtain ⟨l, hle⟩ : ∃ l, rd_LC ls (k : Int) = l := ⟨_, rfl⟩
   rw [hle] at q0
   have hft := flat_take ls ([] : List S112) hlt
   have hfk2 := Nat.le_trans (flat_le ls (k + 1)) hf
   have HFT := Aside0.mk (show (ls.take (k + 1)).flatten.length = (ls.take k).flatten.length + l.length from by
    rw [hft, List.length_append, ← hle]
    rfl)
   rw [HFT.out] at hfk2
   obtain ⟨z, hz⟩ : ∃ z, (ls.take k).flatten.length = z := ⟨_, rfl⟩
   rw [hz] at HFT hfk2 hfk ⊢
   subst e
   have d3 : decide ((z : Int) + (l.length : Int) < 0) = false := decide_eq_false (by omega)
   clear hft hle l0 g0 hz
   go_wp2
   go_roundw
   case rel => exact ⟨k + 1, by omega, by go_num, by rw [HFT.out]; go_num, by first | rfl | trivial⟩
   case measure => simp [intOf]; omega
  ·obtain rfl : k = ls.length := by omega
   have d1 : decide ((ls.length : Int) < (ls.length : Int)) = false := decide_eq_false (by omega)
   have d2 : decide (ls.length < ls.length) = false := decide_eq_false (by omega)
   rw [List.take_length]
   obtain ⟨z, hz⟩ : ∃ z, ls.flatten.length = z := ⟨_, rfl⟩
   rw [hz] at hf ⊢
   have HZ := Aside0.mk hz
   clear hz hfk
   go_upto_region 10 with (first | (go_at_call 111; refine (grow_calls z hf _).mono ?_; rintro e_ w2 ⟨v, rfl, hr_, hb_⟩; have HR := Aside0.mk hr_; have HB := Aside0.mk hb_; clear hr_ hb_))
   have HR0 := Aside0.mk (show k112.R 112 w2 wr.heap.size (fun k => wr.heap.size ≤ k) v ((ls.take 0).flatten) from HR.out)
   clear HR
   go_wp2
   go_loopw [6, 8, 27, 28, 29, 30, 31, 32, 33, 34] (fun v6 _ v27 _ _ _ _ _ _ _ w9 => ∃ k : Nat, k ≤ ls.length ∧ v27 = .int .i64 k ∧ Aside0 (k112.R 112 w9 wr.heap.size (fun k => wr.heap.size ≤ k) v6 ((ls.take k).flatten)) ∧ Aside0 (Below wr.heap.size wr w9)) (fun _ _ v27 _ _ _ _ _ _ _ _ => ls.length - (intOf v27).toNat)
   case atStart => exact ⟨0, Nat.zero_le _, rfl, HR0, HB⟩
   case round =>
    clear HR0 HB
    obtain ⟨k, hk, rfl, HR, HB⟩ := hrel
    rename World => w9
    obtain ⟨Av, cv, hv⟩ := Kd.R_slice HR.out
    subst hv
    by_cases hlt : k < ls.length
    ·have d3 : decide ((k : Int) < (ls.length : Int)) = true := decide_eq_true (by omega)
     have d4 : decide (k < ls.length) = true := decide_eq_true hlt
     have p0 : (0 : Int) ≤ (k : Int) := by omega
     have p1 : (k : Int) < (ls.length : Int) := by omega
     obtain ⟨ad, A0, c0, e, q0, l0, g0⟩ := at_LC (Kd.C_below HC.out HB.out) (k : Int) (by omega) (by omega)
     rw [Int.toNat_natCast] at q0
     obtain ⟨l, hle⟩ : ∃ l, rd_LC ls (k : Int) = l := ⟨_, rfl⟩
     rw [hle] at q0 l0 g0
     have HG := Aside0.mk g0
     have HFT := Aside0.mk (show (ls.take (k + 1)).flatten = (ls.take k).flatten ++ l from by
      rw [flat_take ls ([] : List S112) hlt, ← hle]
      rfl)
     have hfk2 := Nat.le_trans (flat_le ls (k + 1)) (show ls.flatten.length ≤ 1000000 from by rw [HZ.out]; exact hf)
     rw [HFT.out, List.length_append] at hfk2
     obtain ⟨xs, hxs⟩ : ∃ xs, (ls.take k).flatten = xs := ⟨_, rfl⟩
     rw [hxs] at HFT hfk2 HR ⊢
     subst e
     clear hle g0 hxs
     go_wp2_with (first | ((with_reducible refine gate_builtin (b := .append) (xs := #[.tmp 31, .tmp 32]) rfl ?_); at_builtin; refine Kd.R_append_rows k112 (w0 := wr) (Rr := k112.K w9) wr.heap.size rfl (.tmp 31) (.tmp 32) 32 112 zc112 96 rfl Tryd.underlying32 info112 rfl (by decide) (by omega) (.slice Av xs.length cv) xs l A0 l.length c0 (fun k => wr.heap.size ≤ k) (fun _ => False) rfl rfl ?aO ?aR ?aK (fun _ hk => hk.elim) ?aF ?aB ?aS ?aL ?_; (case aO => exact HR.out); (case aR => exact HG.out); (case aK => exact fun x cs hx => by obtain rfl := k112_open hx; exact k112_mkM _ _ _ _); (case aF => exact fun k hk => Nat.le_trans HB.out.size hk); (case aB => exact HB.out); (case aS => exact HB.out.size); (case aL => omega); intro v1 w1 ho hb hg hat; have HO := Aside0.mk ho; have HB1 := Aside0.mk hb; clear ho hb hg hat))
     go_roundw
     case rel => exact ⟨k + 1, by omega, by go_num, ⟨by rw [HFT.out]; exact HO.out⟩, HB1⟩
     case measure => simp [intOf]; omega
    ·obtain rfl : k = ls.length := by omega
     rw [List.take_length] at HR ⊢
     go_wp2
     go_ret
     exact ⟨_, rfl, HR.out, HB.out⟩
def bitF (mask : Int) : Nat → Int
 | 0 => mask % 2
 | 1 => mask / 2 % 2
 | 2 => mask / 4 % 2
 | 3 => mask / 8 % 2
 | _ => mask / 16 % 2
def fldF (x : S40) (mask : Int) (k j : Nat) : ByteArray := if j < k ∧ bitF mask j = 0 then ⟨#[]⟩ else kfld x j
def blkF (x : S40) (mask : Int) (k : Nat) : Array Value := #[.string (fldF x mask k 0), .string (fldF x mask k 1), .string (fldF x mask k 2), .string (fldF x mask k 3), .string (fldF x mask k 4)]
theorem and_one (v : Int) (h0 : 0 ≤ v) (h1 : v ≤ 31) : bits BinOp.and IntKind.i64 v 1 = v % 2 := by
 obtain ⟨n, rfl⟩ := Int.eq_ofNat_of_zero_le h0
 have key : ∀ n : Fin 32, bits BinOp.and IntKind.i64 ((n.val : Nat) : Int) 1 = ((n.val : Nat) : Int) % 2 := by decide
 exact key ⟨n, by omega⟩
theorem blkF_clear (x : S40) (mask : Int) {k : Nat} (hk : k < 5) (hb : bitF mask k = 0) : (blkF x mask k).setIfInBounds k (.string ⟨#[]⟩) = blkF x mask (k + 1) := by
 rcases (by omega : k = 0 ∨ k = 1 ∨ k = 2 ∨ k = 3 ∨ k = 4) with rfl | rfl | rfl | rfl | rfl <;> simp [blkF, fldF, hb]
theorem blkF_stay (x : S40) (mask : Int) {k : Nat} (hk : k < 5) (hb : bitF mask k ≠ 0) : blkF x mask k = blkF x mask (k + 1) := by
 have e : ∀ j, fldF x mask k j = fldF x mask (k + 1) j := fun j => by
  unfold fldF
  by_cases hj : j = k
  ·subst hj
   rw [if_neg (by omega), if_neg (fun h => hb h.2)]
  ·by_cases h1 : j < k ∧ bitF mask j = 0
   ·rw [if_pos h1, if_pos ⟨by omega, h1.2⟩]
   ·rw [if_neg h1, if_neg (fun h => h1 ⟨by omega, h.2⟩)]
 unfold blkF
 rw [e, e, e, e, e]
set_option maxHeartbeats 4000000 in
set_option maxRecDepth 100000 in
theorem kept_calls (x : S40) (mask : Int) (hm0 : 0 ≤ mask) (hm1 : mask ≤ 31) (w : World) : Calls Tryd.prog 64 #[.agg #[.string x.f0, .string x.f1, .string x.f2, .string x.f3, .string x.f4], .int .i64 mask] w fun e w' => e = .returned (.agg (blkF x mask 5)) ∧ Below w.heap.size w w' := by
 go_enter Tryd.func64, Tryd.ntmps64
 go_upto_region 1 with (fail)
 refine with_world (P := fun x => Code.wp _ _ _ _ x) _ ?_
 intro w1 hw1
 have HB1 := Aside0.mk (show Below w.heap.size w w1 from by rw [hw1]; exact below_alloc (below_alloc (Below.refl _ _) _) _)
 have BK := Aside0.mk (show w1.heap[w.heap.size]? = some (.cells (blkF x mask 0) 40 (0, 0)) from by rw [hw1]; exact blk_alloc (blk_new w _) _)
 have BR := Aside0.mk (show w1.heap[w.heap.size + 1]? = some (.cells #[.string ⟨#[]⟩, .string ⟨#[]⟩, .string ⟨#[]⟩, .string ⟨#[]⟩, .string ⟨#[]⟩] 40 (0, 0)) from by rw [hw1]; exact blk_newAt _ _ _ (by simp))
 obtain ⟨g, hg⟩ : ∃ g, w.heap.size = g := ⟨_, rfl⟩
 rw [hg] at BK BR ⊢
 have HG := Aside0.mk hg
 clear hw1 hg
 go_wp2
 go_loopw [5, 6, 13, 14, 15, 16, 17, 18, 19, 20, 21, 22, 23, 24] (fun _ _ v13 _ _ _ _ _ _ _ _ _ _ _ wr => ∃ k : Nat, k ≤ 5 ∧ v13 = .int .i64 k ∧ Aside0 (wr.heap[g]? = some (.cells (blkF x mask k) 40 (0, 0))) ∧ Aside0 (wr.heap[g + 1]? = some (.cells #[.string ⟨#[]⟩, .string ⟨#[]⟩, .string ⟨#[]⟩, .string ⟨#[]⟩, .string ⟨#[]⟩] 40 (0, 0))) ∧ Aside0 (Below w.heap.size w wr)) (fun _ _ v13 _ _ _ _ _ _ _ _ _ _ _ _ => 5 - (intOf v13).toNat)
 case atStart => exact ⟨0, by omega, rfl, BK, BR, HB1⟩
 case round =>
  clear BK BR HB1
  obtain ⟨k, hk, rfl, BK, BR, HB⟩ := hrel
  have i0 : ∀ w : World, (Instr.index 177 (.agg #[.pointer (some ⟨g, 0, none⟩), .pointer (some ⟨g, 1, none⟩), .pointer (some ⟨g, 2, none⟩), .pointer (some ⟨g, 3, none⟩), .pointer (some ⟨g, 4, none⟩)]) (.int .i64 0)).run Tryd.prog w = .ok (.pointer (some ⟨g, 0, none⟩)) w := fun _ => by kernel_rfl
  have i1 : ∀ w : World, (Instr.index 177 (.agg #[.pointer (some ⟨g, 0, none⟩), .pointer (some ⟨g, 1, none⟩), .pointer (some ⟨g, 2, none⟩), .pointer (some ⟨g, 3, none⟩), .pointer (some ⟨g, 4, none⟩)]) (.int .i64 1)).run Tryd.prog w = .ok (.pointer (some ⟨g, 1, none⟩)) w := fun _ => by kernel_rfl
  have i2 : ∀ w : World, (Instr.index 177 (.agg #[.pointer (some ⟨g, 0, none⟩), .pointer (some ⟨g, 1, none⟩), .pointer (some ⟨g, 2, none⟩), .pointer (some ⟨g, 3, none⟩), .pointer (some ⟨g, 4, none⟩)]) (.int .i64 2)).run Tryd.prog w = .ok (.pointer (some ⟨g, 2, none⟩)) w := fun _ => by kernel_rfl
  have i3 : ∀ w : World, (Instr.index 177 (.agg #[.pointer (some ⟨g, 0, none⟩), .pointer (some ⟨g, 1, none⟩), .pointer (some ⟨g, 2, none⟩), .pointer (some ⟨g, 3, none⟩), .pointer (some ⟨g, 4, none⟩)]) (.int .i64 3)).run Tryd.prog w = .ok (.pointer (some ⟨g, 3, none⟩)) w := fun _ => by kernel_rfl
  have i4 : ∀ w : World, (Instr.index 177 (.agg #[.pointer (some ⟨g, 0, none⟩), .pointer (some ⟨g, 1, none⟩), .pointer (some ⟨g, 2, none⟩), .pointer (some ⟨g, 3, none⟩), .pointer (some ⟨g, 4, none⟩)]) (.int .i64 4)).run Tryd.prog w = .ok (.pointer (some ⟨g, 4, none⟩)) w := fun _ => by kernel_rfl
  rcases (by omega : k = 0 ∨ k = 1 ∨ k = 2 ∨ k = 3 ∨ k = 4 ∨ k = 5) with rfl | rfl | rfl | rfl | rfl | rfl
  ·have eb : bits BinOp.and IntKind.i64 (mask) 1 = bitF mask 0 := and_one _ (by omega) (by omega)
   have c0 : wr.cell? ⟨g, 0, none⟩ = some (.string (fldF x mask 0 0)) := (blk_cell BK.out 0).trans rfl
   have f0 := blk_frozen BK.out 0
   by_cases hb : bitF mask 0 = 0
   ·have d1 : (bits BinOp.and IntKind.i64 (mask) 1 == 0) = true := by rw [eb, hb]; rfl
    have HN := Aside0.mk (blkF_clear x mask (show 0 < 5 by decide) hb)
    clear hb eb
    go_wp2
    go_roundw
    case rel => exact ⟨1, by decide, rfl, ⟨blk_put BK.out 0 _ HN.out⟩, ⟨blk_far BR.out (by show g + 1 ≠ g; omega) _⟩, ⟨below_set HB.out (by show w.heap.size ≤ g; have := HG.out; omega)⟩⟩
    case measure => simp [intOf]
   ·have d1 : (bits BinOp.and IntKind.i64 (mask) 1 == 0) = false := by rw [eb]; exact beq_eq_false_iff_ne.mpr hb
    have HN := Aside0.mk (blkF_stay x mask (show 0 < 5 by decide) hb)
    clear hb eb
    go_wp2
    go_roundw
    case rel => exact ⟨1, by decide, rfl, ⟨by rw [← HN.out]; exact BK.out⟩, BR, HB⟩
    case measure => simp [intOf]
  ·have eb : bits BinOp.and IntKind.i64 (mask / 2) 1 = bitF mask 1 := and_one _ (by omega) (by omega)
   have c1 : wr.cell? ⟨g, 1, none⟩ = some (.string (fldF x mask 1 1)) := (blk_cell BK.out 1).trans rfl
   have f1 := blk_frozen BK.out 1
   by_cases hb : bitF mask 1 = 0
   ·have d1 : (bits BinOp.and IntKind.i64 (mask / 2) 1 == 0) = true := by rw [eb, hb]; rfl
    have HN := Aside0.mk (blkF_clear x mask (show 1 < 5 by decide) hb)
    clear hb eb
    go_wp2
    go_roundw
    case rel => exact ⟨2, by decide, rfl, ⟨blk_put BK.out 1 _ HN.out⟩, ⟨blk_far BR.out (by show g + 1 ≠ g; omega) _⟩, ⟨below_set HB.out (by show w.heap.size ≤ g; have := HG.out; omega)⟩⟩
    case measure => simp [intOf]
   ·have d1 : (bits BinOp.and IntKind.i64 (mask / 2) 1 == 0) = false := by rw [eb]; exact beq_eq_false_iff_ne.mpr hb
    have HN := Aside0.mk (blkF_stay x mask (show 1 < 5 by decide) hb)
    clear hb eb
    go_wp2
    go_roundw
    case rel => exact ⟨2, by decide, rfl, ⟨by rw [← HN.out]; exact BK.out⟩, BR, HB⟩
    case measure => simp [intOf]
  ·have eb : bits BinOp.and IntKind.i64 (mask / 4) 1 = bitF mask 2 := and_one _ (by omega) (by omega)
   have c2 : wr.cell? ⟨g, 2, none⟩ = some (.string (fldF x mask 2 2)) := (blk_cell BK.out 2).trans rfl
   have f2 := blk_frozen BK.out 2
   by_cases hb : bitF mask 2 = 0
   ·have d1 : (bits BinOp.and IntKind.i64 (mask / 4) 1 == 0) = true := by rw [eb, hb]; rfl
    have HN := Aside0.mk (blkF_clear x mask (show 2 < 5 by decide) hb)
    clear hb eb
    go_wp2
    go_roundw
    case rel => exact ⟨3, by decide, rfl, ⟨blk_put BK.out 2 _ HN.out⟩, ⟨blk_far BR.out (by show g + 1 ≠ g; omega) _⟩, ⟨below_set HB.out (by show w.heap.size ≤ g; have := HG.out; omega)⟩⟩
    case measure => simp [intOf]
   ·have d1 : (bits BinOp.and IntKind.i64 (mask / 4) 1 == 0) = false := by rw [eb]; exact beq_eq_false_iff_ne.mpr hb
    have HN := Aside0.mk (blkF_stay x mask (show 2 < 5 by decide) hb)
    clear hb eb
    go_wp2
    go_roundw
    case rel => exact ⟨3, by decide, rfl, ⟨by rw [← HN.out]; exact BK.out⟩, BR, HB⟩
    case measure => simp [intOf]
  ·have eb : bits BinOp.and IntKind.i64 (mask / 8) 1 = bitF mask 3 := and_one _ (by omega) (by omega)
   have c3 : wr.cell? ⟨g, 3, none⟩ = some (.string (fldF x mask 3 3)) := (blk_cell BK.out 3).trans rfl
   have f3 := blk_frozen BK.out 3
   by_cases hb : bitF mask 3 = 0
   ·have d1 : (bits BinOp.and IntKind.i64 (mask / 8) 1 == 0) = true := by rw [eb, hb]; rfl
    have HN := Aside0.mk (blkF_clear x mask (show 3 < 5 by decide) hb)
    clear hb eb
    go_wp2
    go_roundw
    case rel => exact ⟨4, by decide, rfl, ⟨blk_put BK.out 3 _ HN.out⟩, ⟨blk_far BR.out (by show g + 1 ≠ g; omega) _⟩, ⟨below_set HB.out (by show w.heap.size ≤ g; have := HG.out; omega)⟩⟩
    case measure => simp [intOf]
   ·have d1 : (bits BinOp.and IntKind.i64 (mask / 8) 1 == 0) = false := by rw [eb]; exact beq_eq_false_iff_ne.mpr hb
    have HN := Aside0.mk (blkF_stay x mask (show 3 < 5 by decide) hb)
    clear hb eb
    go_wp2
    go_roundw
    case rel => exact ⟨4, by decide, rfl, ⟨by rw [← HN.out]; exact BK.out⟩, BR, HB⟩
    case measure => simp [intOf]
  ·have eb : bits BinOp.and IntKind.i64 (mask / 16) 1 = bitF mask 4 := and_one _ (by omega) (by omega)
   have c4 : wr.cell? ⟨g, 4, none⟩ = some (.string (fldF x mask 4 4)) := (blk_cell BK.out 4).trans rfl
   have f4 := blk_frozen BK.out 4
   by_cases hb : bitF mask 4 = 0
   ·have d1 : (bits BinOp.and IntKind.i64 (mask / 16) 1 == 0) = true := by rw [eb, hb]; rfl
    have HN := Aside0.mk (blkF_clear x mask (show 4 < 5 by decide) hb)
    clear hb eb
    go_wp2
    go_roundw
    case rel => exact ⟨5, by decide, rfl, ⟨blk_put BK.out 4 _ HN.out⟩, ⟨blk_far BR.out (by show g + 1 ≠ g; omega) _⟩, ⟨below_set HB.out (by show w.heap.size ≤ g; have := HG.out; omega)⟩⟩
    case measure => simp [intOf]
   ·have d1 : (bits BinOp.and IntKind.i64 (mask / 16) 1 == 0) = false := by rw [eb]; exact beq_eq_false_iff_ne.mpr hb
    have HN := Aside0.mk (blkF_stay x mask (show 4 < 5 by decide) hb)
    clear hb eb
    go_wp2
    go_roundw
    case rel => exact ⟨5, by decide, rfl, ⟨by rw [← HN.out]; exact BK.out⟩, BR, HB⟩
    case measure => simp [intOf]
  ·have c0 : wr.cell? ⟨g, 0, none⟩ = some (.string (fldF x mask 5 0)) := (blk_cell BK.out 0).trans rfl
   have c1 : wr.cell? ⟨g, 1, none⟩ = some (.string (fldF x mask 5 1)) := (blk_cell BK.out 1).trans rfl
   have c2 : wr.cell? ⟨g, 2, none⟩ = some (.string (fldF x mask 5 2)) := (blk_cell BK.out 2).trans rfl
   have c3 : wr.cell? ⟨g, 3, none⟩ = some (.string (fldF x mask 5 3)) := (blk_cell BK.out 3).trans rfl
   have c4 : wr.cell? ⟨g, 4, none⟩ = some (.string (fldF x mask 5 4)) := (blk_cell BK.out 4).trans rfl
   have r0 : wr.cell? ⟨g + 1, 0, none⟩ = some (.string ⟨#[]⟩) := (blk_cell BR.out 0).trans rfl
   have f0 := blk_frozen BR.out 0
   have r1 : wr.cell? ⟨g + 1, 1, none⟩ = some (.string ⟨#[]⟩) := (blk_cell BR.out 1).trans rfl
   have f1 := blk_frozen BR.out 1
   have r2 : wr.cell? ⟨g + 1, 2, none⟩ = some (.string ⟨#[]⟩) := (blk_cell BR.out 2).trans rfl
   have f2 := blk_frozen BR.out 2
   have r3 : wr.cell? ⟨g + 1, 3, none⟩ = some (.string ⟨#[]⟩) := (blk_cell BR.out 3).trans rfl
   have f3 := blk_frozen BR.out 3
   have r4 : wr.cell? ⟨g + 1, 4, none⟩ = some (.string ⟨#[]⟩) := (blk_cell BR.out 4).trans rfl
   have f4 := blk_frozen BR.out 4
   go_wp2
   refine with_world (P := fun x => bodyPost _ _ _ _ _ x) _ ?_
   intro w9 hw9
   have B9 : w9.heap[g + 1]? = some (.cells (blkF x mask 5) 40 (0, 0)) := by
    rw [hw9]
    exact blk_put (blk_put (blk_put (blk_put (blk_put BR.out 0 _ rfl) 1 _ rfl) 2 _ rfl) 3 _ rfl) 4 _ rfl
   have L9 : Below w.heap.size w w9 := by
    rw [hw9]
    have hg : w.heap.size ≤ g + 1 := by have := HG.out; omega
    exact below_set (below_set (below_set (below_set (below_set HB.out hg) hg) hg) hg) hg
   refine bodyPost_ret (results_cell_row rfl _ _ (g + 1) 40 (blkF x mask 5) (0, 0) _ rfl B9 Tryd.underlying40 rfl (by kernel_rfl)) rfl ⟨rfl, L9⟩
def matchL : List (ByteArray × ByteArray) → Bool
 | [] => true
 | p :: r => if p.1.toList = [] ∨ p.1.toList = p.2.toList then matchL r else false
def matchK (x y : S40) : Bool := matchL (flds x y)
set_option maxHeartbeats 8000000 in
set_option maxRecDepth 100000 in
theorem match_calls (x y : S40) (w : World) : Calls Tryd.prog 52 #[.agg #[.string x.f0, .string x.f1, .string x.f2, .string x.f3, .string x.f4], .agg #[.string y.f0, .string y.f1, .string y.f2, .string y.f3, .string y.f4]] w fun e w' => e = .returned (.bool (matchK x y)) ∧ Grw w w' := by
 go_enter Tryd.func52, Tryd.ntmps52
 go_upto_region 1 with (fail)
 refine with_world (P := fun x => Code.wp _ _ _ _ x) _ ?_
 intro w1 hw1
 obtain ⟨g, hg⟩ : ∃ g, w.heap.size = g := ⟨_, rfl⟩
 have BX := Aside0.mk (show w1.heap[g]? = some (.cells #[.string x.f0, .string x.f1, .string x.f2, .string x.f3, .string x.f4] 40 (0, 0)) from by rw [hw1, ← hg]; exact blk_alloc (blk_new w _) _)
 have BY := Aside0.mk (show w1.heap[g + 1]? = some (.cells #[.string y.f0, .string y.f1, .string y.f2, .string y.f3, .string y.f4] 40 (0, 0)) from by
  rw [hw1, ← hg]
  have := blk_new (w.alloc (.cells #[.string x.f0, .string x.f1, .string x.f2, .string x.f3, .string x.f4] 40)) (.cells #[.string y.f0, .string y.f1, .string y.f2, .string y.f3, .string y.f4] 40)
  rwa [show (w.alloc (.cells #[.string x.f0, .string x.f1, .string x.f2, .string x.f3, .string x.f4] 40)).heap.size = w.heap.size + 1 by simp] at this)
 have HG := Aside0.mk (show Grw w w1 from by rw [hw1]; exact ((Grw.refl w).alloc _).alloc _)
 rw [hg]
 clear hw1 hg
 have x0 : w1.cell? ⟨g, 0, none⟩ = some (.string x.f0) := (blk_cell BX.out 0).trans rfl
 have x1 : w1.cell? ⟨g, 1, none⟩ = some (.string x.f1) := (blk_cell BX.out 1).trans rfl
 have x2 : w1.cell? ⟨g, 2, none⟩ = some (.string x.f2) := (blk_cell BX.out 2).trans rfl
 have x3 : w1.cell? ⟨g, 3, none⟩ = some (.string x.f3) := (blk_cell BX.out 3).trans rfl
 have x4 : w1.cell? ⟨g, 4, none⟩ = some (.string x.f4) := (blk_cell BX.out 4).trans rfl
 have y0 : w1.cell? ⟨g + 1, 0, none⟩ = some (.string y.f0) := (blk_cell BY.out 0).trans rfl
 have y1 : w1.cell? ⟨g + 1, 1, none⟩ = some (.string y.f1) := (blk_cell BY.out 1).trans rfl
 have y2 : w1.cell? ⟨g + 1, 2, none⟩ = some (.string y.f2) := (blk_cell BY.out 2).trans rfl
 have y3 : w1.cell? ⟨g + 1, 3, none⟩ = some (.string y.f3) := (blk_cell BY.out 3).trans rfl
 have y4 : w1.cell? ⟨g + 1, 4, none⟩ = some (.string y.f4) := (blk_cell BY.out 4).trans rfl
 go_cut [5, 6, 8, 9, 10, 11] (fun v5 v6 _ _ _ _ wc => ∃ b c, v5 = .pointer (some ⟨b, 0, none⟩) ∧ v6 = .pointer (some ⟨c, 0, none⟩) ∧ Aside0 (wc.heap[b]? = some (.cells #[.string x.f0, .string x.f1, .string x.f2, .string x.f3, .string x.f4] 166 (0, 0))) ∧ Aside0 (wc.heap[c]? = some (.cells #[.string y.f0, .string y.f1, .string y.f2, .string y.f3, .string y.f4] 166 (0, 0))) ∧ Aside0 (Grw w wc))
 case first =>
  go_region_held3 (fun w' => w'.cell? ⟨g, 0, none⟩ = some (.string x.f0) ∧ w'.cell? ⟨g, 1, none⟩ = some (.string x.f1) ∧ w'.cell? ⟨g, 2, none⟩ = some (.string x.f2) ∧ w'.cell? ⟨g, 3, none⟩ = some (.string x.f3) ∧ w'.cell? ⟨g, 4, none⟩ = some (.string x.f4) ∧ w'.cell? ⟨g + 1, 0, none⟩ = some (.string y.f0) ∧ w'.cell? ⟨g + 1, 1, none⟩ = some (.string y.f1) ∧ w'.cell? ⟨g + 1, 2, none⟩ = some (.string y.f2) ∧ w'.cell? ⟨g + 1, 3, none⟩ = some (.string y.f3) ∧ w'.cell? ⟨g + 1, 4, none⟩ = some (.string y.f4)) (exact ⟨by (repeat (with_reducible first | apply keep_drew | apply keep_alloc)); with_reducible exact x0, by (repeat (with_reducible first | apply keep_drew | apply keep_alloc)); with_reducible exact x1, by (repeat (with_reducible first | apply keep_drew | apply keep_alloc)); with_reducible exact x2, by (repeat (with_reducible first | apply keep_drew | apply keep_alloc)); with_reducible exact x3, by (repeat (with_reducible first | apply keep_drew | apply keep_alloc)); with_reducible exact x4, by (repeat (with_reducible first | apply keep_drew | apply keep_alloc)); with_reducible exact y0, by (repeat (with_reducible first | apply keep_drew | apply keep_alloc)); with_reducible exact y1, by (repeat (with_reducible first | apply keep_drew | apply keep_alloc)); with_reducible exact y2, by (repeat (with_reducible first | apply keep_drew | apply keep_alloc)); with_reducible exact y3, by (repeat (with_reducible first | apply keep_drew | apply keep_alloc)); with_reducible exact y4⟩) (first | (go_at_call 99; (with_reducible refine (parts_calls x _).mono ?_); rintro e w' ⟨rfl, rfl⟩) | (go_at_call 99; (with_reducible refine (parts_calls y _).mono ?_); rintro e w' ⟨rfl, rfl⟩))
  all_goals
   go_wp2
   go_meet
   case rel =>
    refine ⟨_, _, rfl, rfl, ⟨?_⟩, ⟨?_⟩, ⟨?_⟩⟩
    ·(repeat (first | with_reducible refine blk_drew ?_ | (refine blk_newAt _ _ _ ?_; simp; done) | with_reducible refine blk_alloc ?_ _))
    ·(repeat (first | with_reducible refine blk_drew ?_ | (refine blk_newAt _ _ _ ?_; simp; done) | with_reducible refine blk_alloc ?_ _))
    ·(repeat (first | exact HG.out | with_reducible apply Grw.drew | with_reducible apply Grw.alloc))
 case rest =>
  obtain ⟨b, c, rfl, rfl, HB, HC, HGW⟩ := hcut
  clear x0 x1 x2 x3 x4 y0 y1 y2 y3 y4 BX BY
  have HG2 := HGW
  clear HG HGW
  have HE0 := Aside0.mk (show matchL ((flds x y).drop 0) = matchK x y from rfl)
  go_wp2
  go_loopw [4, 7, 12, 13, 14, 15, 16, 17, 18, 19, 20, 21, 22, 23, 24, 25, 26, 27, 28] (fun _ _ v12 _ _ _ _ _ _ _ _ _ _ _ _ _ _ _ _ wr => ∃ k : Nat, k ≤ 5 ∧ v12 = .int .i64 k ∧ Aside0 (matchL ((flds x y).drop k) = matchK x y) ∧ Aside0 (wr.heap[b]? = some (.cells #[.string x.f0, .string x.f1, .string x.f2, .string x.f3, .string x.f4] 166 (0, 0))) ∧ Aside0 (wr.heap[c]? = some (.cells #[.string y.f0, .string y.f1, .string y.f2, .string y.f3, .string y.f4] 166 (0, 0))) ∧ Aside0 (Grw w wr)) (fun _ _ v12 _ _ _ _ _ _ _ _ _ _ _ _ _ _ _ _ _ => 5 - (intOf v12).toNat)
  case atStart => exact ⟨0, by omega, rfl, HE0, HB, HC, HG2⟩
  case round =>
   clear HE0 HB HC HG2
   obtain ⟨k, hk, rfl, HE, HB, HC, HG⟩ := hrel
   by_cases hlt : k < 5
   ·have d1 : decide ((k : Int) < 5) = true := decide_eq_true (by omega)
    have d2 : decide (k < 5) = true := decide_eq_true hlt
    have p0 : (0 : Int) ≤ (k : Int) := by omega
    have p1 : (k : Int) < 5 := by omega
    have hd := HE.out
    rw [flds_drop x y hlt] at hd
    have hd : (if (kfld x k).toList = [] ∨ (kfld x k).toList = (kfld y k).toList then matchL ((flds x y).drop (k + 1)) else false) = matchK x y := hd
    have qb : wr.cell? ⟨b, k, none⟩ = some (.string (kfld x k)) := arr_cell HB.out hlt
    have qc : wr.cell? ⟨c, k, none⟩ = some (.string (kfld y k)) := arr_cell HC.out hlt
    obtain ⟨u, hu⟩ : ∃ u, kfld x k = u := ⟨_, rfl⟩
    obtain ⟨v, hv⟩ : ∃ v, kfld y k = v := ⟨_, rfl⟩
    rw [hu, hv] at hd
    rw [hu] at qb
    rw [hv] at qc
    clear hu hv
    by_cases he : u.toList = []
    ·rw [if_pos (.inl he)] at hd
     have HD := Aside0.mk hd
     have e1 : u.toList.isEmpty = true := by rw [he]; rfl
     have e2 : (!u.toList.isEmpty) = false := by rw [e1]; rfl
     have e3 : (u.toList != []) = false := by rw [he]; rfl
     have e4 : (u.toList == []) = true := by rw [he]; rfl
     have e5 : (!(u.toList == [])) = false := by rw [e4]; rfl
     clear hd
     go_upto_region 5 with (fail)
     go_quiet (fail)
     go_wp2
     go_roundw
     case rel => exact ⟨k + 1, by omega, by go_num, HD, HB, HC, ⟨HG.out.drewN _⟩⟩
     case measure => simp [intOf]; omega
    ·have e1 : u.toList.isEmpty = false := by cases h : u.toList with | nil => exact absurd h he | cons _ _ => rfl
     have e2 : (!u.toList.isEmpty) = true := by rw [e1]; rfl
     have e3 : (u.toList != []) = true := bne_iff_ne.mpr he
     have e4 : (u.toList == []) = false := beq_eq_false_iff_ne.mpr he
     have e5 : (!(u.toList == [])) = true := by rw [e4]; rfl
     by_cases hq : u.toList = v.toList
     ·rw [if_pos (.inr hq)] at hd
      have HD := Aside0.mk hd
      have g1 : (u.toList != v.toList) = false := bne_eq_false_iff_eq.mpr hq
      have g2 : (u.toList == v.toList) = true := beq_iff_eq.mpr hq
      have g3 : (!(u.toList == v.toList)) = false := by rw [g2]; rfl
      clear hd hq
      go_upto_region 5 with (fail)
      go_quiet (fail)
      go_wp2
      go_roundw
      case rel => exact ⟨k + 1, by omega, by go_num, HD, HB, HC, ⟨HG.out.drewN _⟩⟩
      case measure => simp [intOf]; omega
     ·rw [if_neg (fun h => h.elim he hq)] at hd
      have HD := Aside0.mk hd
      have g1 : (u.toList != v.toList) = true := bne_iff_ne.mpr hq
      have g2 : (u.toList == v.toList) = false := beq_eq_false_iff_ne.mpr hq
      have g3 : (!(u.toList == v.toList)) = true := by rw [g2]; rfl
      clear hd hq
      go_upto_region 5 with (fail)
      go_quiet (fail)
      go_wp2
      go_ret
      exact ⟨congrArg (fun z => Ending.returned (Value.bool z)) HD.out, HG.out.drewN _⟩
   ·obtain rfl : k = 5 := by omega
    have hd : true = matchK x y := HE.out
    have HD := Aside0.mk hd
    clear hd
    go_wp2
    go_ret
    exact ⟨congrArg (fun z => Ending.returned (Value.bool z)) HD.out, HG.out⟩
end Go.Proofs.YtppcjoaghlecmaaDoor.P
