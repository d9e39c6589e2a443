/- Texts of mine and of the print, joined. -/
import Derived.Test.YtppcjoaghlecmaaDoorRa
import Derived.Laws.Strings
import Derived.Sort.LotA
import Derived.Shelf.SlSortCmp.KitK
import Derived.Sort.WalkB2
import Derived.Sort.WalkB12
import Derived.Deep.LoopGhost
import Derived.Lib.Bytealg
import Derived.Lib.Strings
import Derived.Laws.Externs
import Derived.BigQuiet
import Derived.Lib.OthersKept
import Derived.Laws.RangeAny
import Derived.Laws.RangeString
import Derived.Sort.WalkA
import Derived.Deep.RegionLaw
import Derived.Lib.SliceRun
import Derived.Deep.AppendLies
set_option linter.unusedVariables false
set_option linter.unusedSimpArgs false
set_option maxHeartbeats 16000000
open Go.RowKit Go.Proofs.YtppcjoaghlecmaaDoorW.PrintWords Go.Proofs.YtppcjoaghlecmaaDoorW.PrintLast Go.Proofs.YtppcjoaghlecmaaDoorW.PrintMore
namespace Go.Proofs.YtppcjoaghlecmaaDoor.P
section
attribute [local go_sem] qfp qfn qgk qgj qex qew qfo qfm
mutual
def qbs.j0 : Nat → Bool → Int → ByteArray → Int → Int → Int → ByteArray → ByteArray → Int → List (S109) → Option (Int)
 | 0, _, _, _, _, _, _, _, _, _, _ => none
 | k + 1, x3, x121000, x121001, x121002, x121003, x121004, x121005, x121006, x121007, x121008 => if x3 = true then (some 3) else ((qdd.f x121001).bind fun t121 => (if t121 = true then ((qdd.f x121006).bind fun t122 => (qbs.j1 k (!t122) x121000 x121001 x121002 x121003 x121004 x121005 x121006 x121007 x121008)) else (qbs.j1 k true x121000 x121001 x121002 x121003 x121004 x121005 x121006 x121007 x121008)))
def qbs.j1 : Nat → Bool → Int → ByteArray → Int → Int → Int → ByteArray → ByteArray → Int → List (S109) → Option (Int)
 | 0, _, _, _, _, _, _, _, _, _, _ => none
 | k + 1, x22, x121000, x121001, x121002, x121003, x121004, x121005, x121006, x121007, x121008 => if x22 = true then (some 7) else ((qef.f k x121002).bind fun t123 => (if t123 = true then ((qef.f k x121003).bind fun t124 => (qbs.j2 k (!t124) x121000 x121001 x121002 x121003 x121004 x121005 x121006 x121007 x121008)) else (qbs.j2 k true x121000 x121001 x121002 x121003 x121004 x121005 x121006 x121007 x121008)))
def qbs.j2 : Nat → Bool → Int → ByteArray → Int → Int → Int → ByteArray → ByteArray → Int → List (S109) → Option (Int)
 | 0, _, _, _, _, _, _, _, _, _, _ => none
 | k + 1, x33, x121000, x121001, x121002, x121003, x121004, x121005, x121006, x121007, x121008 => if x33 = true then (some 11) else (if x121004 < 1 then (qbs.j3 k true x121000 x121001 x121002 x121003 x121004 x121005 x121006 x121007 x121008) else (qbs.j3 k (decide (x121004 > 7)) x121000 x121001 x121002 x121003 x121004 x121005 x121006 x121007 x121008))
def qbs.j3 : Nat → Bool → Int → ByteArray → Int → Int → Int → ByteArray → ByteArray → Int → List (S109) → Option (Int)
 | 0, _, _, _, _, _, _, _, _, _, _ => none
 | k + 1, x44, x121000, x121001, x121002, x121003, x121004, x121005, x121006, x121007, x121008 => if x44 = true then (some 10) else ((qfa.f x121005).bind fun t125 => (if t125 = true then (if (x121008.length : Int) < 2 then (some 2) else (if (x121008.length : Int) > 100 then (some 9) else (some 0))) else (some 5)))
end
def qbs.f (k : Nat) (a0_0 : Int) (a0_1 : ByteArray) (a0_2 : Int) (a0_3 : Int) (a0_4 : Int) (a0_5 : ByteArray) (a0_6 : ByteArray) (a0_7 : Int) (l0_8 : List (S109)) : Option (Int) := if a0_0 < 0 then (qbs.j0 k true a0_0 a0_1 a0_2 a0_3 a0_4 a0_5 a0_6 a0_7 l0_8) else (if a0_0 > 4000 then (qbs.j0 k true a0_0 a0_1 a0_2 a0_3 a0_4 a0_5 a0_6 a0_7 l0_8) else (if a0_7 < 0 then (qbs.j0 k true a0_0 a0_1 a0_2 a0_3 a0_4 a0_5 a0_6 a0_7 l0_8) else (qbs.j0 k (decide (a0_7 > 4000)) a0_0 a0_1 a0_2 a0_3 a0_4 a0_5 a0_6 a0_7 l0_8)))
set_option maxRecDepth 100000 in
theorem qbs.calls (k : Nat) (a0_0 : Int) (a0_1 : ByteArray) (a0_2 : Int) (a0_3 : Int) (a0_4 : Int) (a0_5 : ByteArray) (a0_6 : ByteArray) (a0_7 : Int) (A0_8 : Option Addr) (c0_8 : Nat) (l0_8 : List (S109)) (r : Int) (w : World) (hr0_8 : Kd.C k109 w A0_8 l0_8.length l0_8) (hc0_8 : l0_8.length ≤ c0_8) (h : qbs.f k a0_0 a0_1 a0_2 a0_3 a0_4 a0_5 a0_6 a0_7 l0_8 = some r) (hT : Tab w) :
  Calls Tryd.prog 94 #[.agg #[.int .i64 a0_0, .string a0_1, .int .i64 a0_2, .int .i64 a0_3, .int .i64 a0_4, .string a0_5, .string a0_6, .int .i64 a0_7, .slice A0_8 l0_8.length c0_8]] w fun e w' => e = .returned (.int .i64 r) ∧ Below w.heap.size w w' := by
 have HTB := qd.mk hT
 clear hT
 have hu29 := Tryd.underlying29
 have HR0_8 := qd.mk hr0_8
 have HC0_8 := qd.mk hc0_8
 clear hr0_8 hc0_8
 have HB := qd.mk (Below.refl w.heap.size w)
 have H : (if a0_0 < 0 then (qbs.j0 k true a0_0 a0_1 a0_2 a0_3 a0_4 a0_5 a0_6 a0_7 l0_8) else (if a0_0 > 4000 then (qbs.j0 k true a0_0 a0_1 a0_2 a0_3 a0_4 a0_5 a0_6 a0_7 l0_8) else (if a0_7 < 0 then (qbs.j0 k true a0_0 a0_1 a0_2 a0_3 a0_4 a0_5 a0_6 a0_7 l0_8) else (qbs.j0 k (decide (a0_7 > 4000)) a0_0 a0_1 a0_2 a0_3 a0_4 a0_5 a0_6 a0_7 l0_8)))) = some r := h
 clear h
 have HC2 := qd.mk H
 clear H
 go_enter Tryd.func94, Tryd.ntmps94
 go_upto_region 1 with (first | ((with_reducible refine qbx (N := 1) rfl ?_); refine qbu ?hg (N := 1) ?hd (cs := #[.int .i64 a0_0, .string a0_1, .int .i64 a0_2, .int .i64 a0_3, .int .i64 a0_4, .string a0_5, .string a0_6, .int .i64 a0_7, .slice A0_8 l0_8.length c0_8]) (t := 29) ?hr ?_; (case hd => rfl); (case hg => rfl); (case hr => first | (go_simp; done) | (go_simp; rfl)); intro gb120 hg w3 hbox hb; have n0_ := qd.mk (qw (bw_) hb); have n1_ := qd.mk (hbox); have n2_ := qd.mk (gw_ (w := w) hg); have n3_ := qd.mk (gw_ (w := w) hg); clear HB; have HB := n0_; have BK120 := n1_; have GW120 := n2_; have GE120 := n3_; clear n0_ n1_ n2_ n3_; clear hb hbox hg))
 (try simp only [Act.put, List.setIfInBounds_toArray, List.set_cons_zero, List.set_cons_succ])
 go_cut [3] (fun v3 wc => ∃ (kq : Nat) (x3_1 : Bool), v3 = .bool x3_1 ∧ qd (qbs.j0 kq x3_1 a0_0 a0_1 a0_2 a0_3 a0_4 a0_5 a0_6 a0_7 l0_8 = some r) ∧ qd (kq ≤ k) ∧ qd (wc.heap[gb120]? = some (.cells #[.int .i64 a0_0, .string a0_1, .int .i64 a0_2, .int .i64 a0_3, .int .i64 a0_4, .string a0_5, .string a0_6, .int .i64 a0_7, (.slice A0_8 l0_8.length c0_8)] 29 (0, 0))) ∧ qd (Below w.heap.size w wc))
 case first =>
  have H := HC2.out
  clear HC2
  by_cases c4 : a0_0 < 0
  ·rw [if_pos c4] at H
   have c4b0 : decide (a0_0 < 0) = true := decide_eq_true c4
   clear c4
   (first | rw [c4b0] | (simp only [qeh, qen]; rw [c4b0]) | skip)
   have H' := qd.mk H
   clear H
   obtain ⟨cz5_0, cz5_1, cz5_2, cz5_3, cz5_4, cz5_5, cz5_6, cz5_7, cz5_8⟩ := bc9_ (w := w3) BK120.out
   obtain ⟨fz5_0, fz5_1, fz5_2, fz5_3, fz5_4, fz5_5, fz5_6, fz5_7, fz5_8⟩ := bf9_ BK120.out
   go_wp2
   go_meet
   case rel => exact ⟨_, (true), sm_, H', ⟨by first | omega | exact Nat.le_refl _⟩, ⟨by (with_reducible repeat (first | refine qp ?_ _ | refine qz ?_ | refine qm ?_ _)); exact BK120.out⟩, ⟨bwx_⟩⟩
  rw [if_neg c4] at H
  have c4b0 : decide (a0_0 < 0) = false := decide_eq_false c4
  clear c4
  (first | rw [c4b0] | (simp only [qeh, qen]; rw [c4b0]) | skip)
  by_cases c6 : a0_0 > 4000
  ·rw [if_pos c6] at H
   have c6b0 : decide (4000 < a0_0) = true := decide_eq_true c6
   clear c6
   have H' := qd.mk H
   clear H
   obtain ⟨cz7_0, cz7_1, cz7_2, cz7_3, cz7_4, cz7_5, cz7_6, cz7_7, cz7_8⟩ := bc9_ (w := w3) BK120.out
   obtain ⟨fz7_0, fz7_1, fz7_2, fz7_3, fz7_4, fz7_5, fz7_6, fz7_7, fz7_8⟩ := bf9_ BK120.out
   go_wp2
   go_meet
   case rel => exact ⟨_, (true), sm_, H', ⟨by first | omega | exact Nat.le_refl _⟩, ⟨by (with_reducible repeat (first | refine qp ?_ _ | refine qz ?_ | refine qm ?_ _)); exact BK120.out⟩, ⟨bwx_⟩⟩
  rw [if_neg c6] at H
  have c6b0 : decide (4000 < a0_0) = false := decide_eq_false c6
  clear c6
  by_cases c8 : a0_7 < 0
  ·rw [if_pos c8] at H
   have c8b0 : decide (a0_7 < 0) = true := decide_eq_true c8
   clear c8
   have H' := qd.mk H
   clear H
   obtain ⟨cz9_0, cz9_1, cz9_2, cz9_3, cz9_4, cz9_5, cz9_6, cz9_7, cz9_8⟩ := bc9_ (w := w3) BK120.out
   obtain ⟨fz9_0, fz9_1, fz9_2, fz9_3, fz9_4, fz9_5, fz9_6, fz9_7, fz9_8⟩ := bf9_ BK120.out
   go_wp2
   go_meet
   case rel => exact ⟨_, (true), sm_, H', ⟨by first | omega | exact Nat.le_refl _⟩, ⟨by (with_reducible repeat (first | refine qp ?_ _ | refine qz ?_ | refine qm ?_ _)); exact BK120.out⟩, ⟨bwx_⟩⟩
  rw [if_neg c8] at H
  have c8b0 : decide (a0_7 < 0) = false := decide_eq_false c8
  clear c8
  have H' := qd.mk H
  clear H
  obtain ⟨cz10_0, cz10_1, cz10_2, cz10_3, cz10_4, cz10_5, cz10_6, cz10_7, cz10_8⟩ := bc9_ (w := w3) BK120.out
  obtain ⟨fz10_0, fz10_1, fz10_2, fz10_3, fz10_4, fz10_5, fz10_6, fz10_7, fz10_8⟩ := bf9_ BK120.out
  go_wp2
  go_meet
  case rel => exact ⟨_, (decide (a0_7 > 4000)), sm_, H', ⟨by first | omega | exact Nat.le_refl _⟩, ⟨by (with_reducible repeat (first | refine qp ?_ _ | refine qz ?_ | refine qm ?_ _)); exact BK120.out⟩, ⟨bwx_⟩⟩
 case rest =>
  clear HC2
  try clear p2
  try clear c4
  try clear c4b0
  try clear c6
  try clear c6b0
  try clear c8
  try clear c8b0
  try clear c9
  try clear cz10_0 cz10_1 cz10_2 cz10_3 cz10_4 cz10_5 cz10_6 cz10_7 cz10_8
  try clear cz5_0 cz5_1 cz5_2 cz5_3 cz5_4 cz5_5 cz5_6 cz5_7 cz5_8
  try clear cz7_0 cz7_1 cz7_2 cz7_3 cz7_4 cz7_5 cz7_6 cz7_7 cz7_8
  try clear cz9_0 cz9_1 cz9_2 cz9_3 cz9_4 cz9_5 cz9_6 cz9_7 cz9_8
  try clear fz10_0 fz10_1 fz10_2 fz10_3 fz10_4 fz10_5 fz10_6 fz10_7 fz10_8
  try clear fz5_0 fz5_1 fz5_2 fz5_3 fz5_4 fz5_5 fz5_6 fz5_7 fz5_8
  try clear fz7_0 fz7_1 fz7_2 fz7_3 fz7_4 fz7_5 fz7_6 fz7_7 fz7_8
  try clear fz9_0 fz9_1 fz9_2 fz9_3 fz9_4 fz9_5 fz9_6 fz9_7 fz9_8
  obtain ⟨kq, x3_1, rfl, HA, HJ1, BK120, HB⟩ := hcut
  cases kq with
  | zero => exact absurd HA.out (by simp [qbs.j0])
  | succ kj1 =>
   have H := HA.out
   clear HA
   simp only [qbs.j0] at H
   by_cases c11 : x3_1 = true
   ·subst c11
    have H1 : (some 3) = some r := by rw [if_pos rfl] at H; exact H
    clear H
    have H := H1
    clear H1
    obtain rfl := Option.some.inj H
    go_wp2
    go_ret
    exact ⟨ew_, bwx_⟩
   ·replace c11 := Bool.eq_false_iff.mpr c11
    subst c11
    have H1 : ((qdd.f a0_1).bind fun t121 => (if t121 = true then ((qdd.f a0_6).bind fun t122 => (qbs.j1 kj1 (!t122) a0_0 a0_1 a0_2 a0_3 a0_4 a0_5 a0_6 a0_7 l0_8)) else (qbs.j1 kj1 true a0_0 a0_1 a0_2 a0_3 a0_4 a0_5 a0_6 a0_7 l0_8))) = some r := by rw [if_neg (show ¬ (false = true) by decide)] at H; exact H
    clear H
    have H := H1
    clear H1
    have HC12 := qd.mk H
    clear H
    go_upto_region 3 with (fail)
    go_cut [22] (fun v22 wc => ∃ (kq : Nat) (x22_11 : Bool), v22 = .bool x22_11 ∧ qd (qbs.j1 kq x22_11 a0_0 a0_1 a0_2 a0_3 a0_4 a0_5 a0_6 a0_7 l0_8 = some r) ∧ qd (kq ≤ kj1) ∧ qd (wc.heap[gb120]? = some (.cells #[.int .i64 a0_0, .string a0_1, .int .i64 a0_2, .int .i64 a0_3, .int .i64 a0_4, .string a0_5, .string a0_6, .int .i64 a0_7, (.slice A0_8 l0_8.length c0_8)] 29 (0, 0))) ∧ qd (Below w.heap.size w wc))
    case first =>
     have H := HC12.out
     clear HC12
     replace H := Option.bind_eq_some_iff.mp H
     obtain ⟨t121, A130, H⟩ := H
     try dsimp only at H
     have A13 := qd.mk A130
     clear A130
     by_cases c14 : t121 = true
     rotate_left
     ·replace c14 := Bool.eq_false_iff.mpr c14
      subst c14
      have H1 : (qbs.j1 kj1 true a0_0 a0_1 a0_2 a0_3 a0_4 a0_5 a0_6 a0_7 l0_8) = some r := by rw [if_neg (show ¬ (false = true) by decide)] at H; exact H
      clear H
      have H := H1
      clear H1
      have H' := qd.mk H
      clear H
      obtain ⟨cz17_0, cz17_1, cz17_2, cz17_3, cz17_4, cz17_5, cz17_6, cz17_7, cz17_8⟩ := bc9_ (w := wc) BK120.out
      obtain ⟨fz17_0, fz17_1, fz17_2, fz17_3, fz17_4, fz17_5, fz17_6, fz17_7, fz17_8⟩ := bf9_ BK120.out
      go_wp2_with (first | ((with_reducible refine qbf (f := 80) rfl ?_); refine qcp (some 25) rfl rfl Tryd.func80 (by kernel_rfl) rfl #[.string a0_1] rfl ml_ ?_; (with_reducible refine (qdd.calls a0_1 false _ A13.out).mono ?_); rintro e w' ⟨rfl, ⟨nd, rfl⟩⟩; refine ⟨_, rfl, ?_⟩))
      go_meet
      case rel => exact ⟨_, (true), sm_, H', ⟨by have := HJ1.out; first | omega | exact Nat.le_refl _⟩, ⟨by (with_reducible repeat (first | refine qp ?_ _ | refine qz ?_ | refine qm ?_ _)); exact BK120.out⟩, ⟨bwx_⟩⟩
     subst c14
     have H1 : ((qdd.f a0_6).bind fun t122 => (qbs.j1 kj1 (!t122) a0_0 a0_1 a0_2 a0_3 a0_4 a0_5 a0_6 a0_7 l0_8)) = some r := by rw [if_pos rfl] at H; exact H
     clear H
     have H := H1
     clear H1
     replace H := Option.bind_eq_some_iff.mp H
     obtain ⟨t122, A150, H⟩ := H
     replace H : (qbs.j1 kj1 (!t122) a0_0 a0_1 a0_2 a0_3 a0_4 a0_5 a0_6 a0_7 l0_8) = some r := H
     have A15 := qd.mk A150
     clear A150
     have H' := qd.mk H
     clear H
     obtain ⟨cz16_0, cz16_1, cz16_2, cz16_3, cz16_4, cz16_5, cz16_6, cz16_7, cz16_8⟩ := bc9_ (w := wc) BK120.out
     obtain ⟨fz16_0, fz16_1, fz16_2, fz16_3, fz16_4, fz16_5, fz16_6, fz16_7, fz16_8⟩ := bf9_ BK120.out
     go_wp2_with (first | ((with_reducible refine qbf (f := 80) rfl ?_); refine qcp (some 25) rfl rfl Tryd.func80 (by kernel_rfl) rfl #[.string a0_1] rfl ml_ ?_; (with_reducible refine (qdd.calls a0_1 true _ A13.out).mono ?_); rintro e w' ⟨rfl, ⟨nd, rfl⟩⟩; refine ⟨_, rfl, ?_⟩) | (go_at_call 80; (with_reducible refine (qdd.calls a0_6 t122 _ A15.out).mono ?_); rintro e w' ⟨rfl, ⟨nd, rfl⟩⟩))
     go_meet
     case rel => exact ⟨_, (!t122), sm_, H', ⟨by have := HJ1.out; first | omega | exact Nat.le_refl _⟩, ⟨by (with_reducible repeat (first | refine qp ?_ _ | refine qz ?_ | refine qm ?_ _)); exact BK120.out⟩, ⟨bwx_⟩⟩
    case rest =>
     clear HC12
     try clear c1
     try clear p2
     try clear c4
     try clear c4b0
     try clear c6
     try clear c6b0
     try clear c8
     try clear c8b0
     try clear c9
     try clear c11
     try clear c14
     try clear cz10_0 cz10_1 cz10_2 cz10_3 cz10_4 cz10_5 cz10_6 cz10_7 cz10_8
     try clear cz16_0 cz16_1 cz16_2 cz16_3 cz16_4 cz16_5 cz16_6 cz16_7 cz16_8
     try clear cz17_0 cz17_1 cz17_2 cz17_3 cz17_4 cz17_5 cz17_6 cz17_7 cz17_8
     try clear cz5_0 cz5_1 cz5_2 cz5_3 cz5_4 cz5_5 cz5_6 cz5_7 cz5_8
     try clear cz7_0 cz7_1 cz7_2 cz7_3 cz7_4 cz7_5 cz7_6 cz7_7 cz7_8
     try clear cz9_0 cz9_1 cz9_2 cz9_3 cz9_4 cz9_5 cz9_6 cz9_7 cz9_8
     try clear fz10_0 fz10_1 fz10_2 fz10_3 fz10_4 fz10_5 fz10_6 fz10_7 fz10_8
     try clear fz16_0 fz16_1 fz16_2 fz16_3 fz16_4 fz16_5 fz16_6 fz16_7 fz16_8
     try clear fz17_0 fz17_1 fz17_2 fz17_3 fz17_4 fz17_5 fz17_6 fz17_7 fz17_8
     try clear fz5_0 fz5_1 fz5_2 fz5_3 fz5_4 fz5_5 fz5_6 fz5_7 fz5_8
     try clear fz7_0 fz7_1 fz7_2 fz7_3 fz7_4 fz7_5 fz7_6 fz7_7 fz7_8
     try clear fz9_0 fz9_1 fz9_2 fz9_3 fz9_4 fz9_5 fz9_6 fz9_7 fz9_8
     try clear p2
     obtain ⟨kq, x22_11, rfl, HA, HJ11, BK120, HB⟩ := hcut
     cases kq with
     | zero => exact absurd HA.out (by simp [qbs.j1])
     | succ kj11 =>
      have H := HA.out
      clear HA
      simp only [qbs.j1] at H
      by_cases c18 : x22_11 = true
      ·subst c18
       have H1 : (some 7) = some r := by rw [if_pos rfl] at H; exact H
       clear H
       have H := H1
       clear H1
       obtain rfl := Option.some.inj H
       go_wp2
       go_ret
       exact ⟨ew_, bwx_⟩
      ·replace c18 := Bool.eq_false_iff.mpr c18
       subst c18
       have H1 : ((qef.f kj11 a0_2).bind fun t123 => (if t123 = true then ((qef.f kj11 a0_3).bind fun t124 => (qbs.j2 kj11 (!t124) a0_0 a0_1 a0_2 a0_3 a0_4 a0_5 a0_6 a0_7 l0_8)) else (qbs.j2 kj11 true a0_0 a0_1 a0_2 a0_3 a0_4 a0_5 a0_6 a0_7 l0_8))) = some r := by rw [if_neg (show ¬ (false = true) by decide)] at H; exact H
       clear H
       have H := H1
       clear H1
       have HC19 := qd.mk H
       clear H
       go_upto_region 5 with (fail)
       go_cut [33] (fun v33 wc => ∃ (kq : Nat) (x33_18 : Bool), v33 = .bool x33_18 ∧ qd (qbs.j2 kq x33_18 a0_0 a0_1 a0_2 a0_3 a0_4 a0_5 a0_6 a0_7 l0_8 = some r) ∧ qd (kq ≤ kj11) ∧ qd (wc.heap[gb120]? = some (.cells #[.int .i64 a0_0, .string a0_1, .int .i64 a0_2, .int .i64 a0_3, .int .i64 a0_4, .string a0_5, .string a0_6, .int .i64 a0_7, (.slice A0_8 l0_8.length c0_8)] 29 (0, 0))) ∧ qd (Below w.heap.size w wc))
       case first =>
        have H := HC19.out
        clear HC19
        replace H := Option.bind_eq_some_iff.mp H
        obtain ⟨t123, A200, H⟩ := H
        try dsimp only at H
        have A20 := qd.mk A200
        clear A200
        by_cases c21 : t123 = true
        rotate_left
        ·replace c21 := Bool.eq_false_iff.mpr c21
         subst c21
         have H1 : (qbs.j2 kj11 true a0_0 a0_1 a0_2 a0_3 a0_4 a0_5 a0_6 a0_7 l0_8) = some r := by rw [if_neg (show ¬ (false = true) by decide)] at H; exact H
         clear H
         have H := H1
         clear H1
         have H' := qd.mk H
         clear H
         obtain ⟨cz27_0, cz27_1, cz27_2, cz27_3, cz27_4, cz27_5, cz27_6, cz27_7, cz27_8⟩ := bc9_ (w := wc) BK120.out
         obtain ⟨fz27_0, fz27_1, fz27_2, fz27_3, fz27_4, fz27_5, fz27_6, fz27_7, fz27_8⟩ := bf9_ BK120.out
         go_wp2_with (first | ((with_reducible refine qbf (f := 132) rfl ?_); refine qcp (some 36) rfl rfl Tryd.func132 (by kernel_rfl) rfl #[.int .i64 a0_2] rfl ml_ ?_; (with_reducible refine (qef.calls kj11 a0_2 false _ A20.out (by first | exact HTB.out | (exact Tab.below HTB.out (by repeat (first | (with_reducible first | exact HB.out | apply qbk | apply qbn | apply qcq | apply pw_below_drew) | exact HB.out | refine qdm ?_ (qd.out (by assumption))))) | (repeat (first | exact HTB.out | apply Tab.alloc | apply Tab.drewN | apply Tab.drew)))).mono ?_); rintro e w28 ⟨rfl, hb⟩; refine ⟨_, rfl, ?_⟩; have n0_ := qd.mk (bb_ BK120 hb); have n1_ := qd.mk (qw (bwx_) hb); clear BK120; clear HB; have BK120 := n0_; have HB := n1_; clear n0_ n1_; (try clear hb); (try clear hb2); (try clear hk); (try clear hi)))
         go_meet
         case rel => exact ⟨_, (true), sm_, H', ⟨by have := HJ1.out; have := HJ11.out; first | omega | exact Nat.le_refl _⟩, ⟨by (with_reducible repeat (first | refine qp ?_ _ | refine qz ?_ | refine qm ?_ _)); exact BK120.out⟩, ⟨bwx_⟩⟩
        subst c21
        have H1 : ((qef.f kj11 a0_3).bind fun t124 => (qbs.j2 kj11 (!t124) a0_0 a0_1 a0_2 a0_3 a0_4 a0_5 a0_6 a0_7 l0_8)) = some r := by rw [if_pos rfl] at H; exact H
        clear H
        have H := H1
        clear H1
        replace H := Option.bind_eq_some_iff.mp H
        obtain ⟨t124, A220, H⟩ := H
        replace H : (qbs.j2 kj11 (!t124) a0_0 a0_1 a0_2 a0_3 a0_4 a0_5 a0_6 a0_7 l0_8) = some r := H
        have A22 := qd.mk A220
        clear A220
        have H' := qd.mk H
        clear H
        obtain ⟨cz23_0, cz23_1, cz23_2, cz23_3, cz23_4, cz23_5, cz23_6, cz23_7, cz23_8⟩ := bc9_ (w := wc) BK120.out
        obtain ⟨fz23_0, fz23_1, fz23_2, fz23_3, fz23_4, fz23_5, fz23_6, fz23_7, fz23_8⟩ := bf9_ BK120.out
        go_wp2_with (first | ((with_reducible refine qbf (f := 132) rfl ?_); refine qcp (some 36) rfl rfl Tryd.func132 (by kernel_rfl) rfl #[.int .i64 a0_2] rfl ml_ ?_; (with_reducible refine (qef.calls kj11 a0_2 true _ A20.out (by first | exact HTB.out | (exact Tab.below HTB.out (by repeat (first | (with_reducible first | exact HB.out | apply qbk | apply qbn | apply qcq | apply pw_below_drew) | exact HB.out | refine qdm ?_ (qd.out (by assumption))))) | (repeat (first | exact HTB.out | apply Tab.alloc | apply Tab.drewN | apply Tab.drew)))).mono ?_); rintro e w24 ⟨rfl, hb⟩; refine ⟨_, rfl, ?_⟩; have n0_ := qd.mk (bb_ BK120 hb); have n1_ := qd.mk (qw (bwx_) hb); clear BK120; clear HB; have BK120 := n0_; have HB := n1_; clear n0_ n1_; (try clear hb); (try clear hb2); (try clear hk); (try clear hi); obtain ⟨cz25_0, cz25_1, cz25_2, cz25_3, cz25_4, cz25_5, cz25_6, cz25_7, cz25_8⟩ := bc9_ (w := w24) BK120.out; obtain ⟨fz25_0, fz25_1, fz25_2, fz25_3, fz25_4, fz25_5, fz25_6, fz25_7, fz25_8⟩ := bf9_ BK120.out) | (go_at_call 132; (with_reducible refine (qef.calls kj11 a0_3 t124 _ A22.out (by first | exact HTB.out | (exact Tab.below HTB.out (by repeat (first | (with_reducible first | exact HB.out | apply qbk | apply qbn | apply qcq | apply pw_below_drew) | exact HB.out | refine qdm ?_ (qd.out (by assumption))))) | (repeat (first | exact HTB.out | apply Tab.alloc | apply Tab.drewN | apply Tab.drew)))).mono ?_); rintro e w26 ⟨rfl, hb⟩; have n0_ := qd.mk (bb_ BK120 hb); have n1_ := qd.mk (qw (bwx_) hb); clear BK120; clear HB; have BK120 := n0_; have HB := n1_; clear n0_ n1_; (try clear hb); (try clear hb2); (try clear hk); (try clear hi)))
        go_meet
        case rel => exact ⟨_, (!t124), sm_, H', ⟨by have := HJ1.out; have := HJ11.out; first | omega | exact Nat.le_refl _⟩, ⟨by (with_reducible repeat (first | refine qp ?_ _ | refine qz ?_ | refine qm ?_ _)); exact BK120.out⟩, ⟨bwx_⟩⟩
       case rest =>
        clear HC19
        try clear c1
        try clear c2
        try clear p2
        try clear c4
        try clear c4b0
        try clear c6
        try clear c6b0
        try clear c8
        try clear c8b0
        try clear c9
        try clear c11
        try clear c13
        try clear c14
        try clear c18
        try clear c21
        try clear cz10_0 cz10_1 cz10_2 cz10_3 cz10_4 cz10_5 cz10_6 cz10_7 cz10_8
        try clear cz16_0 cz16_1 cz16_2 cz16_3 cz16_4 cz16_5 cz16_6 cz16_7 cz16_8
        try clear cz17_0 cz17_1 cz17_2 cz17_3 cz17_4 cz17_5 cz17_6 cz17_7 cz17_8
        try clear cz23_0 cz23_1 cz23_2 cz23_3 cz23_4 cz23_5 cz23_6 cz23_7 cz23_8
        try clear cz25_0 cz25_1 cz25_2 cz25_3 cz25_4 cz25_5 cz25_6 cz25_7 cz25_8
        try clear cz27_0 cz27_1 cz27_2 cz27_3 cz27_4 cz27_5 cz27_6 cz27_7 cz27_8
        try clear cz5_0 cz5_1 cz5_2 cz5_3 cz5_4 cz5_5 cz5_6 cz5_7 cz5_8
        try clear cz7_0 cz7_1 cz7_2 cz7_3 cz7_4 cz7_5 cz7_6 cz7_7 cz7_8
        try clear cz9_0 cz9_1 cz9_2 cz9_3 cz9_4 cz9_5 cz9_6 cz9_7 cz9_8
        try clear fz10_0 fz10_1 fz10_2 fz10_3 fz10_4 fz10_5 fz10_6 fz10_7 fz10_8
        try clear fz16_0 fz16_1 fz16_2 fz16_3 fz16_4 fz16_5 fz16_6 fz16_7 fz16_8
        try clear fz17_0 fz17_1 fz17_2 fz17_3 fz17_4 fz17_5 fz17_6 fz17_7 fz17_8
        try clear fz23_0 fz23_1 fz23_2 fz23_3 fz23_4 fz23_5 fz23_6 fz23_7 fz23_8
        try clear fz25_0 fz25_1 fz25_2 fz25_3 fz25_4 fz25_5 fz25_6 fz25_7 fz25_8
        try clear fz27_0 fz27_1 fz27_2 fz27_3 fz27_4 fz27_5 fz27_6 fz27_7 fz27_8
        try clear fz5_0 fz5_1 fz5_2 fz5_3 fz5_4 fz5_5 fz5_6 fz5_7 fz5_8
        try clear fz7_0 fz7_1 fz7_2 fz7_3 fz7_4 fz7_5 fz7_6 fz7_7 fz7_8
        try clear fz9_0 fz9_1 fz9_2 fz9_3 fz9_4 fz9_5 fz9_6 fz9_7 fz9_8
        try clear p2
        obtain ⟨kq, x33_18, rfl, HA, HJ18, BK120, HB⟩ := hcut
        cases kq with
        | zero => exact absurd HA.out (by simp [qbs.j2])
        | succ kj18 =>
         have H := HA.out
         clear HA
         simp only [qbs.j2] at H
         by_cases c29 : x33_18 = true
         ·subst c29
          have H1 : (some 11) = some r := by rw [if_pos rfl] at H; exact H
          clear H
          have H := H1
          clear H1
          obtain rfl := Option.some.inj H
          go_wp2
          go_ret
          exact ⟨ew_, bwx_⟩
         ·replace c29 := Bool.eq_false_iff.mpr c29
          subst c29
          have H1 : (if a0_4 < 1 then (qbs.j3 kj18 true a0_0 a0_1 a0_2 a0_3 a0_4 a0_5 a0_6 a0_7 l0_8) else (qbs.j3 kj18 (decide (a0_4 > 7)) a0_0 a0_1 a0_2 a0_3 a0_4 a0_5 a0_6 a0_7 l0_8)) = some r := by rw [if_neg (show ¬ (false = true) by decide)] at H; exact H
          clear H
          have H := H1
          clear H1
          have HC30 := qd.mk H
          clear H
          go_upto_region 7 with (fail)
          go_cut [44] (fun v44 wc => ∃ (kq : Nat) (x44_29 : Bool), v44 = .bool x44_29 ∧ qd (qbs.j3 kq x44_29 a0_0 a0_1 a0_2 a0_3 a0_4 a0_5 a0_6 a0_7 l0_8 = some r) ∧ qd (kq ≤ kj18) ∧ qd (wc.heap[gb120]? = some (.cells #[.int .i64 a0_0, .string a0_1, .int .i64 a0_2, .int .i64 a0_3, .int .i64 a0_4, .string a0_5, .string a0_6, .int .i64 a0_7, (.slice A0_8 l0_8.length c0_8)] 29 (0, 0))) ∧ qd (Below w.heap.size w wc))
          case first =>
           have H := HC30.out
           clear HC30
           by_cases c31 : a0_4 < 1
           ·rw [if_pos c31] at H
            have c31b0 : decide (a0_4 < 1) = true := decide_eq_true c31
            clear c31
            (first | rw [c31b0] | (simp only [qeh, qen]; rw [c31b0]) | skip)
            have H' := qd.mk H
            clear H
            obtain ⟨cz32_0, cz32_1, cz32_2, cz32_3, cz32_4, cz32_5, cz32_6, cz32_7, cz32_8⟩ := bc9_ (w := wc) BK120.out
            obtain ⟨fz32_0, fz32_1, fz32_2, fz32_3, fz32_4, fz32_5, fz32_6, fz32_7, fz32_8⟩ := bf9_ BK120.out
            go_wp2
            go_meet
            case rel => exact ⟨_, (true), sm_, H', ⟨by have := HJ1.out; have := HJ11.out; have := HJ18.out; first | omega | exact Nat.le_refl _⟩, ⟨by (with_reducible repeat (first | refine qp ?_ _ | refine qz ?_ | refine qm ?_ _)); exact BK120.out⟩, ⟨bwx_⟩⟩
           rw [if_neg c31] at H
           have c31b0 : decide (a0_4 < 1) = false := decide_eq_false c31
           clear c31
           (first | rw [c31b0] | (simp only [qeh, qen]; rw [c31b0]) | skip)
           have H' := qd.mk H
           clear H
           obtain ⟨cz33_0, cz33_1, cz33_2, cz33_3, cz33_4, cz33_5, cz33_6, cz33_7, cz33_8⟩ := bc9_ (w := wc) BK120.out
           obtain ⟨fz33_0, fz33_1, fz33_2, fz33_3, fz33_4, fz33_5, fz33_6, fz33_7, fz33_8⟩ := bf9_ BK120.out
           go_wp2
           go_meet
           case rel => exact ⟨_, (decide (a0_4 > 7)), sm_, H', ⟨by have := HJ1.out; have := HJ11.out; have := HJ18.out; first | omega | exact Nat.le_refl _⟩, ⟨by (with_reducible repeat (first | refine qp ?_ _ | refine qz ?_ | refine qm ?_ _)); exact BK120.out⟩, ⟨bwx_⟩⟩
          case rest =>
           clear HC30
           try clear c1
           try clear c2
           try clear p2
           try clear c3
           try clear c4
           try clear c4b0
           try clear c6
           try clear c6b0
           try clear c8
           try clear c8b0
           try clear c9
           try clear c11
           try clear c13
           try clear c14
           try clear c18
           try clear c21
           try clear c29
           try clear c31
           try clear c31b0
           try clear cz10_0 cz10_1 cz10_2 cz10_3 cz10_4 cz10_5 cz10_6 cz10_7 cz10_8
           try clear cz16_0 cz16_1 cz16_2 cz16_3 cz16_4 cz16_5 cz16_6 cz16_7 cz16_8
           try clear cz17_0 cz17_1 cz17_2 cz17_3 cz17_4 cz17_5 cz17_6 cz17_7 cz17_8
           try clear cz23_0 cz23_1 cz23_2 cz23_3 cz23_4 cz23_5 cz23_6 cz23_7 cz23_8
           try clear cz25_0 cz25_1 cz25_2 cz25_3 cz25_4 cz25_5 cz25_6 cz25_7 cz25_8
           try clear cz27_0 cz27_1 cz27_2 cz27_3 cz27_4 cz27_5 cz27_6 cz27_7 cz27_8
           try clear cz32_0 cz32_1 cz32_2 cz32_3 cz32_4 cz32_5 cz32_6 cz32_7 cz32_8
           try clear cz33_0 cz33_1 cz33_2 cz33_3 cz33_4 cz33_5 cz33_6 cz33_7 cz33_8
           try clear cz5_0 cz5_1 cz5_2 cz5_3 cz5_4 cz5_5 cz5_6 cz5_7 cz5_8
           try clear cz7_0 cz7_1 cz7_2 cz7_3 cz7_4 cz7_5 cz7_6 cz7_7 cz7_8
           try clear cz9_0 cz9_1 cz9_2 cz9_3 cz9_4 cz9_5 cz9_6 cz9_7 cz9_8
           try clear fz10_0 fz10_1 fz10_2 fz10_3 fz10_4 fz10_5 fz10_6 fz10_7 fz10_8
           try clear fz16_0 fz16_1 fz16_2 fz16_3 fz16_4 fz16_5 fz16_6 fz16_7 fz16_8
           try clear fz17_0 fz17_1 fz17_2 fz17_3 fz17_4 fz17_5 fz17_6 fz17_7 fz17_8
           try clear fz23_0 fz23_1 fz23_2 fz23_3 fz23_4 fz23_5 fz23_6 fz23_7 fz23_8
           try clear fz25_0 fz25_1 fz25_2 fz25_3 fz25_4 fz25_5 fz25_6 fz25_7 fz25_8
           try clear fz27_0 fz27_1 fz27_2 fz27_3 fz27_4 fz27_5 fz27_6 fz27_7 fz27_8
           try clear fz32_0 fz32_1 fz32_2 fz32_3 fz32_4 fz32_5 fz32_6 fz32_7 fz32_8
           try clear fz33_0 fz33_1 fz33_2 fz33_3 fz33_4 fz33_5 fz33_6 fz33_7 fz33_8
           try clear fz5_0 fz5_1 fz5_2 fz5_3 fz5_4 fz5_5 fz5_6 fz5_7 fz5_8
           try clear fz7_0 fz7_1 fz7_2 fz7_3 fz7_4 fz7_5 fz7_6 fz7_7 fz7_8
           try clear fz9_0 fz9_1 fz9_2 fz9_3 fz9_4 fz9_5 fz9_6 fz9_7 fz9_8
           try clear p2
           obtain ⟨kq, x44_29, rfl, HA, HJ29, BK120, HB⟩ := hcut
           cases kq with
           | zero => exact absurd HA.out (by simp [qbs.j3])
           | succ kj29 =>
            have H := HA.out
            clear HA
            simp only [qbs.j3] at H
            by_cases c34 : x44_29 = true
            ·subst c34
             have H1 : (some 10) = some r := by rw [if_pos rfl] at H; exact H
             clear H
             have H := H1
             clear H1
             obtain rfl := Option.some.inj H
             go_wp2
             go_ret
             exact ⟨ew_, bwx_⟩
            ·replace c34 := Bool.eq_false_iff.mpr c34
             subst c34
             have H1 : ((qfa.f a0_5).bind fun t125 => (if t125 = true then (if (l0_8.length : Int) < 2 then (some 2) else (if (l0_8.length : Int) > 100 then (some 9) else (some 0))) else (some 5))) = some r := by rw [if_neg (show ¬ (false = true) by decide)] at H; exact H
             clear H
             have H := H1
             clear H1
             replace H := Option.bind_eq_some_iff.mp H
             obtain ⟨t125, A350, H⟩ := H
             try dsimp only at H
             have A35 := qd.mk A350
             clear A350
             by_cases c36 : t125 = true
             ·subst c36
              have H1 : (if (l0_8.length : Int) < 2 then (some 2) else (if (l0_8.length : Int) > 100 then (some 9) else (some 0))) = some r := by rw [if_pos rfl] at H; exact H
              clear H
              have H := H1
              clear H1
              by_cases c37 : (l0_8.length : Int) < 2
              ·rw [if_pos c37] at H
               have c37b0 : decide ((l0_8.length : Int) < 2) = true := decide_eq_true c37
               have c37b1 : decide (l0_8.length < 2) = true := decide_eq_true (by omega)
               clear c37
               obtain rfl := Option.some.inj H
               obtain ⟨cz38_0, cz38_1, cz38_2, cz38_3, cz38_4, cz38_5, cz38_6, cz38_7, cz38_8⟩ := bc9_ (w := wc) BK120.out
               obtain ⟨fz38_0, fz38_1, fz38_2, fz38_3, fz38_4, fz38_5, fz38_6, fz38_7, fz38_8⟩ := bf9_ BK120.out
               go_wp2_with (first | ((with_reducible refine qbf (f := 126) rfl ?_); refine qcp (some 56) rfl rfl Tryd.func126 (by kernel_rfl) rfl #[.string a0_5] rfl ml_ ?_; (with_reducible refine (qfa.calls a0_5 true _ A35.out).mono ?_); rintro e w' ⟨rfl, ⟨nd, rfl⟩⟩; refine ⟨_, rfl, ?_⟩))
               go_ret
               exact ⟨ew_, bwx_⟩
              rw [if_neg c37] at H
              have c37b0 : decide ((l0_8.length : Int) < 2) = false := decide_eq_false c37
              have c37b1 : decide (l0_8.length < 2) = false := decide_eq_false (by omega)
              clear c37
              by_cases c39 : (l0_8.length : Int) > 100
              ·rw [if_pos c39] at H
               have c39b0 : decide (100 < (l0_8.length : Int)) = true := decide_eq_true c39
               have c39b1 : decide (100 < l0_8.length) = true := decide_eq_true (by omega)
               clear c39
               obtain rfl := Option.some.inj H
               obtain ⟨cz40_0, cz40_1, cz40_2, cz40_3, cz40_4, cz40_5, cz40_6, cz40_7, cz40_8⟩ := bc9_ (w := wc) BK120.out
               obtain ⟨fz40_0, fz40_1, fz40_2, fz40_3, fz40_4, fz40_5, fz40_6, fz40_7, fz40_8⟩ := bf9_ BK120.out
               go_wp2_with (first | ((with_reducible refine qbf (f := 126) rfl ?_); refine qcp (some 56) rfl rfl Tryd.func126 (by kernel_rfl) rfl #[.string a0_5] rfl ml_ ?_; (with_reducible refine (qfa.calls a0_5 true _ A35.out).mono ?_); rintro e w' ⟨rfl, ⟨nd, rfl⟩⟩; refine ⟨_, rfl, ?_⟩))
               go_ret
               exact ⟨ew_, bwx_⟩
              rw [if_neg c39] at H
              have c39b0 : decide (100 < (l0_8.length : Int)) = false := decide_eq_false c39
              have c39b1 : decide (100 < l0_8.length) = false := decide_eq_false (by omega)
              clear c39
              obtain rfl := Option.some.inj H
              obtain ⟨cz41_0, cz41_1, cz41_2, cz41_3, cz41_4, cz41_5, cz41_6, cz41_7, cz41_8⟩ := bc9_ (w := wc) BK120.out
              obtain ⟨fz41_0, fz41_1, fz41_2, fz41_3, fz41_4, fz41_5, fz41_6, fz41_7, fz41_8⟩ := bf9_ BK120.out
              go_wp2_with (first | ((with_reducible refine qbf (f := 126) rfl ?_); refine qcp (some 56) rfl rfl Tryd.func126 (by kernel_rfl) rfl #[.string a0_5] rfl ml_ ?_; (with_reducible refine (qfa.calls a0_5 true _ A35.out).mono ?_); rintro e w' ⟨rfl, ⟨nd, rfl⟩⟩; refine ⟨_, rfl, ?_⟩))
              go_ret
              exact ⟨ew_, bwx_⟩
             ·replace c36 := Bool.eq_false_iff.mpr c36
              subst c36
              have H1 : (some 5) = some r := by rw [if_neg (show ¬ (false = true) by decide)] at H; exact H
              clear H
              have H := H1
              clear H1
              obtain rfl := Option.some.inj H
              obtain ⟨cz42_0, cz42_1, cz42_2, cz42_3, cz42_4, cz42_5, cz42_6, cz42_7, cz42_8⟩ := bc9_ (w := wc) BK120.out
              obtain ⟨fz42_0, fz42_1, fz42_2, fz42_3, fz42_4, fz42_5, fz42_6, fz42_7, fz42_8⟩ := bf9_ BK120.out
              go_wp2_with (first | ((with_reducible refine qbf (f := 126) rfl ?_); refine qcp (some 56) rfl rfl Tryd.func126 (by kernel_rfl) rfl #[.string a0_5] rfl ml_ ?_; (with_reducible refine (qfa.calls a0_5 false _ A35.out).mono ?_); rintro e w' ⟨rfl, ⟨nd, rfl⟩⟩; refine ⟨_, rfl, ?_⟩))
              go_ret
              exact ⟨ew_, bwx_⟩
end
section
open Go
theorem qih : ∀ a b : List UInt8, (Op.bytesLess a b || a == b) = !Op.bytesLess b a
 | [], [] => rfl
 | [], _ :: _ => rfl
 | _ :: _, [] => rfl
 | a :: x, b :: y => by
  have ih := qih x y
  simp only [Op.bytesLess]
  by_cases h : a = b
  ·subst h
   have hl : ¬ a < a := UInt8.lt_irrefl a
   have hx : ((a :: x) == (a :: y)) = (x == y) := by rw [Bool.eq_iff_iff]; simp
   rw [hx]
   simp only [hl, decide_false, Bool.false_or, beq_self_eq_true, Bool.true_and]
   exact ih
  ·have hx : ((a :: x) == (b :: y)) = false := by rw [Bool.eq_false_iff]; simp [h]
   have h1 : (a == b) = false := by simp [h]
   have h2 : (b == a) = false := by simp [Ne.symm h]
   rw [hx, h1, h2]
   simp only [Bool.false_and, Bool.or_false]
   rw [Bool.eq_iff_iff]
   simp only [decide_eq_true_eq, Bool.not_eq_true', decide_eq_false_iff_not]
   have : ¬ a.toNat = b.toNat := fun e => h (UInt8.toNat_inj.mp e)
   rw [UInt8.lt_iff_toNat_lt, UInt8.lt_iff_toNat_lt]
   omega
@[go_sem] theorem leq_less (t : TypeId) (a b : ByteArray) : binOp .leq t (.string a) (.string b) = pure (.bool (!Op.bytesLess b.toList a.toList)) := by
 rw [← qih]; simp [binOp, Op.stringOp]
@[go_sem] theorem gtr_less (t : TypeId) (a b : ByteArray) : binOp .gtr t (.string a) (.string b) = pure (.bool (Op.bytesLess b.toList a.toList)) := by
 have := qih a.toList b.toList
 have e : binOp .gtr t (.string a) (.string b) = pure (.bool !(Op.bytesLess a.toList b.toList || a.toList == b.toList)) := by simp [binOp, Op.stringOp]
 rw [e, this, Bool.not_not]
@[go_sem] theorem geq_less (t : TypeId) (a b : ByteArray) : binOp .geq t (.string a) (.string b) = pure (.bool (!Op.bytesLess a.toList b.toList)) := by simp [binOp, Op.stringOp]
end
section
attribute [local go_sem] qfp qfn qgk qgj qex qew qfo qfm
def qfr.f (a0_0 : ByteArray) (a0_1 : ByteArray) : Option (Bool) := (qdd.f a0_0).bind fun t127 => (if t127 = true then ((qdd.f a0_1).bind fun t128 => (some t128)) else (some false))
set_option maxRecDepth 100000 in
theorem qfr.calls (a0_0 : ByteArray) (a0_1 : ByteArray) (r : Bool) (w : World) (h : qfr.f a0_0 a0_1 = some r) :
  Calls Tryd.prog 158 #[.agg #[.string a0_0, .string a0_1]] w fun e w' => e = .returned (.bool r) ∧ Below w.heap.size w w' := by
 have hu213 := Tryd.underlying213
 have HB := qd.mk (Below.refl w.heap.size w)
 have H : ((qdd.f a0_0).bind fun t127 => (if t127 = true then ((qdd.f a0_1).bind fun t128 => (some t128)) else (some false))) = some r := h
 clear h
 replace H := Option.bind_eq_some_iff.mp H
 obtain ⟨t127, A20, H⟩ := H
 replace H : (if t127 = true then ((qdd.f a0_1).bind fun t128 => (some t128)) else (some false)) = some r := H
 have A2 := qd.mk A20
 clear A20
 by_cases c3 : t127 = true
 ·subst c3
  have H1 : ((qdd.f a0_1).bind fun t128 => (some t128)) = some r := by rw [if_pos rfl] at H; exact H
  clear H
  have H := H1
  clear H1
  replace H := Option.bind_eq_some_iff.mp H
  obtain ⟨t128, A40, H⟩ := H
  replace H : (some t128) = some r := H
  have A4 := qd.mk A40
  clear A40
  obtain rfl := Option.some.inj H
  go_enter Tryd.func158, Tryd.ntmps158
  go_wp2_with (first | ((with_reducible refine qbx (N := 1) rfl ?_); refine qbu ?hg (N := 1) ?hd (cs := #[.string a0_0, .string a0_1]) (t := 213) ?hr ?_; (case hd => rfl); (case hg => rfl); (case hr => first | (go_simp; done) | (go_simp; rfl)); intro gb126 hg w5 hbox hb; have n0_ := qd.mk (qw (bw_) hb); have n1_ := qd.mk (hbox); have n2_ := qd.mk (gw_ (w := w) hg); have n3_ := qd.mk (gw_ (w := w) hg); clear HB; have HB := n0_; have BK126 := n1_; have GW126 := n2_; have GE126 := n3_; clear n0_ n1_ n2_ n3_; clear hb hbox hg; obtain ⟨cz6_0, cz6_1⟩ := bc2_ (w := w5) BK126.out; obtain ⟨fz6_0, fz6_1⟩ := bf2_ BK126.out) | ((with_reducible refine qbf (f := 80) rfl ?_); refine qcp (some 5) rfl rfl Tryd.func80 (by kernel_rfl) rfl #[.string a0_0] rfl ml_ ?_; (with_reducible refine (qdd.calls a0_0 true _ A2.out).mono ?_); rintro e w' ⟨rfl, ⟨nd, rfl⟩⟩; refine ⟨_, rfl, ?_⟩) | (go_at_call 80; (with_reducible refine (qdd.calls a0_1 t128 _ A4.out).mono ?_); rintro e w' ⟨rfl, ⟨nd, rfl⟩⟩))
  go_ret
  exact ⟨ew_, bwx_⟩
 ·replace c3 := Bool.eq_false_iff.mpr c3
  subst c3
  have H1 : (some false) = some r := by rw [if_neg (show ¬ (false = true) by decide)] at H; exact H
  clear H
  have H := H1
  clear H1
  obtain rfl := Option.some.inj H
  go_enter Tryd.func158, Tryd.ntmps158
  go_wp2_with (first | ((with_reducible refine qbx (N := 1) rfl ?_); refine qbu ?hg (N := 1) ?hd (cs := #[.string a0_0, .string a0_1]) (t := 213) ?hr ?_; (case hd => rfl); (case hg => rfl); (case hr => first | (go_simp; done) | (go_simp; rfl)); intro gb126 hg w7 hbox hb; have n0_ := qd.mk (qw (bw_) hb); have n1_ := qd.mk (hbox); have n2_ := qd.mk (gw_ (w := w) hg); have n3_ := qd.mk (gw_ (w := w) hg); clear HB; have HB := n0_; have BK126 := n1_; have GW126 := n2_; have GE126 := n3_; clear n0_ n1_ n2_ n3_; clear hb hbox hg; obtain ⟨cz8_0, cz8_1⟩ := bc2_ (w := w7) BK126.out; obtain ⟨fz8_0, fz8_1⟩ := bf2_ BK126.out) | ((with_reducible refine qbf (f := 80) rfl ?_); refine qcp (some 5) rfl rfl Tryd.func80 (by kernel_rfl) rfl #[.string a0_0] rfl ml_ ?_; (with_reducible refine (qdd.calls a0_0 false _ A2.out).mono ?_); rintro e w' ⟨rfl, ⟨nd, rfl⟩⟩; refine ⟨_, rfl, ?_⟩))
  go_ret
  exact ⟨ew_, bwx_⟩
def qcl.l0 : Nat → List (S213) → List (S213) → Int → Int → Option (Bool)
 | 0, _, _, _, _ => none
 | k + 1, x0, x8, x9, x10 => if x10 < x9 then (if 0 ≤ x10 then (if x10 < (x8.length : Int) then ((qfr.f ((qo x8 x10).f0) ((qo x8 x10).f1)).bind fun t131 => (if t131 = true then (if x10 > 0 then (if 0 ≤ (wrap64 (x10 - 1)) then (if (wrap64 (x10 - 1)) < (x0.length : Int) then (if ((Op.bytesLess (((qo x0 (wrap64 (x10 - 1))).f0).toList) (((qo x8 x10).f0).toList)) = true) then (qcl.l0 k x0 x8 x9 (wrap64 (x10 + 1))) else (some false)) else (none)) else (none)) else (qcl.l0 k x0 x8 x9 (wrap64 (x10 + 1)))) else (some false))) else (none)) else (none)) else (some true)
def qcl.f (k : Nat) (l0 : List (S213)) : Option (Bool) := if (l0.length : Int) > 6 then (some false) else (qcl.l0 k l0 l0 (l0.length : Int) 0)
def qcl.T6 : Bool × List (List Nat × List Nat) := (true, [([], []), ([0], [0]), ([1], [1]), ([2, 1], [2]), ([3], [3]), ([4, 3], [3, 4]), ([5, 3, 3], [3, 5]), ([6], [6]), ([6], [6]), ([8, 6], [6, 8]), ([7, 9, 6], [6, 7, 9]), ([10, 6], [6, 10]), ([11, 6], [6, 11]), ([6], [6]), ([13, 6], [6, 13]), ([12, 14, 6], [6, 12, 14]), ([6, 15, 3], [3, 6, 15]), ([3, 16], [3, 16])])
def qcl.B6 : List Nat := [0, 1, 3, 7, 15, 31, 63, 127, 127, 383, 1023, 2047, 4095, 127, 8319, 32767, 65535, 131071]
theorem qcl.tab6 : rtab .any (opsOf Tryd.f129 6) = qcl.T6 := by kernel_rfl
theorem qcl.bits6 : qhl qcl.T6.2 qcl.B6 = true := by kernel_rfl
set_option maxRecDepth 100000 in
theorem qcl.calls (k : Nat) (A0 : Option Addr) (c0 : Nat) (l0 : List (S213)) (r : Bool) (w : World) (hr0 : Kd.C k213 w A0 l0.length l0) (hc0 : l0.length ≤ c0) (h : qcl.f k l0 = some r) :
  Calls Tryd.prog 129 #[.slice A0 l0.length c0] w fun e w' => e = .returned (.bool r) ∧ Below w.heap.size w w' := by
 have hu213 := Tryd.underlying213
 have HR0 := qd.mk hr0
 have HC0 := qd.mk hc0
 clear hr0 hc0
 have HB := qd.mk (Below.refl w.heap.size w)
 have H : (if (l0.length : Int) > 6 then (some false) else (qcl.l0 k l0 l0 (l0.length : Int) 0)) = some r := h
 clear h
 by_cases c2 : (l0.length : Int) > 6
 ·rw [if_pos c2] at H
  have c2b0 : decide (6 < (l0.length : Int)) = true := decide_eq_true c2
  have c2b1 : decide (6 < l0.length) = true := decide_eq_true (by omega)
  clear c2
  obtain rfl := Option.some.inj H
  go_enter Tryd.func129, Tryd.ntmps129
  go_wp2
  go_ret
  exact ⟨ew_, bw_⟩
 ·rw [if_neg c2] at H
  have c2b0 : decide (6 < (l0.length : Int)) = false := decide_eq_false c2
  have c2b1 : decide (6 < l0.length) = false := decide_eq_false (by omega)
  clear c2
  have H' := qd.mk H
  clear H
  go_enter Tryd.func129, Tryd.ntmps129
  go_wp2
  go_loopg [10] k (fun kq v10 w' => ∃ (x10_1 : Int), v10 = .int .i64 x10_1 ∧ qd (qcl.l0 kq l0 l0 (l0.length : Int) x10_1 = some r) ∧ qd (kq ≤ k) ∧ qd (Below w.heap.size w w'))
  case atStart => exact ⟨(0), sm_, H', ⟨Nat.le_refl _⟩, ⟨bw_⟩⟩
  case round =>
   clear H'
   try clear c1
   try clear c2
   try clear c2b0
   try clear c2b1
   try clear p2
   obtain ⟨x10_1, rfl, HA, HK1, HB⟩ := hrel
   cases gk with
   | zero => exact absurd HA.out (by simp [qcl.l0])
   | succ k1 =>
    have H := HA.out
    clear HA
    simp only [qcl.l0] at H
    by_cases c3 : x10_1 < (l0.length : Int)
    ·rw [if_pos c3] at H
     have c3b0 : decide (x10_1 < (l0.length : Int)) = true := decide_eq_true c3
     clear c3
     by_cases c4 : 0 ≤ x10_1
     rotate_left
     ·rw [if_neg c4] at H
      exact absurd H (by simp)
     rw [if_pos c4] at H
     have c4b0 : decide (0 ≤ x10_1) = true := decide_eq_true c4
     clear c4
     by_cases c5 : x10_1 < (l0.length : Int)
     rotate_left
     ·rw [if_neg c5] at H
      exact absurd H (by simp)
     rw [if_pos c5] at H
     have c5b0 : decide (x10_1 < (l0.length : Int)) = true := decide_eq_true c5
     clear c5
     replace H := Option.bind_eq_some_iff.mp H
     obtain ⟨t131, A60, H⟩ := H
     try dsimp only at H
     have A6 := qd.mk A60
     clear A60
     by_cases c7 : t131 = true
     rotate_left
     ·replace c7 := Bool.eq_false_iff.mpr c7
      subst c7
      have H1 : (some false) = some r := by rw [if_neg (show ¬ (false = true) by decide)] at H; exact H
      clear H
      have H := H1
      clear H1
      obtain rfl := Option.some.inj H
      have p129 : 0 ≤ (x10_1 : Int) := odt_
      have q129 : x10_1 < (l0.length : Int) := odt_
      obtain ⟨ad129, e129, hx129_0, hx129_1⟩ := qey HR0.out x10_1 p129 q129
      cases e129
      replace hx129_0 := bcl_ HB hx129_0
      replace hx129_1 := bcl_ HB hx129_1
      replace p129 := eq_true p129
      replace q129 := eq_true q129
      try go_wp2_with (first | ((with_reducible refine qbx (N := 4) rfl ?_); refine qbu ?hg (N := 4) ?hd (cs := #[.string (⟨#[]⟩ : ByteArray), .string (⟨#[]⟩ : ByteArray)]) (t := 213) ?hr ?_; (case hd => rfl); (case hg => rfl); (case hr => first | (go_simp; done) | (go_simp; rfl)); intro gb130 hg w28 hbox hb; have n0_ := qd.mk (qw (bw_) hb); have n1_ := qd.mk (hbox); have n2_ := qd.mk (gw_ (w := w) hg); have n3_ := qd.mk (gw_ (w := w) hg); clear HB; have HB := n0_; have BK130 := n1_; have GW130 := n2_; have GE130 := n3_; clear n0_ n1_ n2_ n3_; clear hb hbox hg; obtain ⟨cz29_0, cz29_1⟩ := bc2_ (w := w28) BK130.out; obtain ⟨fz29_0, fz29_1⟩ := bf2_ BK130.out))
      have n0_ : qd (((w28.setCell ⟨gb130, 0, none⟩ (.string ((qo l0 x10_1).f0))).setCell ⟨gb130, 1, none⟩ (.string ((qo l0 x10_1).f1))).heap[gb130]? = some (.cells #[.string ((qo l0 x10_1).f0), .string ((qo l0 x10_1).f1)] 213 (0, 0))) := ⟨by (with_reducible repeat (first | refine qp ?_ _ | refine qz ?_ | refine qm ?_ _)); refine qcr (cs := #[.string ((qo l0 x10_1).f0), .string (⟨#[]⟩ : ByteArray)]) ?_ 1 _ rfl; (with_reducible repeat (first | refine qp ?_ _ | refine qz ?_ | refine qm ?_ _)); refine qcr (cs := #[.string (⟨#[]⟩ : ByteArray), .string (⟨#[]⟩ : ByteArray)]) ?_ 0 _ rfl; (with_reducible repeat (first | refine qp ?_ _ | refine qz ?_ | refine qm ?_ _)); exact BK130.out⟩
      have n1_ : qd (Below w.heap.size w ((w28.setCell ⟨gb130, 0, none⟩ (.string ((qo l0 x10_1).f0))).setCell ⟨gb130, 1, none⟩ (.string ((qo l0 x10_1).f1)))) := ⟨bwx_⟩
      (try clear BK130)
      (try clear HB)
      generalize ((w28.setCell ⟨gb130, 0, none⟩ (.string ((qo l0 x10_1).f0))).setCell ⟨gb130, 1, none⟩ (.string ((qo l0 x10_1).f1))) = w30 at n0_ n1_ ⊢
      have BK130 := n0_
      have HB := n1_
      clear n0_ n1_
      have n0_ := qd.mk (qz BK130.out)
      have n1_ := qd.mk (qcq HB.out)
      clear BK130
      clear HB
      have BK130 := n0_
      have HB := n1_
      clear n0_ n1_
      refine qgv (n := 18) (S := fun w' => w'.cell? ⟨gb130, 0, none⟩ = some (.string ((qo l0 x10_1).f0)) ∧ w'.cell? ⟨gb130, 1, none⟩ = some (.string ((qo l0 x10_1).f1))) (ds := []) #[false, false, false, false, false, false, false, false, false, false, false, false, false, false, false, false, false, false] (by kernel_rfl) rfl rfl ⟨(qg BK130.out 0).trans rfl, (qg BK130.out 1).trans rfl⟩ (fun hHeld => ?_); refine qeq qcl.tab6 qcl.bits6 (fun HT_ HW_ => ?_)
      generalize w30.drew = w31 at BK130 HB hHeld ⊢
      refine ta_ 0 (some 15) (btz 18 1) HT_ HW_ hHeld rfl rfl (by rintro w' ⟨s0, s1⟩; go_simp; with_reducible rfl) ?_
      refine one_ (i := 1) (N := some 16) #[true, true, false, false, false, false, false, false, false, false, false, false, false, false, false, false, false, false] rfl rfl (qhq HT_.out (by kernel_rfl)) (by decide) (fun K hK => ?_)
      refine qkk Tryd.func158 (by kernel_rfl) rfl #[.agg #[.string ((qo l0 x10_1).f0), .string ((qo l0 x10_1).f1)]] (by rfl) rfl rfl ml_ ?_
      with_reducible refine (qfr.calls ((qo l0 x10_1).f0) ((qo l0 x10_1).f1) false _ A6.out).mono ?_
      rintro e w32 ⟨rfl, hb⟩
      refine ⟨_, rfl, ?_⟩
      have n0_ := qd.mk (bb_ BK130 hb)
      have n1_ := qd.mk (qw (bwx_) hb)
      clear BK130
      clear HB
      have BK130 := n0_
      have HB := n1_
      clear n0_ n1_
      (try clear hb)
      (try clear hb2)
      (try clear hk)
      (try clear hi)
      refine hK.out _ _ ⟨(qg BK130.out 0).trans rfl, (qg BK130.out 1).trans rfl⟩ (fun hHeld => ?_)
      clear hK K
      refine qjm (a' := ?_) ?_ ?_
      rotate_left
      ·show Act.put _ (some 16) _ = _
       simp only [Act.put, List.setIfInBounds_toArray, List.set_cons_zero, List.set_cons_succ, qeh, qen]
       rfl
      refine pu_ 2 (some 17) (btz 18 7) HT_ ?_
      refine pu_ 3 (some 18) (btz 18 15) HT_ ?_
      refine un_ 4 (some 19) (btz 18 31) HT_ ?_
      refine un_ 5 (some 20) (btz 18 63) HT_ ?_
      refine un_ 6 (some 21) (btz 18 127) HT_ ?_
      refine un_ 7 (some 22) (btz 18 255) HT_ ?_
      refine un_ 8 (some 23) (btz 18 511) HT_ ?_
      refine un_ 9 (some 24) (btz 18 1023) HT_ ?_
      refine un_ 10 (some 25) (btz 18 2047) HT_ ?_
      refine un_ 11 (some 26) (btz 18 4095) HT_ ?_
      refine un_ 12 (some 27) (btz 18 8191) HT_ ?_
      refine un_ 13 (some 28) (btz 18 16383) HT_ ?_
      refine un_ 14 (some 29) (btz 18 32767) HT_ ?_
      refine un_ 15 (some 30) (btz 18 65535) HT_ ?_
      refine un_ 16 (some 31) (btz 18 131071) HT_ ?_
      refine pu_ 17 (some 32) (btz 18 262143) HT_ ?_
      refine qjg (qgc HT_.out (by kernel_rfl)) ?_
      try go_wp2
      go_ret
      exact ⟨ew_, bwx_⟩
     subst c7
     have H1 : (if x10_1 > 0 then (if 0 ≤ (wrap64 (x10_1 - 1)) then (if (wrap64 (x10_1 - 1)) < (l0.length : Int) then (if ((Op.bytesLess (((qo l0 (wrap64 (x10_1 - 1))).f0).toList) (((qo l0 x10_1).f0).toList)) = true) then (qcl.l0 k1 l0 l0 (l0.length : Int) (wrap64 (x10_1 + 1))) else (some false)) else (none)) else (none)) else (qcl.l0 k1 l0 l0 (l0.length : Int) (wrap64 (x10_1 + 1)))) = some r := by rw [if_pos rfl] at H; exact H
     clear H
     have H := H1
     clear H1
     by_cases c8 : x10_1 > 0
     rotate_left
     ·rw [if_neg c8] at H
      have c8b0 : decide (0 < x10_1) = false := decide_eq_false c8
      clear c8
      have H' := qd.mk H
      clear H
      have p129 : 0 ≤ (x10_1 : Int) := odt_
      have q129 : x10_1 < (l0.length : Int) := odt_
      obtain ⟨ad129, e129, hx129_0, hx129_1⟩ := qey HR0.out x10_1 p129 q129
      cases e129
      replace hx129_0 := bcl_ HB hx129_0
      replace hx129_1 := bcl_ HB hx129_1
      replace p129 := eq_true p129
      replace q129 := eq_true q129
      try go_wp2_with (first | ((with_reducible refine qbx (N := 4) rfl ?_); refine qbu ?hg (N := 4) ?hd (cs := #[.string (⟨#[]⟩ : ByteArray), .string (⟨#[]⟩ : ByteArray)]) (t := 213) ?hr ?_; (case hd => rfl); (case hg => rfl); (case hr => first | (go_simp; done) | (go_simp; rfl)); intro gb130 hg w23 hbox hb; have n0_ := qd.mk (qw (bw_) hb); have n1_ := qd.mk (hbox); have n2_ := qd.mk (gw_ (w := w) hg); have n3_ := qd.mk (gw_ (w := w) hg); clear HB; have HB := n0_; have BK130 := n1_; have GW130 := n2_; have GE130 := n3_; clear n0_ n1_ n2_ n3_; clear hb hbox hg; obtain ⟨cz24_0, cz24_1⟩ := bc2_ (w := w23) BK130.out; obtain ⟨fz24_0, fz24_1⟩ := bf2_ BK130.out))
      have n0_ : qd (((w23.setCell ⟨gb130, 0, none⟩ (.string ((qo l0 x10_1).f0))).setCell ⟨gb130, 1, none⟩ (.string ((qo l0 x10_1).f1))).heap[gb130]? = some (.cells #[.string ((qo l0 x10_1).f0), .string ((qo l0 x10_1).f1)] 213 (0, 0))) := ⟨by (with_reducible repeat (first | refine qp ?_ _ | refine qz ?_ | refine qm ?_ _)); refine qcr (cs := #[.string ((qo l0 x10_1).f0), .string (⟨#[]⟩ : ByteArray)]) ?_ 1 _ rfl; (with_reducible repeat (first | refine qp ?_ _ | refine qz ?_ | refine qm ?_ _)); refine qcr (cs := #[.string (⟨#[]⟩ : ByteArray), .string (⟨#[]⟩ : ByteArray)]) ?_ 0 _ rfl; (with_reducible repeat (first | refine qp ?_ _ | refine qz ?_ | refine qm ?_ _)); exact BK130.out⟩
      have n1_ : qd (Below w.heap.size w ((w23.setCell ⟨gb130, 0, none⟩ (.string ((qo l0 x10_1).f0))).setCell ⟨gb130, 1, none⟩ (.string ((qo l0 x10_1).f1)))) := ⟨bwx_⟩
      (try clear BK130)
      (try clear HB)
      generalize ((w23.setCell ⟨gb130, 0, none⟩ (.string ((qo l0 x10_1).f0))).setCell ⟨gb130, 1, none⟩ (.string ((qo l0 x10_1).f1))) = w25 at n0_ n1_ ⊢
      have BK130 := n0_
      have HB := n1_
      clear n0_ n1_
      have n0_ := qd.mk (qz BK130.out)
      have n1_ := qd.mk (qcq HB.out)
      clear BK130
      clear HB
      have BK130 := n0_
      have HB := n1_
      clear n0_ n1_
      refine qgv (n := 18) (S := fun w' => w'.cell? ⟨gb130, 0, none⟩ = some (.string ((qo l0 x10_1).f0)) ∧ w'.cell? ⟨gb130, 1, none⟩ = some (.string ((qo l0 x10_1).f1))) (ds := []) #[false, false, false, false, false, false, false, false, false, false, false, false, false, false, false, false, false, false] (by kernel_rfl) rfl rfl ⟨(qg BK130.out 0).trans rfl, (qg BK130.out 1).trans rfl⟩ (fun hHeld => ?_); refine qeq qcl.tab6 qcl.bits6 (fun HT_ HW_ => ?_)
      generalize w25.drew = w26 at BK130 HB hHeld ⊢
      refine ta_ 0 (some 15) (btz 18 1) HT_ HW_ hHeld rfl rfl (by rintro w' ⟨s0, s1⟩; go_simp; with_reducible rfl) ?_
      refine one_ (i := 1) (N := some 16) #[true, true, false, false, false, false, false, false, false, false, false, false, false, false, false, false, false, false] rfl rfl (qhq HT_.out (by kernel_rfl)) (by decide) (fun K hK => ?_)
      refine qkk Tryd.func158 (by kernel_rfl) rfl #[.agg #[.string ((qo l0 x10_1).f0), .string ((qo l0 x10_1).f1)]] (by rfl) rfl rfl ml_ ?_
      with_reducible refine (qfr.calls ((qo l0 x10_1).f0) ((qo l0 x10_1).f1) true _ A6.out).mono ?_
      rintro e w27 ⟨rfl, hb⟩
      refine ⟨_, rfl, ?_⟩
      have n0_ := qd.mk (bb_ BK130 hb)
      have n1_ := qd.mk (qw (bwx_) hb)
      clear BK130
      clear HB
      have BK130 := n0_
      have HB := n1_
      clear n0_ n1_
      (try clear hb)
      (try clear hb2)
      (try clear hk)
      (try clear hi)
      refine hK.out _ _ ⟨(qg BK130.out 0).trans rfl, (qg BK130.out 1).trans rfl⟩ (fun hHeld => ?_)
      clear hK K
      refine qjm (a' := ?_) ?_ ?_
      rotate_left
      ·show Act.put _ (some 16) _ = _
       simp only [Act.put, List.setIfInBounds_toArray, List.set_cons_zero, List.set_cons_succ, qeh, qen]
       rfl
      refine pu_ 2 (some 17) (btz 18 7) HT_ ?_
      refine pu_ 3 (some 18) (btz 18 15) HT_ ?_
      refine pu_ 4 (some 19) (btz 18 31) HT_ ?_
      refine pu_ 5 (some 20) (btz 18 63) HT_ ?_
      refine pu_ 6 (some 21) (btz 18 127) HT_ ?_
      refine un_ 7 (some 22) (btz 18 255) HT_ ?_
      refine un_ 8 (some 23) (btz 18 511) HT_ ?_
      refine un_ 9 (some 24) (btz 18 1023) HT_ ?_
      refine un_ 10 (some 25) (btz 18 2047) HT_ ?_
      refine un_ 11 (some 26) (btz 18 4095) HT_ ?_
      refine un_ 12 (some 27) (btz 18 8191) HT_ ?_
      refine un_ 13 (some 28) (btz 18 16383) HT_ ?_
      refine un_ 14 (some 29) (btz 18 32767) HT_ ?_
      refine un_ 15 (some 30) (btz 18 65535) HT_ ?_
      refine pu_ 16 (some 31) (btz 18 131071) HT_ ?_
      refine pu_ 17 (some 32) (btz 18 262143) HT_ ?_
      refine qjg (qgc HT_.out (by kernel_rfl)) ?_
      try go_wp2
      go_roundg k1
      case measure => have := HK1.out; omega
      case rel => exact ⟨(wrap64 (x10_1 + 1)), sm_, H', ⟨by have := HK1.out; omega⟩, ⟨bwx_⟩⟩
     rw [if_pos c8] at H
     have c8b0 : decide (0 < x10_1) = true := decide_eq_true c8
     clear c8
     obtain ⟨ji9, hji9⟩ : ∃ j_ : Int, (wrap64 (x10_1 - 1)) = j_ := ⟨_, rfl⟩
     replace H : (if 0 ≤ (ji9) then (if (ji9) < (l0.length : Int) then (if ((Op.bytesLess (((qo l0 (ji9)).f0).toList) (((qo l0 x10_1).f0).toList)) = true) then (qcl.l0 k1 l0 l0 (l0.length : Int) (wrap64 (x10_1 + 1))) else (some false)) else (none)) else (none)) = some r := by first | (rw [hji9] at H; exact H) | (simp only [hji9] at H ⊢; exact H)
     (try rw [hji9] at A6)
     have hji9w : (IntKind.i64.wrap (x10_1 - 1)) = ji9 := (qeh _).trans hji9
     by_cases c10 : 0 ≤ (ji9)
     rotate_left
     ·rw [if_neg c10] at H
      exact absurd H (by simp)
     rw [if_pos c10] at H
     have c10b0 : decide (0 ≤ (ji9)) = true := decide_eq_true c10
     clear c10
     by_cases c11 : (ji9) < (l0.length : Int)
     rotate_left
     ·rw [if_neg c11] at H
      exact absurd H (by simp)
     rw [if_pos c11] at H
     have c11b0 : decide ((ji9) < (l0.length : Int)) = true := decide_eq_true c11
     clear c11
     by_cases c12 : ((Op.bytesLess (((qo l0 (ji9)).f0).toList) (((qo l0 x10_1).f0).toList)) = true)
     ·rw [if_pos c12] at H
      have c12b0 : (Op.bytesLess (((qo l0 (ji9)).f0).toList) (((qo l0 x10_1).f0).toList)) = true := c12
      clear c12
      have H' := qd.mk H
      clear H
      have p129 : 0 ≤ (x10_1 : Int) := odt_
      have q129 : x10_1 < (l0.length : Int) := odt_
      obtain ⟨ad129, e129, hx129_0, hx129_1⟩ := qey HR0.out x10_1 p129 q129
      cases e129
      replace hx129_0 := bcl_ HB hx129_0
      replace hx129_1 := bcl_ HB hx129_1
      replace p129 := eq_true p129
      replace q129 := eq_true q129
      try go_wp2_with (first | ((with_reducible refine qbx (N := 4) rfl ?_); refine qbu ?hg (N := 4) ?hd (cs := #[.string (⟨#[]⟩ : ByteArray), .string (⟨#[]⟩ : ByteArray)]) (t := 213) ?hr ?_; (case hd => rfl); (case hg => rfl); (case hr => first | (go_simp; done) | (go_simp; rfl)); intro gb130 hg w13 hbox hb; have n0_ := qd.mk (qw (bw_) hb); have n1_ := qd.mk (hbox); have n2_ := qd.mk (gw_ (w := w) hg); have n3_ := qd.mk (gw_ (w := w) hg); clear HB; have HB := n0_; have BK130 := n1_; have GW130 := n2_; have GE130 := n3_; clear n0_ n1_ n2_ n3_; clear hb hbox hg; obtain ⟨cz14_0, cz14_1⟩ := bc2_ (w := w13) BK130.out; obtain ⟨fz14_0, fz14_1⟩ := bf2_ BK130.out))
      have n0_ : qd (((w13.setCell ⟨gb130, 0, none⟩ (.string ((qo l0 x10_1).f0))).setCell ⟨gb130, 1, none⟩ (.string ((qo l0 x10_1).f1))).heap[gb130]? = some (.cells #[.string ((qo l0 x10_1).f0), .string ((qo l0 x10_1).f1)] 213 (0, 0))) := ⟨by (with_reducible repeat (first | refine qp ?_ _ | refine qz ?_ | refine qm ?_ _)); refine qcr (cs := #[.string ((qo l0 x10_1).f0), .string (⟨#[]⟩ : ByteArray)]) ?_ 1 _ rfl; (with_reducible repeat (first | refine qp ?_ _ | refine qz ?_ | refine qm ?_ _)); refine qcr (cs := #[.string (⟨#[]⟩ : ByteArray), .string (⟨#[]⟩ : ByteArray)]) ?_ 0 _ rfl; (with_reducible repeat (first | refine qp ?_ _ | refine qz ?_ | refine qm ?_ _)); exact BK130.out⟩
      have n1_ : qd (Below w.heap.size w ((w13.setCell ⟨gb130, 0, none⟩ (.string ((qo l0 x10_1).f0))).setCell ⟨gb130, 1, none⟩ (.string ((qo l0 x10_1).f1)))) := ⟨bwx_⟩
      (try clear BK130)
      (try clear HB)
      generalize ((w13.setCell ⟨gb130, 0, none⟩ (.string ((qo l0 x10_1).f0))).setCell ⟨gb130, 1, none⟩ (.string ((qo l0 x10_1).f1))) = w15 at n0_ n1_ ⊢
      have BK130 := n0_
      have HB := n1_
      clear n0_ n1_
      have n0_ := qd.mk (qz BK130.out)
      have n1_ := qd.mk (qcq HB.out)
      clear BK130
      clear HB
      have BK130 := n0_
      have HB := n1_
      clear n0_ n1_
      have p132 : 0 ≤ ((ji9) : Int) := odt_
      have q132 : (ji9) < (l0.length : Int) := odt_
      obtain ⟨ad132, e132, hx132_0, hx132_1⟩ := qey HR0.out (ji9) p132 q132
      have hw132_1 := hx132_1
      have hw132_0 := hx132_0
      obtain rfl : ad129 = ad132 := (by injection e132)
      replace hx132_0 := bcl_ HB hx132_0
      replace hx132_1 := bcl_ HB hx132_1
      replace p132 := eq_true p132
      replace q132 := eq_true q132
      refine qgv (n := 18) (S := fun w' => w'.cell? ⟨gb130, 0, none⟩ = some (.string ((qo l0 x10_1).f0)) ∧ w'.cell? ⟨gb130, 1, none⟩ = some (.string ((qo l0 x10_1).f1)) ∧ w'.cell? (ad129.add (((ji9)).toNat * 2)) = some (.string ((qo l0 (ji9)).f0)) ∧ w'.cell? ⟨(ad129.add (((ji9)).toNat * 2)).block, (ad129.add (((ji9)).toNat * 2)).off + 1, none⟩ = some (.string ((qo l0 (ji9)).f1))) (ds := []) #[false, false, false, false, false, false, false, false, false, false, false, false, false, false, false, false, false, false] (by kernel_rfl) rfl rfl ⟨(qg BK130.out 0).trans rfl, (qg BK130.out 1).trans rfl, (bcl_ HB hw132_0), (bcl_ HB hw132_1)⟩ (fun hHeld => ?_); refine qeq qcl.tab6 qcl.bits6 (fun HT_ HW_ => ?_)
      generalize w15.drew = w16 at BK130 HB hx132_0 hx132_1 hHeld ⊢
      refine ta_ 0 (some 15) (btz 18 1) HT_ HW_ hHeld rfl rfl (by rintro w' ⟨s0, s1, s2, s3⟩; go_simp; with_reducible rfl) ?_
      refine one_ (i := 1) (N := some 16) #[true, true, false, false, false, false, false, false, false, false, false, false, false, false, false, false, false, false] rfl rfl (qhq HT_.out (by kernel_rfl)) (by decide) (fun K hK => ?_)
      refine qkk Tryd.func158 (by kernel_rfl) rfl #[.agg #[.string ((qo l0 x10_1).f0), .string ((qo l0 x10_1).f1)]] (by rfl) rfl rfl ml_ ?_
      with_reducible refine (qfr.calls ((qo l0 x10_1).f0) ((qo l0 x10_1).f1) true _ A6.out).mono ?_
      rintro e w17 ⟨rfl, hb⟩
      refine ⟨_, rfl, ?_⟩
      have n0_ := qd.mk (bb_ BK130 hb)
      have n1_ := qd.mk (qw (bwx_) hb)
      clear BK130
      clear HB
      have BK130 := n0_
      have HB := n1_
      clear n0_ n1_
      (try clear hb)
      (try clear hb2)
      (try clear hk)
      (try clear hi)
      refine hK.out _ _ ⟨(qg BK130.out 0).trans rfl, (qg BK130.out 1).trans rfl, (bcl_ HB hw132_0), (bcl_ HB hw132_1)⟩ (fun hHeld => ?_)
      clear hK K
      refine qjm (a' := ?_) ?_ ?_
      rotate_left
      ·show Act.put _ (some 16) _ = _
       simp only [Act.put, List.setIfInBounds_toArray, List.set_cons_zero, List.set_cons_succ, qeh, qen]
       rfl
      refine pu_ 2 (some 17) (btz 18 7) HT_ ?_
      refine pu_ 3 (some 18) (btz 18 15) HT_ ?_
      refine pu_ 4 (some 19) (btz 18 31) HT_ ?_
      refine pu_ 5 (some 20) (btz 18 63) HT_ ?_
      refine pu_ 6 (some 21) (btz 18 127) HT_ ?_
      refine pu_ 7 (some 22) (btz 18 255) HT_ ?_
      refine pu_ 8 (some 23) (btz 18 511) HT_ ?_
      refine pu_ 9 (some 24) (btz 18 1023) HT_ ?_
      refine pu_ 10 (some 25) (btz 18 2047) HT_ ?_
      refine pu_ 11 (some 26) (btz 18 4095) HT_ ?_
      refine pu_ 13 (some 28) (btz 18 12287) HT_ ?_
      refine ta_ 12 (some 27) (btz 18 16383) HT_ HW_ hHeld rfl rfl (by rintro w' ⟨s0, s1, s2, s3⟩; go_simp; with_reducible rfl) ?_
      refine ta_ 14 (some 29) (btz 18 32767) HT_ HW_ hHeld rfl rfl (by rintro w' ⟨s0, s1, s2, s3⟩; go_simp; with_reducible rfl) ?_
      refine pu_ 15 (some 30) (btz 18 65535) HT_ ?_
      refine pu_ 16 (some 31) (btz 18 131071) HT_ ?_
      refine pu_ 17 (some 32) (btz 18 262143) HT_ ?_
      refine qjg (qgc HT_.out (by kernel_rfl)) ?_
      try go_wp2
      go_roundg k1
      case measure => have := HK1.out; omega
      case rel => exact ⟨(wrap64 (x10_1 + 1)), sm_, H', ⟨by have := HK1.out; omega⟩, ⟨bwx_⟩⟩
     rw [if_neg c12] at H
     have c12b0 : (Op.bytesLess (((qo l0 (ji9)).f0).toList) (((qo l0 x10_1).f0).toList)) = false := by simpa using c12
     clear c12
     obtain rfl := Option.some.inj H
     have p129 : 0 ≤ (x10_1 : Int) := odt_
     have q129 : x10_1 < (l0.length : Int) := odt_
     obtain ⟨ad129, e129, hx129_0, hx129_1⟩ := qey HR0.out x10_1 p129 q129
     cases e129
     replace hx129_0 := bcl_ HB hx129_0
     replace hx129_1 := bcl_ HB hx129_1
     replace p129 := eq_true p129
     replace q129 := eq_true q129
     try go_wp2_with (first | ((with_reducible refine qbx (N := 4) rfl ?_); refine qbu ?hg (N := 4) ?hd (cs := #[.string (⟨#[]⟩ : ByteArray), .string (⟨#[]⟩ : ByteArray)]) (t := 213) ?hr ?_; (case hd => rfl); (case hg => rfl); (case hr => first | (go_simp; done) | (go_simp; rfl)); intro gb130 hg w18 hbox hb; have n0_ := qd.mk (qw (bw_) hb); have n1_ := qd.mk (hbox); have n2_ := qd.mk (gw_ (w := w) hg); have n3_ := qd.mk (gw_ (w := w) hg); clear HB; have HB := n0_; have BK130 := n1_; have GW130 := n2_; have GE130 := n3_; clear n0_ n1_ n2_ n3_; clear hb hbox hg; obtain ⟨cz19_0, cz19_1⟩ := bc2_ (w := w18) BK130.out; obtain ⟨fz19_0, fz19_1⟩ := bf2_ BK130.out))
     have n0_ : qd (((w18.setCell ⟨gb130, 0, none⟩ (.string ((qo l0 x10_1).f0))).setCell ⟨gb130, 1, none⟩ (.string ((qo l0 x10_1).f1))).heap[gb130]? = some (.cells #[.string ((qo l0 x10_1).f0), .string ((qo l0 x10_1).f1)] 213 (0, 0))) := ⟨by (with_reducible repeat (first | refine qp ?_ _ | refine qz ?_ | refine qm ?_ _)); refine qcr (cs := #[.string ((qo l0 x10_1).f0), .string (⟨#[]⟩ : ByteArray)]) ?_ 1 _ rfl; (with_reducible repeat (first | refine qp ?_ _ | refine qz ?_ | refine qm ?_ _)); refine qcr (cs := #[.string (⟨#[]⟩ : ByteArray), .string (⟨#[]⟩ : ByteArray)]) ?_ 0 _ rfl; (with_reducible repeat (first | refine qp ?_ _ | refine qz ?_ | refine qm ?_ _)); exact BK130.out⟩
     have n1_ : qd (Below w.heap.size w ((w18.setCell ⟨gb130, 0, none⟩ (.string ((qo l0 x10_1).f0))).setCell ⟨gb130, 1, none⟩ (.string ((qo l0 x10_1).f1)))) := ⟨bwx_⟩
     (try clear BK130)
     (try clear HB)
     generalize ((w18.setCell ⟨gb130, 0, none⟩ (.string ((qo l0 x10_1).f0))).setCell ⟨gb130, 1, none⟩ (.string ((qo l0 x10_1).f1))) = w20 at n0_ n1_ ⊢
     have BK130 := n0_
     have HB := n1_
     clear n0_ n1_
     have n0_ := qd.mk (qz BK130.out)
     have n1_ := qd.mk (qcq HB.out)
     clear BK130
     clear HB
     have BK130 := n0_
     have HB := n1_
     clear n0_ n1_
     have p132 : 0 ≤ ((ji9) : Int) := odt_
     have q132 : (ji9) < (l0.length : Int) := odt_
     obtain ⟨ad132, e132, hx132_0, hx132_1⟩ := qey HR0.out (ji9) p132 q132
     have hw132_1 := hx132_1
     have hw132_0 := hx132_0
     obtain rfl : ad129 = ad132 := (by injection e132)
     replace hx132_0 := bcl_ HB hx132_0
     replace hx132_1 := bcl_ HB hx132_1
     replace p132 := eq_true p132
     replace q132 := eq_true q132
     refine qgv (n := 18) (S := fun w' => w'.cell? ⟨gb130, 0, none⟩ = some (.string ((qo l0 x10_1).f0)) ∧ w'.cell? ⟨gb130, 1, none⟩ = some (.string ((qo l0 x10_1).f1)) ∧ w'.cell? (ad129.add (((ji9)).toNat * 2)) = some (.string ((qo l0 (ji9)).f0)) ∧ w'.cell? ⟨(ad129.add (((ji9)).toNat * 2)).block, (ad129.add (((ji9)).toNat * 2)).off + 1, none⟩ = some (.string ((qo l0 (ji9)).f1))) (ds := []) #[false, false, false, false, false, false, false, false, false, false, false, false, false, false, false, false, false, false] (by kernel_rfl) rfl rfl ⟨(qg BK130.out 0).trans rfl, (qg BK130.out 1).trans rfl, (bcl_ HB hw132_0), (bcl_ HB hw132_1)⟩ (fun hHeld => ?_); refine qeq qcl.tab6 qcl.bits6 (fun HT_ HW_ => ?_)
     generalize w20.drew = w21 at BK130 HB hx132_0 hx132_1 hHeld ⊢
     refine ta_ 0 (some 15) (btz 18 1) HT_ HW_ hHeld rfl rfl (by rintro w' ⟨s0, s1, s2, s3⟩; go_simp; with_reducible rfl) ?_
     refine one_ (i := 1) (N := some 16) #[true, true, false, false, false, false, false, false, false, false, false, false, false, false, false, false, false, false] rfl rfl (qhq HT_.out (by kernel_rfl)) (by decide) (fun K hK => ?_)
     refine qkk Tryd.func158 (by kernel_rfl) rfl #[.agg #[.string ((qo l0 x10_1).f0), .string ((qo l0 x10_1).f1)]] (by rfl) rfl rfl ml_ ?_
     with_reducible refine (qfr.calls ((qo l0 x10_1).f0) ((qo l0 x10_1).f1) true _ A6.out).mono ?_
     rintro e w22 ⟨rfl, hb⟩
     refine ⟨_, rfl, ?_⟩
     have n0_ := qd.mk (bb_ BK130 hb)
     have n1_ := qd.mk (qw (bwx_) hb)
     clear BK130
     clear HB
     have BK130 := n0_
     have HB := n1_
     clear n0_ n1_
     (try clear hb)
     (try clear hb2)
     (try clear hk)
     (try clear hi)
     refine hK.out _ _ ⟨(qg BK130.out 0).trans rfl, (qg BK130.out 1).trans rfl, (bcl_ HB hw132_0), (bcl_ HB hw132_1)⟩ (fun hHeld => ?_)
     clear hK K
     refine qjm (a' := ?_) ?_ ?_
     rotate_left
     ·show Act.put _ (some 16) _ = _
      simp only [Act.put, List.setIfInBounds_toArray, List.set_cons_zero, List.set_cons_succ, qeh, qen]
      rfl
     refine pu_ 2 (some 17) (btz 18 7) HT_ ?_
     refine pu_ 3 (some 18) (btz 18 15) HT_ ?_
     refine pu_ 4 (some 19) (btz 18 31) HT_ ?_
     refine pu_ 5 (some 20) (btz 18 63) HT_ ?_
     refine pu_ 6 (some 21) (btz 18 127) HT_ ?_
     refine pu_ 7 (some 22) (btz 18 255) HT_ ?_
     refine pu_ 8 (some 23) (btz 18 511) HT_ ?_
     refine pu_ 9 (some 24) (btz 18 1023) HT_ ?_
     refine pu_ 10 (some 25) (btz 18 2047) HT_ ?_
     refine pu_ 11 (some 26) (btz 18 4095) HT_ ?_
     refine pu_ 13 (some 28) (btz 18 12287) HT_ ?_
     refine ta_ 12 (some 27) (btz 18 16383) HT_ HW_ hHeld rfl rfl (by rintro w' ⟨s0, s1, s2, s3⟩; go_simp; with_reducible rfl) ?_
     refine ta_ 14 (some 29) (btz 18 32767) HT_ HW_ hHeld rfl rfl (by rintro w' ⟨s0, s1, s2, s3⟩; go_simp; with_reducible rfl) ?_
     refine pu_ 15 (some 30) (btz 18 65535) HT_ ?_
     refine pu_ 16 (some 31) (btz 18 131071) HT_ ?_
     refine pu_ 17 (some 32) (btz 18 262143) HT_ ?_
     refine qjg (qgc HT_.out (by kernel_rfl)) ?_
     try go_wp2
     go_ret
     exact ⟨by first | rfl | (simp [qgp, qgo] <;> rfl) | (simp only [← hji9]; first | rfl | (simp [qgp, qgo] <;> rfl)) | (simp [*, qgp, qgo] <;> rfl), bwx_⟩
    ·rw [if_neg c3] at H
     have c3b0 : decide (x10_1 < (l0.length : Int)) = false := decide_eq_false c3
     clear c3
     obtain rfl := Option.some.inj H
     go_wp2
     go_ret
     exact ⟨ew_, bw_⟩
def qdp.f (a0 : ByteArray) : Option (Bool) := if a0.toList = ([] : List UInt8) then (some true) else ((qdd.f a0).bind fun t133 => (some t133))
set_option maxRecDepth 100000 in
theorem qdp.calls (a0 : ByteArray) (r : Bool) (w : World) (h : qdp.f a0 = some r) :
  Calls Tryd.prog 133 #[.string a0] w fun e w' => e = .returned (.bool r) ∧ qcs w w' := by
 have H : (if a0.toList = ([] : List UInt8) then (some true) else ((qdd.f a0).bind fun t133 => (some t133))) = some r := h
 clear h
 by_cases c2 : a0.toList = ([] : List UInt8)
 ·rw [if_pos c2] at H
  have c2b0 : (a0.toList == ([] : List UInt8)) = true := beq_iff_eq.mpr c2
  have c2b1 : (a0.toList != ([] : List UInt8)) = false := bne_eq_false_iff_eq.mpr c2
  clear c2
  obtain rfl := Option.some.inj H
  go_enter Tryd.func133, Tryd.ntmps133
  go_wp2
  go_ret
  exact ⟨sm_, dn_⟩
 ·rw [if_neg c2] at H
  have c2b0 : (a0.toList == ([] : List UInt8)) = false := beq_eq_false_iff_ne.mpr c2
  have c2b1 : (a0.toList != ([] : List UInt8)) = true := bne_iff_ne.mpr c2
  replace H := Option.bind_eq_some_iff.mp H
  obtain ⟨t133, A30, H⟩ := H
  replace H : (some t133) = some r := H
  have A3 := qd.mk A30
  clear A30
  obtain rfl := Option.some.inj H
  go_enter Tryd.func133, Tryd.ntmps133
  go_wp2_with (first | (go_at_call 80; (with_reducible refine (qdd.calls a0 t133 _ A3.out).mono ?_); rintro e w' ⟨rfl, ⟨nd, rfl⟩⟩))
  go_ret
  exact ⟨sm_, dn_⟩
def qdg.f (a0 : Int) (a1 : Int) : Option (Bool) := if a0 ≥ (wrap64 (-a1)) then (some (decide (a0 ≤ a1))) else (some false)
set_option maxRecDepth 100000 in
theorem qdg.calls (a0 : Int) (a1 : Int) (r : Bool) (w : World) (h : qdg.f a0 a1 = some r) :
  Calls Tryd.prog 134 #[.int .i64 a0, .int .i64 a1] w fun e w' => e = .returned (.bool r) ∧ qcs w w' := by
 have H : (if a0 ≥ (wrap64 (-a1)) then (some (decide (a0 ≤ a1))) else (some false)) = some r := h
 clear h
 by_cases c3 : a0 ≥ (wrap64 (-a1))
 ·rw [if_pos c3] at H
  have c3b0 : decide ((wrap64 (-a1)) ≤ a0) = true := decide_eq_true c3
  clear c3
  obtain rfl := Option.some.inj H
  go_enter Tryd.func134, Tryd.ntmps134
  go_wp2
  go_ret
  exact ⟨sm_, dn_⟩
 ·rw [if_neg c3] at H
  have c3b0 : decide ((wrap64 (-a1)) ≤ a0) = false := decide_eq_false c3
  clear c3
  obtain rfl := Option.some.inj H
  go_enter Tryd.func134, Tryd.ntmps134
  go_wp2
  go_ret
  exact ⟨sm_, dn_⟩
end
section
open Go.Sort
set_option linter.unusedSectionVars false
section
variable {α : Type} [Inhabited α] {lt : α → α → Bool}
def rotI (a m b t : Nat) : Nat := if a ≤ t ∧ t < a + (b - m) then t + (m - a) else if a + (b - m) ≤ t ∧ t < b then t - (b - m) else t
structure Rot (a m b : Nat) (d e : Array α) : Prop where
 get : ∀ t, e[t]! = d[rotI a m b t]!
 perm : PermIn a b d e
theorem Rot.size {a m b : Nat} {d e : Array α} (h : Rot a m b d e) : e.size = d.size := h.perm.1
def swpN (d : Array α) (a b : Nat) : Nat → Array α
 | 0 => d
 | n + 1 => swp (swpN d a b n) (a + n) (b + n)
theorem qju (d : Array α) (a b : Nat) : ∀ n, (swpN d a b n).size = d.size
 | 0 => rfl
 | n + 1 => by rw [swpN, size_swp, qju d a b n]
theorem qld (d : Array α) (a b : Nat) : ∀ n, a + n ≤ b → b + n ≤ d.size → ∀ t, (swpN d a b n)[t]! = d[if a ≤ t ∧ t < a + n then t + (b - a) else if b ≤ t ∧ t < b + n then t - (b - a) else t]!
 | 0, _, _, t => by
  rw [if_neg (by omega), if_neg (by omega)]
  rfl
 | n + 1, h1, h2, t => by
  have ih := qld d a b n (by omega) (by omega)
  have hs := qju d a b n
  rw [swpN, swp_get _ (by omega) (by omega)]
  by_cases h3 : t = b + n
  ·rw [if_pos h3, ih, if_neg (by omega), if_neg (by omega), if_neg (by omega), if_pos (by omega)]
   congr 1
   omega
  rw [if_neg h3]
  by_cases h4 : t = a + n
  ·rw [if_pos h4, ih, if_neg (by omega), if_neg (by omega), if_pos (by omega)]
   congr 1
   omega
  rw [if_neg h4, ih]
  congr 1
  by_cases h5 : a ≤ t ∧ t < a + n
  ·rw [if_pos h5, if_pos (by omega)]
  rw [if_neg h5]
  by_cases h6 : b ≤ t ∧ t < b + n
  ·rw [if_pos h6, if_neg (by omega), if_pos (by omega)]
  rw [if_neg h6, if_neg (by omega), if_neg (by omega)]
theorem qjv (d : Array α) (a b lo hi : Nat) : ∀ n, lo ≤ a → a + n ≤ b → b + n ≤ hi → hi ≤ d.size → PermIn lo hi d (swpN d a b n)
 | 0, _, _, _, _ => permIn_refl _ _ _
 | n + 1, h0, h1, h2, h3 => permIn_trans _ _ _ _ _ (qjv d a b lo hi n h0 (by omega) (by omega) h3) (swp_permIn _ _ _ _ _ (by omega) (by omega) (by omega) (by omega) (by rw [qju]; exact h3))
structure qlc (a m b i j : Nat) (d e : Array α) : Prop where
 hi : 1 ≤ i ∧ i ≤ m - a
 hj : 1 ≤ j ∧ j ≤ b - m
 get : ∀ t, e[rotI (m - i) m (m + j) t]! = d[rotI a m b t]!
 perm : PermIn a b d e
section
variable {a m b i j : Nat} {d e : Array α}
theorem qlc.start (d : Array α) (h1 : a < m) (h2 : m < b) : qlc a m b (m - a) (b - m) d d := by
 refine ⟨by omega, by omega, fun t => ?_, permIn_refl _ _ _⟩
 rw [show m - (m - a) = a by omega, show m + (b - m) = b by omega]
theorem qlc.left (h : qlc a m b i j d e) (h1 : a < m) (h2 : m < b) (h3 : b ≤ d.size) (hij : j < i) : qlc a m b (i - j) j d (swpN e (m - i) m j) := by
 have hi := h.hi
 have hj := h.hj
 have hs := h.perm.1
 refine ⟨by omega, by omega, fun t => ?_, permIn_trans _ _ _ _ _ h.perm (qjv e _ _ _ _ j (by omega) (by omega) (by omega) (by omega))⟩
 rw [← h.get t, qld e _ _ j (by omega) (by omega)]
 congr 1
 unfold rotI
 split <;> split <;> (try split) <;> (try split) <;> (try split) <;> (try split) <;> omega
theorem qlc.right (h : qlc a m b i j d e) (h1 : a < m) (h2 : m < b) (h3 : b ≤ d.size) (hij : i < j) : qlc a m b i (j - i) d (swpN e (m - i) (m + j - i) i) := by
 have hi := h.hi
 have hj := h.hj
 have hs := h.perm.1
 refine ⟨by omega, by omega, fun t => ?_, permIn_trans _ _ _ _ _ h.perm (qjv e _ _ _ _ i (by omega) (by omega) (by omega) (by omega))⟩
 rw [← h.get t, qld e _ _ i (by omega) (by omega)]
 congr 1
 unfold rotI
 split <;> split <;> (try split) <;> (try split) <;> (try split) <;> (try split) <;> omega
theorem qlc.last (h : qlc a m b i i d e) (h1 : a < m) (h2 : m < b) (h3 : b ≤ d.size) : Rot a m b d (swpN e (m - i) m i) := by
 have hi := h.hi
 have hj := h.hj
 have hs := h.perm.1
 refine ⟨fun t => ?_, permIn_trans _ _ _ _ _ h.perm (qjv e _ _ _ _ i (by omega) (by omega) (by omega) (by omega))⟩
 rw [← h.get t, qld e _ _ i (by omega) (by omega)]
 congr 1
 unfold rotI
 split <;> split <;> (try split) <;> (try split) <;> (try split) <;> (try split) <;> omega
end
def upN (d : Array α) (a : Nat) : Nat → Array α
 | 0 => d
 | n + 1 => swp (upN d a n) (a + n) (a + n + 1)
theorem upN_size (d : Array α) (a : Nat) : ∀ n, (upN d a n).size = d.size
 | 0 => rfl
 | n + 1 => by rw [upN, size_swp, upN_size d a n]
theorem upN_rot (d : Array α) (a : Nat) : ∀ n, a + n < d.size → Rot a (a + 1) (a + n + 1) d (upN d a n)
 | 0, h => by
  refine ⟨fun t => ?_, permIn_refl _ _ _⟩
  unfold upN
  congr 1
  unfold rotI
  rw [if_neg (by omega)]
  split <;> omega
 | n + 1, h => by
  have ih := upN_rot d a n (by omega)
  have hs := upN_size d a n
  refine ⟨fun t => ?_, permIn_trans _ _ _ _ _ (permIn_mono _ _ _ _ _ _ (Nat.le_refl _) (by omega) (by omega) ih.perm) (swp_permIn _ _ _ _ _ (by omega) (by omega) (by omega) (by omega) (by omega))⟩
  rw [upN, swp_get _ (by omega) (by omega)]
  by_cases h3 : t = a + n + 1
  ·rw [if_pos h3, ih.get]
   congr 1
   unfold rotI
   split <;> (try split) <;> (try split) <;> (try split) <;> omega
  rw [if_neg h3]
  by_cases h4 : t = a + n
  ·rw [if_pos h4, ih.get]
   congr 1
   unfold rotI
   split <;> (try split) <;> (try split) <;> (try split) <;> omega
  rw [if_neg h4, ih.get]
  congr 1
  unfold rotI
  split <;> (try split) <;> (try split) <;> (try split) <;> omega
def qla (d : Array α) (m : Nat) : Nat → Array α
 | 0 => d
 | n + 1 => swp (qla d m n) (m - n) (m - n - 1)
theorem qkl (d : Array α) (m : Nat) : ∀ n, (qla d m n).size = d.size
 | 0 => rfl
 | n + 1 => by rw [qla, size_swp, qkl d m n]
theorem downN_rot (d : Array α) (m : Nat) (hm : m < d.size) : ∀ n, n ≤ m → Rot (m - n) m (m + 1) d (qla d m n)
 | 0, _ => by
  refine ⟨fun t => ?_, permIn_refl _ _ _⟩
  unfold rotI
  split
  ·congr 1
   omega
  ·rw [if_neg (by omega)]
   rfl
 | n + 1, hn => by
  have ih := downN_rot d m hm n (by omega)
  have hs := qkl d m n
  refine ⟨fun t => ?_, permIn_trans _ _ _ _ _ (permIn_mono _ _ _ _ _ _ (by omega) (Nat.le_refl _) (by omega) ih.perm) (swp_permIn _ _ _ _ _ (by omega) (by omega) (by omega) (by omega) (by omega))⟩
  rw [qla, swp_get _ (by omega) (by omega)]
  by_cases h3 : t = m - n - 1
  ·rw [if_pos h3, ih.get]
   congr 1
   unfold rotI
   split <;> (try split) <;> (try split) <;> (try split) <;> omega
  rw [if_neg h3]
  by_cases h4 : t = m - n
  ·rw [if_pos h4, ih.get]
   congr 1
   unfold rotI
   split <;> (try split) <;> (try split) <;> (try split) <;> omega
  rw [if_neg h4, ih.get]
  congr 1
  unfold rotI
  split <;> (try split) <;> (try split) <;> (try split) <;> omega
structure Mrg (lt : α → α → Bool) (a b : Nat) (d d' : Array α) : Prop where
 perm : PermIn a b d d'
 sorted : SortedIn lt a b d'
theorem qei {a b a' b' : Nat} {d : Array α} (h : SortedIn lt a b d) (ha : a ≤ a') (hb : b' ≤ b) : SortedIn lt a' b' d := fun i j h1 h2 h3 => h i j (by omega) h2 (by omega)
theorem qfc (hO : SWO lt) {a b i j : Nat} {d : Array α} (h : SortedIn lt a b d) (h1 : a ≤ i) (h2 : i ≤ j) (h3 : j < b) : lt d[j]! d[i]! = false := by
 rcases Nat.lt_or_eq_of_le h2 with h4 | rfl
 ·exact h i j h1 h4 h3
 ·exact hO.irrefl _
def Crs (lt : α → α → Bool) (a c b : Nat) (d : Array α) : Prop := ∀ i j, a ≤ i → i < c → c ≤ j → j < b → lt d[j]! d[i]! = false
theorem qgy {a c b : Nat} {d : Array α} (h1 : SortedIn lt a c d) (h2 : SortedIn lt c b d) (h3 : Crs lt a c b d) : SortedIn lt a b d := by
 intro i j ha hij hb
 by_cases h4 : j < c
 ·exact h1 i j ha hij h4
 by_cases h5 : c ≤ i
 ·exact h2 i j h5 hij hb
 exact h3 i j ha (by omega) (by omega) hb
theorem crs_perm {a c b : Nat} {d e f : Array α} (h : Crs lt a c b d) (hac : a ≤ c) (hcb : c ≤ b) (hb : b ≤ d.size) (h1 : PermIn a c d e) (h2 : PermIn c b e f) : Crs lt a c b f := by
 have k1 : Crs lt a c b e := by
  intro i j ha hic hcj hjb
  have := permIn_all d e a c (fun x => lt d[j]! x = false) (by omega) h1 (fun i ha hic => h i j ha hic hcj hjb) i ha hic
  rw [h1.2.1 j (.inr hcj)]
  exact this
 intro i j ha hic hcj hjb
 have := permIn_all e f c b (fun x => lt x e[i]! = false) (by rw [h1.1]; exact hb) h2 (fun j hcj hjb => k1 i j ha hic hcj hjb) j hcj hjb
 rw [h2.2.1 i (.inl hic)]
 exact this
structure Cutd (lt : α → α → Bool) (a s m n b : Nat) (d : Array α) : Prop where
 has : a ≤ s
 hsm : s ≤ m
 hmn : m ≤ n
 hnb : n ≤ b
 lo : SortedIn lt a m d
 hi : SortedIn lt m b d
 c1 : ∀ i j, a ≤ i → i < s → n ≤ j → j < b → lt d[j]! d[i]! = false
 c2 : ∀ i j, s ≤ i → i < m → m ≤ j → j < n → lt d[i]! d[j]! = false
section
variable {a s m n b : Nat} {d e : Array α}
theorem Cutd.runs (h : Cutd lt a s m n b d) (hr : Rot s m n d e) : SortedIn lt a s e ∧ SortedIn lt s (s + (n - m)) e ∧ SortedIn lt (s + (n - m)) n e ∧ SortedIn lt n b e ∧ Crs lt a (s + (n - m)) b e := by
 have h1 := h.has
 have h2 := h.hsm
 have h3 := h.hmn
 have h4 := h.hnb
 have g0 : ∀ t, t < s → e[t]! = d[t]! := fun t ht => by
  rw [hr.get]
  congr 1
  unfold rotI
  rw [if_neg (by omega), if_neg (by omega)]
 have g1 : ∀ t, s ≤ t → t < s + (n - m) → e[t]! = d[t + (m - s)]! := fun t ht ht2 => by
  rw [hr.get]
  congr 1
  unfold rotI
  rw [if_pos (by omega)]
 have g2 : ∀ t, s + (n - m) ≤ t → t < n → e[t]! = d[t - (n - m)]! := fun t ht ht2 => by
  rw [hr.get]
  congr 1
  unfold rotI
  rw [if_neg (by omega), if_pos (by omega)]
 have g3 : ∀ t, n ≤ t → e[t]! = d[t]! := fun t ht => by
  rw [hr.get]
  congr 1
  unfold rotI
  rw [if_neg (by omega), if_neg (by omega)]
 refine ⟨fun i j ha hij hb => ?_, fun i j ha hij hb => ?_, fun i j ha hij hb => ?_, fun i j ha hij hb => ?_, fun i j ha hic hcj hjb => ?_⟩
 ·rw [g0 i (by omega), g0 j (by omega)]
  exact h.lo i j ha hij (by omega)
 ·rw [g1 i (by omega) (by omega), g1 j (by omega) (by omega)]
  exact h.hi _ _ (by omega) (by omega) (by omega)
 ·rw [g2 i (by omega) (by omega), g2 j (by omega) (by omega)]
  exact h.lo _ _ (by omega) (by omega) (by omega)
 ·rw [g3 i (by omega), g3 j (by omega)]
  exact h.hi i j (by omega) hij hb
 ·by_cases c1 : i < s
  ·rw [g0 i c1]
   by_cases c2 : j < n
   ·rw [g2 j hcj c2]
    exact h.lo _ _ ha (by omega) (by omega)
   rw [g3 j (by omega)]
   exact h.c1 i j ha c1 (by omega) hjb
  rw [g1 i (by omega) hic]
  by_cases c2 : j < n
  ·rw [g2 j hcj c2]
   exact h.c2 _ _ (by omega) (by omega) (by omega) (by omega)
  rw [g3 j (by omega)]
  exact h.hi _ _ (by omega) (by omega) hjb
theorem qgm (h : s = m ∨ m = n) (hsm : s ≤ m) (hmn : m ≤ n) : Rot s m n d d := by
 refine ⟨fun t => ?_, permIn_refl _ _ _⟩
 congr 1
 unfold rotI
 split
 ·omega
 split <;> omega
theorem mrg_first (hO : SWO lt) (hm : a + 1 < b) (hb : b ≤ d.size) (h : SortedIn lt (a + 1) b d) {i : Nat} (h1 : a + 1 ≤ i) (h2 : i ≤ b) (h3 : ∀ t, a + 1 ≤ t → t < i → lt d[t]! d[a]! = true) (h4 : ∀ t, i ≤ t → t < b → lt d[t]! d[a]! = false) : Mrg lt a b d (upN d a (i - 1 - a)) := by
 have hr := upN_rot d a (i - 1 - a) (by omega)
 rw [show a + (i - 1 - a) + 1 = i by omega] at hr
 have hc : Cutd lt a a (a + 1) i b d := ⟨Nat.le_refl _, by omega, h1, h2, fun x y k1 k2 k3 => by omega, h, fun x y k1 k2 _ _ => by omega, fun x y k1 k2 k3 k4 => by
  obtain rfl : x = a := by omega
  exact hO.asymmA (h3 y k3 k4)⟩
 obtain ⟨_, r1, r2, r3, r4⟩ := hc.runs hr
 refine ⟨permIn_mono _ _ _ _ _ _ (Nat.le_refl _) h2 hb hr.perm, qgy r1 ?_ r4⟩
 refine qgy r2 r3 (fun x y k1 k2 k3 k4 => ?_)
 obtain rfl : x = i - 1 := by omega
 rw [hr.get, hr.get]
 have e1 : rotI a (a + 1) i (i - 1) = a := by unfold rotI; rw [if_neg (by omega), if_pos (by omega)]; omega
 have e2 : rotI a (a + 1) i y = y := by unfold rotI; rw [if_neg (by omega), if_neg (by omega)]
 rw [e1, e2]
 exact h4 y k3 k4
theorem mrg_last (hO : SWO lt) (hm : a < m) (hb : m + 1 ≤ d.size) (h : SortedIn lt a m d) {i : Nat} (h1 : a ≤ i) (h2 : i ≤ m) (h3 : ∀ t, a ≤ t → t < i → lt d[m]! d[t]! = false) (h4 : ∀ t, i ≤ t → t < m → lt d[m]! d[t]! = true) : Mrg lt a (m + 1) d (qla d m (m - i)) := by
 have hr := downN_rot d m (by omega) (m - i) (by omega)
 rw [show m - (m - i) = i by omega] at hr
 have hc : Cutd lt a i m (m + 1) (m + 1) d := ⟨h1, h2, by omega, Nat.le_refl _, h, fun x y k1 k2 k3 => by omega, fun x y k1 k2 k3 k4 => by omega, fun x y k1 k2 k3 k4 => by
  obtain rfl : y = m := by omega
  exact hO.asymmA (h4 x k1 k2)⟩
 obtain ⟨r0, r1, r2, r3, r4⟩ := hc.runs hr
 refine ⟨permIn_mono _ _ _ _ _ _ h1 (Nat.le_refl _) hb hr.perm, qgy ?_ r2 r4⟩
 refine qgy r0 r1 (fun x y k1 k2 k3 k4 => ?_)
 obtain rfl : y = i := by omega
 rw [hr.get, hr.get]
 have e1 : rotI y m (m + 1) y = m := by unfold rotI; rw [if_pos (by omega)]; omega
 have e2 : rotI y m (m + 1) x = x := by unfold rotI; rw [if_neg (by omega), if_neg (by omega)]
 rw [e1, e2]
 exact h3 x k1 k2
theorem Cutd.merged (h : Cutd lt a s m n b d) (hb : b ≤ d.size) (hr : Rot s m n d e) {e1 e2 : Array α} (k1 : Mrg lt a (s + (n - m)) e e1) (k2 : Mrg lt (s + (n - m)) b e1 e2) : Mrg lt a b d e2 := by
 have h1 := h.has
 have h2 := h.hsm
 have h3 := h.hmn
 have h4 := h.hnb
 obtain ⟨r0, r1, r2, r3, r4⟩ := h.runs hr
 have hs := hr.size
 have hs1 : e1.size = d.size := k1.perm.1.trans hs
 refine ⟨?_, qgy (fun i j ha hij hc => ?_) k2.sorted (crs_perm r4 (by omega) (by omega) (by omega) k1.perm k2.perm)⟩
 ·exact permIn_trans _ _ _ _ _ (permIn_mono _ _ _ _ _ _ h1 h4 hb hr.perm) (permIn_trans _ _ _ _ _ (permIn_mono _ _ _ _ _ _ (Nat.le_refl _) (by omega) (by omega) k1.perm) (permIn_mono _ _ _ _ _ _ (by omega) (Nat.le_refl _) (by omega) k2.perm))
 ·rw [k2.perm.2.1 i (.inl (by omega)), k2.perm.2.1 j (.inl (by omega))]
  exact k1.sorted i j ha hij hc
theorem Mrg.refl {lo hi : Nat} {f : Array α} (h : SortedIn lt lo hi f) : Mrg lt lo hi f f := ⟨permIn_refl _ _ _, h⟩
theorem sorted_empty {lo hi : Nat} {f : Array α} (h : hi ≤ lo + 1) : SortedIn lt lo hi f := fun i j h1 h2 h3 => by omega
end
structure Srch (lt : α → α → Bool) (d : Array α) (p s0 r0 x y : Nat) : Prop where
 hx : s0 ≤ x
 hxy : x ≤ y
 hy : y ≤ r0
 below : ∀ c, s0 ≤ c → c < x → lt d[p - c]! d[c]! = false
 above : ∀ c, y ≤ c → c < r0 → lt d[p - c]! d[c]! = true
section
variable {a m b : Nat} {d : Array α}
def sStart (a m b : Nat) : Nat := if m > (a + b) / 2 then (a + b) / 2 + m - b else a
def sEnd (a m b : Nat) : Nat := if m > (a + b) / 2 then (a + b) / 2 else m
theorem srch_start : sStart a m b ≤ sEnd a m b → Srch lt d ((a + b) / 2 + m - 1) (sStart a m b) (sEnd a m b) (sStart a m b) (sEnd a m b) := fun h => ⟨Nat.le_refl _, h, Nat.le_refl _, fun c h1 h2 => by omega, fun c h1 h2 => by omega⟩
theorem s_le (h1 : a < m) (h2 : m < b) : sStart a m b ≤ sEnd a m b := by unfold sStart sEnd; split <;> omega
theorem qhg (h1 : a < m) (h2 : m < b) {c : Nat} (h3 : sStart a m b ≤ c) (h4 : c < sEnd a m b) : a ≤ c ∧ c < m ∧ m ≤ (a + b) / 2 + m - 1 - c ∧ (a + b) / 2 + m - 1 - c < b := by
 unfold sStart at h3
 unfold sEnd at h4
 split at h3 <;> split at h4 <;> omega
theorem Srch.less (hO : SWO lt) (lo : SortedIn lt a m d) (hi : SortedIn lt m b d) (h1 : a < m) (h2 : m < b) {x y c : Nat} (h : Srch lt d ((a + b) / 2 + m - 1) (sStart a m b) (sEnd a m b) x y) (hc1 : x ≤ c) (hc2 : c < y) (hl : lt d[(a + b) / 2 + m - 1 - c]! d[c]! = false) : Srch lt d ((a + b) / 2 + m - 1) (sStart a m b) (sEnd a m b) (c + 1) y := by
 have k1 := h.hx
 have k3 := h.hy
 refine ⟨by omega, by omega, k3, fun t ht ht2 => ?_, h.above⟩
 by_cases h3 : t < x
 ·exact h.below t ht h3
 have b1 := qhg h1 h2 ht (show t < sEnd a m b by omega)
 have b2 := qhg h1 h2 (show sStart a m b ≤ c by omega) (show c < sEnd a m b by omega)
 have l1 := qfc hO lo b1.1 (show t ≤ c by omega) b2.2.1
 have l2 := qfc hO hi b2.2.2.1 (show (a + b) / 2 + m - 1 - c ≤ (a + b) / 2 + m - 1 - t by omega) b1.2.2.2
 exact hO.ntrans _ _ _ (hO.ntrans _ _ _ l2 hl) l1
theorem qjn (hO : SWO lt) {x y z : α} (h1 : lt x y = true) (h2 : lt z y = false) : lt x z = true := by
 cases h : lt x z
 ·have := hO.ntrans _ _ _ h h2
  rw [this] at h1
  cases h1
 ·rfl
theorem qjo (hO : SWO lt) {x y z : α} (h1 : lt y x = false) (h2 : lt y z = true) : lt x z = true := by
 cases h : lt x z
 ·have := hO.ntrans _ _ _ h1 h
  rw [this] at h2
  cases h2
 ·rfl
theorem Srch.more (hO : SWO lt) (lo : SortedIn lt a m d) (hi : SortedIn lt m b d) (h1 : a < m) (h2 : m < b) {x y c : Nat} (h : Srch lt d ((a + b) / 2 + m - 1) (sStart a m b) (sEnd a m b) x y) (hc1 : x ≤ c) (hc2 : c < y) (hl : lt d[(a + b) / 2 + m - 1 - c]! d[c]! = true) : Srch lt d ((a + b) / 2 + m - 1) (sStart a m b) (sEnd a m b) x c := by
 have k1 := h.hx
 have k3 := h.hy
 refine ⟨k1, hc1, by omega, h.below, fun t ht ht2 => ?_⟩
 by_cases h3 : y ≤ t
 ·exact h.above t h3 ht2
 have b1 := qhg h1 h2 (show sStart a m b ≤ t by omega) ht2
 have b2 := qhg h1 h2 (show sStart a m b ≤ c by omega) (show c < sEnd a m b by omega)
 have l1 := qfc hO lo b2.1 ht b1.2.1
 have l2 := qfc hO hi b1.2.2.1 (show (a + b) / 2 + m - 1 - t ≤ (a + b) / 2 + m - 1 - c by omega) b2.2.2.2
 exact qjn hO (qjo hO l2 hl) l1
theorem Srch.cut (hO : SWO lt) (lo : SortedIn lt a m d) (hi : SortedIn lt m b d) (h1 : a < m) (h2 : m < b) {x : Nat} (h : Srch lt d ((a + b) / 2 + m - 1) (sStart a m b) (sEnd a m b) x x) : Cutd lt a x m ((a + b) / 2 + m - x) b d ∧ x + ((a + b) / 2 + m - x - m) = (a + b) / 2 := by
 have k1 := h.hx
 have k3 := h.hy
 have hs : (a ≤ sStart a m b ∧ sEnd a m b ≤ m) ∧ (sStart a m b = a ∨ (a + b) / 2 + m - sStart a m b = b) ∧ (sEnd a m b = m ∨ (a + b) / 2 + m - sEnd a m b = m) ∧ sEnd a m b ≤ (a + b) / 2 ∧ (a + b) / 2 + m ≤ b + sStart a m b := by
  unfold sStart sEnd
  split <;> omega
 obtain ⟨⟨hs1, hs2⟩, hs3, hs4, hs5, hs6⟩ := hs
 refine ⟨⟨by omega, by omega, by omega, by omega, lo, hi, fun i j q1 q2 q3 q4 => ?_, fun i j q1 q2 q3 q4 => ?_⟩, by omega⟩
 ·-- [a, x) against [n - x, b): by the element x - 1
  by_cases hx0 : x = sStart a m b
  ·exfalso
   rcases hs3 with hs3 | hs3 <;> omega
  have hb := h.below (x - 1) (by omega) (by omega)
  have b1 := qhg h1 h2 (show sStart a m b ≤ x - 1 by omega) (show x - 1 < sEnd a m b by omega)
  have l1 := qfc hO lo q1 (show i ≤ x - 1 by omega) b1.2.1
  have l2 := qfc hO hi b1.2.2.1 (show (a + b) / 2 + m - 1 - (x - 1) ≤ j by omega) q4
  exact hO.ntrans _ _ _ (hO.ntrans _ _ _ l2 hb) l1
 ·by_cases hx0 : x = sEnd a m b
  ·exfalso
   rcases hs4 with hs4 | hs4 <;> omega
  have hb := h.above x (Nat.le_refl _) (by omega)
  have b1 := qhg h1 h2 k1 (show x < sEnd a m b by omega)
  have l1 := qfc hO lo b1.1 q1 q2
  have l2 := qfc hO hi q3 (show j ≤ (a + b) / 2 + m - 1 - x by omega) b1.2.2.2
  exact hO.asymmA (qjn hO (qjo hO l2 hb) l1)
end
def Blks (lt : α → α → Bool) (s n : Nat) (d : Array α) : Prop := ∀ k, SortedIn lt (s * k) (min (s * k + s) n) d
theorem blks_all {s n : Nat} {d : Array α} (h : Blks lt s n d) (hs : n ≤ s) : SortedIn lt 0 n d := by
 have := h 0
 rw [Nat.mul_zero, Nat.zero_add, Nat.min_eq_right hs] at this
 exact this
end
end
section
open Go.Sort
instance : Inhabited S112 := ⟨z112⟩
def e34 (x : S112) : List Value := [.string x.f0.f0, .string x.f0.f1, .string x.f0.f2, .string x.f0.f3, .string x.f0.f4, .int .i64 x.f1, .int .i64 x.f2]
theorem qmm (x : S112) : (e34 x).length = 7 := rfl
theorem e34_one (x : S112) : ∀ v ∈ e34 x, v.oneCell' = true := by
 intro v hv
 simp only [e34, List.mem_cons, List.not_mem_nil, or_false] at hv
 rcases hv with rfl | rfl | rfl | rfl | rfl | rfl | rfl <;> rfl
section
variable {w0 W : World} {blk off : Nat} {dk d0 : Array S112}
theorem qdj {P : World → Prop} (W : World) (h : ∀ w2, w2 = W → P w2) : P W := h W rfl
structure At34 (W : World) (blk off i : Nat) (x : S112) : Prop where
 c0 : W.cell? ⟨blk, off + i * 7, none⟩ = some (.string x.f0.f0)
 c1 : W.cell? ⟨blk, off + i * 7 + 1, none⟩ = some (.string x.f0.f1)
 c2 : W.cell? ⟨blk, off + i * 7 + 2, none⟩ = some (.string x.f0.f2)
 c3 : W.cell? ⟨blk, off + i * 7 + 3, none⟩ = some (.string x.f0.f3)
 c4 : W.cell? ⟨blk, off + i * 7 + 4, none⟩ = some (.string x.f0.f4)
 c5 : W.cell? ⟨blk, off + i * 7 + 5, none⟩ = some (.int .i64 x.f1)
 c6 : W.cell? ⟨blk, off + i * 7 + 6, none⟩ = some (.int .i64 x.f2)
theorem qkq (W : World) (blk P : Nat) (x : S112) : W.setCells blk P (e34 x) = ((((((W.setCell ⟨blk, P, none⟩ (.string x.f0.f0)).setCell ⟨blk, P + 1, none⟩ (.string x.f0.f1)).setCell ⟨blk, P + 2, none⟩ (.string x.f0.f2)).setCell ⟨blk, P + 3, none⟩ (.string x.f0.f3)).setCell ⟨blk, P + 4, none⟩ (.string x.f0.f4)).setCell ⟨blk, P + 5, none⟩ (.int .i64 x.f1)).setCell ⟨blk, P + 6, none⟩ (.int .i64 x.f2) := rfl
theorem qle (W : World) (p : Addr) (u : Value) : W.drew.setCell p u = (W.setCell p u).drew := rfl
structure Fr34 (W : World) (blk off i : Nat) : Prop where
 f0 : W.frozen? ⟨blk, off + i * 7, none⟩ = false
 f1 : W.frozen? ⟨blk, off + i * 7 + 1, none⟩ = false
 f2 : W.frozen? ⟨blk, off + i * 7 + 2, none⟩ = false
 f3 : W.frozen? ⟨blk, off + i * 7 + 3, none⟩ = false
 f4 : W.frozen? ⟨blk, off + i * 7 + 4, none⟩ = false
 f5 : W.frozen? ⟨blk, off + i * 7 + 5, none⟩ = false
 f6 : W.frozen? ⟨blk, off + i * 7 + 6, none⟩ = false
theorem qgf (h : SWK e34 7 w0 blk off dk W) (R : RowK e34 7 w0 blk off d0) (hs : dk.size = d0.size) {i : Nat} (hi : i < dk.size) : At34 W blk off i dk[i]! ∧ Fr34 W blk off i := by
 have hH := h.holds R.hblk R.hH hs
 refine ⟨⟨?_, ?_, ?_, ?_, ?_, ?_, ?_⟩, ⟨?_, ?_, ?_, ?_, ?_, ?_, ?_⟩⟩
 ·exact (hH.cell hi (show 0 < 7 by decide)).1
 ·exact (hH.cell hi (show 1 < 7 by decide)).1
 ·exact (hH.cell hi (show 2 < 7 by decide)).1
 ·exact (hH.cell hi (show 3 < 7 by decide)).1
 ·exact (hH.cell hi (show 4 < 7 by decide)).1
 ·exact (hH.cell hi (show 5 < 7 by decide)).1
 ·exact (hH.cell hi (show 6 < 7 by decide)).1
 ·exact (hH.cell hi (show 0 < 7 by decide)).2
 ·exact (hH.cell hi (show 1 < 7 by decide)).2
 ·exact (hH.cell hi (show 2 < 7 by decide)).2
 ·exact (hH.cell hi (show 3 < 7 by decide)).2
 ·exact (hH.cell hi (show 4 < 7 by decide)).2
 ·exact (hH.cell hi (show 5 < 7 by decide)).2
 ·exact (hH.cell hi (show 6 < 7 by decide)).2
end
set_option maxRecDepth 1000000 in
theorem qgx (blk off cap a b n : Nat) (d0 d : Array S112) (w0 w : World) (cmp : Value) (R : RowK e34 7 w0 blk off d0) (hs : d0.size = d.size) (S : SWK e34 7 w0 blk off d w) (h1 : a + n ≤ b) (h2 : b + n ≤ d.size) (hsz : d.size < 2305843009213693952) :
  Calls Tryd.prog 184 #[.slice (some ⟨blk, off, none⟩) d.size cap, .int .i64 a, .int .i64 b, .int .i64 n, cmp] w fun e w' => e = .returned (.tuple #[]) ∧ SWK e34 7 w0 blk off (swpN d a b n) w' := by
 have S0 := qd.mk S
 have HR := qd.mk R
 clear S R
 go_enter Tryd.func184, Tryd.ntmps184
 go_wp2
 go_loopw [10, 11, 12, 13, 14, 15, 16, 17, 18, 19, 20, 21, 22, 23, 24, 25, 26, 27, 28, 29, 30, 31, 32, 33, 34, 35, 36, 37] (fun v10 _ _ _ _ _ _ _ _ _ _ _ _ _ _ _ _ _ _ _ _ _ _ _ _ _ _ _ wr => ∃ i : Nat, i ≤ n ∧ v10 = .int .i64 i ∧ qd (SWK e34 7 w0 blk off (swpN d a b i) wr)) (fun v10 _ _ _ _ _ _ _ _ _ _ _ _ _ _ _ _ _ _ _ _ _ _ _ _ _ _ _ _ => n - (intOf v10).toNat)
 case atStart => exact ⟨0, Nat.zero_le _, rfl, S0⟩
 clear S0
 obtain ⟨i, hi, rfl, S1⟩ := hrel
 by_cases hlt : i < n
 rotate_left
 ·obtain rfl : i = n := by omega
  have d1 : decide ((i : Int) < (i : Int)) = false := decide_eq_false (by omega)
  go_wp2
  go_end0
  exact ⟨rfl, S1.out⟩
 have d1 : decide ((i : Int) < (n : Int)) = true := decide_eq_true (by omega)
 have d2 : decide (i < n) = true := decide_eq_true hlt
 have hdz : (swpN d a b i).size = d.size := qju d a b i
 obtain ⟨x, hx⟩ : ∃ x, (swpN d a b i)[a + i]! = x := ⟨_, rfl⟩
 obtain ⟨y, hy⟩ : ∃ y, (swpN d a b i)[b + i]! = y := ⟨_, rfl⟩
 have hsw := S1.out.swapped HR.out (a + i) (b + i) (by omega) (by omega)
 rw [hx, hy, qkq, qkq] at hsw
 simp only [qle] at hsw
 have HSW := qd.mk hsw
 obtain ⟨cx, fx⟩ := qgf S1.out HR.out (by omega) (show a + i < (swpN d a b i).size by omega)
 obtain ⟨cy, fy⟩ := qgf S1.out HR.out (by omega) (show b + i < (swpN d a b i).size by omega)
 rw [hx] at cx
 rw [hy] at cy
 have e1 : ((a : Int) + (i : Int)).toNat = a + i := by omega
 have e2 : ((b : Int) + (i : Int)).toNat = b + i := by omega
 have r1 : IntKind.i64.wrap ((a : Int) + (i : Int)) = (a : Int) + (i : Int) := by rw [IntKind.wrap_i64]; omega
 have r2 : IntKind.i64.wrap ((b : Int) + (i : Int)) = (b : Int) + (i : Int) := by rw [IntKind.wrap_i64]; omega
 have p1 : (0 : Int) ≤ (a : Int) + (i : Int) := by omega
 have p2 : (0 : Int) ≤ (b : Int) + (i : Int) := by omega
 have p3 : (a : Int) + (i : Int) < (d.size : Int) := by omega
 have p4 : (b : Int) + (i : Int) < (d.size : Int) := by omega
 obtain ⟨x0, x1, x2, x3, x4, x5, x6⟩ := cx
 obtain ⟨y0, y1, y2, y3, y4, y5, y6⟩ := cy
 obtain ⟨fx0, fx1, fx2, fx3, fx4, fx5, fx6⟩ := fx
 obtain ⟨fy0, fy1, fy2, fy3, fy4, fy5, fy6⟩ := fy
 have HX := qd.mk hx
 have HY := qd.mk hy
 have HDZ := qd.mk hdz
 clear hx hy hdz hsw
 go_wp2_with fail
 have mixed : Tryd.prog.follows .mixedOrders = true := by kernel_rfl
 go_big_region_o
 refine qdj (P := fun x => Exit.inBlock _ _ _ _ x) _ ?_
 intro w2 hw2
 have S2 := qd.mk (show SWK e34 7 w0 blk off (swpN d a b (i + 1)) w2 from by rw [hw2]; exact HSW.out)
 clear hw2 HSW S1 x0 x1 x2 x3 x4 x5 x6 y0 y1 y2 y3 y4 y5 y6 fx0 fx1 fx2 fx3 fx4 fx5 fx6 fy0 fy1 fy2 fy3 fy4 fy5 fy6
 go_wp2
 go_roundw
 case rel => exact ⟨i + 1, by omega, by go_num, S2⟩
 case measure => simp [intOf]; omega
def Grw (w w' : World) : Prop := ∃ q os, w' = grow (w.drewN q) os
theorem Grw.refl (w : World) : Grw w w := ⟨0, #[], by rw [grow_empty]; rfl⟩
theorem Grw.trans {a b c : World} (h : Grw a b) (k : Grw b c) : Grw a c := by
 obtain ⟨q, os, rfl⟩ := h
 obtain ⟨q2, os2, rfl⟩ := k
 exact ⟨q + q2, os ++ os2, by show grow (grow ((a.drewN q).drewN q2) os) os2 = _; rw [grow_grow, World.drewN_drewN]⟩
theorem Grw.alloc {a w : World} (h : Grw a w) (o : Obj) : Grw a (w.alloc o) := h.trans ⟨0, #[o], by rw [alloc_eq_grow]; rfl⟩
theorem Grw.drew {a w : World} (h : Grw a w) : Grw a w.drew := h.trans ⟨1, #[], by rw [grow_empty]; rfl⟩
theorem Grw.drewN {a w : World} (h : Grw a w) (n : Nat) : Grw a (w.drewN n) := h.trans ⟨n, #[], by rw [grow_empty]⟩
theorem Grw.below {w w' : World} (h : Grw w w') : Below w.heap.size w w' := by
 obtain ⟨q, os, rfl⟩ := h
 refine ⟨rfl, rfl, rfl, by rw [size_grow]; exact Nat.le_add_right _ _, fun k hk => ?_⟩
 exact heap_grow_old (w.drewN q) os hk
theorem qmi {W : World} {n : Nat} {os : Array Obj} {a : Addr} {v : Value} (h : W.cell? a = some v) : (grow (W.drewN n) os).cell? a = some v := by rw [cell?_grow _ _ _ (by exact World.block_lt_of_cell? W a h)]; exact h
theorem qdk {W : World} {o : Obj} {a : Addr} {v : Value} (h : W.cell? a = some v) : (W.alloc o).cell? a = some v := (World.cell?_alloc_lt W o a (World.block_lt_of_cell? W a h)).trans h
theorem qdz {W : World} {a : Addr} {v : Value} (h : W.cell? a = some v) : W.drew.cell? a = some v := h
def cmpB (a b : ByteArray) : Int := Lib.compareBytes a.data.toList b.data.toList
set_option maxRecDepth 100000 in
theorem qjq (a b : ByteArray) (w : World) : Calls Tryd.prog 149 #[.string a, .string b] w fun e w' => e = .returned (.int .i64 (cmpB a b)) ∧ w' = w := by
 go_enter Tryd.func149, Tryd.ntmps149
 go_wp2
 rw [run_callFunc_extern Tryd.func177 (by kernel_rfl) (by kernel_rfl) (by kernel_rfl) (e := Extern.BytealgCompare.compare) (by kernel_rfl), Lib.run_compareString]
 simp only [Result.andThen]
 rw [Oper.upon_value]
 go_wp2
 go_ret
 exact ⟨rfl, rfl⟩
theorem compare_calls (a b : ByteArray) (w : World) : Calls Tryd.prog 110 #[.string a, .string b] w fun e w' => e = .returned (.int .i64 (cmpB a b)) ∧ w' = w := by
 go_enter Tryd.func110, Tryd.ntmps110
 go_wp2_with (go_at_call 149; refine (qjq a b _).mono ?_; rintro e w' ⟨rfl, rfl⟩)
 go_ret
 exact ⟨rfl, rfl⟩
theorem qic (x : S40) (w : World) : Calls Tryd.prog 99 #[.agg #[.string x.f0, .string x.f1, .string x.f2, .string x.f3, .string x.f4]] w fun e w' => e = .returned (.agg #[.string x.f0, .string x.f1, .string x.f2, .string x.f3, .string x.f4]) ∧ w' = (w.alloc (.cells #[.string x.f0, .string x.f1, .string x.f2, .string x.f3, .string x.f4] 40)).alloc (.cells #[.string x.f0, .string x.f1, .string x.f2, .string x.f3, .string x.f4] 166) := by
 go_enter Tryd.func99, Tryd.ntmps99
 go_wp2
 refine bodyPost_ret (v := .agg #[.string x.f0, .string x.f1, .string x.f2, .string x.f3, .string x.f4]) (by simp [results, Tryd.results99, go_sem]) rfl ?_
 exact ⟨rfl, rfl⟩
theorem qhy (w : World) (o : Obj) (n : Nat) (h : n = w.heap.size) : (w.alloc o).heap[n]? = some o := by rw [h]; exact qdu w o
def kfld (x : S40) : Nat → ByteArray
 | 0 => x.f0
 | 1 => x.f1
 | 2 => x.f2
 | 3 => x.f3
 | _ => x.f4
def cmpL : List (ByteArray × ByteArray) → Int
 | [] => 0
 | p :: r => if cmpB p.1 p.2 = 0 then cmpL r else cmpB p.1 p.2
def flds (x y : S40) : List (ByteArray × ByteArray) := [(x.f0, y.f0), (x.f1, y.f1), (x.f2, y.f2), (x.f3, y.f3), (x.f4, y.f4)]
def cmpK (x y : S40) : Int := cmpL (flds x y)
theorem flds_drop (x y : S40) {k : Nat} (h : k < 5) : (flds x y).drop k = (kfld x k, kfld y k) :: (flds x y).drop (k + 1) := by
 rcases (by omega : k = 0 ∨ k = 1 ∨ k = 2 ∨ k = 3 ∨ k = 4) with rfl | rfl | rfl | rfl | rfl <;> rfl
theorem qli {w : World} {b : Nat} {x : S40} (h : w.heap[b]? = some (.cells #[.string x.f0, .string x.f1, .string x.f2, .string x.f3, .string x.f4] 166 (0, 0))) {k : Nat} (hk : k < 5) : w.cell? ⟨b, k, none⟩ = some (.string (kfld x k)) := by
 refine (qg h k).trans ?_
 rcases (by omega : k = 0 ∨ k = 1 ∨ k = 2 ∨ k = 3 ∨ k = 4) with rfl | rfl | rfl | rfl | rfl <;> rfl
set_option maxRecDepth 100000 in
theorem cmp_calls (x y : S40) (w : World) : Calls Tryd.prog 62 #[.agg #[.string x.f0, .string x.f1, .string x.f2, .string x.f3, .string x.f4], .agg #[.string y.f0, .string y.f1, .string y.f2, .string y.f3, .string y.f4]] w fun e w' => e = .returned (.int .i64 (cmpK x y)) ∧ Grw w w' := by
 go_enter Tryd.func62, Tryd.ntmps62
 go_upto_region 1 with (fail)
 refine qdj (P := fun x => Code.wp _ _ _ _ x) _ ?_
 intro w1 hw1
 obtain ⟨g, hg⟩ : ∃ g, w.heap.size = g := ⟨_, rfl⟩
 have BX := qd.mk (show w1.heap[g]? = some (.cells #[.string x.f0, .string x.f1, .string x.f2, .string x.f3, .string x.f4] 40 (0, 0)) from by rw [hw1, ← hg]; exact qm (qdu w _) _)
 have BY := qd.mk (show w1.heap[g + 1]? = some (.cells #[.string y.f0, .string y.f1, .string y.f2, .string y.f3, .string y.f4] 40 (0, 0)) from by
  rw [hw1, ← hg]
  have := qdu (w.alloc (.cells #[.string x.f0, .string x.f1, .string x.f2, .string x.f3, .string x.f4] 40)) (.cells #[.string y.f0, .string y.f1, .string y.f2, .string y.f3, .string y.f4] 40)
  rwa [show (w.alloc (.cells #[.string x.f0, .string x.f1, .string x.f2, .string x.f3, .string x.f4] 40)).heap.size = w.heap.size + 1 by simp] at this)
 have HG := qd.mk (show Grw w w1 from by rw [hw1]; exact ((Grw.refl w).alloc _).alloc _)
 rw [hg]
 clear hw1 hg
 have x0 : w1.cell? ⟨g, 0, none⟩ = some (.string x.f0) := (qg BX.out 0).trans rfl
 have x1 : w1.cell? ⟨g, 1, none⟩ = some (.string x.f1) := (qg BX.out 1).trans rfl
 have x2 : w1.cell? ⟨g, 2, none⟩ = some (.string x.f2) := (qg BX.out 2).trans rfl
 have x3 : w1.cell? ⟨g, 3, none⟩ = some (.string x.f3) := (qg BX.out 3).trans rfl
 have x4 : w1.cell? ⟨g, 4, none⟩ = some (.string x.f4) := (qg BX.out 4).trans rfl
 have y0 : w1.cell? ⟨g + 1, 0, none⟩ = some (.string y.f0) := (qg BY.out 0).trans rfl
 have y1 : w1.cell? ⟨g + 1, 1, none⟩ = some (.string y.f1) := (qg BY.out 1).trans rfl
 have y2 : w1.cell? ⟨g + 1, 2, none⟩ = some (.string y.f2) := (qg BY.out 2).trans rfl
 have y3 : w1.cell? ⟨g + 1, 3, none⟩ = some (.string y.f3) := (qg BY.out 3).trans rfl
 have y4 : w1.cell? ⟨g + 1, 4, none⟩ = some (.string y.f4) := (qg BY.out 4).trans rfl
 go_cut [5, 6, 9, 10, 11, 12] (fun v5 v6 _ _ _ _ wc => ∃ b c, v5 = .pointer (some ⟨b, 0, none⟩) ∧ v6 = .pointer (some ⟨c, 0, none⟩) ∧ qd (wc.heap[b]? = some (.cells #[.string x.f0, .string x.f1, .string x.f2, .string x.f3, .string x.f4] 166 (0, 0))) ∧ qd (wc.heap[c]? = some (.cells #[.string y.f0, .string y.f1, .string y.f2, .string y.f3, .string y.f4] 166 (0, 0))) ∧ qd (Grw w wc))
 case first =>
  go_region_held3 (fun w' => w'.cell? ⟨g, 0, none⟩ = some (.string x.f0) ∧ w'.cell? ⟨g, 1, none⟩ = some (.string x.f1) ∧ w'.cell? ⟨g, 2, none⟩ = some (.string x.f2) ∧ w'.cell? ⟨g, 3, none⟩ = some (.string x.f3) ∧ w'.cell? ⟨g, 4, none⟩ = some (.string x.f4) ∧ w'.cell? ⟨g + 1, 0, none⟩ = some (.string y.f0) ∧ w'.cell? ⟨g + 1, 1, none⟩ = some (.string y.f1) ∧ w'.cell? ⟨g + 1, 2, none⟩ = some (.string y.f2) ∧ w'.cell? ⟨g + 1, 3, none⟩ = some (.string y.f3) ∧ w'.cell? ⟨g + 1, 4, none⟩ = some (.string y.f4)) (exact ⟨by (repeat (with_reducible first | apply qdz | apply qdk)); with_reducible exact x0, by (repeat (with_reducible first | apply qdz | apply qdk)); with_reducible exact x1, by (repeat (with_reducible first | apply qdz | apply qdk)); with_reducible exact x2, by (repeat (with_reducible first | apply qdz | apply qdk)); with_reducible exact x3, by (repeat (with_reducible first | apply qdz | apply qdk)); with_reducible exact x4, by (repeat (with_reducible first | apply qdz | apply qdk)); with_reducible exact y0, by (repeat (with_reducible first | apply qdz | apply qdk)); with_reducible exact y1, by (repeat (with_reducible first | apply qdz | apply qdk)); with_reducible exact y2, by (repeat (with_reducible first | apply qdz | apply qdk)); with_reducible exact y3, by (repeat (with_reducible first | apply qdz | apply qdk)); with_reducible exact y4⟩) (first | (go_at_call 99; (with_reducible refine (qic x _).mono ?_); rintro e w' ⟨rfl, rfl⟩) | (go_at_call 99; (with_reducible refine (qic y _).mono ?_); rintro e w' ⟨rfl, rfl⟩))
  all_goals
   go_wp2
   go_meet
   case rel =>
    refine ⟨_, _, rfl, rfl, ⟨?_⟩, ⟨?_⟩, ⟨?_⟩⟩
    ·(repeat (first | with_reducible refine qz ?_ | (refine qhy _ _ _ ?_; simp; done) | with_reducible refine qm ?_ _))
    ·(repeat (first | with_reducible refine qz ?_ | (refine qhy _ _ _ ?_; simp; done) | with_reducible refine qm ?_ _))
    ·(repeat (first | exact HG.out | with_reducible apply Grw.drew | with_reducible apply Grw.alloc))
 obtain ⟨b, c, rfl, rfl, HB, HC, HGW⟩ := hcut
 clear x0 x1 x2 x3 x4 y0 y1 y2 y3 y4 BX BY
 have HG2 := HGW
 clear HG HGW
 have HE0 := qd.mk (show cmpL ((flds x y).drop 0) = cmpK x y from rfl)
 go_wp2
 go_loopw [7, 8, 13, 14, 15, 16, 17, 18, 19, 20, 21, 22, 23, 24, 25, 26] (fun _ _ v13 _ _ _ _ _ _ _ _ _ _ _ _ _ wr => ∃ k : Nat, k ≤ 5 ∧ v13 = .int .i64 k ∧ qd (cmpL ((flds x y).drop k) = cmpK x y) ∧ qd (wr.heap[b]? = some (.cells #[.string x.f0, .string x.f1, .string x.f2, .string x.f3, .string x.f4] 166 (0, 0))) ∧ qd (wr.heap[c]? = some (.cells #[.string y.f0, .string y.f1, .string y.f2, .string y.f3, .string y.f4] 166 (0, 0))) ∧ qd (Grw w wr)) (fun _ _ v13 _ _ _ _ _ _ _ _ _ _ _ _ _ _ => 5 - (intOf v13).toNat)
 case atStart => exact ⟨0, by omega, rfl, HE0, HB, HC, HG2⟩
 clear HE0 HB HC HG2
 obtain ⟨k, hk, rfl, HE, HB, HC, HG⟩ := hrel
 by_cases hlt : k < 5
 rotate_left
 ·obtain rfl : k = 5 := by omega
  have hd : (0 : Int) = cmpK x y := HE.out
  have HD := qd.mk hd
  clear hd
  go_wp2
  go_ret
  exact ⟨congrArg (fun z => Ending.returned (Value.int .i64 z)) HD.out, HG.out⟩
 have d1 : decide ((k : Int) < 5) = true := decide_eq_true (by omega)
 have d2 : decide (k < 5) = true := decide_eq_true hlt
 have p0 : (0 : Int) ≤ (k : Int) := by omega
 have p1 : (k : Int) < 5 := by omega
 have hd := HE.out
 rw [flds_drop x y hlt] at hd
 have hd : (if cmpB (kfld x k) (kfld y k) = 0 then cmpL ((flds x y).drop (k + 1)) else cmpB (kfld x k) (kfld y k)) = cmpK x y := hd
 have qb : wr.cell? ⟨b, k, none⟩ = some (.string (kfld x k)) := qli HB.out hlt
 have qc : wr.cell? ⟨c, k, none⟩ = some (.string (kfld y k)) := qli HC.out hlt
 obtain ⟨u, hu⟩ : ∃ u, kfld x k = u := ⟨_, rfl⟩
 obtain ⟨v, hv⟩ : ∃ v, kfld y k = v := ⟨_, rfl⟩
 rw [hu] at hd qb
 rw [hv] at hd qc
 clear hu hv
 obtain ⟨z, hz⟩ : ∃ z, cmpB u v = z := ⟨_, rfl⟩
 rw [hz] at hd
 have HZ := qd.mk hz
 clear hz
 go_wp2
 go_quiet ((go_at_call 110; (refine (compare_calls u v _).mono ?_); rw [HZ.out]; rintro e_ w_ ⟨rfl, rfl⟩; exact ⟨rfl, _, rfl⟩))
 by_cases hz0 : z = 0
 ·have dz : (z != (0 : Int)) = false := bne_eq_false_iff_eq.mpr hz0
  rw [if_pos hz0] at hd
  have HD := qd.mk hd
  clear hd hz0
  go_wp2
  go_roundw
  case rel => exact ⟨k + 1, by omega, by go_num, HD, HB, HC, ⟨HG.out.drewN _⟩⟩
  case measure => simp [intOf]; omega
 have dz : (z != (0 : Int)) = true := bne_iff_ne.mpr hz0
 rw [if_neg hz0] at hd
 subst hd
 clear hz0
 go_wp2
 go_ret
 exact ⟨rfl, HG.out.drewN _⟩
set_option maxRecDepth 100000 in
theorem qhv (x : S112) (w : World) : Calls Tryd.prog 61 #[.agg #[.string x.f0.f0, .string x.f0.f1, .string x.f0.f2, .string x.f0.f3, .string x.f0.f4, .int .i64 x.f1, .int .i64 x.f2]] w fun e w' => e = .returned (.agg #[.string x.f0.f0, .string x.f0.f1, .string x.f0.f2, .string x.f0.f3, .string x.f0.f4]) ∧ Grw w w' := by
 go_enter Tryd.func61, Tryd.ntmps61
 go_wp2
 refine bodyPost_ret (v := .agg #[.string x.f0.f0, .string x.f0.f1, .string x.f0.f2, .string x.f0.f3, .string x.f0.f4]) (by simp [results, Tryd.results61, go_sem]) rfl ?_
 exact ⟨rfl, ((Grw.refl w).alloc _).alloc _⟩
theorem qbc {W : World} {a : Addr} {v : Value} (h : W.cell? a = some v) (n : Nat) (os : Array Obj) : (grow (W.drewN n) os).cell? a = some v := qmi h
set_option maxRecDepth 100000 in
theorem comp_calls (x y : S112) (pc pk : Nat) (w : World) (hc : w.cell? ⟨pc, 0, none⟩ = some (.func (.func 62) #[] #[])) (hk : w.cell? ⟨pk, 0, none⟩ = some (.func (.func 61) #[] #[])) :
  Calls Tryd.prog 109 (#[.agg (e34 x).toArray, .agg (e34 y).toArray] ++ #[.pointer (some ⟨pc, 0, none⟩), .pointer (some ⟨pk, 0, none⟩)]) w fun e w' => e = .returned (.int .i64 (cmpK x.f0 y.f0)) ∧ Grw w w' := by
 unfold e34
 have HC := qd.mk hc
 have HK := qd.mk hk
 clear hc hk
 go_enter Tryd.func109, Tryd.ntmps109
 go_upto_region 1 with (fail)
 refine qdj (P := fun x => Code.wp _ _ _ _ x) _ ?_
 intro w1 hw1
 obtain ⟨g, hg⟩ : ∃ g, w.heap.size = g := ⟨_, rfl⟩
 have BX := (show w1.heap[g]? = some (.cells #[.string x.f0.f0, .string x.f0.f1, .string x.f0.f2, .string x.f0.f3, .string x.f0.f4, .int .i64 x.f1, .int .i64 x.f2] 112 (0, 0)) from by rw [hw1, ← hg]; exact qm (qdu w _) _)
 have BY := (show w1.heap[g + 1]? = some (.cells #[.string y.f0.f0, .string y.f0.f1, .string y.f0.f2, .string y.f0.f3, .string y.f0.f4, .int .i64 y.f1, .int .i64 y.f2] 112 (0, 0)) from by
  rw [hw1, ← hg]
  exact qhy _ _ _ (by simp))
 have HG := qd.mk (show Grw w w1 from by rw [hw1]; exact ((Grw.refl w).alloc _).alloc _)
 have HC1 := (show w1.cell? ⟨pc, 0, none⟩ = some (.func (.func 62) #[] #[]) from by rw [hw1]; exact qdk (qdk HC.out))
 have HK1 := (show w1.cell? ⟨pk, 0, none⟩ = some (.func (.func 61) #[] #[]) from by rw [hw1]; exact qdk (qdk HK.out))
 rw [hg]
 clear hw1 hg
 have hc := qbc HC1
 have hk := qbc HK1
 have x0 := qbc (v := .string x.f0.f0) ((qg BX 0).trans rfl)
 have x1 := qbc (v := .string x.f0.f1) ((qg BX 1).trans rfl)
 have x2 := qbc (v := .string x.f0.f2) ((qg BX 2).trans rfl)
 have x3 := qbc (v := .string x.f0.f3) ((qg BX 3).trans rfl)
 have x4 := qbc (v := .string x.f0.f4) ((qg BX 4).trans rfl)
 have x5 := qbc (v := .int .i64 x.f1) ((qg BX 5).trans rfl)
 have x6 := qbc (v := .int .i64 x.f2) ((qg BX 6).trans rfl)
 have y0 := qbc (v := .string y.f0.f0) ((qg BY 0).trans rfl)
 have y1 := qbc (v := .string y.f0.f1) ((qg BY 1).trans rfl)
 have y2 := qbc (v := .string y.f0.f2) ((qg BY 2).trans rfl)
 have y3 := qbc (v := .string y.f0.f3) ((qg BY 3).trans rfl)
 have y4 := qbc (v := .string y.f0.f4) ((qg BY 4).trans rfl)
 have y5 := qbc (v := .int .i64 y.f1) ((qg BY 5).trans rfl)
 have y6 := qbc (v := .int .i64 y.f2) ((qg BY 6).trans rfl)
 clear HC1 HK1 BX BY HC HK
 have mixed : Tryd.prog.follows .mixedOrders = true := by kernel_rfl
 go_wp2_with fail
 go_quiet_grown (first | (go_at_call 61; (with_reducible refine Calls.grown_of (qhv x _))) | (go_at_call 61; (with_reducible refine Calls.grown_of (qhv y _))) | (go_at_call 62; refine Calls.grown_of (cmp_calls x.f0 y.f0 _)))
 go_wp2
 go_ret
 exact ⟨rfl, HG.out.trans ⟨_, _, rfl⟩⟩
structure Cmp3 {α : Type} (c : α → α → Int) : Prop where
 sw : ∀ x y, c y x = - c x y
 tr : ∀ x y z, c x y ≤ 0 → c y z ≤ 0 → c x z ≤ 0
section
variable {α β : Type} {c : α → α → Int}
theorem Cmp3.refl (h : Cmp3 c) (x : α) : c x x = 0 := by have := h.sw x x; omega
theorem Cmp3.lt_le (h : Cmp3 c) {x y z : α} (h1 : c x y < 0) (h2 : c y z ≤ 0) : c x z < 0 := by
 have h3 := h.tr x y z (by omega) h2
 rcases Int.lt_or_eq_of_le h3 with h4 | h4
 ·exact h4
 ·exfalso
  have h5 := h.sw x z
  have h6 := h.tr y z x h2 (by omega)
  have := h.sw x y
  omega
theorem Cmp3.le_lt (h : Cmp3 c) {x y z : α} (h1 : c x y ≤ 0) (h2 : c y z < 0) : c x z < 0 := by
 have h3 := h.tr x y z h1 (by omega)
 rcases Int.lt_or_eq_of_le h3 with h4 | h4
 ·exact h4
 ·exfalso
  have h5 := h.sw x z
  have h6 := h.tr z x y (by omega) h1
  have := h.sw y z
  omega
theorem Cmp3.on (h : Cmp3 c) (f : β → α) : Cmp3 (fun x y => c (f x) (f y)) := ⟨fun x y => h.sw _ _, fun x y z => h.tr _ _ _⟩
theorem Cmp3.lex {d : α → α → Int} (h : Cmp3 c) (k : Cmp3 d) : Cmp3 (fun x y => if c x y = 0 then d x y else c x y) := by
 refine ⟨fun x y => ?_, fun x y z h1 h2 => ?_⟩
 ·have := h.sw x y
  by_cases e : c x y = 0
  ·simp only [if_pos e, if_pos (show c y x = 0 by omega)]
   exact k.sw x y
  simp only [if_neg e, if_neg (show ¬ c y x = 0 by omega)]
  exact this
 ·by_cases e1 : c x y = 0
  rotate_left
  ·rw [if_neg e1] at h1
   have h3 : c y z ≤ 0 := by
    by_cases e2 : c y z = 0
    ·omega
    rw [if_neg e2] at h2; exact h2
   have := h.lt_le (x := x) (y := y) (z := z) (by omega) h3
   rw [if_neg (by omega)]
   omega
  rw [if_pos e1] at h1
  by_cases e2 : c y z = 0
  ·rw [if_pos e2] at h2
   have a1 := h.tr x y z (by omega) (by omega)
   have a2 := h.tr z y x (by have := h.sw y z; omega) (by have := h.sw x y; omega)
   have a3 := h.sw x z
   rw [if_pos (by omega)]
   exact k.tr x y z h1 h2
  rw [if_neg e2] at h2
  have := h.le_lt (x := x) (y := y) (z := z) (by omega) (by omega)
  rw [if_neg (by omega)]
  omega
theorem Cmp3.swo (h : Cmp3 c) : SWO (Go.Proofs.ltOf c) := by
 refine ⟨fun x => ?_, fun x y z h1 h2 => ?_, fun x y z h1 h2 => ?_⟩
 ·exact decide_eq_false (by rw [h.refl]; omega)
 ·have h1 : c x y < 0 := of_decide_eq_true h1
  have h2 : c y z < 0 := of_decide_eq_true h2
  exact decide_eq_true (h.lt_le h1 (by omega))
 ·have h1 : ¬ c x y < 0 := of_decide_eq_false h1
  have h2 : ¬ c y z < 0 := of_decide_eq_false h2
  refine decide_eq_false ?_
  have a1 := h.sw x y
  have a2 := h.sw y z
  have a3 := h.sw x z
  have := h.tr z y x (by omega) (by omega)
  omega
end
theorem bytes_sw : ∀ (a b : List UInt8), Lib.compareBytes b a = - Lib.compareBytes a b
 | [], [] => rfl
 | [], _ :: _ => rfl
 | _ :: _, [] => rfl
 | x :: a, y :: b => by
  have ih := bytes_sw a b
  unfold Lib.compareBytes
  by_cases h1 : x < y
  ·have h2 : ¬ y < x := UInt8.lt_asymm h1
   simp only [h1, h2, if_true, if_false]
   decide
  by_cases h2 : y < x
  ·simp only [h1, h2, if_true, if_false]
  simp only [h1, h2, if_false]
  exact ih
theorem qob : ∀ (a b : List UInt8), Lib.compareBytes a b = 0 → a = b
 | [], [], _ => rfl
 | [], _ :: _, h => by cases h
 | _ :: _, [], h => by cases h
 | x :: a, y :: b, h => by
  unfold Lib.compareBytes at h
  by_cases h1 : x < y
  ·rw [if_pos h1] at h; cases h
  rw [if_neg h1] at h
  by_cases h2 : y < x
  ·rw [if_pos h2] at h; cases h
  rw [if_neg h2] at h
  rw [qob a b h, UInt8.le_antisymm (UInt8.not_lt.1 h2) (UInt8.not_lt.1 h1)]
theorem bytes_tr : ∀ (a b c : List UInt8), Lib.compareBytes a b ≤ 0 → Lib.compareBytes b c ≤ 0 → Lib.compareBytes a c ≤ 0
 | [], _, [], _, _ => by decide
 | [], _, _ :: _, _, _ => (by decide : (-1 : Int) ≤ 0)
 | _ :: _, [], _, h, _ => absurd h (by show ¬ (1 : Int) ≤ 0; decide)
 | _ :: _, _ :: _, [], _, h => absurd h (by show ¬ (1 : Int) ≤ 0; decide)
 | x :: a, y :: b, z :: c, h, k => by
  have ih := bytes_tr a b c
  unfold Lib.compareBytes at h k ⊢
  by_cases h1 : x < y
  ·by_cases k1 : y < z
   ·rw [if_pos (UInt8.lt_trans h1 k1)]; decide
   rw [if_neg k1] at k
   by_cases k2 : z < y
   ·rw [if_pos k2] at k; exact absurd k (by decide)
   have : y = z := UInt8.le_antisymm (UInt8.not_lt.1 k2) (UInt8.not_lt.1 k1)
   subst this
   rw [if_pos h1]; decide
  rw [if_neg h1] at h
  by_cases h2 : y < x
  ·rw [if_pos h2] at h; exact absurd h (by decide)
  rw [if_neg h2] at h
  have : x = y := UInt8.le_antisymm (UInt8.not_lt.1 h2) (UInt8.not_lt.1 h1)
  subst this
  by_cases k1 : x < z
  ·rw [if_pos k1]; decide
  rw [if_neg k1] at k ⊢
  by_cases k2 : z < x
  ·rw [if_pos k2] at k; exact absurd k (by decide)
  rw [if_neg k2] at k ⊢
  exact ih h k
theorem cmp3_B : Cmp3 cmpB := ⟨fun x y => bytes_sw _ _, fun x y z => bytes_tr _ _ _⟩
theorem qiw {a b : ByteArray} (h : cmpB a b = 0) : a = b := ByteArray.ext (Array.ext' (qob _ _ h))
theorem cmpK_eq (x y : S40) : cmpK x y = (if cmpB x.f0 y.f0 = 0 then if cmpB x.f1 y.f1 = 0 then if cmpB x.f2 y.f2 = 0 then if cmpB x.f3 y.f3 = 0 then cmpB x.f4 y.f4 else cmpB x.f3 y.f3 else cmpB x.f2 y.f2 else cmpB x.f1 y.f1 else cmpB x.f0 y.f0) := by
 unfold cmpK flds
 simp only [cmpL]
 by_cases h : cmpB x.f4 y.f4 = 0
 ·simp [h]
 simp [h]
theorem qim : Cmp3 cmpK := by
 have h := (cmp3_B.on S40.f0).lex ((cmp3_B.on S40.f1).lex ((cmp3_B.on S40.f2).lex ((cmp3_B.on S40.f3).lex (cmp3_B.on S40.f4))))
 have e : cmpK = _ := funext fun x => funext fun y => cmpK_eq x y
 rw [e]
 exact h
theorem qiv {x y : S40} (h : cmpK x y = 0) : x = y := by
 rw [cmpK_eq] at h
 by_cases h0 : cmpB x.f0 y.f0 = 0
 rotate_left
 ·rw [if_neg h0] at h; exact absurd h h0
 rw [if_pos h0] at h
 by_cases h1 : cmpB x.f1 y.f1 = 0
 rotate_left
 ·rw [if_neg h1] at h; exact absurd h h1
 rw [if_pos h1] at h
 by_cases h2 : cmpB x.f2 y.f2 = 0
 rotate_left
 ·rw [if_neg h2] at h; exact absurd h h2
 rw [if_pos h2] at h
 by_cases h3 : cmpB x.f3 y.f3 = 0
 rotate_left
 ·rw [if_neg h3] at h; exact absurd h h3
 rw [if_pos h3] at h
 obtain ⟨a, b, c, d, e⟩ := x
 obtain ⟨a', b', c', d', e'⟩ := y
 rw [S40.mk.injEq]
 exact ⟨qiw h0, qiw h1, qiw h2, qiw h3, qiw h⟩
def cmpC (x y : S112) : Int := cmpK x.f0 y.f0
theorem cmp3_C : Cmp3 cmpC := qim.on S112.f0
theorem qin : SWO (Go.Proofs.ltOf cmpC) := cmp3_C.swo
section
variable {w0 W : World} {blk off : Nat} {dk : Array S112}
theorem swk_cell (h : SWK e34 7 w0 blk off dk W) {a : Addr} {v : Value} (ha : a.block ≠ blk) (hv : w0.cell? a = some v) : W.cell? a = some v := by
 obtain ⟨n, os, rfl⟩ := h
 have hlt := World.block_lt_of_cell? w0 a hv
 unfold sortWorldK
 rw [cell?_grow _ _ _ (by rw [size_putRowK]; exact hlt), cell?_putRowK_other _ _ _ _ _ _ _ ha]
 exact hv
end
end
section
def qdl (x : Int) : Prop := -9223372036854775808 ≤ x ∧ x ≤ 9223372036854775807
instance (x : Int) : Decidable (qdl x) := by unfold qdl; exact inferInstance
def qgi.f (l : List Int) : Option (Int × Bool) := if l.length ≤ 1000000 then (if (∀ x ∈ l, qdl x) then (if qdl l.sum then some (l.sum, true) else some (0, false)) else none) else none
theorem add64 (x y c : Int) (hx : 0 ≤ x ∧ x < 18446744073709551616) (hy : 0 ≤ y ∧ y < 18446744073709551616) (hc : 0 ≤ c ∧ c ≤ 1) (w : World) :
  (callFunc 147 #[.int .u64 x, .int .u64 y, .int .u64 c]).run Tryd.prog w =
   .ok (.value (.tuple #[.int .u64 ((x + y + c) % 18446744073709551616), .int .u64 ((x + y + c) / 18446744073709551616)])) w := by
 obtain ⟨x, rfl⟩ := Int.eq_ofNat_of_zero_le hx.1
 obtain ⟨y, rfl⟩ := Int.eq_ofNat_of_zero_le hy.1
 obtain ⟨c, rfl⟩ := Int.eq_ofNat_of_zero_le hc.1
 rw [run_callFunc_extern Tryd.func147 (by kernel_rfl) (by kernel_rfl) (by kernel_rfl) (e := add64Entry) (by kernel_rfl), run_add64 x y c (by omega) (by omega) (by omega) (by omega)]
 simp only [Result.andThen]
def SumAt (S hi lo : Int) : Prop := 0 ≤ hi ∧ hi < 18446744073709551616 ∧ 0 ≤ lo ∧ lo < 18446744073709551616 ∧ (S - (hi * 18446744073709551616 + lo)) % 340282366920938463463374607431768211456 = 0
theorem wrap_u64 (x : Int) : 0 ≤ IntKind.u64.wrap x ∧ IntKind.u64.wrap x < 18446744073709551616 := by
 have : IntKind.u64.wrap x = x % 18446744073709551616 := rfl
 omega
theorem sumAt_step {S hi lo x : Int} (hx : qdl x) (h : SumAt S hi lo) : SumAt (S + [x].sum) ((hi + IntKind.u64.wrap (x / 9223372036854775808) + (lo + IntKind.u64.wrap x) / 18446744073709551616) % 18446744073709551616) ((lo + IntKind.u64.wrap x) % 18446744073709551616) := by
 obtain ⟨h1, h2, h3, h4, h5⟩ := h
 obtain ⟨x1, x2⟩ := hx
 have e1 : IntKind.u64.wrap x = x % 18446744073709551616 := rfl
 have e2 : IntKind.u64.wrap (x / 9223372036854775808) = (x / 9223372036854775808) % 18446744073709551616 := rfl
 rw [e1, e2, show [x].sum = x by simp]
 unfold SumAt
 rcases Int.lt_or_le x 0 with hn | hp
 ·have : x / 9223372036854775808 = -1 := by omega
  rw [this]
  refine ⟨by omega, by omega, by omega, by omega, by omega⟩
 ·have : x / 9223372036854775808 = 0 := by omega
  rw [this]
  refine ⟨by omega, by omega, by omega, by omega, by omega⟩
theorem sum_bound : ∀ (l : List Int), (∀ x ∈ l, qdl x) → -9223372036854775808 * (l.length : Int) ≤ l.sum ∧ l.sum ≤ 9223372036854775808 * (l.length : Int)
 | [], _ => by simp
 | x :: r, h => by
  have h1 := sum_bound r (fun y hy => h y (by simp [hy]))
  have h2 := h x (by simp)
  unfold qdl at h2
  simp only [List.sum_cons, List.length_cons]
  omega
theorem sumAt_end {S hi lo : Int} (h : SumAt S hi lo) (b1 : -170141183460469231731687303715884105728 ≤ S) (b2 : S < 170141183460469231731687303715884105728) :
  (qdl S → wrap64 lo = S) ∧ (qdl S → (IntKind.u64.wrap (wrap64 lo / 9223372036854775808) != hi) = false) ∧ (¬ qdl S → (IntKind.u64.wrap (wrap64 lo / 9223372036854775808) != hi) = true) := by
 obtain ⟨h1, h2, h3, h4, h5⟩ := h
 have e1 : IntKind.u64.wrap (wrap64 lo / 9223372036854775808) = (wrap64 lo / 9223372036854775808) % 18446744073709551616 := rfl
 have w1 : wrap64 lo = (if lo < 9223372036854775808 then lo else lo - 18446744073709551616) := by
  unfold wrap64; split <;> omega
 have w2 : (wrap64 lo / 9223372036854775808) % 18446744073709551616 = (if lo < 9223372036854775808 then 0 else 18446744073709551615) := by
  rw [w1]; split <;> omega
 rw [e1, w2, w1]
 unfold qdl
 refine ⟨fun hS => ?_, fun hS => ?_, fun hS => ?_⟩
 ·split <;> omega
 ·rw [bne_eq_false_iff_eq]; split <;> omega
 ·rw [bne_iff_ne]; split <;> omega
set_option maxRecDepth 100000 in
theorem qgi.calls (A0 : Option Addr) (c0 : Nat) (l0 : List Int) (r1 : Int) (r2 : Bool) (w : World) (hr0 : Kd.C (Kd.int .i64) w A0 l0.length l0) (hc0 : l0.length ≤ c0) (h : qgi.f l0 = some (r1, r2)) :
  Calls Tryd.prog 107 #[.slice A0 l0.length c0] w fun e w' => e = .returned (.tuple #[.int .i64 r1, .bool r2]) ∧ qcs w w' := by
 have HR0 := qd.mk hr0
 unfold qgi.f at h
 by_cases hl : l0.length ≤ 1000000
 case neg => rw [if_neg hl] at h; simp at h
 rw [if_pos hl] at h
 by_cases hw : ∀ x ∈ l0, qdl x
 case neg => rw [if_neg hw] at h; simp at h
 rw [if_pos hw] at h
 have H := qd.mk h
 have HW := qd.mk hw
 clear h hr0 hw
 go_enter Tryd.func107, Tryd.ntmps107
 go_wp2
 go_loopw [4, 5, 7, 8, 11, 12, 13, 14, 15, 16, 17, 18, 19, 20, 21, 22, 23, 24, 25, 26, 27, 28, 29, 30, 31] (fun v4 v5 v7 v8 v11 _ _ _ _ _ _ _ _ _ _ _ _ _ _ _ _ _ _ _ _ w' => ∃ (k : Nat) (hi lo : Int), k ≤ l0.length ∧ v11 = .int .i64 k ∧ v4 = .int .u64 hi ∧ v5 = .int .u64 lo ∧ qd (SumAt (l0.take k).sum hi lo) ∧ qcs w w') (fun v4 v5 v7 v8 v11 _ _ _ _ _ _ _ _ _ _ _ _ _ _ _ _ _ _ _ _ _ => l0.length - (intOf v11).toNat)
 case atStart => exact ⟨0, 0, 0, Nat.zero_le _, rfl, rfl, rfl, ⟨by simp [SumAt]⟩, qcs.refl _⟩
 obtain ⟨k, hi, lo, hk, rfl, rfl, rfl, HS, ⟨n, rfl⟩⟩ := hrel
 by_cases hlt : k < l0.length
 ·obtain ⟨ad, e, c1⟩ := Kd.qms HR0.out (k : Int) (by omega) (by omega)
  rw [Int.toNat_natCast] at c1
  subst e
  have d1 : decide ((k : Int) < (l0.length : Int)) = true := decide_eq_true (by omega)
  have d2 : decide (k < l0.length) = true := decide_eq_true hlt
  obtain ⟨x, hx⟩ : ∃ x, rd l0 (k : Int) = x := ⟨_, rfl⟩
  rw [hx] at c1
  have p0 : (0 : Int) ≤ (k : Int) := by omega
  have p1 : (k : Int) < (l0.length : Int) := by omega
  obtain ⟨h1, h2, h3, h4, h5⟩ := HS.out
  have a1 := add64 lo (IntKind.u64.wrap x) 0 ⟨h3, h4⟩ (wrap_u64 x) ⟨by omega, by omega⟩ (w.drewN n)
  have u1 := wrap_u64 x
  have a2 := add64 hi (IntKind.u64.wrap (x / 9223372036854775808)) ((lo + IntKind.u64.wrap x) / 18446744073709551616) ⟨h1, h2⟩ (wrap_u64 _) ⟨by omega, by omega⟩ (w.drewN n)
  rw [Int.add_zero] at a1
  go_wp2
  refine ⟨⟨k + 1, _, _, by omega, by go_num, rfl, rfl, ⟨?_⟩, dn_⟩, by simp [intOf]; omega⟩
  have hxk : l0[k]? = some x := by
   have := List.getElem?_eq_getElem hlt
   rw [this, ← hx]; simp [rd, hlt]
  have ex := HW.out x (List.mem_of_getElem? hxk)
  rw [List.take_add_one, hxk, List.sum_append]
  exact sumAt_step ex ⟨h1, h2, h3, h4, h5⟩
 obtain rfl : k = l0.length := by omega
 have d1 : decide ((l0.length : Int) < (l0.length : Int)) = false := decide_eq_false (by omega)
 have hb := sum_bound l0 HW.out
 have HS' := HS.out
 rw [List.take_length] at HS'
 obtain ⟨e1, e2, e3⟩ := sumAt_end HS' (by omega) (by omega)
 have H := H.out
 by_cases hok : qdl l0.sum
 ·rw [if_pos hok] at H
  obtain ⟨rfl, rfl⟩ := Prod.mk.inj (Option.some.inj H)
  have f1 := e1 hok
  have f2 := e2 hok
  rw [f1] at f2
  clear e1 e2 e3
  go_wp2
  go_ret2
  exact ⟨rfl, dn_⟩
 rw [if_neg hok] at H
 obtain ⟨rfl, rfl⟩ := Prod.mk.inj (Option.some.inj H)
 have f2 := e3 hok
 clear e1 e2 e3
 go_wp2
 go_ret2
 exact ⟨rfl, dn_⟩
def fitB (n : Int) : Bool := decide (-1000000000000000 ≤ n) && decide (n ≤ 1000000000000000)
theorem far_calls (n : Int) (w : World) : Calls Tryd.prog 65 #[.int .i64 n] w fun e w' => e = .returned (.bool (!fitB n)) ∧ w' = w := by
 by_cases h1 : 1000000000000000 < n
 ·have d1 : decide ((1000000000000000 : Int) < n) = true := decide_eq_true h1
  have hf := qd.mk (show fitB n = false from by unfold fitB; rw [decide_eq_false (show ¬ n ≤ 1000000000000000 by omega), Bool.and_false])
  clear h1
  go_enter Tryd.func65, Tryd.ntmps65
  go_wp2
  go_ret
  exact ⟨by rw [hf.out]; rfl, rfl⟩
 have d1 : decide ((1000000000000000 : Int) < n) = false := decide_eq_false h1
 by_cases h2 : n < -1000000000000000
 ·have d2 : decide (n < -1000000000000000) = true := decide_eq_true h2
  have hf := qd.mk (show fitB n = false from by unfold fitB; rw [decide_eq_false (show ¬ -1000000000000000 ≤ n by omega), Bool.false_and])
  clear h1 h2
  go_enter Tryd.func65, Tryd.ntmps65
  go_wp2
  go_ret
  exact ⟨by rw [hf.out]; rfl, rfl⟩
 have d2 : decide (n < -1000000000000000) = false := decide_eq_false h2
 have hf := qd.mk (show fitB n = true from by unfold fitB; rw [decide_eq_true (show -1000000000000000 ≤ n by omega), decide_eq_true (show n ≤ 1000000000000000 by omega)]; rfl)
 clear h1 h2
 go_enter Tryd.func65, Tryd.ntmps65
 go_wp2
 go_ret
 exact ⟨by rw [hf.out]; rfl, rfl⟩
def totF (l : List Int) : Int × Bool := if qdl l.sum then (l.sum, fitB l.sum) else (0, false)
theorem qlm (A : Option Addr) (c : Nat) (l : List Int) (w : World) (h : Kd.C (Kd.int .i64) w A l.length l) (hc : l.length ≤ c) (hl : l.length ≤ 1000000) (hi : ∀ x ∈ l, qdl x) :
  Calls Tryd.prog 59 #[.slice A l.length c] w fun e w' => e = .returned (.tuple #[.int .i64 (totF l).1, .bool (totF l).2]) ∧ qcs w w' := by
 by_cases h1 : qdl l.sum
 ·have HT := qd.mk (show totF l = (l.sum, fitB l.sum) from if_pos h1)
  have HC := qd.mk (qgi.calls A c l l.sum true w h hc (by unfold qgi.f; rw [if_pos hl, if_pos hi, if_pos h1]))
  clear h hc hl hi h1
  rw [HT.out]
  obtain ⟨n, hn⟩ : ∃ n, l.sum = n := ⟨_, rfl⟩
  rw [hn] at HC ⊢
  clear HT hn
  go_enter Tryd.func59, Tryd.ntmps59
  go_wp2_with (first | (go_at_call 107; refine HC.out.mono ?_; rintro e_ w2 ⟨rfl, hd_⟩; have HD := qd.mk hd_; clear hd_) | (go_at_call 65; refine (far_calls n _).mono ?_; rintro e_ w3 ⟨rfl, he_⟩; obtain rfl := he_.symm))
  all_goals
   go_ret2
   exact ⟨by simp, HD.out⟩
 have HT := qd.mk (show totF l = (0, false) from if_neg h1)
 have HC := qd.mk (qgi.calls A c l 0 false w h hc (by unfold qgi.f; rw [if_pos hl, if_pos hi, if_neg h1]))
 clear h hc hl hi h1
 rw [HT.out]
 clear HT
 go_enter Tryd.func59, Tryd.ntmps59
 go_wp2_with (first | (go_at_call 107; refine HC.out.mono ?_; rintro e_ w2 ⟨rfl, hd_⟩; have HD := qd.mk hd_; clear hd_))
 go_ret2
 exact ⟨rfl, HD.out⟩
end
section
open Go.Sort
theorem qmq : ∀ (a b : List UInt8), Lib.compareBytes a b = if Op.bytesLess a b = true then -1 else if Op.bytesLess b a = true then 1 else 0
 | [], [] => rfl
 | [], _ :: _ => rfl
 | _ :: _, [] => rfl
 | x :: a, y :: b => by
  have ih := qmq a b
  unfold Lib.compareBytes Op.bytesLess
  by_cases h1 : x < y
  ·simp [h1]
  by_cases h2 : y < x
  ·have h3 : (x == y) = false := by
    rw [beq_eq_false_iff_ne]
    intro e
    subst e
    exact h1 h2
   simp [h1, h2, h3]
  have h3 : x = y := UInt8.le_antisymm (UInt8.not_lt.1 h2) (UInt8.not_lt.1 h1)
  subst h3
  simp [h1, ih]
theorem cmpB_less (a b : ByteArray) : cmpB a b = if Op.bytesLess a.toList b.toList = true then -1 else if Op.bytesLess b.toList a.toList = true then 1 else 0 := by
 rw [ByteArray.toList_eq, ByteArray.toList_eq]
 exact qmq _ _
end
section
open Go.Lib
def upC (c : UInt8) : Bool := decide (65 ≤ c.toNat) && decide (c.toNat ≤ 90)
def monB (s : ByteArray) : Bool := decide (s.size = 3) && s.data.toList.all upC
theorem mon_bad {s : ByteArray} {i : Nat} (h : i < s.size) (hu : upC s[i] = false) : monB s = false := by
 unfold monB
 rw [Bool.and_eq_false_iff]
 right
 rw [List.all_eq_false]
 exact ⟨s[i], by
  rw [show s[i] = s.data.toList[i]'(by simpa using h) from by simp [ByteArray.getElem_eq_getElem_data]]
  exact List.getElem_mem _, by simp [hu]⟩
theorem mon_end {s : ByteArray} (h : ∀ j, (hj : j < s.size) → upC s[j] = true) : monB s = decide (s.size = 3) := by
 unfold monB
 rw [List.all_eq_true.2, Bool.and_true]
 intro c hc
 obtain ⟨j, hj, rfl⟩ := List.mem_iff_getElem.1 hc
 have hj' : j < s.size := by simpa using hj
 have := h j hj'
 rw [show s[j] = s.data.toList[j] from by simp [ByteArray.getElem_eq_getElem_data]] at this
 exact this
set_option maxRecDepth 100000 in
theorem money_calls (s : ByteArray) (w : World) (hs : s.size ≤ maxLen) : Calls Tryd.prog 81 #[.string s] w fun e w' => e = .returned (.bool (monB s)) ∧ Below w.heap.size w w' := by
 obtain ⟨g, hg⟩ : ∃ g, w.heap.size = g := ⟨_, rfl⟩
 obtain ⟨res, hres⟩ : ∃ r, monB s = r := ⟨_, rfl⟩
 have HR := qd.mk hres
 have hlen : s.size ≤ 9223372036854775807 := by unfold maxLen at hs; omega
 clear hs
 rw [hres]
 clear hres
 go_enter Tryd.func81, Tryd.ntmps81
 go_upto_region 3 with (fail)
 refine qdj (P := fun x => Code.wp _ _ _ _ x) _ ?_
 intro w1 hw1
 replace hw1 : w1 = w.alloc (.stringIter s 0) := hw1
 (try rw [hg])
 have HI := qd.mk (show w1.heap[g]? = some (.stringIter s 0) from by rw [hw1, ← hg]; exact qdu _ _)
 have HB1 := qd.mk (show Below g w w1 from by rw [hw1, ← hg]; exact qbk (Below.refl _ _) _)
 clear hw1
 go_loopw [2, 3, 5, 8, 9, 10, 11, 12, 13, 14, 15, 16, 17, 18] (fun _ v3 _ _ _ _ _ _ _ _ _ _ _ _ wr => ∃ n : Nat, n ≤ s.size ∧ v3 = .int .i64 n ∧ qd (wr.heap[g]? = some (.stringIter s n)) ∧ qd (Below g w wr) ∧ qd (∀ j, (hj : j < s.size) → j < n → upC s[j] = true)) (fun _ v3 _ _ _ _ _ _ _ _ _ _ _ _ _ => s.size - (intOf v3).toNat)
 case atStart => exact ⟨0, Nat.zero_le _, rfl, HI, HB1, ⟨fun j _ h => absurd h (by omega)⟩⟩
 clear HI HB1
 obtain ⟨n, hn, rfl, HI, HB, HU⟩ := hrel
 by_cases hlt : n < s.size
 rotate_left
 ·obtain rfl : n = s.size := by omega
  have hnx := run_next_end_at (P := Tryd.prog) wr g s s.size 0 HI.out hlt
  have hres : decide (s.size = 3) = res := (mon_end (fun j hj => HU.out j hj hj)).symm.trans HR.out
  go_wp2
  go_ret
  refine ⟨?_, by first | exact HB.out | (rw [hg]; exact HB.out)⟩
  rw [← hres]
  show Ending.returned (Value.bool ((s.size : Int) == 3)) = Ending.returned (Value.bool (decide (s.size = 3)))
  have e : ((s.size : Int) == 3) = decide (s.size = 3) := by rw [Bool.eq_iff_iff, beq_iff_eq, decide_eq_true_iff]; omega
  rw [e]
 by_cases hc : upC s[n] = true
 ·have hu := hc
  unfold upC at hu
  rw [Bool.and_eq_true, decide_eq_true_iff, decide_eq_true_iff] at hu
  have hnx := run_next_ascii_at (P := Tryd.prog) wr g s n 0 HI.out hlt (by omega)
  have HC := qd.mk hc
  clear hc
  obtain ⟨c, hcc⟩ : ∃ c : Int, ((s[n].toNat : Nat) : Int) = c := ⟨_, rfl⟩
  rw [hcc] at hnx
  have d1 : decide (c < 65) = false := decide_eq_false (by omega)
  have d2 : decide (90 < c) = false := decide_eq_false (by omega)
  have hw : wrap64 ((n : Int) + 1) = ((n + 1 : Nat) : Int) := by unfold wrap64; omega
  clear hcc
  go_wp2
  go_roundw
  case rel =>
   refine ⟨n + 1, by omega, by go_num, ⟨iterAt_heap wr g s n (n + 1) HI.out⟩, ⟨below_iterAt HB.out (Nat.le_refl _) s (n + 1)⟩, ⟨fun j hj hjn => ?_⟩⟩
   rcases Nat.lt_succ_iff_lt_or_eq.1 hjn with h | h
   ·exact HU.out j hj h
   ·subst h; exact HC.out
  case measure => simp [intOf]; omega
 have hc' : upC s[n] = false := by simpa using hc
 obtain ⟨r, k, hr, hnx⟩ : ∃ (r : Int) (k : Nat), (r < 65 ∨ 90 < r) ∧ (Instr.next (.pointer (some ⟨g, 0, none⟩)) true 0).run Tryd.prog wr = .ok (.tuple #[.bool true, .int .i64 n, .int .i32 r]) (wr.iterAt g s (n + k)) := by
  refine ⟨_, _, ?_, run_next_any_at (P := Tryd.prog) wr g s n 0 HI.out hlt⟩
  by_cases ha : (s[n]'hlt).toNat < 128
  ·rw [decode_ascii s n hlt ha]
   unfold upC at hc'
   rw [Bool.and_eq_false_iff, decide_eq_false_iff_not, decide_eq_false_iff_not] at hc'
   show ((s[n].toNat : Nat) : Int) < 65 ∨ 90 < ((s[n].toNat : Nat) : Int)
   omega
  have := (decode_high s n hlt (by omega)).1
  right
  omega
 have hres : false = res := (mon_bad hlt hc').symm.trans HR.out
 subst hres
 have HB2 := qd.mk (below_iterAt HB.out (Nat.le_refl g) s (n + k))
 clear hc hc'
 by_cases h1 : r < 65
 ·have d1 : decide (r < 65) = true := decide_eq_true h1
  go_wp2
  go_ret
  exact ⟨rfl, by first | exact HB2.out | (rw [hg]; exact HB2.out)⟩
 have d1 : decide (r < 65) = false := decide_eq_false h1
 have d2 : decide (90 < r) = true := decide_eq_true (by omega)
 go_wp2
 go_ret
 exact ⟨rfl, by first | exact HB2.out | (rw [hg]; exact HB2.out)⟩
end
section
open Go.Sort
def qfy.f (a0 : ByteArray) : Option Bool := if a0.size ≤ maxLen then some (monB a0) else none
theorem qfy.calls (a0 : ByteArray) (r : Bool) (w : World) (h : qfy.f a0 = some r) :
  Calls Tryd.prog 81 #[.string a0] w fun e w' => e = .returned (.bool r) ∧ Below w.heap.size w w' := by
 unfold qfy.f at h
 split at h
 ·rename_i hs
  obtain rfl := Option.some.inj h
  exact money_calls a0 w hs
 ·cases h
end
section
attribute [local go_sem] qfp qfn qgk qgj qex qew qfo qfm
mutual
def qca.j0 : Nat → Bool → ByteArray → ByteArray → Int → Int → ByteArray → ByteArray → List (S213) → Option (Int)
 | 0, _, _, _, _, _, _, _, _ => none
 | k + 1, x3, x135000, x135001, x135002, x135003, x135004, x135005, x135006 => if x3 = true then (some 7) else ((qfy.f x135001).bind fun t138 => (if t138 = true then ((qdg.f x135002 1000000000000).bind fun t139 => (if t139 = true then ((qdg.f x135003 1000000000000).bind fun t140 => (qca.j1 k (!t140) x135000 x135001 x135002 x135003 x135004 x135005 x135006)) else (qca.j1 k true x135000 x135001 x135002 x135003 x135004 x135005 x135006))) else (some 13)))
def qca.j1 : Nat → Bool → ByteArray → ByteArray → Int → Int → ByteArray → ByteArray → List (S213) → Option (Int)
 | 0, _, _, _, _, _, _, _, _ => none
 | k + 1, x25, x135000, x135001, x135002, x135003, x135004, x135005, x135006 => if x25 = true then (some 4) else (if x135002 = 0 then (qca.j2 k (x135003 == 0) x135000 x135001 x135002 x135003 x135004 x135005 x135006) else (qca.j2 k false x135000 x135001 x135002 x135003 x135004 x135005 x135006))
def qca.j2 : Nat → Bool → ByteArray → ByteArray → Int → Int → ByteArray → ByteArray → List (S213) → Option (Int)
 | 0, _, _, _, _, _, _, _, _ => none
 | k + 1, x36, x135000, x135001, x135002, x135003, x135004, x135005, x135006 => if x36 = true then (some 2) else ((qcl.f k x135006).bind fun t141 => (if t141 = true then (some 0) else (some 14)))
end
def qca.f (k : Nat) (a0_0 : ByteArray) (a0_1 : ByteArray) (a0_2 : Int) (a0_3 : Int) (a0_4 : ByteArray) (a0_5 : ByteArray) (l0_6 : List (S213)) : Option (Int) := (qdd.f a0_0).bind fun t135 => (if t135 = true then ((qdp.f a0_4).bind fun t136 => (if t136 = true then ((qdp.f a0_5).bind fun t137 => (qca.j0 k (!t137) a0_0 a0_1 a0_2 a0_3 a0_4 a0_5 l0_6)) else (qca.j0 k true a0_0 a0_1 a0_2 a0_3 a0_4 a0_5 l0_6))) else (qca.j0 k true a0_0 a0_1 a0_2 a0_3 a0_4 a0_5 l0_6))
set_option maxRecDepth 100000 in
theorem qca.calls (k : Nat) (a0_0 : ByteArray) (a0_1 : ByteArray) (a0_2 : Int) (a0_3 : Int) (a0_4 : ByteArray) (a0_5 : ByteArray) (A0_6 : Option Addr) (c0_6 : Nat) (l0_6 : List (S213)) (r : Int) (w : World) (hr0_6 : Kd.C k213 w A0_6 l0_6.length l0_6) (hc0_6 : l0_6.length ≤ c0_6) (h : qca.f k a0_0 a0_1 a0_2 a0_3 a0_4 a0_5 l0_6 = some r) :
  Calls Tryd.prog 95 #[.agg #[.string a0_0, .string a0_1, .int .i64 a0_2, .int .i64 a0_3, .string a0_4, .string a0_5, .slice A0_6 l0_6.length c0_6]] w fun e w' => e = .returned (.int .i64 r) ∧ Below w.heap.size w w' := by
 have hu109 := Tryd.underlying109
 have HR0_6 := qd.mk hr0_6
 have HC0_6 := qd.mk hc0_6
 clear hr0_6 hc0_6
 have HB := qd.mk (Below.refl w.heap.size w)
 have H : ((qdd.f a0_0).bind fun t135 => (if t135 = true then ((qdp.f a0_4).bind fun t136 => (if t136 = true then ((qdp.f a0_5).bind fun t137 => (qca.j0 k (!t137) a0_0 a0_1 a0_2 a0_3 a0_4 a0_5 l0_6)) else (qca.j0 k true a0_0 a0_1 a0_2 a0_3 a0_4 a0_5 l0_6))) else (qca.j0 k true a0_0 a0_1 a0_2 a0_3 a0_4 a0_5 l0_6))) = some r := h
 clear h
 have HC2 := qd.mk H
 clear H
 go_enter Tryd.func95, Tryd.ntmps95
 go_upto_region 1 with (first | ((with_reducible refine qbx (N := 1) rfl ?_); refine qbu ?hg (N := 1) ?hd (cs := #[.string a0_0, .string a0_1, .int .i64 a0_2, .int .i64 a0_3, .string a0_4, .string a0_5, .slice A0_6 l0_6.length c0_6]) (t := 109) ?hr ?_; (case hd => rfl); (case hg => rfl); (case hr => first | (go_simp; done) | (go_simp; rfl)); intro gb134 hg w3 hbox hb; have n0_ := qd.mk (qw (bw_) hb); have n1_ := qd.mk (hbox); have n2_ := qd.mk (gw_ (w := w) hg); have n3_ := qd.mk (gw_ (w := w) hg); clear HB; have HB := n0_; have BK134 := n1_; have GW134 := n2_; have GE134 := n3_; clear n0_ n1_ n2_ n3_; clear hb hbox hg))
 (try simp only [Act.put, List.setIfInBounds_toArray, List.set_cons_zero, List.set_cons_succ])
 go_cut [3] (fun v3 wc => ∃ (kq : Nat) (x3_1 : Bool), v3 = .bool x3_1 ∧ qd (qca.j0 kq x3_1 a0_0 a0_1 a0_2 a0_3 a0_4 a0_5 l0_6 = some r) ∧ qd (kq ≤ k) ∧ qd (wc.heap[gb134]? = some (.cells #[.string a0_0, .string a0_1, .int .i64 a0_2, .int .i64 a0_3, .string a0_4, .string a0_5, (.slice A0_6 l0_6.length c0_6)] 109 (0, 0))) ∧ qd (Below w.heap.size w wc))
 case first =>
  have H := HC2.out
  clear HC2
  replace H := Option.bind_eq_some_iff.mp H
  obtain ⟨t135, A40, H⟩ := H
  try dsimp only at H
  have A4 := qd.mk A40
  clear A40
  by_cases c5 : t135 = true
  rotate_left
  ·replace c5 := Bool.eq_false_iff.mpr c5
   subst c5
   have H1 : (qca.j0 k true a0_0 a0_1 a0_2 a0_3 a0_4 a0_5 l0_6) = some r := by rw [if_neg (show ¬ (false = true) by decide)] at H; exact H
   clear H
   have H := H1
   clear H1
   have H' := qd.mk H
   clear H
   obtain ⟨cz11_0, cz11_1, cz11_2, cz11_3, cz11_4, cz11_5, cz11_6⟩ := bc7_ (w := w3) BK134.out
   obtain ⟨fz11_0, fz11_1, fz11_2, fz11_3, fz11_4, fz11_5, fz11_6⟩ := bf7_ BK134.out
   go_wp2_with (first | ((with_reducible refine qbf (f := 80) rfl ?_); refine qcp (some 6) rfl rfl Tryd.func80 (by kernel_rfl) rfl #[.string a0_0] rfl ml_ ?_; (with_reducible refine (qdd.calls a0_0 false _ A4.out).mono ?_); rintro e w' ⟨rfl, ⟨nd, rfl⟩⟩; refine ⟨_, rfl, ?_⟩))
   go_meet
   case rel => exact ⟨_, (true), sm_, H', ⟨by first | omega | exact Nat.le_refl _⟩, ⟨by (with_reducible repeat (first | refine qp ?_ _ | refine qz ?_ | refine qm ?_ _)); exact BK134.out⟩, ⟨bwx_⟩⟩
  subst c5
  have H1 : ((qdp.f a0_4).bind fun t136 => (if t136 = true then ((qdp.f a0_5).bind fun t137 => (qca.j0 k (!t137) a0_0 a0_1 a0_2 a0_3 a0_4 a0_5 l0_6)) else (qca.j0 k true a0_0 a0_1 a0_2 a0_3 a0_4 a0_5 l0_6))) = some r := by rw [if_pos rfl] at H; exact H
  clear H
  have H := H1
  clear H1
  replace H := Option.bind_eq_some_iff.mp H
  obtain ⟨t136, A60, H⟩ := H
  try dsimp only at H
  have A6 := qd.mk A60
  clear A60
  by_cases c7 : t136 = true
  rotate_left
  ·replace c7 := Bool.eq_false_iff.mpr c7
   subst c7
   have H1 : (qca.j0 k true a0_0 a0_1 a0_2 a0_3 a0_4 a0_5 l0_6) = some r := by rw [if_neg (show ¬ (false = true) by decide)] at H; exact H
   clear H
   have H := H1
   clear H1
   have H' := qd.mk H
   clear H
   obtain ⟨cz10_0, cz10_1, cz10_2, cz10_3, cz10_4, cz10_5, cz10_6⟩ := bc7_ (w := w3) BK134.out
   obtain ⟨fz10_0, fz10_1, fz10_2, fz10_3, fz10_4, fz10_5, fz10_6⟩ := bf7_ BK134.out
   go_wp2_with (first | ((with_reducible refine qbf (f := 80) rfl ?_); refine qcp (some 6) rfl rfl Tryd.func80 (by kernel_rfl) rfl #[.string a0_0] rfl ml_ ?_; (with_reducible refine (qdd.calls a0_0 true _ A4.out).mono ?_); rintro e w' ⟨rfl, ⟨nd, rfl⟩⟩; refine ⟨_, rfl, ?_⟩) | (go_at_call 133; (with_reducible refine (qdp.calls a0_4 false _ A6.out).mono ?_); rintro e w' ⟨rfl, ⟨nd, rfl⟩⟩))
   go_meet
   case rel => exact ⟨_, (true), sm_, H', ⟨by first | omega | exact Nat.le_refl _⟩, ⟨by (with_reducible repeat (first | refine qp ?_ _ | refine qz ?_ | refine qm ?_ _)); exact BK134.out⟩, ⟨bwx_⟩⟩
  subst c7
  have H1 : ((qdp.f a0_5).bind fun t137 => (qca.j0 k (!t137) a0_0 a0_1 a0_2 a0_3 a0_4 a0_5 l0_6)) = some r := by rw [if_pos rfl] at H; exact H
  clear H
  have H := H1
  clear H1
  replace H := Option.bind_eq_some_iff.mp H
  obtain ⟨t137, A80, H⟩ := H
  replace H : (qca.j0 k (!t137) a0_0 a0_1 a0_2 a0_3 a0_4 a0_5 l0_6) = some r := H
  have A8 := qd.mk A80
  clear A80
  have H' := qd.mk H
  clear H
  obtain ⟨cz9_0, cz9_1, cz9_2, cz9_3, cz9_4, cz9_5, cz9_6⟩ := bc7_ (w := w3) BK134.out
  obtain ⟨fz9_0, fz9_1, fz9_2, fz9_3, fz9_4, fz9_5, fz9_6⟩ := bf7_ BK134.out
  go_wp2_with (first | ((with_reducible refine qbf (f := 80) rfl ?_); refine qcp (some 6) rfl rfl Tryd.func80 (by kernel_rfl) rfl #[.string a0_0] rfl ml_ ?_; (with_reducible refine (qdd.calls a0_0 true _ A4.out).mono ?_); rintro e w' ⟨rfl, ⟨nd, rfl⟩⟩; refine ⟨_, rfl, ?_⟩) | (go_at_call 133; (with_reducible refine (qdp.calls a0_4 true _ A6.out).mono ?_); rintro e w' ⟨rfl, ⟨nd, rfl⟩⟩) | (go_at_call 133; (with_reducible refine (qdp.calls a0_5 t137 _ A8.out).mono ?_); rintro e w' ⟨rfl, ⟨nd, rfl⟩⟩))
  go_meet
  case rel => exact ⟨_, (!t137), sm_, H', ⟨by first | omega | exact Nat.le_refl _⟩, ⟨by (with_reducible repeat (first | refine qp ?_ _ | refine qz ?_ | refine qm ?_ _)); exact BK134.out⟩, ⟨bwx_⟩⟩
 case rest =>
  clear HC2
  try clear p2
  try clear c5
  try clear c7
  try clear c8
  try clear c9
  try clear cz10_0 cz10_1 cz10_2 cz10_3 cz10_4 cz10_5 cz10_6
  try clear cz11_0 cz11_1 cz11_2 cz11_3 cz11_4 cz11_5 cz11_6
  try clear cz9_0 cz9_1 cz9_2 cz9_3 cz9_4 cz9_5 cz9_6
  try clear fz10_0 fz10_1 fz10_2 fz10_3 fz10_4 fz10_5 fz10_6
  try clear fz11_0 fz11_1 fz11_2 fz11_3 fz11_4 fz11_5 fz11_6
  try clear fz9_0 fz9_1 fz9_2 fz9_3 fz9_4 fz9_5 fz9_6
  obtain ⟨kq, x3_1, rfl, HA, HJ1, BK134, HB⟩ := hcut
  cases kq with
  | zero => exact absurd HA.out (by simp [qca.j0])
  | succ kj1 =>
   have H := HA.out
   clear HA
   simp only [qca.j0] at H
   by_cases c12 : x3_1 = true
   ·subst c12
    have H1 : (some 7) = some r := by rw [if_pos rfl] at H; exact H
    clear H
    have H := H1
    clear H1
    obtain rfl := Option.some.inj H
    go_wp2
    go_ret
    exact ⟨ew_, bwx_⟩
   ·replace c12 := Bool.eq_false_iff.mpr c12
    subst c12
    have H1 : ((qfy.f a0_1).bind fun t138 => (if t138 = true then ((qdg.f a0_2 1000000000000).bind fun t139 => (if t139 = true then ((qdg.f a0_3 1000000000000).bind fun t140 => (qca.j1 kj1 (!t140) a0_0 a0_1 a0_2 a0_3 a0_4 a0_5 l0_6)) else (qca.j1 kj1 true a0_0 a0_1 a0_2 a0_3 a0_4 a0_5 l0_6))) else (some 13))) = some r := by rw [if_neg (show ¬ (false = true) by decide)] at H; exact H
    clear H
    have H := H1
    clear H1
    replace H := Option.bind_eq_some_iff.mp H
    obtain ⟨t138, A130, H⟩ := H
    try dsimp only at H
    have A13 := qd.mk A130
    clear A130
    by_cases c14 : t138 = true
    ·subst c14
     have H1 : ((qdg.f a0_2 1000000000000).bind fun t139 => (if t139 = true then ((qdg.f a0_3 1000000000000).bind fun t140 => (qca.j1 kj1 (!t140) a0_0 a0_1 a0_2 a0_3 a0_4 a0_5 l0_6)) else (qca.j1 kj1 true a0_0 a0_1 a0_2 a0_3 a0_4 a0_5 l0_6))) = some r := by rw [if_pos rfl] at H; exact H
     clear H
     have H := H1
     clear H1
     have HC15 := qd.mk H
     clear H
     obtain ⟨cz16_0, cz16_1, cz16_2, cz16_3, cz16_4, cz16_5, cz16_6⟩ := bc7_ (w := wc) BK134.out
     obtain ⟨fz16_0, fz16_1, fz16_2, fz16_3, fz16_4, fz16_5, fz16_6⟩ := bf7_ BK134.out
     go_upto_region 5 with (first | ((with_reducible refine qbf (f := 81) rfl ?_); refine qcp (some 23) rfl rfl Tryd.func81 (by kernel_rfl) rfl #[.string a0_1] rfl ml_ ?_; (with_reducible refine (qfy.calls a0_1 true _ A13.out).mono ?_); rintro e w17 ⟨rfl, hb⟩; refine ⟨_, rfl, ?_⟩; have n0_ := qd.mk (bb_ BK134 hb); have n1_ := qd.mk (qw (bwx_) hb); clear BK134; clear HB; have BK134 := n0_; have HB := n1_; clear n0_ n1_; (try clear hb); (try clear hb2); (try clear hk); (try clear hi)))
     (try simp only [Act.put, List.setIfInBounds_toArray, List.set_cons_zero, List.set_cons_succ])
     go_cut [25] (fun v25 wc => ∃ (kq : Nat) (x25_14 : Bool), v25 = .bool x25_14 ∧ qd (qca.j1 kq x25_14 a0_0 a0_1 a0_2 a0_3 a0_4 a0_5 l0_6 = some r) ∧ qd (kq ≤ kj1) ∧ qd (wc.heap[gb134]? = some (.cells #[.string a0_0, .string a0_1, .int .i64 a0_2, .int .i64 a0_3, .string a0_4, .string a0_5, (.slice A0_6 l0_6.length c0_6)] 109 (0, 0))) ∧ qd (Below w.heap.size w wc))
     case first =>
      have H := HC15.out
      clear HC15
      replace H := Option.bind_eq_some_iff.mp H
      obtain ⟨t139, A180, H⟩ := H
      try dsimp only at H
      have A18 := qd.mk A180
      clear A180
      by_cases c19 : t139 = true
      rotate_left
      ·replace c19 := Bool.eq_false_iff.mpr c19
       subst c19
       have H1 : (qca.j1 kj1 true a0_0 a0_1 a0_2 a0_3 a0_4 a0_5 l0_6) = some r := by rw [if_neg (show ¬ (false = true) by decide)] at H; exact H
       clear H
       have H := H1
       clear H1
       have H' := qd.mk H
       clear H
       obtain ⟨cz22_0, cz22_1, cz22_2, cz22_3, cz22_4, cz22_5, cz22_6⟩ := bc7_ (w := w17) BK134.out
       obtain ⟨fz22_0, fz22_1, fz22_2, fz22_3, fz22_4, fz22_5, fz22_6⟩ := bf7_ BK134.out
       go_wp2_with (first | ((with_reducible refine qbf (f := 134) rfl ?_); refine qcp (some 28) rfl rfl Tryd.func134 (by kernel_rfl) rfl #[.int .i64 a0_2, .int .i64 1000000000000] rfl ml_ ?_; (with_reducible refine (qdg.calls a0_2 1000000000000 false _ A18.out).mono ?_); rintro e w' ⟨rfl, ⟨nd, rfl⟩⟩; refine ⟨_, rfl, ?_⟩))
       go_meet
       case rel => exact ⟨_, (true), sm_, H', ⟨by have := HJ1.out; first | omega | exact Nat.le_refl _⟩, ⟨by (with_reducible repeat (first | refine qp ?_ _ | refine qz ?_ | refine qm ?_ _)); exact BK134.out⟩, ⟨bwx_⟩⟩
      subst c19
      have H1 : ((qdg.f a0_3 1000000000000).bind fun t140 => (qca.j1 kj1 (!t140) a0_0 a0_1 a0_2 a0_3 a0_4 a0_5 l0_6)) = some r := by rw [if_pos rfl] at H; exact H
      clear H
      have H := H1
      clear H1
      replace H := Option.bind_eq_some_iff.mp H
      obtain ⟨t140, A200, H⟩ := H
      replace H : (qca.j1 kj1 (!t140) a0_0 a0_1 a0_2 a0_3 a0_4 a0_5 l0_6) = some r := H
      have A20 := qd.mk A200
      clear A200
      have H' := qd.mk H
      clear H
      obtain ⟨cz21_0, cz21_1, cz21_2, cz21_3, cz21_4, cz21_5, cz21_6⟩ := bc7_ (w := w17) BK134.out
      obtain ⟨fz21_0, fz21_1, fz21_2, fz21_3, fz21_4, fz21_5, fz21_6⟩ := bf7_ BK134.out
      go_wp2_with (first | ((with_reducible refine qbf (f := 134) rfl ?_); refine qcp (some 28) rfl rfl Tryd.func134 (by kernel_rfl) rfl #[.int .i64 a0_2, .int .i64 1000000000000] rfl ml_ ?_; (with_reducible refine (qdg.calls a0_2 1000000000000 true _ A18.out).mono ?_); rintro e w' ⟨rfl, ⟨nd, rfl⟩⟩; refine ⟨_, rfl, ?_⟩) | (go_at_call 134; (with_reducible refine (qdg.calls a0_3 1000000000000 t140 _ A20.out).mono ?_); rintro e w' ⟨rfl, ⟨nd, rfl⟩⟩))
      go_meet
      case rel => exact ⟨_, (!t140), sm_, H', ⟨by have := HJ1.out; first | omega | exact Nat.le_refl _⟩, ⟨by (with_reducible repeat (first | refine qp ?_ _ | refine qz ?_ | refine qm ?_ _)); exact BK134.out⟩, ⟨bwx_⟩⟩
     clear HC15
     try clear c1
     try clear p2
     try clear c5
     try clear c7
     try clear c8
     try clear c9
     try clear c12
     try clear c13
     try clear c14
     try clear c19
     try clear cz10_0 cz10_1 cz10_2 cz10_3 cz10_4 cz10_5 cz10_6
     try clear cz11_0 cz11_1 cz11_2 cz11_3 cz11_4 cz11_5 cz11_6
     try clear cz16_0 cz16_1 cz16_2 cz16_3 cz16_4 cz16_5 cz16_6
     try clear cz21_0 cz21_1 cz21_2 cz21_3 cz21_4 cz21_5 cz21_6
     try clear cz22_0 cz22_1 cz22_2 cz22_3 cz22_4 cz22_5 cz22_6
     try clear cz9_0 cz9_1 cz9_2 cz9_3 cz9_4 cz9_5 cz9_6
     try clear fz10_0 fz10_1 fz10_2 fz10_3 fz10_4 fz10_5 fz10_6
     try clear fz11_0 fz11_1 fz11_2 fz11_3 fz11_4 fz11_5 fz11_6
     try clear fz16_0 fz16_1 fz16_2 fz16_3 fz16_4 fz16_5 fz16_6
     try clear fz21_0 fz21_1 fz21_2 fz21_3 fz21_4 fz21_5 fz21_6
     try clear fz22_0 fz22_1 fz22_2 fz22_3 fz22_4 fz22_5 fz22_6
     try clear fz9_0 fz9_1 fz9_2 fz9_3 fz9_4 fz9_5 fz9_6
     try clear p2
     obtain ⟨kq, x25_14, rfl, HA, HJ14, BK134, HB⟩ := hcut
     cases kq with
     | zero => exact absurd HA.out (by simp [qca.j1])
     | succ kj14 =>
      have H := HA.out
      clear HA
      simp only [qca.j1] at H
      by_cases c23 : x25_14 = true
      ·subst c23
       have H1 : (some 4) = some r := by rw [if_pos rfl] at H; exact H
       clear H
       have H := H1
       clear H1
       obtain rfl := Option.some.inj H
       go_wp2
       go_ret
       exact ⟨ew_, bwx_⟩
      replace c23 := Bool.eq_false_iff.mpr c23
      subst c23
      have H1 : (if a0_2 = 0 then (qca.j2 kj14 (a0_3 == 0) a0_0 a0_1 a0_2 a0_3 a0_4 a0_5 l0_6) else (qca.j2 kj14 false a0_0 a0_1 a0_2 a0_3 a0_4 a0_5 l0_6)) = some r := by rw [if_neg (show ¬ (false = true) by decide)] at H; exact H
      clear H
      have H := H1
      clear H1
      have HC24 := qd.mk H
      clear H
      go_upto_region 7 with (fail)
      go_cut [36] (fun v36 wc => ∃ (kq : Nat) (x36_23 : Bool), v36 = .bool x36_23 ∧ qd (qca.j2 kq x36_23 a0_0 a0_1 a0_2 a0_3 a0_4 a0_5 l0_6 = some r) ∧ qd (kq ≤ kj14) ∧ qd (wc.heap[gb134]? = some (.cells #[.string a0_0, .string a0_1, .int .i64 a0_2, .int .i64 a0_3, .string a0_4, .string a0_5, (.slice A0_6 l0_6.length c0_6)] 109 (0, 0))) ∧ qd (Below w.heap.size w wc))
      case first =>
       have H := HC24.out
       clear HC24
       by_cases c25 : a0_2 = 0
       ·rw [if_pos c25] at H
        have c25b0 : (a0_2 == 0) = true := beq_iff_eq.mpr c25
        have c25b1 : (a0_2 != 0) = false := bne_eq_false_iff_eq.mpr c25
        clear c25
        (first | rw [c25b0] | (simp only [qeh, qen]; rw [c25b0]) | skip)
        have H' := qd.mk H
        clear H
        obtain ⟨cz26_0, cz26_1, cz26_2, cz26_3, cz26_4, cz26_5, cz26_6⟩ := bc7_ (w := wc) BK134.out
        obtain ⟨fz26_0, fz26_1, fz26_2, fz26_3, fz26_4, fz26_5, fz26_6⟩ := bf7_ BK134.out
        go_wp2
        go_meet
        case rel => exact ⟨_, ((a0_3 == 0)), sm_, H', ⟨by have := HJ1.out; have := HJ14.out; first | omega | exact Nat.le_refl _⟩, ⟨by (with_reducible repeat (first | refine qp ?_ _ | refine qz ?_ | refine qm ?_ _)); exact BK134.out⟩, ⟨bwx_⟩⟩
       rw [if_neg c25] at H
       have c25b0 : (a0_2 == 0) = false := beq_eq_false_iff_ne.mpr c25
       have c25b1 : (a0_2 != 0) = true := bne_iff_ne.mpr c25
       (first | rw [c25b0] | (simp only [qeh, qen]; rw [c25b0]) | skip)
       have H' := qd.mk H
       clear H
       obtain ⟨cz27_0, cz27_1, cz27_2, cz27_3, cz27_4, cz27_5, cz27_6⟩ := bc7_ (w := wc) BK134.out
       obtain ⟨fz27_0, fz27_1, fz27_2, fz27_3, fz27_4, fz27_5, fz27_6⟩ := bf7_ BK134.out
       go_wp2
       go_meet
       case rel => exact ⟨_, (false), sm_, H', ⟨by have := HJ1.out; have := HJ14.out; first | omega | exact Nat.le_refl _⟩, ⟨by (with_reducible repeat (first | refine qp ?_ _ | refine qz ?_ | refine qm ?_ _)); exact BK134.out⟩, ⟨bwx_⟩⟩
      clear HC24
      try clear c1
      try clear c2
      try clear p2
      try clear c5
      try clear c7
      try clear c8
      try clear c9
      try clear c12
      try clear c13
      try clear c14
      try clear c19
      try clear c23
      try clear c25
      try clear c25b0
      try clear c25b1
      try clear cz10_0 cz10_1 cz10_2 cz10_3 cz10_4 cz10_5 cz10_6
      try clear cz11_0 cz11_1 cz11_2 cz11_3 cz11_4 cz11_5 cz11_6
      try clear cz16_0 cz16_1 cz16_2 cz16_3 cz16_4 cz16_5 cz16_6
      try clear cz21_0 cz21_1 cz21_2 cz21_3 cz21_4 cz21_5 cz21_6
      try clear cz22_0 cz22_1 cz22_2 cz22_3 cz22_4 cz22_5 cz22_6
      try clear cz26_0 cz26_1 cz26_2 cz26_3 cz26_4 cz26_5 cz26_6
      try clear cz27_0 cz27_1 cz27_2 cz27_3 cz27_4 cz27_5 cz27_6
      try clear cz9_0 cz9_1 cz9_2 cz9_3 cz9_4 cz9_5 cz9_6
      try clear fz10_0 fz10_1 fz10_2 fz10_3 fz10_4 fz10_5 fz10_6
      try clear fz11_0 fz11_1 fz11_2 fz11_3 fz11_4 fz11_5 fz11_6
      try clear fz16_0 fz16_1 fz16_2 fz16_3 fz16_4 fz16_5 fz16_6
      try clear fz21_0 fz21_1 fz21_2 fz21_3 fz21_4 fz21_5 fz21_6
      try clear fz22_0 fz22_1 fz22_2 fz22_3 fz22_4 fz22_5 fz22_6
      try clear fz26_0 fz26_1 fz26_2 fz26_3 fz26_4 fz26_5 fz26_6
      try clear fz27_0 fz27_1 fz27_2 fz27_3 fz27_4 fz27_5 fz27_6
      try clear fz9_0 fz9_1 fz9_2 fz9_3 fz9_4 fz9_5 fz9_6
      try clear p2
      obtain ⟨kq, x36_23, rfl, HA, HJ23, BK134, HB⟩ := hcut
      cases kq with
      | zero => exact absurd HA.out (by simp [qca.j2])
      | succ kj23 =>
       have H := HA.out
       clear HA
       simp only [qca.j2] at H
       by_cases c28 : x36_23 = true
       ·subst c28
        have H1 : (some 2) = some r := by rw [if_pos rfl] at H; exact H
        clear H
        have H := H1
        clear H1
        obtain rfl := Option.some.inj H
        go_wp2
        go_ret
        exact ⟨ew_, bwx_⟩
       replace c28 := Bool.eq_false_iff.mpr c28
       subst c28
       have H1 : ((qcl.f kj23 l0_6).bind fun t141 => (if t141 = true then (some 0) else (some 14))) = some r := by rw [if_neg (show ¬ (false = true) by decide)] at H; exact H
       clear H
       have H := H1
       clear H1
       replace H := Option.bind_eq_some_iff.mp H
       obtain ⟨t141, A290, H⟩ := H
       replace H : (if t141 = true then (some 0) else (some 14)) = some r := H
       have A29 := qd.mk A290
       clear A290
       by_cases c30 : t141 = true
       ·subst c30
        have H1 : (some 0) = some r := by rw [if_pos rfl] at H; exact H
        clear H
        have H := H1
        clear H1
        obtain rfl := Option.some.inj H
        obtain ⟨cz31_0, cz31_1, cz31_2, cz31_3, cz31_4, cz31_5, cz31_6⟩ := bc7_ (w := wc) BK134.out
        obtain ⟨fz31_0, fz31_1, fz31_2, fz31_3, fz31_4, fz31_5, fz31_6⟩ := bf7_ BK134.out
        go_wp2_with (first | ((with_reducible refine qbf (f := 129) rfl ?_); refine qcp (some 48) rfl rfl Tryd.func129 (by kernel_rfl) rfl #[.slice A0_6 l0_6.length c0_6] rfl ml_ ?_; (with_reducible refine (qcl.calls kj23 _ _ l0_6 true _ ?side1 ?side2 A29.out).mono ?_); (case side1 => repeat (first | exact (Kd.qbw HR0_6.out HB.out) | (with_reducible refine Kd.qck ?_ _) | (with_reducible refine Kd.qcf ?_ _) | (with_reducible refine Kd.qcz ?_))); (case side2 => exact HC0_6.out); rintro e w32 ⟨rfl, hb⟩; refine ⟨_, rfl, ?_⟩; have n0_ := qd.mk (bb_ BK134 hb); have n1_ := qd.mk (qw (bwx_) hb); clear BK134; clear HB; have BK134 := n0_; have HB := n1_; clear n0_ n1_; (try clear hb); (try clear hb2); (try clear hk); (try clear hi)))
        go_ret
        exact ⟨ew_, bwx_⟩
       replace c30 := Bool.eq_false_iff.mpr c30
       subst c30
       have H1 : (some 14) = some r := by rw [if_neg (show ¬ (false = true) by decide)] at H; exact H
       clear H
       have H := H1
       clear H1
       obtain rfl := Option.some.inj H
       obtain ⟨cz33_0, cz33_1, cz33_2, cz33_3, cz33_4, cz33_5, cz33_6⟩ := bc7_ (w := wc) BK134.out
       obtain ⟨fz33_0, fz33_1, fz33_2, fz33_3, fz33_4, fz33_5, fz33_6⟩ := bf7_ BK134.out
       go_wp2_with (first | ((with_reducible refine qbf (f := 129) rfl ?_); refine qcp (some 48) rfl rfl Tryd.func129 (by kernel_rfl) rfl #[.slice A0_6 l0_6.length c0_6] rfl ml_ ?_; (with_reducible refine (qcl.calls kj23 _ _ l0_6 false _ ?side1 ?side2 A29.out).mono ?_); (case side1 => repeat (first | exact (Kd.qbw HR0_6.out HB.out) | (with_reducible refine Kd.qck ?_ _) | (with_reducible refine Kd.qcf ?_ _) | (with_reducible refine Kd.qcz ?_))); (case side2 => exact HC0_6.out); rintro e w34 ⟨rfl, hb⟩; refine ⟨_, rfl, ?_⟩; have n0_ := qd.mk (bb_ BK134 hb); have n1_ := qd.mk (qw (bwx_) hb); clear BK134; clear HB; have BK134 := n0_; have HB := n1_; clear n0_ n1_; (try clear hb); (try clear hb2); (try clear hk); (try clear hi)))
       go_ret
       exact ⟨ew_, bwx_⟩
    ·replace c14 := Bool.eq_false_iff.mpr c14
     subst c14
     have H1 : (some 13) = some r := by rw [if_neg (show ¬ (false = true) by decide)] at H; exact H
     clear H
     have H := H1
     clear H1
     obtain rfl := Option.some.inj H
     obtain ⟨cz35_0, cz35_1, cz35_2, cz35_3, cz35_4, cz35_5, cz35_6⟩ := bc7_ (w := wc) BK134.out
     obtain ⟨fz35_0, fz35_1, fz35_2, fz35_3, fz35_4, fz35_5, fz35_6⟩ := bf7_ BK134.out
     go_wp2_with (first | ((with_reducible refine qbf (f := 81) rfl ?_); refine qcp (some 23) rfl rfl Tryd.func81 (by kernel_rfl) rfl #[.string a0_1] rfl ml_ ?_; (with_reducible refine (qfy.calls a0_1 false _ A13.out).mono ?_); rintro e w36 ⟨rfl, hb⟩; refine ⟨_, rfl, ?_⟩; have n0_ := qd.mk (bb_ BK134 hb); have n1_ := qd.mk (qw (bwx_) hb); clear BK134; clear HB; have BK134 := n0_; have HB := n1_; clear n0_ n1_; (try clear hb); (try clear hb2); (try clear hk); (try clear hi)))
     go_ret
     exact ⟨ew_, bwx_⟩
end
section
open Go.Sort
structure CmpB (w0 : World) (blk pc pk : Nat) : Prop where
 hc : w0.cell? ⟨pc, 0, none⟩ = some (.func (.func 62) #[] #[])
 hk : w0.cell? ⟨pk, 0, none⟩ = some (.func (.func 61) #[] #[])
 nc : pc ≠ blk
 nk : pk ≠ blk
theorem qfe {w0 W : World} {blk off pc pk : Nat} {dk : Array S112} (h : SWK e34 7 w0 blk off dk W) (C : CmpB w0 blk pc pk) (x y : S112) (n : Nat) (os : Array Obj) :
  Calls Tryd.prog 109 #[.agg #[.string x.f0.f0, .string x.f0.f1, .string x.f0.f2, .string x.f0.f3, .string x.f0.f4, .int .i64 x.f1, .int .i64 x.f2], .agg #[.string y.f0.f0, .string y.f0.f1, .string y.f0.f2, .string y.f0.f3, .string y.f0.f4, .int .i64 y.f1, .int .i64 y.f2], .pointer (some ⟨pc, 0, none⟩), .pointer (some ⟨pk, 0, none⟩)] (grow (W.drewN n) os) fun e w' => e = .returned (.int .i64 (cmpC x y)) ∧ ∃ q os', w' = grow ((grow (W.drewN n) os).drewN q) os' :=
 comp_calls x y pc pk _ (qmi (swk_cell h C.nc C.hc)) (qmi (swk_cell h C.nk C.hk))
abbrev ltC : S112 → S112 → Bool := Go.Proofs.ltOf cmpC
set_option maxRecDepth 1000000 in
theorem qis (blk off cap a b pc pk : Nat) (d0 d : Array S112) (w0 w : World) (R : RowK e34 7 w0 blk off d0) (C : CmpB w0 blk pc pk) (hs : d0.size = d.size) (S : SWK e34 7 w0 blk off d w) (hab : a ≤ b) (hb : b ≤ d.size) (hsz : d.size < 2305843009213693952) :
  Calls Tryd.prog 175 #[.slice (some ⟨blk, off, none⟩) d.size cap, .int .i64 a, .int .i64 b, .func (.func 109) #[] #[.pointer (some ⟨pc, 0, none⟩), .pointer (some ⟨pk, 0, none⟩)]] w fun e w' => e = .returned (.tuple #[]) ∧ SWK e34 7 w0 blk off (Sort.insertionSort ltC d a b) w' := by
 have S0 := qd.mk S
 have HR := qd.mk R
 have HCB := qd.mk C
 clear S R C
 go_enter Tryd.func175, Tryd.ntmps175
 go_wp2
 go_loopw [8, 9, 12, 13, 14, 15, 16, 17, 18, 19, 20, 21, 22, 23, 24, 25, 26, 27, 28, 29, 30, 31, 32, 33, 34, 35, 36, 37, 38, 39, 40, 41, 42, 43, 44, 45, 46, 47, 48, 49, 50, 51, 52] (fun v8 _ _ _ _ _ _ _ _ _ _ _ _ _ _ _ _ _ _ _ _ _ _ _ _ _ _ _ _ _ _ _ _ _ _ _ _ _ _ _ _ _ _ wr => ∃ (i : Nat) (dk : Array S112), a + 1 ≤ i ∧ i ≤ b + 1 ∧ v8 = .int .i64 i ∧ dk.size = d.size ∧ qd (SWK e34 7 w0 blk off dk wr) ∧ qd (insOuter ltC a b i dk = insOuter ltC a b (a + 1) d)) (fun v8 _ _ _ _ _ _ _ _ _ _ _ _ _ _ _ _ _ _ _ _ _ _ _ _ _ _ _ _ _ _ _ _ _ _ _ _ _ _ _ _ _ _ _ => b + 1 - (intOf v8).toNat)
 case atStart => exact ⟨a + 1, d, Nat.le_refl _, by omega, by go_num, rfl, S0, ⟨rfl⟩⟩
 clear S0
 obtain ⟨i, dk, hai, hib, rfl, hdz, S1, HO⟩ := hrel
 by_cases hlt : i < b
 rotate_left
 ·have d1 : decide ((i : Int) < (b : Int)) = false := decide_eq_false (by omega)
  have d2 : decide (i < b) = false := decide_eq_false hlt
  go_wp2
  go_end0
  refine ⟨rfl, ?_⟩
  have e : Sort.insertionSort ltC d a b = dk := by
   unfold Sort.insertionSort
   rw [← HO.out, insOuter_stop _ _ _ _ _ hlt]
  rw [e]
  exact S1.out
 have d1 : decide ((i : Int) < (b : Int)) = true := decide_eq_true (by omega)
 have d2 : decide (i < b) = true := decide_eq_true hlt
 go_wp2
 go_loopw [9, 18, 19, 20, 21, 22, 23, 24, 25, 26, 27, 28, 29, 30, 31, 32, 33, 34, 35, 36, 37, 38, 39, 40, 41, 42, 43, 44, 45, 46, 47, 48, 49, 50, 51, 52] (fun v9 _ _ _ _ _ _ _ _ _ _ _ _ _ _ _ _ _ _ _ _ _ _ _ _ _ _ _ _ _ _ _ _ _ _ _ wr => ∃ (j : Nat) (dj : Array S112), a ≤ j ∧ j ≤ i ∧ v9 = .int .i64 j ∧ dj.size = d.size ∧ qd (SWK e34 7 w0 blk off dj wr) ∧ qd (insInner ltC a j dj = insInner ltC a i dk)) (fun v9 _ _ _ _ _ _ _ _ _ _ _ _ _ _ _ _ _ _ _ _ _ _ _ _ _ _ _ _ _ _ _ _ _ _ _ _ => (intOf v9).toNat)
 case atStart => exact ⟨i, dk, by omega, Nat.le_refl _, rfl, hdz, S1, ⟨rfl⟩⟩
 clear S1
 obtain ⟨j, dj, haj, hji, rfl, hjz, S1, HI⟩ := hrel
 have OUT := qd.mk (show (j ≤ a ∨ ltC dj[j]! dj[j - 1]! = false) → insOuter ltC a b (i + 1) dj = insOuter ltC a b (a + 1) d from fun hs => by
  rw [← HO.out, insOuter_go _ _ _ _ _ hlt, ← HI.out, insInner_stop _ _ _ _ hs])
 by_cases hja : a < j
 rotate_left
 ·have d3 : decide ((a : Int) < (j : Int)) = false := decide_eq_false (by omega)
  have d4 : decide (a < j) = false := decide_eq_false hja
  have mixed : Tryd.prog.follows .mixedOrders = true := by kernel_rfl
  have S2 := qd.mk S1.out.drew
  go_wp2_with fail
  go_big_region_o
  clear S1
  generalize wr.drew = w2 at S2 ⊢
  go_wp2
  go_roundw
  case rel => exact ⟨i + 1, dj, by omega, by omega, by go_num, hjz, S2, ⟨OUT.out (.inl (by omega))⟩⟩
  case measure => simp [intOf]; omega
 have d3 : decide ((a : Int) < (j : Int)) = true := decide_eq_true (by omega)
 have d4 : decide (a < j) = true := decide_eq_true hja
 obtain ⟨p, rfl⟩ : ∃ p, j = p + 1 := ⟨j - 1, by omega⟩
 have e1 : ((p + 1 : Nat) : Int) = (p : Int) + 1 := by omega
 have e2 : IntKind.i64.wrap (p : Int) = (p : Int) := by rw [IntKind.wrap_i64]; omega
 have d5 : decide ((a : Int) < (p : Int) + 1) = true := decide_eq_true (by omega)
 have E1 := qd.mk e1
 clear e1
 cases hl : ltC dj[p + 1]! dj[p]! with
 | true =>
  have HL := qd.mk hl
  clear hl
  have hn_6576 : ((p : Int) + 1).toNat = p + 1 := by omega
  have hp_6576 : (0 : Int) ≤ (p : Int) + 1 := by omega
  have hq_6576 : (p : Int) + 1 < (d.size : Int) := by omega
  have hw_6576 : IntKind.i64.wrap ((p : Int) + 1) = (p : Int) + 1 := by rw [IntKind.wrap_i64]; omega
  have hn_88947 : ((p : Int)).toNat = p := by omega
  have hp_88947 : (0 : Int) ≤ (p : Int) := by omega
  have hq_88947 : (p : Int) < (d.size : Int) := by omega
  have hw_88947 : IntKind.i64.wrap ((p : Int)) = (p : Int) := by rw [IntKind.wrap_i64]; omega
  obtain ⟨x, hx⟩ : ∃ x, dj[p + 1]! = x := ⟨_, rfl⟩
  obtain ⟨y, hy⟩ : ∃ y, dj[p]! = y := ⟨_, rfl⟩
  have cx := (qgf S1.out HR.out (by omega) (show p + 1 < dj.size by omega)).1
  have cy := (qgf S1.out HR.out (by omega) (show p < dj.size by omega)).1
  rw [hx] at cx
  rw [hy] at cy
  have hd : decide (cmpC x y < 0) = true := by rw [← hx, ← hy]; exact HL.out
  have hcall := fun n os => qfe S1.out HCB.out x y n os
  obtain ⟨x0, x1, x2, x3, x4, x5, x6⟩ := cx
  obtain ⟨y0, y1, y2, y3, y4, y5, y6⟩ := cy
  have x0 := qbc x0
  have x1 := qbc x1
  have x2 := qbc x2
  have x3 := qbc x3
  have x4 := qbc x4
  have x5 := qbc x5
  have x6 := qbc x6
  have y0 := qbc y0
  have y1 := qbc y1
  have y2 := qbc y2
  have y3 := qbc y3
  have y4 := qbc y4
  have y5 := qbc y5
  have y6 := qbc y6
  clear hx hy
  have mixed : Tryd.prog.follows .mixedOrders = true := by kernel_rfl
  go_wp2_with fail
  go_quiet_grown ((go_at_call 109; refine Calls.grown_of (hcall _ _)))
  have S2 := qd.mk (S1.out.grown nq osq)
  clear x0 x1 x2 x3 x4 x5 x6 y0 y1 y2 y3 y4 y5 y6 hcall S1 mixed
  generalize grow (wr.drewN nq) osq = w2 at S2 ⊢
  clear nq osq
  go_wp2_with fail
  have hn_6576 : ((p : Int) + 1).toNat = p + 1 := by omega
  have hp_6576 : (0 : Int) ≤ (p : Int) + 1 := by omega
  have hq_6576 : (p : Int) + 1 < (d.size : Int) := by omega
  have hw_6576 : IntKind.i64.wrap ((p : Int) + 1) = (p : Int) + 1 := by rw [IntKind.wrap_i64]; omega
  have hn_88947 : ((p : Int)).toNat = p := by omega
  have hp_88947 : (0 : Int) ≤ (p : Int) := by omega
  have hq_88947 : (p : Int) < (d.size : Int) := by omega
  have hw_88947 : IntKind.i64.wrap ((p : Int)) = (p : Int) := by rw [IntKind.wrap_i64]; omega
  obtain ⟨x, hx⟩ : ∃ x, dj[p + 1]! = x := ⟨_, rfl⟩
  obtain ⟨y, hy⟩ : ∃ y, dj[p]! = y := ⟨_, rfl⟩
  have hsw := S2.out.swapped HR.out (p + 1) (p) (by omega) (by omega)
  rw [hx, hy, qkq, qkq] at hsw
  simp only [qle] at hsw
  have HSW := qd.mk hsw
  obtain ⟨cx, fx⟩ := qgf S2.out HR.out (by omega) (show p + 1 < dj.size by omega)
  obtain ⟨cy, fy⟩ := qgf S2.out HR.out (by omega) (show p < dj.size by omega)
  rw [hx] at cx
  rw [hy] at cy
  obtain ⟨x0, x1, x2, x3, x4, x5, x6⟩ := cx
  obtain ⟨y0, y1, y2, y3, y4, y5, y6⟩ := cy
  obtain ⟨fx0, fx1, fx2, fx3, fx4, fx5, fx6⟩ := fx
  obtain ⟨fy0, fy1, fy2, fy3, fy4, fy5, fy6⟩ := fy
  clear hx hy hsw
  have mixed : Tryd.prog.follows .mixedOrders = true := by kernel_rfl
  go_wp2_with fail
  go_big_region_o
  refine qdj (P := fun x => Exit.inBlock _ _ _ _ x) _ ?_
  intro w3 hw3
  have S3 := qd.mk (show SWK e34 7 w0 blk off (swp dj (p + 1) (p)) w3 from by rw [hw3]; exact HSW.out)
  clear hw3 HSW S2 x0 x1 x2 x3 x4 x5 x6 y0 y1 y2 y3 y4 y5 y6 fx0 fx1 fx2 fx3 fx4 fx5 fx6 fy0 fy1 fy2 fy3 fy4 fy5 fy6 mixed
  go_wp2
  go_roundw
  case rel =>
   refine ⟨p, _, by omega, by omega, by first | rfl | go_num, by rw [size_swp]; exact hjz, S3, ⟨?_⟩⟩
   have := insInner_go ltC a (p + 1) dj (by omega) HL.out
   rw [← HI.out, this]
   rfl
  case measure => simp [intOf]; try omega
 | false =>
  have HL := qd.mk hl
  clear hl
  have hn_6576 : ((p : Int) + 1).toNat = p + 1 := by omega
  have hp_6576 : (0 : Int) ≤ (p : Int) + 1 := by omega
  have hq_6576 : (p : Int) + 1 < (d.size : Int) := by omega
  have hw_6576 : IntKind.i64.wrap ((p : Int) + 1) = (p : Int) + 1 := by rw [IntKind.wrap_i64]; omega
  have hn_88947 : ((p : Int)).toNat = p := by omega
  have hp_88947 : (0 : Int) ≤ (p : Int) := by omega
  have hq_88947 : (p : Int) < (d.size : Int) := by omega
  have hw_88947 : IntKind.i64.wrap ((p : Int)) = (p : Int) := by rw [IntKind.wrap_i64]; omega
  obtain ⟨x, hx⟩ : ∃ x, dj[p + 1]! = x := ⟨_, rfl⟩
  obtain ⟨y, hy⟩ : ∃ y, dj[p]! = y := ⟨_, rfl⟩
  have cx := (qgf S1.out HR.out (by omega) (show p + 1 < dj.size by omega)).1
  have cy := (qgf S1.out HR.out (by omega) (show p < dj.size by omega)).1
  rw [hx] at cx
  rw [hy] at cy
  have hd : decide (cmpC x y < 0) = false := by rw [← hx, ← hy]; exact HL.out
  have hcall := fun n os => qfe S1.out HCB.out x y n os
  obtain ⟨x0, x1, x2, x3, x4, x5, x6⟩ := cx
  obtain ⟨y0, y1, y2, y3, y4, y5, y6⟩ := cy
  have x0 := qbc x0
  have x1 := qbc x1
  have x2 := qbc x2
  have x3 := qbc x3
  have x4 := qbc x4
  have x5 := qbc x5
  have x6 := qbc x6
  have y0 := qbc y0
  have y1 := qbc y1
  have y2 := qbc y2
  have y3 := qbc y3
  have y4 := qbc y4
  have y5 := qbc y5
  have y6 := qbc y6
  clear hx hy
  have mixed : Tryd.prog.follows .mixedOrders = true := by kernel_rfl
  go_wp2_with fail
  go_quiet_grown ((go_at_call 109; refine Calls.grown_of (hcall _ _)))
  have S2 := qd.mk (S1.out.grown nq osq)
  clear x0 x1 x2 x3 x4 x5 x6 y0 y1 y2 y3 y4 y5 y6 hcall S1 mixed
  generalize grow (wr.drewN nq) osq = w2 at S2 ⊢
  clear nq osq
  go_wp2
  go_roundw
  case rel => exact ⟨i + 1, dj, by omega, by omega, by go_num, hjz, S2, ⟨OUT.out (.inr HL.out)⟩⟩
  case measure => simp [intOf]; omega
set_option maxRecDepth 1000000 in
theorem qez (blk off cap a m b : Nat) (d0 d : Array S112) (w0 w : World) (cmp : Value) (R : RowK e34 7 w0 blk off d0) (hs : d0.size = d.size) (S : SWK e34 7 w0 blk off d w) (h1 : a < m) (h2 : m < b) (h3 : b ≤ d.size) (hsz : d.size < 2305843009213693952) :
  Calls Tryd.prog 182 #[.slice (some ⟨blk, off, none⟩) d.size cap, .int .i64 a, .int .i64 m, .int .i64 b, cmp] w fun e w' => e = .returned (.tuple #[]) ∧ ∃ e', Rot a m b d e' ∧ SWK e34 7 w0 blk off e' w' := by
 have S0 := qd.mk S
 have HR := qd.mk R
 clear S R
 have HST := qd.mk (qlc.start d h1 h2)
 go_enter Tryd.func182, Tryd.ntmps182
 go_wp2
 go_loopw [10, 11, 18, 19, 20, 21, 22, 23, 24, 25, 26, 27, 28, 29, 30, 31, 32, 33, 34, 35, 36, 37, 38, 39, 40, 41, 42, 43, 44, 45, 46, 47, 48, 49] (fun v10 v11 _ _ _ _ _ _ _ _ _ _ _ _ _ _ _ _ _ _ _ _ _ _ _ _ _ _ _ _ _ _ _ _ wr => ∃ (i j : Nat) (e : Array S112), v10 = .int .i64 i ∧ v11 = .int .i64 j ∧ qd (qlc a m b i j d e) ∧ qd (SWK e34 7 w0 blk off e wr)) (fun v10 v11 _ _ _ _ _ _ _ _ _ _ _ _ _ _ _ _ _ _ _ _ _ _ _ _ _ _ _ _ _ _ _ _ _ => (intOf v10).toNat + (intOf v11).toNat)
 case atStart => exact ⟨m - a, b - m, d, by go_num, by go_num, HST, S0⟩
 clear S0 HST
 obtain ⟨i, j, e, rfl, rfl, HST, S1⟩ := hrel
 obtain ⟨g1, g2⟩ := HST.out.hi
 obtain ⟨g3, g4⟩ := HST.out.hj
 have hez := HST.out.perm.1
 by_cases hij : i = j
 ·subst hij
  have dn : ((i : Int) != (i : Int)) = false := bne_eq_false_iff_eq.mpr rfl
  have HEZ := qd.mk hez
  have e1 : (m : Int) - (i : Int) = ((m - i : Nat) : Int) := by omega
  have e2 : IntKind.i64.wrap ((m : Int) - (i : Int)) = ((m - i : Nat) : Int) := by rw [IntKind.wrap_i64]; omega
  have HC := qd.mk (qgx blk off cap (m - i) m i d0 e w0 wr cmp HR.out (by omega) S1.out (by omega) (by omega) (by omega))
  rw [HEZ.out] at HC
  clear hez
  go_wp2_with (first | (go_at_call 184; refine HC.out.mono ?_; rintro e_ w2 ⟨rfl, hs_⟩; have S2 := qd.mk hs_; clear hs_))
  go_end0
  exact ⟨rfl, _, HST.out.last h1 h2 h3, S2.out⟩
 have dn : ((i : Int) != (j : Int)) = true := bne_iff_ne.mpr (by omega)
 have HEZ := qd.mk hez
 by_cases hlt : j < i
 ·have d1 : decide ((j : Int) < (i : Int)) = true := decide_eq_true (by omega)
  have d2 : decide (j < i) = true := decide_eq_true hlt
  have e1 : (m : Int) - (i : Int) = ((m - i : Nat) : Int) := by omega
  have e2 : IntKind.i64.wrap ((m : Int) - (i : Int)) = ((m - i : Nat) : Int) := by rw [IntKind.wrap_i64]; omega
  have HC := qd.mk (qgx blk off cap (m - i) m j d0 e w0 wr cmp HR.out (by omega) S1.out (by omega) (by omega) (by omega))
  have HN := qd.mk (HST.out.left h1 h2 h3 hlt)
  rw [HEZ.out] at HC
  clear hez hij
  go_wp2_with (first | (go_at_call 184; refine HC.out.mono ?_; rintro e_ w2 ⟨rfl, hs_⟩; have S2 := qd.mk hs_; clear hs_))
  go_roundw
  case rel => exact ⟨i - j, j, _, by go_num, rfl, HN, S2⟩
  case measure => simp [intOf]; omega
 have d1 : decide ((j : Int) < (i : Int)) = false := decide_eq_false (by omega)
 have d2 : decide (j < i) = false := decide_eq_false hlt
 have e1 : (m : Int) - (i : Int) = ((m - i : Nat) : Int) := by omega
 have e2 : IntKind.i64.wrap ((m : Int) - (i : Int)) = ((m - i : Nat) : Int) := by rw [IntKind.wrap_i64]; omega
 have e3 : IntKind.i64.wrap ((m : Int) + (j : Int)) = (m : Int) + (j : Int) := by rw [IntKind.wrap_i64]; omega
 have e4 : IntKind.i64.wrap ((m : Int) + (j : Int) - (i : Int)) = ((m + j - i : Nat) : Int) := by rw [IntKind.wrap_i64]; omega
 have e5 : (m : Int) + (j : Int) - (i : Int) = ((m + j - i : Nat) : Int) := by omega
 have HC := qd.mk (qgx blk off cap (m - i) (m + j - i) i d0 e w0 wr cmp HR.out (by omega) S1.out (by omega) (by omega) (by omega))
 have HN := qd.mk (HST.out.right h1 h2 h3 (by omega))
 rw [HEZ.out] at HC
 clear hez
 go_wp2_with (first | (go_at_call 184; refine HC.out.mono ?_; rintro e_ w2 ⟨rfl, hs_⟩; have S2 := qd.mk hs_; clear hs_))
 go_roundw
 case rel => exact ⟨i, j - i, _, rfl, by go_num, HN, S2⟩
 case measure => simp [intOf]; omega
theorem lt_le_true {x y z : S112} (h1 : ltC x z = true) (h2 : ltC x y = false) : ltC y z = true := qjo qin h2 h1
theorem le_lt_true {x y z : S112} (h1 : ltC x z = true) (h2 : ltC y z = false) : ltC x y = true := qjn qin h1 h2
set_option maxRecDepth 1000000 in
theorem qji (blk off cap pc pk : Nat) (d0 : Array S112) (w0 : World) (R : RowK e34 7 w0 blk off d0) (C : CmpB w0 blk pc pk) (hsz : d0.size < 2305843009213693952) :
  ∀ (N a m b : Nat) (d : Array S112) (w : World), b - a < N → d0.size = d.size → SWK e34 7 w0 blk off d w → a < m → m < b → b ≤ d.size → SortedIn ltC a m d → SortedIn ltC m b d →
  Calls Tryd.prog 176 #[.slice (some ⟨blk, off, none⟩) d0.size cap, .int .i64 a, .int .i64 m, .int .i64 b, .func (.func 109) #[] #[.pointer (some ⟨pc, 0, none⟩), .pointer (some ⟨pk, 0, none⟩)]] w fun e w' => e = .returned (.tuple #[]) ∧ ∃ e', Mrg ltC a b d e' ∧ SWK e34 7 w0 blk off e' w' := by
 have HR := qd.mk R
 have HCB := qd.mk C
 clear R C
 intro N
 induction N with
 | zero => intro a m b d w h; exact absurd h (Nat.not_lt_zero _)
 | succ N ih =>
  intro a m b d w hN hs S h1 h2 h3 lo hi
  have IH := qd.mk ih
  have S0 := qd.mk S
  have LO := qd.mk lo
  have HI := qd.mk hi
  clear ih S lo hi
  rw [hs] at hsz IH ⊢
  have HS := qd.mk hs
  by_cases n1 : m = a + 1
  ·have f1 : IntKind.i64.wrap ((m : Int) - (a : Int)) = 1 := by rw [IntKind.wrap_i64]; omega
   have f5 : (m : Int) - (a : Int) = 1 := by omega
   have HI := qd.mk (show SortedIn ltC (a + 1) b d from by rw [← n1]; exact HI.out)
   have hm1 : a + 1 ≤ m := by omega
   have hm2 : m ≤ a + 1 := by omega
   clear hs h1 IH n1
   go_enter Tryd.func176, Tryd.ntmps176
   go_wp2
   go_loopw [10, 11, 12, 31, 32, 33, 34, 35, 36, 37, 38, 39, 40, 41, 42, 43, 44, 45, 46, 47, 48, 49, 50, 51, 52, 53] (fun v10 v11 _ _ _ _ _ _ _ _ _ _ _ _ _ _ _ _ _ _ _ _ _ _ _ _ wr => ∃ i j : Nat, a + 1 ≤ i ∧ i ≤ j ∧ j ≤ b ∧ v10 = .int .i64 i ∧ v11 = .int .i64 j ∧ qd (∀ t, a + 1 ≤ t → t < i → ltC d[t]! d[a]! = true) ∧ qd (∀ t, j ≤ t → t < b → ltC d[t]! d[a]! = false) ∧ qd (SWK e34 7 w0 blk off d wr)) (fun v10 v11 _ _ _ _ _ _ _ _ _ _ _ _ _ _ _ _ _ _ _ _ _ _ _ _ _ => (intOf v11).toNat - (intOf v10).toNat)
   case atStart => exact ⟨m, b, hm1, by omega, Nat.le_refl _, rfl, rfl, ⟨fun t k1 k2 => by omega⟩, ⟨fun t k1 k2 => by omega⟩, S0⟩
   clear S0
   obtain ⟨i, j, hi1, hij, hjb, rfl, rfl, HB, HA, S1⟩ := hrel
   by_cases hlt : i < j
   rotate_left
   ·obtain rfl : i = j := by omega
    have d1 : decide ((i : Int) < (i : Int)) = false := decide_eq_false (by omega)
    have d2 : decide (i < i) = false := decide_eq_false (by omega)
    have HM := qd.mk (mrg_first qin (show a + 1 < b by omega) h3 HI.out hi1 hjb HB.out HA.out)
    have S2 := qd.mk (show SWK e34 7 w0 blk off (upN d a 0) wr from S1.out)
    clear S1 HA HB
    go_wp2
    go_loopw [13, 55, 56, 57, 58, 59, 60, 61, 62, 63, 64, 65, 66, 67, 68, 69, 70, 71, 72, 73, 74, 75, 76] (fun v13 _ _ _ _ _ _ _ _ _ _ _ _ _ _ _ _ _ _ _ _ _ _ wr => ∃ n : Nat, n ≤ i - 1 - a ∧ v13 = .int .i64 (a + n : Nat) ∧ qd (SWK e34 7 w0 blk off (upN d a n) wr)) (fun v13 _ _ _ _ _ _ _ _ _ _ _ _ _ _ _ _ _ _ _ _ _ _ _ => i - (intOf v13).toNat)
    case atStart => exact ⟨0, Nat.zero_le _, rfl, S2⟩
    clear S2
    obtain ⟨n, hn, rfl, S1⟩ := hrel
    have hz := upN_size d a n
    obtain ⟨k, hk⟩ : ∃ k, a + n = k := ⟨_, rfl⟩
    have ei : IntKind.i64.wrap ((i : Int) - 1) = (i : Int) - 1 := by rw [IntKind.wrap_i64]; omega
    by_cases hlt2 : n < i - 1 - a
    rotate_left
    ·have d3 : decide ((k : Int) < (i : Int) - 1) = false := decide_eq_false (by omega)
     have d4 : decide ((k : Int) + 1 < (i : Int)) = false := decide_eq_false (by omega)
     obtain rfl : n = i - 1 - a := by omega
     rw [hk]
     clear hk hz
     go_wp2
     refine bodyPost_ret (results_none rfl _ _ _) rfl ?_
     exact ⟨rfl, _, HM.out, S1.out⟩
    have d3 : decide ((k : Int) < (i : Int) - 1) = true := decide_eq_true (by omega)
    have d4 : decide ((k : Int) + 1 < (i : Int)) = true := decide_eq_true (by omega)
    obtain ⟨e, he⟩ : ∃ e, upN d a n = e := ⟨_, rfl⟩
    have EN := qd.mk (show upN d a (n + 1) = swp e k (k + 1) from by rw [← he, ← hk]; rfl)
    rw [he] at S1 hz
    rw [hk]
    have HK := qd.mk hk
    have HZ := qd.mk hz
    have gk : k + 1 < e.size := by omega
    have gk2 : k + 1 < d.size := by omega
    clear he hk hz
    go_upto_region 11 with (fail)
    have hn_72215 : ((k : Int)).toNat = k := by omega
    have hp_72215 : (0 : Int) ≤ (k : Int) := by omega
    have hq_72215 : (k : Int) < (d.size : Int) := by omega
    have hw_72215 : IntKind.i64.wrap ((k : Int)) = (k : Int) := by rw [IntKind.wrap_i64]; omega
    have hn_80118 : ((k : Int) + 1).toNat = k + 1 := by omega
    have hp_80118 : (0 : Int) ≤ (k : Int) + 1 := by omega
    have hq_80118 : (k : Int) + 1 < (d.size : Int) := by omega
    have hw_80118 : IntKind.i64.wrap ((k : Int) + 1) = (k : Int) + 1 := by rw [IntKind.wrap_i64]; omega
    obtain ⟨x, hx⟩ : ∃ x, e[k]! = x := ⟨_, rfl⟩
    obtain ⟨y, hy⟩ : ∃ y, e[k + 1]! = y := ⟨_, rfl⟩
    have hsw := S1.out.swapped HR.out (k) (k + 1) (by omega) (by omega)
    rw [hx, hy, qkq, qkq] at hsw
    simp only [qle] at hsw
    have HSW := qd.mk hsw
    obtain ⟨cx, fx⟩ := qgf S1.out HR.out (by have := HS.out; have := HZ.out; omega) (show k < e.size by omega)
    obtain ⟨cy, fy⟩ := qgf S1.out HR.out (by have := HS.out; have := HZ.out; omega) (show k + 1 < e.size by omega)
    rw [hx] at cx
    rw [hy] at cy
    obtain ⟨x0, x1, x2, x3, x4, x5, x6⟩ := cx
    obtain ⟨y0, y1, y2, y3, y4, y5, y6⟩ := cy
    obtain ⟨fx0, fx1, fx2, fx3, fx4, fx5, fx6⟩ := fx
    obtain ⟨fy0, fy1, fy2, fy3, fy4, fy5, fy6⟩ := fy
    clear hx hy hsw
    have mixed : Tryd.prog.follows .mixedOrders = true := by kernel_rfl
    go_wp2_with fail
    go_big_region_o
    refine qdj (P := fun x => Exit.inBlock _ _ _ _ x) _ ?_
    intro w3 hw3
    have S2 := qd.mk (show SWK e34 7 w0 blk off (swp e (k) (k + 1)) w3 from by rw [hw3]; exact HSW.out)
    clear hw3 HSW S1 x0 x1 x2 x3 x4 x5 x6 y0 y1 y2 y3 y4 y5 y6 fx0 fx1 fx2 fx3 fx4 fx5 fx6 fy0 fy1 fy2 fy3 fy4 fy5 fy6 mixed
    go_wp2
    go_roundw
    case rel => exact ⟨n + 1, by omega, by have := HK.out; first | (congr 2; omega) | go_num, ⟨by rw [EN.out]; exact S2.out⟩⟩
    case measure => have := HK.out; simp [intOf]; try omega
   have d1 : decide ((i : Int) < (j : Int)) = true := decide_eq_true (by omega)
   have d2 : decide (i < j) = true := decide_eq_true hlt
   obtain ⟨h, hh⟩ : ∃ h, (i + j) / 2 = h := ⟨_, rfl⟩
   have eh : ((i : Int) + (j : Int)) / 2 = (h : Int) := by omega
   have gh1 : i ≤ h := by omega
   have gh2 : h < j := by omega
   have ga : a < d.size := by omega
   have gh : h < d.size := by omega
   clear hh
   cases hl : ltC d[h]! d[a]! with
   | true =>
    have HL := qd.mk hl
    clear hl
    go_upto_region 5 with (fail)
    clear eh
    have hn_3655 : ((h : Int)).toNat = h := by omega
    have hp_3655 : (0 : Int) ≤ (h : Int) := by omega
    have hq_3655 : (h : Int) < (d.size : Int) := by omega
    have hw_3655 : IntKind.i64.wrap ((h : Int)) = (h : Int) := by rw [IntKind.wrap_i64]; omega
    have hn_51610 : ((a : Int)).toNat = a := by omega
    have hp_51610 : (0 : Int) ≤ (a : Int) := by omega
    have hq_51610 : (a : Int) < (d.size : Int) := by omega
    have hw_51610 : IntKind.i64.wrap ((a : Int)) = (a : Int) := by rw [IntKind.wrap_i64]; omega
    obtain ⟨x, hx⟩ : ∃ x, d[h]! = x := ⟨_, rfl⟩
    obtain ⟨y, hy⟩ : ∃ y, d[a]! = y := ⟨_, rfl⟩
    have cx := (qgf S1.out HR.out (by have := HS.out; omega) (show h < d.size by omega)).1
    have cy := (qgf S1.out HR.out (by have := HS.out; omega) (show a < d.size by omega)).1
    rw [hx] at cx
    rw [hy] at cy
    have hd : decide (cmpC x y < 0) = true := by rw [← hx, ← hy]; exact HL.out
    have hcall := fun n os => qfe S1.out HCB.out x y n os
    obtain ⟨x0, x1, x2, x3, x4, x5, x6⟩ := cx
    obtain ⟨y0, y1, y2, y3, y4, y5, y6⟩ := cy
    have x0 := qbc x0
    have x1 := qbc x1
    have x2 := qbc x2
    have x3 := qbc x3
    have x4 := qbc x4
    have x5 := qbc x5
    have x6 := qbc x6
    have y0 := qbc y0
    have y1 := qbc y1
    have y2 := qbc y2
    have y3 := qbc y3
    have y4 := qbc y4
    have y5 := qbc y5
    have y6 := qbc y6
    clear hx hy
    have mixed : Tryd.prog.follows .mixedOrders = true := by kernel_rfl
    go_wp2_with fail
    go_quiet_grown ((go_at_call 109; refine Calls.grown_of (hcall _ _)))
    have S2 := qd.mk (S1.out.grown nq osq)
    clear x0 x1 x2 x3 x4 x5 x6 y0 y1 y2 y3 y4 y5 y6 hcall S1 mixed
    generalize grow (wr.drewN nq) osq = w2 at S2 ⊢
    clear nq osq
    go_wp2
    go_roundw
    case rel => exact ⟨h + 1, j, by omega, by omega, hjb, by go_num, rfl, ⟨fun t k1 k2 => lt_le_true HL.out (qfc qin HI.out k1 (by omega) (by omega))⟩, HA, S2⟩
    case measure => simp [intOf]; try omega
   | false =>
    have HL := qd.mk hl
    clear hl
    go_upto_region 5 with (fail)
    clear eh
    have hn_3655 : ((h : Int)).toNat = h := by omega
    have hp_3655 : (0 : Int) ≤ (h : Int) := by omega
    have hq_3655 : (h : Int) < (d.size : Int) := by omega
    have hw_3655 : IntKind.i64.wrap ((h : Int)) = (h : Int) := by rw [IntKind.wrap_i64]; omega
    have hn_51610 : ((a : Int)).toNat = a := by omega
    have hp_51610 : (0 : Int) ≤ (a : Int) := by omega
    have hq_51610 : (a : Int) < (d.size : Int) := by omega
    have hw_51610 : IntKind.i64.wrap ((a : Int)) = (a : Int) := by rw [IntKind.wrap_i64]; omega
    obtain ⟨x, hx⟩ : ∃ x, d[h]! = x := ⟨_, rfl⟩
    obtain ⟨y, hy⟩ : ∃ y, d[a]! = y := ⟨_, rfl⟩
    have cx := (qgf S1.out HR.out (by have := HS.out; omega) (show h < d.size by omega)).1
    have cy := (qgf S1.out HR.out (by have := HS.out; omega) (show a < d.size by omega)).1
    rw [hx] at cx
    rw [hy] at cy
    have hd : decide (cmpC x y < 0) = false := by rw [← hx, ← hy]; exact HL.out
    have hcall := fun n os => qfe S1.out HCB.out x y n os
    obtain ⟨x0, x1, x2, x3, x4, x5, x6⟩ := cx
    obtain ⟨y0, y1, y2, y3, y4, y5, y6⟩ := cy
    have x0 := qbc x0
    have x1 := qbc x1
    have x2 := qbc x2
    have x3 := qbc x3
    have x4 := qbc x4
    have x5 := qbc x5
    have x6 := qbc x6
    have y0 := qbc y0
    have y1 := qbc y1
    have y2 := qbc y2
    have y3 := qbc y3
    have y4 := qbc y4
    have y5 := qbc y5
    have y6 := qbc y6
    clear hx hy
    have mixed : Tryd.prog.follows .mixedOrders = true := by kernel_rfl
    go_wp2_with fail
    go_quiet_grown ((go_at_call 109; refine Calls.grown_of (hcall _ _)))
    have S2 := qd.mk (S1.out.grown nq osq)
    clear x0 x1 x2 x3 x4 x5 x6 y0 y1 y2 y3 y4 y5 y6 hcall S1 mixed
    generalize grow (wr.drewN nq) osq = w2 at S2 ⊢
    clear nq osq
    go_wp2
    go_roundw
    case rel => exact ⟨i, h, hi1, gh1, by omega, rfl, rfl, HB, ⟨fun t k1 k2 => qin.ntrans _ _ _ (qfc qin HI.out (by omega) k1 k2) HL.out⟩, S2⟩
    case measure => simp [intOf]; try omega
  have f1 : IntKind.i64.wrap ((m : Int) - (a : Int)) = ((m - a : Nat) : Int) := by rw [IntKind.wrap_i64]; omega
  have f2 : (((m - a : Nat) : Int) == (1 : Int)) = false := beq_eq_false_iff_ne.mpr (by omega)
  have f2' : (m - a == 1) = false := beq_eq_false_iff_ne.mpr (by omega)
  have f5 : (m : Int) - (a : Int) = ((m - a : Nat) : Int) := by omega
  by_cases n2 : b = m + 1
  ·have f3 : IntKind.i64.wrap ((b : Int) - (m : Int)) = 1 := by rw [IntKind.wrap_i64]; omega
   have f6 : (b : Int) - (m : Int) = 1 := by omega
   have HBM := qd.mk n2
   have hb1 : m + 1 ≤ d.size := by omega
   clear hs h2 IH n2
   go_enter Tryd.func176, Tryd.ntmps176
   go_wp2
   clear f1 f2 f2' f5
   go_loopw [14, 15, 16, 83, 84, 85, 86, 87, 88, 89, 90, 91, 92, 93, 94, 95, 96, 97, 98, 99, 100, 101, 102, 103, 104, 105, 106] (fun v14 v15 _ _ _ _ _ _ _ _ _ _ _ _ _ _ _ _ _ _ _ _ _ _ _ _ _ wr => ∃ i j : Nat, a ≤ i ∧ i ≤ j ∧ j ≤ m ∧ v14 = .int .i64 i ∧ v15 = .int .i64 j ∧ qd (∀ t, a ≤ t → t < i → ltC d[m]! d[t]! = false) ∧ qd (∀ t, j ≤ t → t < m → ltC d[m]! d[t]! = true) ∧ qd (SWK e34 7 w0 blk off d wr)) (fun v14 v15 _ _ _ _ _ _ _ _ _ _ _ _ _ _ _ _ _ _ _ _ _ _ _ _ _ _ => (intOf v15).toNat - (intOf v14).toNat)
   case atStart => exact ⟨a, m, Nat.le_refl _, by omega, Nat.le_refl _, rfl, rfl, ⟨fun t k1 k2 => by omega⟩, ⟨fun t k1 k2 => by omega⟩, S0⟩
   clear S0
   obtain ⟨i, j, hi1, hij, hjb, rfl, rfl, HB, HA, S1⟩ := hrel
   by_cases hlt : i < j
   rotate_left
   ·obtain rfl : i = j := by omega
    have d1 : decide ((i : Int) < (i : Int)) = false := decide_eq_false (by omega)
    have d2 : decide (i < i) = false := decide_eq_false (by omega)
    have HM := qd.mk (show Mrg ltC a b d (qla d m (m - i)) from by rw [HBM.out]; exact mrg_last qin h1 hb1 LO.out hi1 hjb HB.out HA.out)
    have S2 := qd.mk (show SWK e34 7 w0 blk off (qla d m 0) wr from S1.out)
    clear S1 HA HB
    go_wp2
    go_loopw [17, 108, 109, 110, 111, 112, 113, 114, 115, 116, 117, 118, 119, 120, 121, 122, 123, 124, 125, 126, 127, 128] (fun v17 _ _ _ _ _ _ _ _ _ _ _ _ _ _ _ _ _ _ _ _ _ wr => ∃ n : Nat, n ≤ m - i ∧ v17 = .int .i64 (m - n : Nat) ∧ qd (SWK e34 7 w0 blk off (qla d m n) wr)) (fun v17 _ _ _ _ _ _ _ _ _ _ _ _ _ _ _ _ _ _ _ _ _ _ => (intOf v17).toNat)
    case atStart => exact ⟨0, Nat.zero_le _, rfl, S2⟩
    clear S2
    obtain ⟨n, hn, rfl, S1⟩ := hrel
    have hz := qkl d m n
    obtain ⟨k, hk⟩ : ∃ k, m - n = k := ⟨_, rfl⟩
    by_cases hlt2 : n < m - i
    rotate_left
    ·have d3 : decide ((i : Int) < (k : Int)) = false := decide_eq_false (by omega)
     have d4 : decide (i < k) = false := decide_eq_false (by omega)
     obtain rfl : n = m - i := by omega
     rw [hk]
     clear hk hz
     go_wp2
     refine bodyPost_ret (results_none rfl _ _ _) rfl ?_
     exact ⟨rfl, _, HM.out, S1.out⟩
    have d3 : decide ((i : Int) < (k : Int)) = true := decide_eq_true (by omega)
    have d4 : decide (i < k) = true := decide_eq_true (by omega)
    obtain ⟨p, hp⟩ : ∃ p, k = p + 1 := ⟨k - 1, by omega⟩
    subst hp
    obtain ⟨e, he⟩ : ∃ e, qla d m n = e := ⟨_, rfl⟩
    have EN := qd.mk (show qla d m (n + 1) = swp e (p + 1) p from by rw [← he]; show swp (qla d m n) (m - n) (m - n - 1) = _; rw [hk]; rfl)
    rw [he] at S1 hz
    rw [hk]
    have HK := qd.mk hk
    have HZ := qd.mk hz
    have gk : p + 1 < e.size := by omega
    have gk2 : p + 1 < d.size := by omega
    have e9 : IntKind.i64.wrap (p : Int) = (p : Int) := by rw [IntKind.wrap_i64]; omega
    have d5 : decide ((i : Int) < (p : Int) + 1) = true := decide_eq_true (by omega)
    clear he hk hz
    go_upto_region 23 with (fail)
    have hn_53579 : ((p : Int) + 1).toNat = p + 1 := by omega
    have hp_53579 : (0 : Int) ≤ (p : Int) + 1 := by omega
    have hq_53579 : (p : Int) + 1 < (d.size : Int) := by omega
    have hw_53579 : IntKind.i64.wrap ((p : Int) + 1) = (p : Int) + 1 := by rw [IntKind.wrap_i64]; omega
    have hn_46417 : ((p : Int)).toNat = p := by omega
    have hp_46417 : (0 : Int) ≤ (p : Int) := by omega
    have hq_46417 : (p : Int) < (d.size : Int) := by omega
    have hw_46417 : IntKind.i64.wrap ((p : Int)) = (p : Int) := by rw [IntKind.wrap_i64]; omega
    obtain ⟨x, hx⟩ : ∃ x, e[p + 1]! = x := ⟨_, rfl⟩
    obtain ⟨y, hy⟩ : ∃ y, e[p]! = y := ⟨_, rfl⟩
    have hsw := S1.out.swapped HR.out (p + 1) (p) (by omega) (by omega)
    rw [hx, hy, qkq, qkq] at hsw
    simp only [qle] at hsw
    have HSW := qd.mk hsw
    obtain ⟨cx, fx⟩ := qgf S1.out HR.out (by have := HS.out; have := HZ.out; omega) (show p + 1 < e.size by omega)
    obtain ⟨cy, fy⟩ := qgf S1.out HR.out (by have := HS.out; have := HZ.out; omega) (show p < e.size by omega)
    rw [hx] at cx
    rw [hy] at cy
    obtain ⟨x0, x1, x2, x3, x4, x5, x6⟩ := cx
    obtain ⟨y0, y1, y2, y3, y4, y5, y6⟩ := cy
    obtain ⟨fx0, fx1, fx2, fx3, fx4, fx5, fx6⟩ := fx
    obtain ⟨fy0, fy1, fy2, fy3, fy4, fy5, fy6⟩ := fy
    clear hx hy hsw
    have mixed : Tryd.prog.follows .mixedOrders = true := by kernel_rfl
    go_wp2_with fail
    go_big_region_o
    refine qdj (P := fun x => Exit.inBlock _ _ _ _ x) _ ?_
    intro w3 hw3
    have S2 := qd.mk (show SWK e34 7 w0 blk off (swp e (p + 1) (p)) w3 from by rw [hw3]; exact HSW.out)
    clear hw3 HSW S1 x0 x1 x2 x3 x4 x5 x6 y0 y1 y2 y3 y4 y5 y6 fx0 fx1 fx2 fx3 fx4 fx5 fx6 fy0 fy1 fy2 fy3 fy4 fy5 fy6 mixed
    go_wp2
    go_roundw
    case rel => exact ⟨n + 1, by have := HK.out; omega, by have := HK.out; first | (congr 2; omega) | go_num, ⟨by rw [EN.out]; exact S2.out⟩⟩
    case measure => have := HK.out; simp [intOf]; try omega
   have d1 : decide ((i : Int) < (j : Int)) = true := decide_eq_true (by omega)
   have d2 : decide (i < j) = true := decide_eq_true hlt
   obtain ⟨h, hh⟩ : ∃ h, (i + j) / 2 = h := ⟨_, rfl⟩
   have eh : ((i : Int) + (j : Int)) / 2 = (h : Int) := by omega
   have gh1 : i ≤ h := by omega
   have gh2 : h < j := by omega
   have ga : m < d.size := by omega
   have gh : h < d.size := by omega
   clear hh
   cases hl : ltC d[m]! d[h]! with
   | false =>
    have HL := qd.mk hl
    clear hl
    go_upto_region 17 with (fail)
    clear eh
    have hn_38314 : ((m : Int)).toNat = m := by omega
    have hp_38314 : (0 : Int) ≤ (m : Int) := by omega
    have hq_38314 : (m : Int) < (d.size : Int) := by omega
    have hw_38314 : IntKind.i64.wrap ((m : Int)) = (m : Int) := by rw [IntKind.wrap_i64]; omega
    have hn_3655 : ((h : Int)).toNat = h := by omega
    have hp_3655 : (0 : Int) ≤ (h : Int) := by omega
    have hq_3655 : (h : Int) < (d.size : Int) := by omega
    have hw_3655 : IntKind.i64.wrap ((h : Int)) = (h : Int) := by rw [IntKind.wrap_i64]; omega
    obtain ⟨x, hx⟩ : ∃ x, d[m]! = x := ⟨_, rfl⟩
    obtain ⟨y, hy⟩ : ∃ y, d[h]! = y := ⟨_, rfl⟩
    have cx := (qgf S1.out HR.out (by have := HS.out; omega) (show m < d.size by omega)).1
    have cy := (qgf S1.out HR.out (by have := HS.out; omega) (show h < d.size by omega)).1
    rw [hx] at cx
    rw [hy] at cy
    have hd : decide (cmpC x y < 0) = false := by rw [← hx, ← hy]; exact HL.out
    have hcall := fun n os => qfe S1.out HCB.out x y n os
    obtain ⟨x0, x1, x2, x3, x4, x5, x6⟩ := cx
    obtain ⟨y0, y1, y2, y3, y4, y5, y6⟩ := cy
    have x0 := qbc x0
    have x1 := qbc x1
    have x2 := qbc x2
    have x3 := qbc x3
    have x4 := qbc x4
    have x5 := qbc x5
    have x6 := qbc x6
    have y0 := qbc y0
    have y1 := qbc y1
    have y2 := qbc y2
    have y3 := qbc y3
    have y4 := qbc y4
    have y5 := qbc y5
    have y6 := qbc y6
    clear hx hy
    have mixed : Tryd.prog.follows .mixedOrders = true := by kernel_rfl
    go_wp2_with fail
    go_quiet_grown ((go_at_call 109; refine Calls.grown_of (hcall _ _)))
    have S2 := qd.mk (S1.out.grown nq osq)
    clear x0 x1 x2 x3 x4 x5 x6 y0 y1 y2 y3 y4 y5 y6 hcall S1 mixed
    generalize grow (wr.drewN nq) osq = w2 at S2 ⊢
    clear nq osq
    go_wp2
    go_roundw
    case rel => exact ⟨h + 1, j, by omega, by omega, hjb, by go_num, rfl, ⟨fun t k1 k2 => qin.ntrans _ _ _ HL.out (qfc qin LO.out k1 (by omega) (by omega))⟩, HA, S2⟩
    case measure => simp [intOf]; try omega
   | true =>
    have HL := qd.mk hl
    clear hl
    go_upto_region 17 with (fail)
    clear eh
    have hn_38314 : ((m : Int)).toNat = m := by omega
    have hp_38314 : (0 : Int) ≤ (m : Int) := by omega
    have hq_38314 : (m : Int) < (d.size : Int) := by omega
    have hw_38314 : IntKind.i64.wrap ((m : Int)) = (m : Int) := by rw [IntKind.wrap_i64]; omega
    have hn_3655 : ((h : Int)).toNat = h := by omega
    have hp_3655 : (0 : Int) ≤ (h : Int) := by omega
    have hq_3655 : (h : Int) < (d.size : Int) := by omega
    have hw_3655 : IntKind.i64.wrap ((h : Int)) = (h : Int) := by rw [IntKind.wrap_i64]; omega
    obtain ⟨x, hx⟩ : ∃ x, d[m]! = x := ⟨_, rfl⟩
    obtain ⟨y, hy⟩ : ∃ y, d[h]! = y := ⟨_, rfl⟩
    have cx := (qgf S1.out HR.out (by have := HS.out; omega) (show m < d.size by omega)).1
    have cy := (qgf S1.out HR.out (by have := HS.out; omega) (show h < d.size by omega)).1
    rw [hx] at cx
    rw [hy] at cy
    have hd : decide (cmpC x y < 0) = true := by rw [← hx, ← hy]; exact HL.out
    have hcall := fun n os => qfe S1.out HCB.out x y n os
    obtain ⟨x0, x1, x2, x3, x4, x5, x6⟩ := cx
    obtain ⟨y0, y1, y2, y3, y4, y5, y6⟩ := cy
    have x0 := qbc x0
    have x1 := qbc x1
    have x2 := qbc x2
    have x3 := qbc x3
    have x4 := qbc x4
    have x5 := qbc x5
    have x6 := qbc x6
    have y0 := qbc y0
    have y1 := qbc y1
    have y2 := qbc y2
    have y3 := qbc y3
    have y4 := qbc y4
    have y5 := qbc y5
    have y6 := qbc y6
    clear hx hy
    have mixed : Tryd.prog.follows .mixedOrders = true := by kernel_rfl
    go_wp2_with fail
    go_quiet_grown ((go_at_call 109; refine Calls.grown_of (hcall _ _)))
    have S2 := qd.mk (S1.out.grown nq osq)
    clear x0 x1 x2 x3 x4 x5 x6 y0 y1 y2 y3 y4 y5 y6 hcall S1 mixed
    generalize grow (wr.drewN nq) osq = w2 at S2 ⊢
    clear nq osq
    go_wp2
    go_roundw
    case rel => exact ⟨i, h, hi1, gh1, by omega, rfl, rfl, HB, ⟨fun t k1 k2 => le_lt_true HL.out (qfc qin LO.out (by omega) k1 k2)⟩, S2⟩
    case measure => simp [intOf]; try omega
  have f3 : IntKind.i64.wrap ((b : Int) - (m : Int)) = ((b - m : Nat) : Int) := by rw [IntKind.wrap_i64]; omega
  have f4 : (((b - m : Nat) : Int) == (1 : Int)) = false := beq_eq_false_iff_ne.mpr (by omega)
  have f4' : (b - m == 1) = false := beq_eq_false_iff_ne.mpr (by omega)
  have f6 : (b : Int) - (m : Int) = ((b - m : Nat) : Int) := by omega
  obtain ⟨mid, hmid⟩ : ∃ mid, (a + b) / 2 = mid := ⟨_, rfl⟩
  have em : ((a : Int) + (b : Int)) / 2 = (mid : Int) := by omega
  obtain ⟨n, hn⟩ : ∃ n, mid + m = n := ⟨_, rfl⟩
  have en : (mid : Int) + (m : Int) = (n : Int) := by omega
  obtain ⟨q, hq⟩ : ∃ q, n - 1 = q := ⟨_, rfl⟩
  have eq' : (n : Int) - 1 = (q : Int) := by omega
  obtain ⟨s0, hs0⟩ : ∃ s0, sStart a m b = s0 := ⟨_, rfl⟩
  obtain ⟨r0, hr0⟩ : ∃ r0, sEnd a m b = r0 := ⟨_, rfl⟩
  have HS0 := qd.mk hs0
  have HR0 := qd.mk hr0
  have HMID := qd.mk hmid
  have HN := qd.mk hn
  have HQ := qd.mk hq
  have HST0 := qd.mk (show Srch ltC d ((a + b) / 2 + m - 1) (sStart a m b) (sEnd a m b) s0 r0 from by rw [← hs0, ← hr0]; exact srch_start (s_le h1 h2))
  have z7 : (mid : Int) ≤ (mid : Int) := by omega
  by_cases hmm : mid < m
  ·have z1 : decide ((mid : Int) < (m : Int)) = true := decide_eq_true (by omega)
   have z2 : decide (mid < m) = true := decide_eq_true hmm
   have es : (n : Int) - (b : Int) = (s0 : Int) := by unfold sStart at hs0; rw [if_pos (by omega)] at hs0; omega
   have hr1 : mid = r0 := by unfold sEnd at hr0; rw [if_pos (by omega)] at hr0; omega
   have HR1 := qd.mk hr1
   clear hs0 hr0 hmid hn hq hs hr1 z7
   go_enter Tryd.func176, Tryd.ntmps176
   go_wp2
   clear f1 f2 f2' f5 f3 f4 f4' f6 em en eq' es z1 z2
   go_loopw [20, 21, 23, 149, 150, 151, 152, 153, 154, 155, 156, 157, 158, 159, 160, 161, 162, 163, 164, 165, 166, 167, 168, 169, 170, 171, 172, 173, 174] (fun v20 v21 _ _ _ _ _ _ _ _ _ _ _ _ _ _ _ _ _ _ _ _ _ _ _ _ _ _ _ wr => ∃ s r : Nat, v20 = .int .i64 s ∧ v21 = .int .i64 r ∧ qd (Srch ltC d ((a + b) / 2 + m - 1) (sStart a m b) (sEnd a m b) s r) ∧ qd (SWK e34 7 w0 blk off d wr)) (fun v20 v21 _ _ _ _ _ _ _ _ _ _ _ _ _ _ _ _ _ _ _ _ _ _ _ _ _ _ _ _ => (intOf v21).toNat - (intOf v20).toNat)
   case atStart => exact ⟨s0, r0, rfl, by rw [← HR1.out], HST0, S0⟩
   clear S0 HST0
   obtain ⟨s, r, rfl, rfl, HST, S1⟩ := hrel
   have hxy := HST.out.hxy
   have hx1 := HST.out.hx
   have hy1 := HST.out.hy
   have hse : sEnd a m b ≤ m := by unfold sEnd; split <;> omega
   have hmid := HMID.out
   have hn := HN.out
   have hq := HQ.out
   by_cases hlt : s < r
   ·have d1 : decide ((s : Int) < (r : Int)) = true := decide_eq_true (by omega)
    have d2 : decide (s < r) = true := decide_eq_true hlt
    obtain ⟨c, hc⟩ : ∃ c, (s + r) / 2 = c := ⟨_, rfl⟩
    have ec : ((s : Int) + (r : Int)) / 2 = (c : Int) := by omega
    have gc1 : s ≤ c := by omega
    have gc2 : c < r := by omega
    obtain ⟨b1, b2, b3, b4⟩ := qhg h1 h2 (show sStart a m b ≤ c by omega) (show c < sEnd a m b by omega)
    obtain ⟨u, hu⟩ : ∃ u, (a + b) / 2 + m - 1 - c = u := ⟨_, rfl⟩
    have eu : (q : Int) - (c : Int) = (u : Int) := by omega
    have gu : u < d.size := by omega
    have gc : c < d.size := by omega
    have hxb : s < 2305843009213693952 := by omega
    have hyb : r < 2305843009213693952 := by omega
    have HU := qd.mk hu
    have GE := qd.mk eu
    clear hc hu b1 b2 b3 b4 hmid hn hq hx1 hy1 eu
    cases hl : ltC d[u]! d[c]! with
    | false =>
     have HL := qd.mk hl
     clear hl
     go_upto_region 35 with (fail)
     clear ec
     have eu := GE.out
     have eu2 : IntKind.i64.wrap ((q : Int) - (c : Int)) = (u : Int) := by rw [eu, IntKind.wrap_i64]; omega
     have hn_39321 : ((u : Int)).toNat = u := by omega
     have hp_39321 : (0 : Int) ≤ (u : Int) := by omega
     have hq_39321 : (u : Int) < (d.size : Int) := by omega
     have hw_39321 : IntKind.i64.wrap ((u : Int)) = (u : Int) := by rw [IntKind.wrap_i64]; omega
     have hn_75478 : ((c : Int)).toNat = c := by omega
     have hp_75478 : (0 : Int) ≤ (c : Int) := by omega
     have hq_75478 : (c : Int) < (d.size : Int) := by omega
     have hw_75478 : IntKind.i64.wrap ((c : Int)) = (c : Int) := by rw [IntKind.wrap_i64]; omega
     obtain ⟨x, hx⟩ : ∃ x, d[u]! = x := ⟨_, rfl⟩
     obtain ⟨y, hy⟩ : ∃ y, d[c]! = y := ⟨_, rfl⟩
     have cx := (qgf S1.out HR.out (by have := HS.out; omega) (show u < d.size by omega)).1
     have cy := (qgf S1.out HR.out (by have := HS.out; omega) (show c < d.size by omega)).1
     rw [hx] at cx
     rw [hy] at cy
     have hd : decide (cmpC x y < 0) = false := by rw [← hx, ← hy]; exact HL.out
     have hcall := fun n os => qfe S1.out HCB.out x y n os
     obtain ⟨x0, x1, x2, x3, x4, x5, x6⟩ := cx
     obtain ⟨y0, y1, y2, y3, y4, y5, y6⟩ := cy
     have x0 := qbc x0
     have x1 := qbc x1
     have x2 := qbc x2
     have x3 := qbc x3
     have x4 := qbc x4
     have x5 := qbc x5
     have x6 := qbc x6
     have y0 := qbc y0
     have y1 := qbc y1
     have y2 := qbc y2
     have y3 := qbc y3
     have y4 := qbc y4
     have y5 := qbc y5
     have y6 := qbc y6
     clear hx hy
     have mixed : Tryd.prog.follows .mixedOrders = true := by kernel_rfl
     go_wp2_with fail
     go_quiet_grown ((go_at_call 109; refine Calls.grown_of (hcall _ _)))
     have S2 := qd.mk (S1.out.grown nq osq)
     clear x0 x1 x2 x3 x4 x5 x6 y0 y1 y2 y3 y4 y5 y6 hcall S1 mixed
     generalize grow (wr.drewN nq) osq = w2 at S2 ⊢
     clear nq osq
     clear eu eu2
     go_wp2
     go_roundw
     case rel => exact ⟨c + 1, r, by go_num, rfl, ⟨HST.out.less qin LO.out HI.out h1 h2 gc1 gc2 (by rw [HU.out]; exact HL.out)⟩, S2⟩
     case measure => simp [intOf]; try omega
    | true =>
     have HL := qd.mk hl
     clear hl
     go_upto_region 35 with (fail)
     clear ec
     have eu := GE.out
     have eu2 : IntKind.i64.wrap ((q : Int) - (c : Int)) = (u : Int) := by rw [eu, IntKind.wrap_i64]; omega
     have hn_39321 : ((u : Int)).toNat = u := by omega
     have hp_39321 : (0 : Int) ≤ (u : Int) := by omega
     have hq_39321 : (u : Int) < (d.size : Int) := by omega
     have hw_39321 : IntKind.i64.wrap ((u : Int)) = (u : Int) := by rw [IntKind.wrap_i64]; omega
     have hn_75478 : ((c : Int)).toNat = c := by omega
     have hp_75478 : (0 : Int) ≤ (c : Int) := by omega
     have hq_75478 : (c : Int) < (d.size : Int) := by omega
     have hw_75478 : IntKind.i64.wrap ((c : Int)) = (c : Int) := by rw [IntKind.wrap_i64]; omega
     obtain ⟨x, hx⟩ : ∃ x, d[u]! = x := ⟨_, rfl⟩
     obtain ⟨y, hy⟩ : ∃ y, d[c]! = y := ⟨_, rfl⟩
     have cx := (qgf S1.out HR.out (by have := HS.out; omega) (show u < d.size by omega)).1
     have cy := (qgf S1.out HR.out (by have := HS.out; omega) (show c < d.size by omega)).1
     rw [hx] at cx
     rw [hy] at cy
     have hd : decide (cmpC x y < 0) = true := by rw [← hx, ← hy]; exact HL.out
     have hcall := fun n os => qfe S1.out HCB.out x y n os
     obtain ⟨x0, x1, x2, x3, x4, x5, x6⟩ := cx
     obtain ⟨y0, y1, y2, y3, y4, y5, y6⟩ := cy
     have x0 := qbc x0
     have x1 := qbc x1
     have x2 := qbc x2
     have x3 := qbc x3
     have x4 := qbc x4
     have x5 := qbc x5
     have x6 := qbc x6
     have y0 := qbc y0
     have y1 := qbc y1
     have y2 := qbc y2
     have y3 := qbc y3
     have y4 := qbc y4
     have y5 := qbc y5
     have y6 := qbc y6
     clear hx hy
     have mixed : Tryd.prog.follows .mixedOrders = true := by kernel_rfl
     go_wp2_with fail
     go_quiet_grown ((go_at_call 109; refine Calls.grown_of (hcall _ _)))
     have S2 := qd.mk (S1.out.grown nq osq)
     clear x0 x1 x2 x3 x4 x5 x6 y0 y1 y2 y3 y4 y5 y6 hcall S1 mixed
     generalize grow (wr.drewN nq) osq = w2 at S2 ⊢
     clear nq osq
     clear eu eu2
     go_wp2
     go_roundw
     case rel => exact ⟨s, c, rfl, rfl, ⟨HST.out.more qin LO.out HI.out h1 h2 gc1 gc2 (by rw [HU.out]; exact HL.out)⟩, S2⟩
     case measure => simp [intOf]; try omega
   obtain rfl : s = r := by omega
   have d1 : decide ((s : Int) < (s : Int)) = false := decide_eq_false (by omega)
   have d2 : decide (s < s) = false := decide_eq_false (by omega)
   have HCT := qd.mk (HST.out.cut qin LO.out HI.out h1 h2)
   clear HST
   obtain ⟨t, ht⟩ : ∃ t, n - s = t := ⟨_, rfl⟩
   have et : (n : Int) - (s : Int) = (t : Int) := by omega
   obtain ⟨hcut, hxm⟩ := HCT.out
   rw [show (a + b) / 2 + m - s = t by omega] at hcut hxm
   rw [hmid] at hxm
   have k1 := hcut.has
   have k2 := hcut.hsm
   have k3 := hcut.hmn
   have k4 := hcut.hnb
   have HCD := qd.mk hcut
   clear hcut HCT
   by_cases cP : s < m
   rotate_left
   ·by_cases cQ : m < t
    rotate_left
    ·by_cases cA : a < s
     rotate_left
     ·by_cases cB : t < b
      ·exfalso; omega
      exfalso; omega
     by_cases cB : t < b
     rotate_left
     ·exfalso; omega
     have zp1 : decide ((s : Int) < (m : Int)) = false := decide_eq_false (by omega)
     have zp2 : decide (s < m) = false := decide_eq_false (by omega)
     have zq1 : decide ((m : Int) < (t : Int)) = false := decide_eq_false (by omega)
     have zq2 : decide (m < t) = false := decide_eq_false (by omega)
     have za1 : decide ((a : Int) < (s : Int)) = true := decide_eq_true (by omega)
     have za2 : decide (a < s) = true := decide_eq_true (by omega)
     have zx1 : decide ((s : Int) < (mid : Int)) = false := decide_eq_false (by omega)
     have zx2 : decide (s < mid) = false := decide_eq_false (by omega)
     have zt1 : decide ((mid : Int) < (t : Int)) = false := decide_eq_false (by omega)
     have zt2 : decide (mid < t) = false := decide_eq_false (by omega)
     have zb1 : decide ((t : Int) < (b : Int)) = true := decide_eq_true (by omega)
     have zb2 : decide (t < b) = true := decide_eq_true (by omega)
     have HSX := qd.mk (show d.size = d.size from rfl)
     have hr_d : a < mid := by omega
     have hr_e : mid < b := by omega
     have HRO := qd.mk (qgm (d := d) (show s = m ∨ m = t by omega) k2 k3)
     have HRN := qd.mk (HCD.out.runs HRO.out)
     have S2 := S1
     go_wp2
     go_end0
     have HM1 := qd.mk (show Mrg ltC a mid d d from Mrg.refl (qei HRN.out.1 (Nat.le_refl _) (by omega)))
     have HM2 := qd.mk (show Mrg ltC mid b d d from Mrg.refl (fun i j g1 g2 g3 => by exact HRN.out.2.2.2.1 i j (by omega) g2 (by omega)))
     refine ⟨rfl, d, HCD.out.merged h3 HRO.out (e1 := d) ?_ ?_, S2.out⟩
     ·rw [hxm]; exact HM1.out
     ·rw [hxm]; exact HM2.out
    by_cases cA : a < s
    rotate_left
    ·by_cases cB : t < b
     ·exfalso; omega
     exfalso; omega
    by_cases cB : t < b
    ·have zp1 : decide ((s : Int) < (m : Int)) = false := decide_eq_false (by omega)
     have zp2 : decide (s < m) = false := decide_eq_false (by omega)
     have zq1 : decide ((m : Int) < (t : Int)) = true := decide_eq_true (by omega)
     have zq2 : decide (m < t) = true := decide_eq_true (by omega)
     have za1 : decide ((a : Int) < (s : Int)) = true := decide_eq_true (by omega)
     have za2 : decide (a < s) = true := decide_eq_true (by omega)
     have zx1 : decide ((s : Int) < (mid : Int)) = true := decide_eq_true (by omega)
     have zx2 : decide (s < mid) = true := decide_eq_true (by omega)
     have zt1 : decide ((mid : Int) < (t : Int)) = false := decide_eq_false (by omega)
     have zt2 : decide (mid < t) = false := decide_eq_false (by omega)
     have zb1 : decide ((t : Int) < (b : Int)) = true := decide_eq_true (by omega)
     have zb2 : decide (t < b) = true := decide_eq_true (by omega)
     have HSX := qd.mk (show d.size = d.size from rfl)
     have hr_d : a < mid := by omega
     have hr_e : mid < b := by omega
     have HRO := qd.mk (qgm (d := d) (show s = m ∨ m = t by omega) k2 k3)
     have HRN := qd.mk (HCD.out.runs HRO.out)
     have S2 := S1
     go_wp2_with (first | (go_at_call 176; (with_reducible refine (IH.out a s mid d _ (by omega) (by have := HRO.out.size; omega) S2.out (by omega) (by omega) (by have := HRO.out.size; omega) HRN.out.1 (by have h_ := HRN.out.2.1; rw [hxm] at h_; exact h_)).mono ?_); rintro e_ w4 ⟨rfl, e1, hm_, hs_⟩; have S4 := qd.mk hs_; have HM1 := qd.mk hm_; clear hs_ hm_))
     go_end0
     have HM2 := qd.mk (show Mrg ltC mid b e1 e1 from Mrg.refl (fun i j g1 g2 g3 => by rw [HM1.out.perm.2.1 i (.inr (by omega)), HM1.out.perm.2.1 j (.inr (by omega))]; exact HRN.out.2.2.2.1 i j (by omega) g2 (by omega)))
     refine ⟨rfl, e1, HCD.out.merged h3 HRO.out (e1 := e1) ?_ ?_, S4.out⟩
     ·rw [hxm]; exact HM1.out
     ·rw [hxm]; exact HM2.out
    have zp1 : decide ((s : Int) < (m : Int)) = false := decide_eq_false (by omega)
    have zp2 : decide (s < m) = false := decide_eq_false (by omega)
    have zq1 : decide ((m : Int) < (t : Int)) = true := decide_eq_true (by omega)
    have zq2 : decide (m < t) = true := decide_eq_true (by omega)
    have za1 : decide ((a : Int) < (s : Int)) = true := decide_eq_true (by omega)
    have za2 : decide (a < s) = true := decide_eq_true (by omega)
    have zx1 : decide ((s : Int) < (mid : Int)) = true := decide_eq_true (by omega)
    have zx2 : decide (s < mid) = true := decide_eq_true (by omega)
    have zt1 : decide ((mid : Int) < (t : Int)) = false := decide_eq_false (by omega)
    have zt2 : decide (mid < t) = false := decide_eq_false (by omega)
    have zb1 : decide ((t : Int) < (b : Int)) = false := decide_eq_false (by omega)
    have zb2 : decide (t < b) = false := decide_eq_false (by omega)
    have HSX := qd.mk (show d.size = d.size from rfl)
    have hr_d : a < mid := by omega
    have hr_e : mid < b := by omega
    have HRO := qd.mk (qgm (d := d) (show s = m ∨ m = t by omega) k2 k3)
    have HRN := qd.mk (HCD.out.runs HRO.out)
    have S2 := S1
    go_wp2_with (first | (go_at_call 176; (with_reducible refine (IH.out a s mid d _ (by omega) (by have := HRO.out.size; omega) S2.out (by omega) (by omega) (by have := HRO.out.size; omega) HRN.out.1 (by have h_ := HRN.out.2.1; rw [hxm] at h_; exact h_)).mono ?_); rintro e_ w4 ⟨rfl, e1, hm_, hs_⟩; have S4 := qd.mk hs_; have HM1 := qd.mk hm_; clear hs_ hm_))
    go_end0
    have HM2 := qd.mk (show Mrg ltC mid b e1 e1 from Mrg.refl (fun i j g1 g2 g3 => by rw [HM1.out.perm.2.1 i (.inr (by omega)), HM1.out.perm.2.1 j (.inr (by omega))]; exact HRN.out.2.2.2.1 i j (by omega) g2 (by omega)))
    refine ⟨rfl, e1, HCD.out.merged h3 HRO.out (e1 := e1) ?_ ?_, S4.out⟩
    ·rw [hxm]; exact HM1.out
    ·rw [hxm]; exact HM2.out
   by_cases cQ : m < t
   rotate_left
   ·by_cases cA : a < s
    ·by_cases cB : t < b
     rotate_left
     ·exfalso; omega
     have zp1 : decide ((s : Int) < (m : Int)) = true := decide_eq_true (by omega)
     have zp2 : decide (s < m) = true := decide_eq_true (by omega)
     have zq1 : decide ((m : Int) < (t : Int)) = false := decide_eq_false (by omega)
     have zq2 : decide (m < t) = false := decide_eq_false (by omega)
     have za1 : decide ((a : Int) < (s : Int)) = true := decide_eq_true (by omega)
     have za2 : decide (a < s) = true := decide_eq_true (by omega)
     have zx1 : decide ((s : Int) < (mid : Int)) = false := decide_eq_false (by omega)
     have zx2 : decide (s < mid) = false := decide_eq_false (by omega)
     have zt1 : decide ((mid : Int) < (t : Int)) = true := decide_eq_true (by omega)
     have zt2 : decide (mid < t) = true := decide_eq_true (by omega)
     have zb1 : decide ((t : Int) < (b : Int)) = true := decide_eq_true (by omega)
     have zb2 : decide (t < b) = true := decide_eq_true (by omega)
     have HSX := qd.mk (show d.size = d.size from rfl)
     have hr_d : a < mid := by omega
     have hr_e : mid < b := by omega
     have HRO := qd.mk (qgm (d := d) (show s = m ∨ m = t by omega) k2 k3)
     have HRN := qd.mk (HCD.out.runs HRO.out)
     have S2 := S1
     go_wp2_with (first | (go_at_call 176; have q1_ : SortedIn ltC mid t d := (fun i j g1 g2 g3 => by have h_ := HRN.out.2.2.1; rw [hxm] at h_; exact h_ i j g1 g2 g3); have q2_ : SortedIn ltC t b d := (fun i j g1 g2 g3 => by exact HRN.out.2.2.2.1 i j g1 g2 g3); (with_reducible refine (IH.out mid t b d _ (by omega) (by have := HRO.out.size; omega) S2.out (by omega) (by omega) (by have := HRO.out.size; omega) q1_ q2_).mono ?_); rintro e_ w5 ⟨rfl, e2, hm_, hs_⟩; have S5 := qd.mk hs_; have HM2 := qd.mk hm_; clear hs_ hm_ q1_ q2_))
     go_end0
     have HM1 := qd.mk (show Mrg ltC a mid d d from Mrg.refl (qei HRN.out.1 (Nat.le_refl _) (by omega)))
     refine ⟨rfl, e2, HCD.out.merged h3 HRO.out (e1 := d) ?_ ?_, S5.out⟩
     ·rw [hxm]; exact HM1.out
     ·rw [hxm]; exact HM2.out
    by_cases cB : t < b
    rotate_left
    ·exfalso; omega
    have zp1 : decide ((s : Int) < (m : Int)) = true := decide_eq_true (by omega)
    have zp2 : decide (s < m) = true := decide_eq_true (by omega)
    have zq1 : decide ((m : Int) < (t : Int)) = false := decide_eq_false (by omega)
    have zq2 : decide (m < t) = false := decide_eq_false (by omega)
    have za1 : decide ((a : Int) < (s : Int)) = false := decide_eq_false (by omega)
    have za2 : decide (a < s) = false := decide_eq_false (by omega)
    have zx1 : decide ((s : Int) < (mid : Int)) = false := decide_eq_false (by omega)
    have zx2 : decide (s < mid) = false := decide_eq_false (by omega)
    have zt1 : decide ((mid : Int) < (t : Int)) = true := decide_eq_true (by omega)
    have zt2 : decide (mid < t) = true := decide_eq_true (by omega)
    have zb1 : decide ((t : Int) < (b : Int)) = true := decide_eq_true (by omega)
    have zb2 : decide (t < b) = true := decide_eq_true (by omega)
    have HSX := qd.mk (show d.size = d.size from rfl)
    have hr_d : a < mid := by omega
    have hr_e : mid < b := by omega
    have HRO := qd.mk (qgm (d := d) (show s = m ∨ m = t by omega) k2 k3)
    have HRN := qd.mk (HCD.out.runs HRO.out)
    have S2 := S1
    go_wp2_with (first | (go_at_call 176; have q1_ : SortedIn ltC mid t d := (fun i j g1 g2 g3 => by have h_ := HRN.out.2.2.1; rw [hxm] at h_; exact h_ i j g1 g2 g3); have q2_ : SortedIn ltC t b d := (fun i j g1 g2 g3 => by exact HRN.out.2.2.2.1 i j g1 g2 g3); (with_reducible refine (IH.out mid t b d _ (by omega) (by have := HRO.out.size; omega) S2.out (by omega) (by omega) (by have := HRO.out.size; omega) q1_ q2_).mono ?_); rintro e_ w5 ⟨rfl, e2, hm_, hs_⟩; have S5 := qd.mk hs_; have HM2 := qd.mk hm_; clear hs_ hm_ q1_ q2_))
    go_end0
    have HM1 := qd.mk (show Mrg ltC a mid d d from Mrg.refl (qei (show SortedIn ltC s (s + (t - m)) d from HRN.out.2.1) (by omega) (by omega)))
    refine ⟨rfl, e2, HCD.out.merged h3 HRO.out (e1 := d) ?_ ?_, S5.out⟩
    ·rw [hxm]; exact HM1.out
    ·rw [hxm]; exact HM2.out
   by_cases cA : a < s
   ·by_cases cB : t < b
    ·have zp1 : decide ((s : Int) < (m : Int)) = true := decide_eq_true (by omega)
     have zp2 : decide (s < m) = true := decide_eq_true (by omega)
     have zq1 : decide ((m : Int) < (t : Int)) = true := decide_eq_true (by omega)
     have zq2 : decide (m < t) = true := decide_eq_true (by omega)
     have za1 : decide ((a : Int) < (s : Int)) = true := decide_eq_true (by omega)
     have za2 : decide (a < s) = true := decide_eq_true (by omega)
     have zx1 : decide ((s : Int) < (mid : Int)) = true := decide_eq_true (by omega)
     have zx2 : decide (s < mid) = true := decide_eq_true (by omega)
     have zt1 : decide ((mid : Int) < (t : Int)) = true := decide_eq_true (by omega)
     have zt2 : decide (mid < t) = true := decide_eq_true (by omega)
     have zb1 : decide ((t : Int) < (b : Int)) = true := decide_eq_true (by omega)
     have zb2 : decide (t < b) = true := decide_eq_true (by omega)
     have HSX := qd.mk (show d.size = d.size from rfl)
     have hr_d : a < mid := by omega
     have hr_e : mid < b := by omega
     have HRT := qd.mk (qez blk off cap s m t d0 d w0 wr (.func (.func 109) #[] #[.pointer (some ⟨pc, 0, none⟩), .pointer (some ⟨pk, 0, none⟩)]) HR.out HS.out S1.out (by omega) (by omega) (by omega) hsz)
     go_wp2_with (first | (go_at_call 182; refine HRT.out.mono ?_; rintro e_ w2 ⟨rfl, e, hr_, hs_⟩; have S2 := qd.mk hs_; have HRO := qd.mk hr_; have HRN := qd.mk (HCD.out.runs hr_); clear hs_ hr_) | (go_at_call 176; (with_reducible refine (IH.out a s mid e _ (by omega) (by have := HRO.out.size; omega) S2.out (by omega) (by omega) (by have := HRO.out.size; omega) HRN.out.1 (by have h_ := HRN.out.2.1; rw [hxm] at h_; exact h_)).mono ?_); rintro e_ w4 ⟨rfl, e1, hm_, hs_⟩; have S4 := qd.mk hs_; have HM1 := qd.mk hm_; clear hs_ hm_) | (go_at_call 176; have z_ := (show e1.size = e.size from HM1.out.perm.1); have q1_ : SortedIn ltC mid t e1 := (fun i j g1 g2 g3 => by rw [HM1.out.perm.2.1 i (.inr (by omega)), HM1.out.perm.2.1 j (.inr (by omega))]; have h_ := HRN.out.2.2.1; rw [hxm] at h_; exact h_ i j g1 g2 g3); have q2_ : SortedIn ltC t b e1 := (fun i j g1 g2 g3 => by rw [HM1.out.perm.2.1 i (.inr (by omega)), HM1.out.perm.2.1 j (.inr (by omega))]; exact HRN.out.2.2.2.1 i j g1 g2 g3); (with_reducible refine (IH.out mid t b e1 _ (by omega) (by have := HRO.out.size; omega) S4.out (by omega) (by omega) (by have := HRO.out.size; omega) q1_ q2_).mono ?_); rintro e_ w5 ⟨rfl, e2, hm_, hs_⟩; have S5 := qd.mk hs_; have HM2 := qd.mk hm_; clear hs_ hm_ q1_ q2_))
     go_end0
     refine ⟨rfl, e2, HCD.out.merged h3 HRO.out (e1 := e1) ?_ ?_, S5.out⟩
     ·rw [hxm]; exact HM1.out
     ·rw [hxm]; exact HM2.out
    have zp1 : decide ((s : Int) < (m : Int)) = true := decide_eq_true (by omega)
    have zp2 : decide (s < m) = true := decide_eq_true (by omega)
    have zq1 : decide ((m : Int) < (t : Int)) = true := decide_eq_true (by omega)
    have zq2 : decide (m < t) = true := decide_eq_true (by omega)
    have za1 : decide ((a : Int) < (s : Int)) = true := decide_eq_true (by omega)
    have za2 : decide (a < s) = true := decide_eq_true (by omega)
    have zx1 : decide ((s : Int) < (mid : Int)) = true := decide_eq_true (by omega)
    have zx2 : decide (s < mid) = true := decide_eq_true (by omega)
    have zt1 : decide ((mid : Int) < (t : Int)) = true := decide_eq_true (by omega)
    have zt2 : decide (mid < t) = true := decide_eq_true (by omega)
    have zb1 : decide ((t : Int) < (b : Int)) = false := decide_eq_false (by omega)
    have zb2 : decide (t < b) = false := decide_eq_false (by omega)
    have HSX := qd.mk (show d.size = d.size from rfl)
    have hr_d : a < mid := by omega
    have hr_e : mid < b := by omega
    have HRT := qd.mk (qez blk off cap s m t d0 d w0 wr (.func (.func 109) #[] #[.pointer (some ⟨pc, 0, none⟩), .pointer (some ⟨pk, 0, none⟩)]) HR.out HS.out S1.out (by omega) (by omega) (by omega) hsz)
    go_wp2_with (first | (go_at_call 182; refine HRT.out.mono ?_; rintro e_ w2 ⟨rfl, e, hr_, hs_⟩; have S2 := qd.mk hs_; have HRO := qd.mk hr_; have HRN := qd.mk (HCD.out.runs hr_); clear hs_ hr_) | (go_at_call 176; (with_reducible refine (IH.out a s mid e _ (by omega) (by have := HRO.out.size; omega) S2.out (by omega) (by omega) (by have := HRO.out.size; omega) HRN.out.1 (by have h_ := HRN.out.2.1; rw [hxm] at h_; exact h_)).mono ?_); rintro e_ w4 ⟨rfl, e1, hm_, hs_⟩; have S4 := qd.mk hs_; have HM1 := qd.mk hm_; clear hs_ hm_))
    go_end0
    have HM2 := qd.mk (show Mrg ltC mid b e1 e1 from Mrg.refl (fun i j g1 g2 g3 => by rw [HM1.out.perm.2.1 i (.inr (by omega)), HM1.out.perm.2.1 j (.inr (by omega))]; exact HRN.out.2.2.1 i j (by omega) g2 (by omega)))
    refine ⟨rfl, e1, HCD.out.merged h3 HRO.out (e1 := e1) ?_ ?_, S4.out⟩
    ·rw [hxm]; exact HM1.out
    ·rw [hxm]; exact HM2.out
   by_cases cB : t < b
   ·have zp1 : decide ((s : Int) < (m : Int)) = true := decide_eq_true (by omega)
    have zp2 : decide (s < m) = true := decide_eq_true (by omega)
    have zq1 : decide ((m : Int) < (t : Int)) = true := decide_eq_true (by omega)
    have zq2 : decide (m < t) = true := decide_eq_true (by omega)
    have za1 : decide ((a : Int) < (s : Int)) = false := decide_eq_false (by omega)
    have za2 : decide (a < s) = false := decide_eq_false (by omega)
    have zx1 : decide ((s : Int) < (mid : Int)) = true := decide_eq_true (by omega)
    have zx2 : decide (s < mid) = true := decide_eq_true (by omega)
    have zt1 : decide ((mid : Int) < (t : Int)) = true := decide_eq_true (by omega)
    have zt2 : decide (mid < t) = true := decide_eq_true (by omega)
    have zb1 : decide ((t : Int) < (b : Int)) = true := decide_eq_true (by omega)
    have zb2 : decide (t < b) = true := decide_eq_true (by omega)
    have HSX := qd.mk (show d.size = d.size from rfl)
    have hr_d : a < mid := by omega
    have hr_e : mid < b := by omega
    have HRT := qd.mk (qez blk off cap s m t d0 d w0 wr (.func (.func 109) #[] #[.pointer (some ⟨pc, 0, none⟩), .pointer (some ⟨pk, 0, none⟩)]) HR.out HS.out S1.out (by omega) (by omega) (by omega) hsz)
    go_wp2_with (first | (go_at_call 182; refine HRT.out.mono ?_; rintro e_ w2 ⟨rfl, e, hr_, hs_⟩; have S2 := qd.mk hs_; have HRO := qd.mk hr_; have HRN := qd.mk (HCD.out.runs hr_); clear hs_ hr_) | (go_at_call 176; have q1_ : SortedIn ltC mid t e := (fun i j g1 g2 g3 => by have h_ := HRN.out.2.2.1; rw [hxm] at h_; exact h_ i j g1 g2 g3); have q2_ : SortedIn ltC t b e := (fun i j g1 g2 g3 => by exact HRN.out.2.2.2.1 i j g1 g2 g3); (with_reducible refine (IH.out mid t b e _ (by omega) (by have := HRO.out.size; omega) S2.out (by omega) (by omega) (by have := HRO.out.size; omega) q1_ q2_).mono ?_); rintro e_ w5 ⟨rfl, e2, hm_, hs_⟩; have S5 := qd.mk hs_; have HM2 := qd.mk hm_; clear hs_ hm_ q1_ q2_))
    go_end0
    have HM1 := qd.mk (show Mrg ltC a mid e e from Mrg.refl (qei (show SortedIn ltC s (s + (t - m)) e from HRN.out.2.1) (by omega) (by omega)))
    refine ⟨rfl, e2, HCD.out.merged h3 HRO.out (e1 := e) ?_ ?_, S5.out⟩
    ·rw [hxm]; exact HM1.out
    ·rw [hxm]; exact HM2.out
   have zp1 : decide ((s : Int) < (m : Int)) = true := decide_eq_true (by omega)
   have zp2 : decide (s < m) = true := decide_eq_true (by omega)
   have zq1 : decide ((m : Int) < (t : Int)) = true := decide_eq_true (by omega)
   have zq2 : decide (m < t) = true := decide_eq_true (by omega)
   have za1 : decide ((a : Int) < (s : Int)) = false := decide_eq_false (by omega)
   have za2 : decide (a < s) = false := decide_eq_false (by omega)
   have zx1 : decide ((s : Int) < (mid : Int)) = true := decide_eq_true (by omega)
   have zx2 : decide (s < mid) = true := decide_eq_true (by omega)
   have zt1 : decide ((mid : Int) < (t : Int)) = true := decide_eq_true (by omega)
   have zt2 : decide (mid < t) = true := decide_eq_true (by omega)
   have zb1 : decide ((t : Int) < (b : Int)) = false := decide_eq_false (by omega)
   have zb2 : decide (t < b) = false := decide_eq_false (by omega)
   have HSX := qd.mk (show d.size = d.size from rfl)
   have hr_d : a < mid := by omega
   have hr_e : mid < b := by omega
   have HRT := qd.mk (qez blk off cap s m t d0 d w0 wr (.func (.func 109) #[] #[.pointer (some ⟨pc, 0, none⟩), .pointer (some ⟨pk, 0, none⟩)]) HR.out HS.out S1.out (by omega) (by omega) (by omega) hsz)
   go_wp2_with (first | (go_at_call 182; refine HRT.out.mono ?_; rintro e_ w2 ⟨rfl, e, hr_, hs_⟩; have S2 := qd.mk hs_; have HRO := qd.mk hr_; have HRN := qd.mk (HCD.out.runs hr_); clear hs_ hr_))
   go_end0
   have HM1 := qd.mk (show Mrg ltC a mid e e from Mrg.refl (qei (show SortedIn ltC s (s + (t - m)) e from HRN.out.2.1) (by omega) (by omega)))
   have HM2 := qd.mk (show Mrg ltC mid b e e from Mrg.refl (fun i j g1 g2 g3 => by exact HRN.out.2.2.1 i j (by omega) g2 (by omega)))
   refine ⟨rfl, e, HCD.out.merged h3 HRO.out (e1 := e) ?_ ?_, S2.out⟩
   ·rw [hxm]; exact HM1.out
   ·rw [hxm]; exact HM2.out
  have z1 : decide ((mid : Int) < (m : Int)) = false := decide_eq_false (by omega)
  have z2 : decide (mid < m) = false := decide_eq_false hmm
  have hs1 : a = s0 := by unfold sStart at hs0; rw [if_neg (by omega)] at hs0; omega
  have hr1 : m = r0 := by unfold sEnd at hr0; rw [if_neg (by omega)] at hr0; omega
  have HR1 := qd.mk hr1
  have HS1 := qd.mk hs1
  clear hs0 hr0 hmid hn hq hs hs1 hr1 z7
  go_enter Tryd.func176, Tryd.ntmps176
  go_wp2
  clear f1 f2 f2' f5 f3 f4 f4' f6 em en eq' z1 z2
  go_loopw [20, 21, 23, 149, 150, 151, 152, 153, 154, 155, 156, 157, 158, 159, 160, 161, 162, 163, 164, 165, 166, 167, 168, 169, 170, 171, 172, 173, 174] (fun v20 v21 _ _ _ _ _ _ _ _ _ _ _ _ _ _ _ _ _ _ _ _ _ _ _ _ _ _ _ wr => ∃ s r : Nat, v20 = .int .i64 s ∧ v21 = .int .i64 r ∧ qd (Srch ltC d ((a + b) / 2 + m - 1) (sStart a m b) (sEnd a m b) s r) ∧ qd (SWK e34 7 w0 blk off d wr)) (fun v20 v21 _ _ _ _ _ _ _ _ _ _ _ _ _ _ _ _ _ _ _ _ _ _ _ _ _ _ _ _ => (intOf v21).toNat - (intOf v20).toNat)
  case atStart => exact ⟨s0, r0, by rw [← HS1.out], by rw [← HR1.out], HST0, S0⟩
  clear S0 HST0
  obtain ⟨s, r, rfl, rfl, HST, S1⟩ := hrel
  have hxy := HST.out.hxy
  have hx1 := HST.out.hx
  have hy1 := HST.out.hy
  have hse : sEnd a m b ≤ m := by unfold sEnd; split <;> omega
  have hmid := HMID.out
  have hn := HN.out
  have hq := HQ.out
  by_cases hlt : s < r
  ·have d1 : decide ((s : Int) < (r : Int)) = true := decide_eq_true (by omega)
   have d2 : decide (s < r) = true := decide_eq_true hlt
   obtain ⟨c, hc⟩ : ∃ c, (s + r) / 2 = c := ⟨_, rfl⟩
   have ec : ((s : Int) + (r : Int)) / 2 = (c : Int) := by omega
   have gc1 : s ≤ c := by omega
   have gc2 : c < r := by omega
   obtain ⟨b1, b2, b3, b4⟩ := qhg h1 h2 (show sStart a m b ≤ c by omega) (show c < sEnd a m b by omega)
   obtain ⟨u, hu⟩ : ∃ u, (a + b) / 2 + m - 1 - c = u := ⟨_, rfl⟩
   have eu : (q : Int) - (c : Int) = (u : Int) := by omega
   have gu : u < d.size := by omega
   have gc : c < d.size := by omega
   have hxb : s < 2305843009213693952 := by omega
   have hyb : r < 2305843009213693952 := by omega
   have HU := qd.mk hu
   have GE := qd.mk eu
   clear hc hu b1 b2 b3 b4 hmid hn hq hx1 hy1 eu
   cases hl : ltC d[u]! d[c]! with
   | false =>
    have HL := qd.mk hl
    clear hl
    go_upto_region 35 with (fail)
    clear ec
    have eu := GE.out
    have eu2 : IntKind.i64.wrap ((q : Int) - (c : Int)) = (u : Int) := by rw [eu, IntKind.wrap_i64]; omega
    have hn_39321 : ((u : Int)).toNat = u := by omega
    have hp_39321 : (0 : Int) ≤ (u : Int) := by omega
    have hq_39321 : (u : Int) < (d.size : Int) := by omega
    have hw_39321 : IntKind.i64.wrap ((u : Int)) = (u : Int) := by rw [IntKind.wrap_i64]; omega
    have hn_75478 : ((c : Int)).toNat = c := by omega
    have hp_75478 : (0 : Int) ≤ (c : Int) := by omega
    have hq_75478 : (c : Int) < (d.size : Int) := by omega
    have hw_75478 : IntKind.i64.wrap ((c : Int)) = (c : Int) := by rw [IntKind.wrap_i64]; omega
    obtain ⟨x, hx⟩ : ∃ x, d[u]! = x := ⟨_, rfl⟩
    obtain ⟨y, hy⟩ : ∃ y, d[c]! = y := ⟨_, rfl⟩
    have cx := (qgf S1.out HR.out (by have := HS.out; omega) (show u < d.size by omega)).1
    have cy := (qgf S1.out HR.out (by have := HS.out; omega) (show c < d.size by omega)).1
    rw [hx] at cx
    rw [hy] at cy
    have hd : decide (cmpC x y < 0) = false := by rw [← hx, ← hy]; exact HL.out
    have hcall := fun n os => qfe S1.out HCB.out x y n os
    obtain ⟨x0, x1, x2, x3, x4, x5, x6⟩ := cx
    obtain ⟨y0, y1, y2, y3, y4, y5, y6⟩ := cy
    have x0 := qbc x0
    have x1 := qbc x1
    have x2 := qbc x2
    have x3 := qbc x3
    have x4 := qbc x4
    have x5 := qbc x5
    have x6 := qbc x6
    have y0 := qbc y0
    have y1 := qbc y1
    have y2 := qbc y2
    have y3 := qbc y3
    have y4 := qbc y4
    have y5 := qbc y5
    have y6 := qbc y6
    clear hx hy
    have mixed : Tryd.prog.follows .mixedOrders = true := by kernel_rfl
    go_wp2_with fail
    go_quiet_grown ((go_at_call 109; refine Calls.grown_of (hcall _ _)))
    have S2 := qd.mk (S1.out.grown nq osq)
    clear x0 x1 x2 x3 x4 x5 x6 y0 y1 y2 y3 y4 y5 y6 hcall S1 mixed
    generalize grow (wr.drewN nq) osq = w2 at S2 ⊢
    clear nq osq
    clear eu eu2
    go_wp2
    go_roundw
    case rel => exact ⟨c + 1, r, by go_num, rfl, ⟨HST.out.less qin LO.out HI.out h1 h2 gc1 gc2 (by rw [HU.out]; exact HL.out)⟩, S2⟩
    case measure => simp [intOf]; try omega
   | true =>
    have HL := qd.mk hl
    clear hl
    go_upto_region 35 with (fail)
    clear ec
    have eu := GE.out
    have eu2 : IntKind.i64.wrap ((q : Int) - (c : Int)) = (u : Int) := by rw [eu, IntKind.wrap_i64]; omega
    have hn_39321 : ((u : Int)).toNat = u := by omega
    have hp_39321 : (0 : Int) ≤ (u : Int) := by omega
    have hq_39321 : (u : Int) < (d.size : Int) := by omega
    have hw_39321 : IntKind.i64.wrap ((u : Int)) = (u : Int) := by rw [IntKind.wrap_i64]; omega
    have hn_75478 : ((c : Int)).toNat = c := by omega
    have hp_75478 : (0 : Int) ≤ (c : Int) := by omega
    have hq_75478 : (c : Int) < (d.size : Int) := by omega
    have hw_75478 : IntKind.i64.wrap ((c : Int)) = (c : Int) := by rw [IntKind.wrap_i64]; omega
    obtain ⟨x, hx⟩ : ∃ x, d[u]! = x := ⟨_, rfl⟩
    obtain ⟨y, hy⟩ : ∃ y, d[c]! = y := ⟨_, rfl⟩
    have cx := (qgf S1.out HR.out (by have := HS.out; omega) (show u < d.size by omega)).1
    have cy := (qgf S1.out HR.out (by have := HS.out; omega) (show c < d.size by omega)).1
    rw [hx] at cx
    rw [hy] at cy
    have hd : decide (cmpC x y < 0) = true := by rw [← hx, ← hy]; exact HL.out
    have hcall := fun n os => qfe S1.out HCB.out x y n os
    obtain ⟨x0, x1, x2, x3, x4, x5, x6⟩ := cx
    obtain ⟨y0, y1, y2, y3, y4, y5, y6⟩ := cy
    have x0 := qbc x0
    have x1 := qbc x1
    have x2 := qbc x2
    have x3 := qbc x3
    have x4 := qbc x4
    have x5 := qbc x5
    have x6 := qbc x6
    have y0 := qbc y0
    have y1 := qbc y1
    have y2 := qbc y2
    have y3 := qbc y3
    have y4 := qbc y4
    have y5 := qbc y5
    have y6 := qbc y6
    clear hx hy
    have mixed : Tryd.prog.follows .mixedOrders = true := by kernel_rfl
    go_wp2_with fail
    go_quiet_grown ((go_at_call 109; refine Calls.grown_of (hcall _ _)))
    have S2 := qd.mk (S1.out.grown nq osq)
    clear x0 x1 x2 x3 x4 x5 x6 y0 y1 y2 y3 y4 y5 y6 hcall S1 mixed
    generalize grow (wr.drewN nq) osq = w2 at S2 ⊢
    clear nq osq
    clear eu eu2
    go_wp2
    go_roundw
    case rel => exact ⟨s, c, rfl, rfl, ⟨HST.out.more qin LO.out HI.out h1 h2 gc1 gc2 (by rw [HU.out]; exact HL.out)⟩, S2⟩
    case measure => simp [intOf]; try omega
  obtain rfl : s = r := by omega
  have d1 : decide ((s : Int) < (s : Int)) = false := decide_eq_false (by omega)
  have d2 : decide (s < s) = false := decide_eq_false (by omega)
  have HCT := qd.mk (HST.out.cut qin LO.out HI.out h1 h2)
  clear HST
  obtain ⟨t, ht⟩ : ∃ t, n - s = t := ⟨_, rfl⟩
  have et : (n : Int) - (s : Int) = (t : Int) := by omega
  obtain ⟨hcut, hxm⟩ := HCT.out
  rw [show (a + b) / 2 + m - s = t by omega] at hcut hxm
  rw [hmid] at hxm
  have k1 := hcut.has
  have k2 := hcut.hsm
  have k3 := hcut.hmn
  have k4 := hcut.hnb
  have HCD := qd.mk hcut
  clear hcut HCT
  by_cases cP : s < m
  rotate_left
  ·by_cases cQ : m < t
   rotate_left
   ·by_cases cA : a < s
    rotate_left
    ·by_cases cB : t < b
     ·exfalso; omega
     exfalso; omega
    by_cases cB : t < b
    rotate_left
    ·exfalso; omega
    have zp1 : decide ((s : Int) < (m : Int)) = false := decide_eq_false (by omega)
    have zp2 : decide (s < m) = false := decide_eq_false (by omega)
    have zq1 : decide ((m : Int) < (t : Int)) = false := decide_eq_false (by omega)
    have zq2 : decide (m < t) = false := decide_eq_false (by omega)
    have za1 : decide ((a : Int) < (s : Int)) = true := decide_eq_true (by omega)
    have za2 : decide (a < s) = true := decide_eq_true (by omega)
    have zx1 : decide ((s : Int) < (mid : Int)) = false := decide_eq_false (by omega)
    have zx2 : decide (s < mid) = false := decide_eq_false (by omega)
    have zt1 : decide ((mid : Int) < (t : Int)) = false := decide_eq_false (by omega)
    have zt2 : decide (mid < t) = false := decide_eq_false (by omega)
    have zb1 : decide ((t : Int) < (b : Int)) = true := decide_eq_true (by omega)
    have zb2 : decide (t < b) = true := decide_eq_true (by omega)
    have HSX := qd.mk (show d.size = d.size from rfl)
    have hr_d : a < mid := by omega
    have hr_e : mid < b := by omega
    have HRO := qd.mk (qgm (d := d) (show s = m ∨ m = t by omega) k2 k3)
    have HRN := qd.mk (HCD.out.runs HRO.out)
    have S2 := S1
    go_wp2
    go_end0
    have HM1 := qd.mk (show Mrg ltC a mid d d from Mrg.refl (qei HRN.out.1 (Nat.le_refl _) (by omega)))
    have HM2 := qd.mk (show Mrg ltC mid b d d from Mrg.refl (fun i j g1 g2 g3 => by exact HRN.out.2.2.2.1 i j (by omega) g2 (by omega)))
    refine ⟨rfl, d, HCD.out.merged h3 HRO.out (e1 := d) ?_ ?_, S2.out⟩
    ·rw [hxm]; exact HM1.out
    ·rw [hxm]; exact HM2.out
   by_cases cA : a < s
   rotate_left
   ·by_cases cB : t < b
    ·exfalso; omega
    exfalso; omega
   by_cases cB : t < b
   ·have zp1 : decide ((s : Int) < (m : Int)) = false := decide_eq_false (by omega)
    have zp2 : decide (s < m) = false := decide_eq_false (by omega)
    have zq1 : decide ((m : Int) < (t : Int)) = true := decide_eq_true (by omega)
    have zq2 : decide (m < t) = true := decide_eq_true (by omega)
    have za1 : decide ((a : Int) < (s : Int)) = true := decide_eq_true (by omega)
    have za2 : decide (a < s) = true := decide_eq_true (by omega)
    have zx1 : decide ((s : Int) < (mid : Int)) = true := decide_eq_true (by omega)
    have zx2 : decide (s < mid) = true := decide_eq_true (by omega)
    have zt1 : decide ((mid : Int) < (t : Int)) = false := decide_eq_false (by omega)
    have zt2 : decide (mid < t) = false := decide_eq_false (by omega)
    have zb1 : decide ((t : Int) < (b : Int)) = true := decide_eq_true (by omega)
    have zb2 : decide (t < b) = true := decide_eq_true (by omega)
    have HSX := qd.mk (show d.size = d.size from rfl)
    have hr_d : a < mid := by omega
    have hr_e : mid < b := by omega
    have HRO := qd.mk (qgm (d := d) (show s = m ∨ m = t by omega) k2 k3)
    have HRN := qd.mk (HCD.out.runs HRO.out)
    have S2 := S1
    go_wp2_with (first | (go_at_call 176; (with_reducible refine (IH.out a s mid d _ (by omega) (by have := HRO.out.size; omega) S2.out (by omega) (by omega) (by have := HRO.out.size; omega) HRN.out.1 (by have h_ := HRN.out.2.1; rw [hxm] at h_; exact h_)).mono ?_); rintro e_ w4 ⟨rfl, e1, hm_, hs_⟩; have S4 := qd.mk hs_; have HM1 := qd.mk hm_; clear hs_ hm_))
    go_end0
    have HM2 := qd.mk (show Mrg ltC mid b e1 e1 from Mrg.refl (fun i j g1 g2 g3 => by rw [HM1.out.perm.2.1 i (.inr (by omega)), HM1.out.perm.2.1 j (.inr (by omega))]; exact HRN.out.2.2.2.1 i j (by omega) g2 (by omega)))
    refine ⟨rfl, e1, HCD.out.merged h3 HRO.out (e1 := e1) ?_ ?_, S4.out⟩
    ·rw [hxm]; exact HM1.out
    ·rw [hxm]; exact HM2.out
   have zp1 : decide ((s : Int) < (m : Int)) = false := decide_eq_false (by omega)
   have zp2 : decide (s < m) = false := decide_eq_false (by omega)
   have zq1 : decide ((m : Int) < (t : Int)) = true := decide_eq_true (by omega)
   have zq2 : decide (m < t) = true := decide_eq_true (by omega)
   have za1 : decide ((a : Int) < (s : Int)) = true := decide_eq_true (by omega)
   have za2 : decide (a < s) = true := decide_eq_true (by omega)
   have zx1 : decide ((s : Int) < (mid : Int)) = true := decide_eq_true (by omega)
   have zx2 : decide (s < mid) = true := decide_eq_true (by omega)
   have zt1 : decide ((mid : Int) < (t : Int)) = false := decide_eq_false (by omega)
   have zt2 : decide (mid < t) = false := decide_eq_false (by omega)
   have zb1 : decide ((t : Int) < (b : Int)) = false := decide_eq_false (by omega)
   have zb2 : decide (t < b) = false := decide_eq_false (by omega)
   have HSX := qd.mk (show d.size = d.size from rfl)
   have hr_d : a < mid := by omega
   have hr_e : mid < b := by omega
   have HRO := qd.mk (qgm (d := d) (show s = m ∨ m = t by omega) k2 k3)
   have HRN := qd.mk (HCD.out.runs HRO.out)
   have S2 := S1
   go_wp2_with (first | (go_at_call 176; (with_reducible refine (IH.out a s mid d _ (by omega) (by have := HRO.out.size; omega) S2.out (by omega) (by omega) (by have := HRO.out.size; omega) HRN.out.1 (by have h_ := HRN.out.2.1; rw [hxm] at h_; exact h_)).mono ?_); rintro e_ w4 ⟨rfl, e1, hm_, hs_⟩; have S4 := qd.mk hs_; have HM1 := qd.mk hm_; clear hs_ hm_))
   go_end0
   have HM2 := qd.mk (show Mrg ltC mid b e1 e1 from Mrg.refl (fun i j g1 g2 g3 => by rw [HM1.out.perm.2.1 i (.inr (by omega)), HM1.out.perm.2.1 j (.inr (by omega))]; exact HRN.out.2.2.2.1 i j (by omega) g2 (by omega)))
   refine ⟨rfl, e1, HCD.out.merged h3 HRO.out (e1 := e1) ?_ ?_, S4.out⟩
   ·rw [hxm]; exact HM1.out
   ·rw [hxm]; exact HM2.out
  by_cases cQ : m < t
  rotate_left
  ·by_cases cA : a < s
   ·by_cases cB : t < b
    rotate_left
    ·exfalso; omega
    have zp1 : decide ((s : Int) < (m : Int)) = true := decide_eq_true (by omega)
    have zp2 : decide (s < m) = true := decide_eq_true (by omega)
    have zq1 : decide ((m : Int) < (t : Int)) = false := decide_eq_false (by omega)
    have zq2 : decide (m < t) = false := decide_eq_false (by omega)
    have za1 : decide ((a : Int) < (s : Int)) = true := decide_eq_true (by omega)
    have za2 : decide (a < s) = true := decide_eq_true (by omega)
    have zx1 : decide ((s : Int) < (mid : Int)) = false := decide_eq_false (by omega)
    have zx2 : decide (s < mid) = false := decide_eq_false (by omega)
    have zt1 : decide ((mid : Int) < (t : Int)) = true := decide_eq_true (by omega)
    have zt2 : decide (mid < t) = true := decide_eq_true (by omega)
    have zb1 : decide ((t : Int) < (b : Int)) = true := decide_eq_true (by omega)
    have zb2 : decide (t < b) = true := decide_eq_true (by omega)
    have HSX := qd.mk (show d.size = d.size from rfl)
    have hr_d : a < mid := by omega
    have hr_e : mid < b := by omega
    have HRO := qd.mk (qgm (d := d) (show s = m ∨ m = t by omega) k2 k3)
    have HRN := qd.mk (HCD.out.runs HRO.out)
    have S2 := S1
    go_wp2_with (first | (go_at_call 176; have q1_ : SortedIn ltC mid t d := (fun i j g1 g2 g3 => by have h_ := HRN.out.2.2.1; rw [hxm] at h_; exact h_ i j g1 g2 g3); have q2_ : SortedIn ltC t b d := (fun i j g1 g2 g3 => by exact HRN.out.2.2.2.1 i j g1 g2 g3); (with_reducible refine (IH.out mid t b d _ (by omega) (by have := HRO.out.size; omega) S2.out (by omega) (by omega) (by have := HRO.out.size; omega) q1_ q2_).mono ?_); rintro e_ w5 ⟨rfl, e2, hm_, hs_⟩; have S5 := qd.mk hs_; have HM2 := qd.mk hm_; clear hs_ hm_ q1_ q2_))
    go_end0
    have HM1 := qd.mk (show Mrg ltC a mid d d from Mrg.refl (qei HRN.out.1 (Nat.le_refl _) (by omega)))
    refine ⟨rfl, e2, HCD.out.merged h3 HRO.out (e1 := d) ?_ ?_, S5.out⟩
    ·rw [hxm]; exact HM1.out
    ·rw [hxm]; exact HM2.out
   by_cases cB : t < b
   rotate_left
   ·exfalso; omega
   have zp1 : decide ((s : Int) < (m : Int)) = true := decide_eq_true (by omega)
   have zp2 : decide (s < m) = true := decide_eq_true (by omega)
   have zq1 : decide ((m : Int) < (t : Int)) = false := decide_eq_false (by omega)
   have zq2 : decide (m < t) = false := decide_eq_false (by omega)
   have za1 : decide ((a : Int) < (s : Int)) = false := decide_eq_false (by omega)
   have za2 : decide (a < s) = false := decide_eq_false (by omega)
   have zx1 : decide ((s : Int) < (mid : Int)) = false := decide_eq_false (by omega)
   have zx2 : decide (s < mid) = false := decide_eq_false (by omega)
   have zt1 : decide ((mid : Int) < (t : Int)) = true := decide_eq_true (by omega)
   have zt2 : decide (mid < t) = true := decide_eq_true (by omega)
   have zb1 : decide ((t : Int) < (b : Int)) = true := decide_eq_true (by omega)
   have zb2 : decide (t < b) = true := decide_eq_true (by omega)
   have HSX := qd.mk (show d.size = d.size from rfl)
   have hr_d : a < mid := by omega
   have hr_e : mid < b := by omega
   have HRO := qd.mk (qgm (d := d) (show s = m ∨ m = t by omega) k2 k3)
   have HRN := qd.mk (HCD.out.runs HRO.out)
   have S2 := S1
   go_wp2_with (first | (go_at_call 176; have q1_ : SortedIn ltC mid t d := (fun i j g1 g2 g3 => by have h_ := HRN.out.2.2.1; rw [hxm] at h_; exact h_ i j g1 g2 g3); have q2_ : SortedIn ltC t b d := (fun i j g1 g2 g3 => by exact HRN.out.2.2.2.1 i j g1 g2 g3); (with_reducible refine (IH.out mid t b d _ (by omega) (by have := HRO.out.size; omega) S2.out (by omega) (by omega) (by have := HRO.out.size; omega) q1_ q2_).mono ?_); rintro e_ w5 ⟨rfl, e2, hm_, hs_⟩; have S5 := qd.mk hs_; have HM2 := qd.mk hm_; clear hs_ hm_ q1_ q2_))
   go_end0
   have HM1 := qd.mk (show Mrg ltC a mid d d from Mrg.refl (qei (show SortedIn ltC s (s + (t - m)) d from HRN.out.2.1) (by omega) (by omega)))
   refine ⟨rfl, e2, HCD.out.merged h3 HRO.out (e1 := d) ?_ ?_, S5.out⟩
   ·rw [hxm]; exact HM1.out
   ·rw [hxm]; exact HM2.out
  by_cases cA : a < s
  ·by_cases cB : t < b
   ·have zp1 : decide ((s : Int) < (m : Int)) = true := decide_eq_true (by omega)
    have zp2 : decide (s < m) = true := decide_eq_true (by omega)
    have zq1 : decide ((m : Int) < (t : Int)) = true := decide_eq_true (by omega)
    have zq2 : decide (m < t) = true := decide_eq_true (by omega)
    have za1 : decide ((a : Int) < (s : Int)) = true := decide_eq_true (by omega)
    have za2 : decide (a < s) = true := decide_eq_true (by omega)
    have zx1 : decide ((s : Int) < (mid : Int)) = true := decide_eq_true (by omega)
    have zx2 : decide (s < mid) = true := decide_eq_true (by omega)
    have zt1 : decide ((mid : Int) < (t : Int)) = true := decide_eq_true (by omega)
    have zt2 : decide (mid < t) = true := decide_eq_true (by omega)
    have zb1 : decide ((t : Int) < (b : Int)) = true := decide_eq_true (by omega)
    have zb2 : decide (t < b) = true := decide_eq_true (by omega)
    have HSX := qd.mk (show d.size = d.size from rfl)
    have hr_d : a < mid := by omega
    have hr_e : mid < b := by omega
    have HRT := qd.mk (qez blk off cap s m t d0 d w0 wr (.func (.func 109) #[] #[.pointer (some ⟨pc, 0, none⟩), .pointer (some ⟨pk, 0, none⟩)]) HR.out HS.out S1.out (by omega) (by omega) (by omega) hsz)
    go_wp2_with (first | (go_at_call 182; refine HRT.out.mono ?_; rintro e_ w2 ⟨rfl, e, hr_, hs_⟩; have S2 := qd.mk hs_; have HRO := qd.mk hr_; have HRN := qd.mk (HCD.out.runs hr_); clear hs_ hr_) | (go_at_call 176; (with_reducible refine (IH.out a s mid e _ (by omega) (by have := HRO.out.size; omega) S2.out (by omega) (by omega) (by have := HRO.out.size; omega) HRN.out.1 (by have h_ := HRN.out.2.1; rw [hxm] at h_; exact h_)).mono ?_); rintro e_ w4 ⟨rfl, e1, hm_, hs_⟩; have S4 := qd.mk hs_; have HM1 := qd.mk hm_; clear hs_ hm_) | (go_at_call 176; have z_ := (show e1.size = e.size from HM1.out.perm.1); have q1_ : SortedIn ltC mid t e1 := (fun i j g1 g2 g3 => by rw [HM1.out.perm.2.1 i (.inr (by omega)), HM1.out.perm.2.1 j (.inr (by omega))]; have h_ := HRN.out.2.2.1; rw [hxm] at h_; exact h_ i j g1 g2 g3); have q2_ : SortedIn ltC t b e1 := (fun i j g1 g2 g3 => by rw [HM1.out.perm.2.1 i (.inr (by omega)), HM1.out.perm.2.1 j (.inr (by omega))]; exact HRN.out.2.2.2.1 i j g1 g2 g3); (with_reducible refine (IH.out mid t b e1 _ (by omega) (by have := HRO.out.size; omega) S4.out (by omega) (by omega) (by have := HRO.out.size; omega) q1_ q2_).mono ?_); rintro e_ w5 ⟨rfl, e2, hm_, hs_⟩; have S5 := qd.mk hs_; have HM2 := qd.mk hm_; clear hs_ hm_ q1_ q2_))
    go_end0
    refine ⟨rfl, e2, HCD.out.merged h3 HRO.out (e1 := e1) ?_ ?_, S5.out⟩
    ·rw [hxm]; exact HM1.out
    ·rw [hxm]; exact HM2.out
   have zp1 : decide ((s : Int) < (m : Int)) = true := decide_eq_true (by omega)
   have zp2 : decide (s < m) = true := decide_eq_true (by omega)
   have zq1 : decide ((m : Int) < (t : Int)) = true := decide_eq_true (by omega)
   have zq2 : decide (m < t) = true := decide_eq_true (by omega)
   have za1 : decide ((a : Int) < (s : Int)) = true := decide_eq_true (by omega)
   have za2 : decide (a < s) = true := decide_eq_true (by omega)
   have zx1 : decide ((s : Int) < (mid : Int)) = true := decide_eq_true (by omega)
   have zx2 : decide (s < mid) = true := decide_eq_true (by omega)
   have zt1 : decide ((mid : Int) < (t : Int)) = true := decide_eq_true (by omega)
   have zt2 : decide (mid < t) = true := decide_eq_true (by omega)
   have zb1 : decide ((t : Int) < (b : Int)) = false := decide_eq_false (by omega)
   have zb2 : decide (t < b) = false := decide_eq_false (by omega)
   have HSX := qd.mk (show d.size = d.size from rfl)
   have hr_d : a < mid := by omega
   have hr_e : mid < b := by omega
   have HRT := qd.mk (qez blk off cap s m t d0 d w0 wr (.func (.func 109) #[] #[.pointer (some ⟨pc, 0, none⟩), .pointer (some ⟨pk, 0, none⟩)]) HR.out HS.out S1.out (by omega) (by omega) (by omega) hsz)
   go_wp2_with (first | (go_at_call 182; refine HRT.out.mono ?_; rintro e_ w2 ⟨rfl, e, hr_, hs_⟩; have S2 := qd.mk hs_; have HRO := qd.mk hr_; have HRN := qd.mk (HCD.out.runs hr_); clear hs_ hr_) | (go_at_call 176; (with_reducible refine (IH.out a s mid e _ (by omega) (by have := HRO.out.size; omega) S2.out (by omega) (by omega) (by have := HRO.out.size; omega) HRN.out.1 (by have h_ := HRN.out.2.1; rw [hxm] at h_; exact h_)).mono ?_); rintro e_ w4 ⟨rfl, e1, hm_, hs_⟩; have S4 := qd.mk hs_; have HM1 := qd.mk hm_; clear hs_ hm_))
   go_end0
   have HM2 := qd.mk (show Mrg ltC mid b e1 e1 from Mrg.refl (fun i j g1 g2 g3 => by rw [HM1.out.perm.2.1 i (.inr (by omega)), HM1.out.perm.2.1 j (.inr (by omega))]; exact HRN.out.2.2.1 i j (by omega) g2 (by omega)))
   refine ⟨rfl, e1, HCD.out.merged h3 HRO.out (e1 := e1) ?_ ?_, S4.out⟩
   ·rw [hxm]; exact HM1.out
   ·rw [hxm]; exact HM2.out
  by_cases cB : t < b
  ·have zp1 : decide ((s : Int) < (m : Int)) = true := decide_eq_true (by omega)
   have zp2 : decide (s < m) = true := decide_eq_true (by omega)
   have zq1 : decide ((m : Int) < (t : Int)) = true := decide_eq_true (by omega)
   have zq2 : decide (m < t) = true := decide_eq_true (by omega)
   have za1 : decide ((a : Int) < (s : Int)) = false := decide_eq_false (by omega)
   have za2 : decide (a < s) = false := decide_eq_false (by omega)
   have zx1 : decide ((s : Int) < (mid : Int)) = true := decide_eq_true (by omega)
   have zx2 : decide (s < mid) = true := decide_eq_true (by omega)
   have zt1 : decide ((mid : Int) < (t : Int)) = true := decide_eq_true (by omega)
   have zt2 : decide (mid < t) = true := decide_eq_true (by omega)
   have zb1 : decide ((t : Int) < (b : Int)) = true := decide_eq_true (by omega)
   have zb2 : decide (t < b) = true := decide_eq_true (by omega)
   have HSX := qd.mk (show d.size = d.size from rfl)
   have hr_d : a < mid := by omega
   have hr_e : mid < b := by omega
   have HRT := qd.mk (qez blk off cap s m t d0 d w0 wr (.func (.func 109) #[] #[.pointer (some ⟨pc, 0, none⟩), .pointer (some ⟨pk, 0, none⟩)]) HR.out HS.out S1.out (by omega) (by omega) (by omega) hsz)
   go_wp2_with (first | (go_at_call 182; refine HRT.out.mono ?_; rintro e_ w2 ⟨rfl, e, hr_, hs_⟩; have S2 := qd.mk hs_; have HRO := qd.mk hr_; have HRN := qd.mk (HCD.out.runs hr_); clear hs_ hr_) | (go_at_call 176; have q1_ : SortedIn ltC mid t e := (fun i j g1 g2 g3 => by have h_ := HRN.out.2.2.1; rw [hxm] at h_; exact h_ i j g1 g2 g3); have q2_ : SortedIn ltC t b e := (fun i j g1 g2 g3 => by exact HRN.out.2.2.2.1 i j g1 g2 g3); (with_reducible refine (IH.out mid t b e _ (by omega) (by have := HRO.out.size; omega) S2.out (by omega) (by omega) (by have := HRO.out.size; omega) q1_ q2_).mono ?_); rintro e_ w5 ⟨rfl, e2, hm_, hs_⟩; have S5 := qd.mk hs_; have HM2 := qd.mk hm_; clear hs_ hm_ q1_ q2_))
   go_end0
   have HM1 := qd.mk (show Mrg ltC a mid e e from Mrg.refl (qei (show SortedIn ltC s (s + (t - m)) e from HRN.out.2.1) (by omega) (by omega)))
   refine ⟨rfl, e2, HCD.out.merged h3 HRO.out (e1 := e) ?_ ?_, S5.out⟩
   ·rw [hxm]; exact HM1.out
   ·rw [hxm]; exact HM2.out
  have zp1 : decide ((s : Int) < (m : Int)) = true := decide_eq_true (by omega)
  have zp2 : decide (s < m) = true := decide_eq_true (by omega)
  have zq1 : decide ((m : Int) < (t : Int)) = true := decide_eq_true (by omega)
  have zq2 : decide (m < t) = true := decide_eq_true (by omega)
  have za1 : decide ((a : Int) < (s : Int)) = false := decide_eq_false (by omega)
  have za2 : decide (a < s) = false := decide_eq_false (by omega)
  have zx1 : decide ((s : Int) < (mid : Int)) = true := decide_eq_true (by omega)
  have zx2 : decide (s < mid) = true := decide_eq_true (by omega)
  have zt1 : decide ((mid : Int) < (t : Int)) = true := decide_eq_true (by omega)
  have zt2 : decide (mid < t) = true := decide_eq_true (by omega)
  have zb1 : decide ((t : Int) < (b : Int)) = false := decide_eq_false (by omega)
  have zb2 : decide (t < b) = false := decide_eq_false (by omega)
  have HSX := qd.mk (show d.size = d.size from rfl)
  have hr_d : a < mid := by omega
  have hr_e : mid < b := by omega
  have HRT := qd.mk (qez blk off cap s m t d0 d w0 wr (.func (.func 109) #[] #[.pointer (some ⟨pc, 0, none⟩), .pointer (some ⟨pk, 0, none⟩)]) HR.out HS.out S1.out (by omega) (by omega) (by omega) hsz)
  go_wp2_with (first | (go_at_call 182; refine HRT.out.mono ?_; rintro e_ w2 ⟨rfl, e, hr_, hs_⟩; have S2 := qd.mk hs_; have HRO := qd.mk hr_; have HRN := qd.mk (HCD.out.runs hr_); clear hs_ hr_))
  go_end0
  have HM1 := qd.mk (show Mrg ltC a mid e e from Mrg.refl (qei (show SortedIn ltC s (s + (t - m)) e from HRN.out.2.1) (by omega) (by omega)))
  have HM2 := qd.mk (show Mrg ltC mid b e e from Mrg.refl (fun i j g1 g2 g3 => by exact HRN.out.2.2.1 i j (by omega) g2 (by omega)))
  refine ⟨rfl, e, HCD.out.merged h3 HRO.out (e1 := e) ?_ ?_, S2.out⟩
  ·rw [hxm]; exact HM1.out
  ·rw [hxm]; exact HM2.out
section
variable {α : Type} [Inhabited α] {lt : α → α → Bool} {d e : Array α} {s t a n : Nat}
theorem mul_cases (s k t : Nat) (hs : 0 < s) : s * k + s ≤ s * t ∨ s * k = s * t ∨ s * t + s ≤ s * k := by
 rcases Nat.lt_trichotomy k t with h | h | h
 ·left
  have := Nat.mul_le_mul_left s (show k + 1 ≤ t from h)
  rwa [Nat.mul_add, Nat.mul_one] at this
 ·right; left; rw [h]
 ·right; right
  have := Nat.mul_le_mul_left s (show t + 1 ≤ k from h)
  rwa [Nat.mul_add, Nat.mul_one] at this
def Upto (lt : α → α → Bool) (s a : Nat) (d : Array α) : Prop := ∀ k, s * k + s ≤ a → SortedIn lt (s * k) (s * k + s) d
theorem upto_step (hs : 0 < s) (ha : a = s * t) (h : Upto lt s a d) {b : Nat} (hp : PermIn a b d e) (hr : SortedIn lt a (a + s) e) : Upto lt s (a + s) e := by
 intro k hk
 rcases mul_cases s k t hs with h1 | h1 | h1
 ·intro i j k1 k2 k3
  rw [hp.2.1 i (.inl (by omega)), hp.2.1 j (.inl (by omega))]
  exact h k (by omega) i j k1 k2 k3
 ·rw [h1, ← ha]
  exact hr
 ·omega
theorem blks_of (hs : 0 < s) (ha : a = s * t) (h : Upto lt s a d) (hn : n < a + s) (hr : SortedIn lt a n d) : Blks lt s n d := by
 intro k
 rcases mul_cases s k t hs with h1 | h1 | h1
 ·exact qei (h k (by omega)) (Nat.le_refl _) (Nat.min_le_left _ _)
 ·rw [h1, ← ha]
  exact qei hr (Nat.le_refl _) (Nat.min_le_right _ _)
 ·intro i j k1 k2 k3
  have := Nat.min_le_right (s * k + s) n
  omega
def Tail (lt : α → α → Bool) (s a n : Nat) (d : Array α) : Prop := ∀ k, a ≤ s * k → SortedIn lt (s * k) (min (s * k + s) n) d
theorem Tail.step (h : Tail lt s a n d) {b : Nat} (hab : a ≤ b) (hp : PermIn a b d e) : Tail lt s b n e := by
 intro k hk i j k1 k2 k3
 rw [hp.2.1 i (.inr (by omega)), hp.2.1 j (.inr (by omega))]
 exact h k (by omega) i j k1 k2 k3
theorem Tail.lo (h : Tail lt s a n d) (ha : a = 2 * s * t) {m : Nat} (hm : m ≤ a + s) (hn : m ≤ n) : SortedIn lt a m d := by
 have e1 : s * (2 * t) = a := by rw [ha, Nat.mul_comm 2 s, Nat.mul_assoc]
 have h1 := h (2 * t) (by omega)
 rw [e1] at h1
 exact qei h1 (Nat.le_refl _) (Nat.le_min.2 ⟨hm, hn⟩)
theorem Tail.hi (h : Tail lt s a n d) (ha : a = 2 * s * t) {m : Nat} (hm : m ≤ a + s + s) (hn : m ≤ n) : SortedIn lt (a + s) m d := by
 have e1 : s * (2 * t + 1) = a + s := by rw [ha, Nat.mul_add, Nat.mul_one, Nat.mul_comm 2 s, Nat.mul_assoc]
 have h1 := h (2 * t + 1) (by omega)
 rw [e1] at h1
 exact qei h1 (Nat.le_refl _) (Nat.le_min.2 ⟨hm, hn⟩)
end
set_option maxRecDepth 1000000 in
theorem stable_calls (blk off cap pc pk : Nat) (d : Array S112) (w : World) (R : RowK e34 7 w blk off d) (C : CmpB w blk pc pk) (hsz : d.size < 2305843009213693952) :
  Calls Tryd.prog 148 #[.slice (some ⟨blk, off, none⟩) d.size cap, .int .i64 d.size, .func (.func 109) #[] #[.pointer (some ⟨pc, 0, none⟩), .pointer (some ⟨pk, 0, none⟩)]] w fun e w' => e = .returned (.tuple #[]) ∧ ∃ e', Mrg ltC 0 d.size d e' ∧ SWK e34 7 w blk off e' w' := by
 have S0 := qd.mk (SWK.start R.hH)
 have HR := qd.mk R
 have HCB := qd.mk C
 clear R C
 go_enter Tryd.func148, Tryd.ntmps148
 go_wp2
 go_loopw [7, 8, 11, 12, 13, 14, 15, 16, 17, 18, 19, 20, 21, 22] (fun v7 v8 _ _ _ _ _ _ _ _ _ _ _ _ wr => ∃ (a t : Nat) (e : Array S112), a = 20 * t ∧ a ≤ d.size ∧ v7 = .int .i64 a ∧ v8 = .int .i64 (a + 20 : Nat) ∧ qd (PermIn 0 d.size d e) ∧ qd (Upto ltC 20 a e) ∧ qd (SWK e34 7 w blk off e wr)) (fun v7 _ _ _ _ _ _ _ _ _ _ _ _ _ _ => d.size + 1 - (intOf v7).toNat)
 case atStart => exact ⟨0, 0, d, rfl, Nat.zero_le _, rfl, rfl, ⟨permIn_refl _ _ _⟩, ⟨fun k hk => by omega⟩, S0⟩
 clear S0
 obtain ⟨a, t, e, hat, hax, rfl, rfl, HP, HU, S1⟩ := hrel
 have HAT := qd.mk hat
 have HPS := qd.mk (show e.size = d.size from HP.out.1)
 obtain ⟨b, hb⟩ : ∃ b, a + 20 = b := ⟨_, rfl⟩
 rw [hb]
 clear hat
 by_cases hlt : b ≤ d.size
 ·have d1 : decide ((b : Int) ≤ (d.size : Int)) = true := decide_eq_true (by omega)
  have d2 : decide (b ≤ d.size) = true := decide_eq_true hlt
  have HIN := qd.mk (qis blk off cap a b pc pk d e w wr HR.out HCB.out HPS.out.symm S1.out (by omega) (by have := HPS.out; omega) (by have := HPS.out; omega))
  have HSO := qd.mk (insertionSort_holds qin e a b (by omega) (by have := HPS.out; omega))
  rw [HPS.out] at HIN
  have HB := qd.mk hb
  clear hb
  go_wp2_with (first | (go_at_call 175; refine HIN.out.mono ?_; rintro e_ w2 ⟨rfl, hs_⟩; have S2 := qd.mk hs_; clear hs_))
  go_roundw
  case rel =>
   have hb := HB.out
   refine ⟨b, t + 1, _, by have := HAT.out; omega, hlt, rfl, by go_num, ⟨permIn_trans _ _ _ _ _ HP.out (permIn_mono _ _ _ _ _ _ (Nat.zero_le _) hlt (by have := HPS.out; omega) HSO.out.1)⟩, ⟨?_⟩, S2⟩
   have hso := HSO.out
   rw [← hb] at hso ⊢
   exact upto_step (by decide) HAT.out HU.out hso.1 hso.2
  case measure => have := HB.out; simp [intOf]; omega
 have d1 : decide ((b : Int) ≤ (d.size : Int)) = false := decide_eq_false (by omega)
 have d2 : decide (b ≤ d.size) = false := decide_eq_false hlt
 have HIN := qd.mk (qis blk off cap a d.size pc pk d e w wr HR.out HCB.out HPS.out.symm S1.out hax (by have := HPS.out; omega) (by have := HPS.out; omega))
 have HSO := qd.mk (insertionSort_holds qin e a d.size hax (by have := HPS.out; omega))
 rw [HPS.out] at HIN
 have HB := qd.mk hb
 have HLT := qd.mk hlt
 clear hb hlt
 go_upto_region 7 with (first | (go_at_call 175; refine HIN.out.mono ?_; rintro e_ w2 ⟨rfl, hs_⟩; have S2 := qd.mk hs_; clear hs_))
 have HP2 := qd.mk (permIn_trans _ _ _ _ _ HP.out (permIn_mono _ _ _ _ _ _ (Nat.zero_le _) (Nat.le_refl _) (by have := HPS.out; omega) HSO.out.1))
 have HBL := qd.mk (show Blks ltC 20 d.size (Sort.insertionSort ltC e a d.size) from blks_of (by decide) HAT.out (fun k hk i j k1 k2 k3 => by
  rw [HSO.out.1.2.1 i (.inl (by omega)), HSO.out.1.2.1 j (.inl (by omega))]
  exact HU.out k hk i j k1 k2 k3) (by have := HB.out; have := HLT.out; omega) HSO.out.2)
 generalize Sort.insertionSort ltC e a d.size = e at S2 HP2 HBL
 clear HIN HSO S1 HP HU HPS HAT HB HLT d1 d2 hax
 go_loopw [6, 7, 8, 9, 28, 29, 30, 31, 32, 33, 34, 35, 36, 37, 38, 39, 40, 41, 42, 43, 44, 45, 46, 47, 48, 49, 50, 51, 52, 53, 54, 55, 56, 57, 58, 59, 60, 61, 62] (fun v6 _ _ _ _ _ _ _ _ _ _ _ _ _ _ _ _ _ _ _ _ _ _ _ _ _ _ _ _ _ _ _ _ _ _ _ _ _ _ wr => ∃ (s : Nat) (e : Array S112), 0 < s ∧ s ≤ 2 * d.size + 20 ∧ v6 = .int .i64 s ∧ qd (PermIn 0 d.size d e) ∧ qd (Blks ltC s d.size e) ∧ qd (SWK e34 7 w blk off e wr)) (fun v6 _ _ _ _ _ _ _ _ _ _ _ _ _ _ _ _ _ _ _ _ _ _ _ _ _ _ _ _ _ _ _ _ _ _ _ _ _ _ _ => d.size - (intOf v6).toNat)
 case atStart => exact ⟨20, _, by decide, by omega, rfl, HP2, HBL, S2⟩
 clear HP2 HBL S2
 obtain ⟨s, e, hs0, hs1, rfl, HP, HBL, S1⟩ := hrel
 by_cases hlt : s < d.size
 rotate_left
 ·have d1 : decide ((s : Int) < (d.size : Int)) = false := decide_eq_false (by omega)
  have d2 : decide (s < d.size) = false := decide_eq_false hlt
  go_wp2
  go_end0
  exact ⟨rfl, e, ⟨HP.out, blks_all HBL.out (by omega)⟩, S1.out⟩
 have d1 : decide ((s : Int) < (d.size : Int)) = true := decide_eq_true (by omega)
 have d2 : decide (s < d.size) = true := decide_eq_true hlt
 obtain ⟨s2, hs2⟩ : ∃ s2, 2 * s = s2 := ⟨_, rfl⟩
 have es : (2 : Int) * (s : Int) = (s2 : Int) := by omega
 have es2 : (s : Int) * 2 = (s2 : Int) := by omega
 have es3 : IntKind.i64.wrap (2 * (s : Int)) = (s2 : Int) := by rw [es, IntKind.wrap_i64]; omega
 have es4 : IntKind.i64.wrap ((s : Int) * 2) = (s2 : Int) := by rw [es2, IntKind.wrap_i64]; omega
 have hs2b : s2 < 4611686018427387904 := by omega
 have hs20 : 0 < s2 := by omega
 have HS2 := qd.mk hs2
 have HTL := qd.mk (show Tail ltC s 0 d.size e from fun k _ => HBL.out k)
 clear hs2 HBL
 go_wp2
 go_loopw [7, 8, 33, 34, 35, 36, 37, 38, 39, 40, 41, 42, 43, 44, 45, 46, 47, 48] (fun v7 v8 _ _ _ _ _ _ _ _ _ _ _ _ _ _ _ _ wr => ∃ (a t : Nat) (e : Array S112), a = s2 * t ∧ a ≤ d.size ∧ v7 = .int .i64 a ∧ v8 = .int .i64 (a + s2 : Nat) ∧ qd (PermIn 0 d.size d e) ∧ qd (Upto ltC s2 a e) ∧ qd (Tail ltC s a d.size e) ∧ qd (SWK e34 7 w blk off e wr)) (fun v7 _ _ _ _ _ _ _ _ _ _ _ _ _ _ _ _ _ _ => d.size + 1 - (intOf v7).toNat)
 case atStart => exact ⟨0, 0, e, by rw [Nat.mul_zero], Nat.zero_le _, rfl, by go_num, HP, ⟨fun k hk => by omega⟩, HTL, S1⟩
 clear HP HTL S1
 obtain ⟨a, t, e, hat, hax, rfl, rfl, HP, HU, HT, S1⟩ := hrel
 have HAT := qd.mk hat
 have HAT2 := qd.mk (show a = 2 * s * t from by rw [HS2.out]; exact hat)
 have HPS := qd.mk (show e.size = d.size from HP.out.1)
 obtain ⟨b, hb⟩ : ∃ b, a + s2 = b := ⟨_, rfl⟩
 obtain ⟨m, hm⟩ : ∃ m, a + s = m := ⟨_, rfl⟩
 rw [hb]
 have em : (a : Int) + (s : Int) = (m : Int) := by omega
 have em2 : IntKind.i64.wrap ((a : Int) + (s : Int)) = (m : Int) := by rw [em, IntKind.wrap_i64]; omega
 clear hat
 by_cases hlt2 : b ≤ d.size
 ·have d3 : decide ((b : Int) ≤ (d.size : Int)) = true := decide_eq_true (by omega)
  have d4 : decide (b ≤ d.size) = true := decide_eq_true hlt2
  have HCL := qd.mk (qji blk off cap pc pk d w HR.out HCB.out hsz (b - a + 1) a m b e wr (by omega) HPS.out.symm S1.out (by omega) (by have := HS2.out; omega) (by have := HPS.out; omega) (HT.out.lo HAT2.out (by omega) (by have := HS2.out; omega)) (by have h_ := HT.out.hi HAT2.out (m := b) (by have := HS2.out; omega) hlt2; rw [hm] at h_; exact h_))
  have HB := qd.mk hb
  clear hb hm
  go_wp2_with (first | (go_at_call 176; refine HCL.out.mono ?_; rintro e_ w2 ⟨rfl, e2, hm_, hs_⟩; have S2 := qd.mk hs_; have HM := qd.mk hm_; clear hs_ hm_))
  go_roundw
  case rel =>
   have hb := HB.out
   refine ⟨b, t + 1, e2, by rw [Nat.mul_add, Nat.mul_one]; have := HAT.out; omega, hlt2, rfl, by go_num, ⟨permIn_trans _ _ _ _ _ HP.out (permIn_mono _ _ _ _ _ _ (Nat.zero_le _) hlt2 (by have := HPS.out; omega) HM.out.perm)⟩, ⟨?_⟩, ⟨HT.out.step (by omega) HM.out.perm⟩, S2⟩
   have h1 := HM.out.perm
   have h2 := HM.out.sorted
   rw [← hb] at h1 h2 ⊢
   exact upto_step hs20 HAT.out HU.out h1 h2
  case measure => have := HB.out; simp [intOf]; omega
 have d3 : decide ((b : Int) ≤ (d.size : Int)) = false := decide_eq_false (by omega)
 have d4 : decide (b ≤ d.size) = false := decide_eq_false hlt2
 have HB := qd.mk hb
 by_cases hm2 : m < d.size
 ·have d5 : decide ((m : Int) < (d.size : Int)) = true := decide_eq_true (by omega)
  have d6 : decide (m < d.size) = true := decide_eq_true hm2
  have HCL := qd.mk (qji blk off cap pc pk d w HR.out HCB.out hsz (d.size - a + 1) a m d.size e wr (by omega) HPS.out.symm S1.out (by omega) hm2 (by have := HPS.out; omega) (HT.out.lo HAT2.out (by omega) (by omega)) (by have h_ := HT.out.hi HAT2.out (m := d.size) (by have := HS2.out; omega) (Nat.le_refl _); rw [hm] at h_; exact h_))
  have HLT := qd.mk hlt2
  clear hb hm hlt2
  go_wp2_with (first | (go_at_call 176; refine HCL.out.mono ?_; rintro e_ w2 ⟨rfl, e2, hm_, hs_⟩; have S2 := qd.mk hs_; have HM := qd.mk hm_; clear hs_ hm_))
  go_roundw
  case rel => exact ⟨s2, e2, hs20, by have := HS2.out; omega, by go_num, ⟨permIn_trans _ _ _ _ _ HP.out (permIn_mono _ _ _ _ _ _ (Nat.zero_le _) (Nat.le_refl _) (by have := HPS.out; omega) HM.out.perm)⟩, ⟨blks_of hs20 HAT.out (fun k hk i j k1 k2 k3 => by
   rw [HM.out.perm.2.1 i (.inl (by omega)), HM.out.perm.2.1 j (.inl (by omega))]
   exact HU.out k hk i j k1 k2 k3) (by have := HB.out; have := HLT.out; omega) HM.out.sorted⟩, S2⟩
  case measure => have := HS2.out; simp [intOf]; omega
 have d5 : decide ((m : Int) < (d.size : Int)) = false := decide_eq_false (by omega)
 have d6 : decide (m < d.size) = false := decide_eq_false hm2
 have HLO := qd.mk (HT.out.lo HAT2.out (m := d.size) (by omega) (Nat.le_refl _))
 have HLT := qd.mk hlt2
 clear hb hm hlt2
 go_wp2
 go_roundw
 case rel => exact ⟨s2, e, hs20, by have := HS2.out; omega, by go_num, HP, ⟨blks_of hs20 HAT.out HU.out (by have := HB.out; have := HLT.out; omega) HLO.out⟩, S1⟩
 case measure => have := HS2.out; simp [intOf]; omega
theorem qky (blk off cap pc pk : Nat) (d : Array S112) (w : World) (R : RowK e34 7 w blk off d) (C : CmpB w blk pc pk) (hsz : d.size < 2305843009213693952) :
  Calls Tryd.prog 108 #[.slice (some ⟨blk, off, none⟩) d.size cap, .func (.func 109) #[] #[.pointer (some ⟨pc, 0, none⟩), .pointer (some ⟨pk, 0, none⟩)]] w fun e w' => e = .returned (.tuple #[]) ∧ ∃ e', Mrg ltC 0 d.size d e' ∧ SWK e34 7 w blk off e' w' := by
 have HC := qd.mk (stable_calls blk off cap pc pk d w R C hsz)
 clear R C
 go_enter Tryd.func108, Tryd.ntmps108
 go_wp2_with (first | (go_at_call 148; refine HC.out.mono ?_; rintro e_ w2 ⟨rfl, e2, hm_, hs_⟩; have S2 := qd.mk hs_; have HM := qd.mk hm_; clear hs_ hm_))
 go_end0
 exact ⟨rfl, e2, HM.out, S2.out⟩
abbrev zc112 : Value := .agg #[.string ⟨#[]⟩, .string ⟨#[]⟩, .string ⟨#[]⟩, .string ⟨#[]⟩, .string ⟨#[]⟩, .int .i64 0, .int .i64 0]
theorem R_made (w : World) (base : Nat) (ok : Nat → Prop) (cur : Array Value) (cap : Nat) (hb : base ≤ w.heap.size) (hok : ok w.heap.size) (hm : cap ≤ maxLen) (hs : cur.size = cap * 7) :
  k112.R 112 (w.alloc (.cells cur 112)) base ok (.slice (some ⟨w.heap.size, 0, none⟩) 0 cap) [] :=
 ⟨fun k hk => by cases hk; exact hok, [], World.ownsRow_made w cur cap hb hm hs, Reps.none _ _⟩
set_option maxRecDepth 100000 in
theorem qmo (A : Option Addr) (c : Nat) (l : List S112) (w : World) (h : Kd.C k112 w A l.length l) (hc : l.length ≤ c) (hl : l.length ≤ 1000000) :
  Calls Tryd.prog 63 #[.slice A l.length c] w fun e w' => ∃ v, e = .returned v ∧ k112.R 112 w' w.heap.size (fun k => w.heap.size ≤ k) v l ∧ Below w.heap.size w w' := by
 have q22 : ∀ (w : World) (a : Option Addr) (n c n' c' : Nat), (binOp .eql 32 (.slice a n c) (.slice none n' c')).run Tryd.prog w = .ok (.bool a.isNone) w := fun w a n c n' c' => Lib.run_eql_slice_nil w _ _ a n c n' c' Tryd.underlying32
 have HC := qd.mk h
 cases A with
 | none =>
  have hz : l = [] := by
   cases l with
   | nil => rfl
   | cons x r => obtain ⟨ad, e, _⟩ := h.2.2 (by simp); cases e
  subst hz
  clear h
  go_enter Tryd.func63, Tryd.ntmps63
  go_wp2
  go_ret
  exact ⟨_, rfl, Kd.qhz _ _ _ _ _, Below.refl _ _⟩
 | some ad =>
  clear h
  have HM := qd.mk (R_made w w.heap.size (fun k => w.heap.size ≤ k) #[] 0 (Nat.le_refl _) (Nat.le_refl _) (Nat.zero_le _) rfl)
  have HC1 := qd.mk (Kd.qck HC.out (.cells #[] 112))
  have HB1 := qd.mk (qbk (Below.refl w.heap.size w) (.cells #[] 112))
  go_enter Tryd.func63, Tryd.ntmps63
  go_wp2_with (first | ((with_reducible refine qdf (b := .append) (xs := #[.tmp 5, .tmp 6]) rfl ?_); at_builtin; refine Kd.qij k112 (w0 := w) (Rr := k112.K w) w.heap.size rfl (.tmp 5) (.tmp 6) 32 112 zc112 96 rfl Tryd.underlying32 qfk rfl (by decide) (by omega) (.slice (some ⟨w.heap.size, 0, none⟩) 0 0) [] l (some ad) l.length c (fun k => w.heap.size ≤ k) (fun _ => False) rfl rfl ?aO ?aR ?aK (fun _ hk => hk.elim) ?aF ?aB ?aS ?aL ?_; (case aO => exact HM.out); (case aR => exact HC1.out); (case aK => exact fun x cs hx => by obtain rfl := qir hx; exact qfw _ _ _ _); (case aF => exact fun k hk => Nat.le_trans (by simp) hk); (case aB => exact HB1.out); (case aS => simp); (case aL => simp; omega); intro v1 w1 ho hb hg hat; have HO := qd.mk ho; have HB := qd.mk hb; clear ho hb hg hat))
  go_ret
  exact ⟨_, rfl, HO.out, HB.out⟩
end
end Go.Proofs.YtppcjoaghlecmaaDoor.P
