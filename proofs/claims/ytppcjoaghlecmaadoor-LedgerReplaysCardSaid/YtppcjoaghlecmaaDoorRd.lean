/- Texts of mine and of the print, joined. -/
import Derived.Test.YtppcjoaghlecmaaDoorRa
import Derived.Test.YtppcjoaghlecmaaDoorRb
import Derived.Test.YtppcjoaghlecmaaDoorRc
import Derived.Deep.QuietTactic
import Derived.BigQuiet
import Derived.Deep.RegionLaw
set_option linter.unusedVariables false
set_option linter.unusedSimpArgs false
set_option maxHeartbeats 16000000
open Go.RowKit Go.Proofs.YtppcjoaghlecmaaDoorW.PrintWords Go.Proofs.YtppcjoaghlecmaaDoorW.PrintLast Go.Proofs.YtppcjoaghlecmaaDoorW.PrintMore
namespace Go.Proofs.YtppcjoaghlecmaaDoor.P
section
attribute [local go_sem] qfp qfn qgk qgj qex qew qfo qfm
def qbe.l0 : Nat → List (S213) → Int → Option (Bool)
 | 0, _, _ => none
 | k + 1, x0, x3 => if x3 < (x0.length : Int) then (if 0 ≤ x3 then ((qdi.f k ((qo x0 x3).f0) ((qo x0 x3).f1)).bind fun t191 => (if t191 = true then (if x3 > 0 then (if 0 ≤ (wrap64 (x3 - 1)) then (if (wrap64 (x3 - 1)) < (x0.length : Int) then (if ((Op.bytesLess (((qo x0 (wrap64 (x3 - 1))).f0).toList) (((qo x0 x3).f0).toList)) = true) then (qbe.l0 k x0 (wrap64 (x3 + 1))) else (some false)) else (none)) else (none)) else (qbe.l0 k x0 (wrap64 (x3 + 1)))) else (some false))) else (none)) else (some (decide ((x0.length : Int) ≤ 6)))
def qbe.f (k : Nat) (l0 : List (S213)) : Option (Bool) := qbe.l0 k l0 0
def qbe.T4 : Bool × List (List Nat × List Nat) := (true, [([], []), ([], []), ([0, 1], [0, 1]), ([2], [2]), ([3], [3]), ([4], [4]), ([5, 4], [5]), ([6], [6]), ([7, 6], [6, 7]), ([8, 6, 6], [6, 8]), ([9], [9]), ([9], [9]), ([10, 11, 9], [9, 10, 11]), ([12, 9], [9, 12]), ([13, 9], [9, 13]), ([9], [9]), ([9], [9]), ([16, 9], [9, 16]), ([15, 17, 9], [9, 15, 17]), ([18, 9], [9, 18]), ([19, 9], [9, 19]), ([14, 20, 9], [9, 14, 20]), ([9, 21, 6], [6, 9, 21]), ([6, 22], [6, 22])])
def qbe.B4 : List Nat := [0, 0, 3, 7, 15, 31, 63, 127, 255, 511, 1023, 1023, 4095, 8191, 16383, 1023, 1023, 66559, 230399, 492543, 1016831, 2097151, 4194303, 8388607]
theorem qbe.tab4 : rtab .any (opsOf Tryd.f142 4) = qbe.T4 := by kernel_rfl
theorem qbe.bits4 : qhl qbe.T4.2 qbe.B4 = true := by kernel_rfl
set_option maxRecDepth 100000 in
theorem qbe.calls (k : Nat) (A0 : Option Addr) (c0 : Nat) (l0 : List (S213)) (r : Bool) (w : World) (hr0 : Kd.C k213 w A0 l0.length l0) (hc0 : l0.length ≤ c0) (h : qbe.f k l0 = some r) :
  Calls Tryd.prog 142 #[.slice A0 l0.length c0] w fun e w' => e = .returned (.bool r) ∧ Below w.heap.size w w' := by
 have hu213 := Tryd.underlying213
 have HR0 := qd.mk hr0
 have HC0 := qd.mk hc0
 clear hr0 hc0
 have HB := qd.mk (Below.refl w.heap.size w)
 have H : (qbe.l0 k l0 0) = some r := h
 clear h
 have H' := qd.mk H
 clear H
 go_enter Tryd.func142, Tryd.ntmps142
 go_wp2
 go_loopg [3] k (fun kq v3 w' => ∃ (x3_1 : Int), v3 = .int .i64 x3_1 ∧ qd (qbe.l0 kq l0 x3_1 = some r) ∧ qd (kq ≤ k) ∧ qd (Below w.heap.size w w'))
 case atStart => exact ⟨(0), sm_, H', ⟨Nat.le_refl _⟩, ⟨bw_⟩⟩
 case round =>
  clear H'
  try clear c1
  obtain ⟨x3_1, rfl, HA, HK1, HB⟩ := hrel
  cases gk with
  | zero => exact absurd HA.out (by simp [qbe.l0])
  | succ k1 =>
   have H := HA.out
   clear HA
   simp only [qbe.l0] at H
   by_cases c2 : x3_1 < (l0.length : Int)
   ·rw [if_pos c2] at H
    have c2b0 : decide (x3_1 < (l0.length : Int)) = true := decide_eq_true c2
    clear c2
    by_cases c3 : 0 ≤ x3_1
    rotate_left
    ·rw [if_neg c3] at H
     exact absurd H (by simp)
    rw [if_pos c3] at H
    have c3b0 : decide (0 ≤ x3_1) = true := decide_eq_true c3
    clear c3
    replace H := Option.bind_eq_some_iff.mp H
    obtain ⟨t191, A40, H⟩ := H
    try dsimp only at H
    have A4 := qd.mk A40
    clear A40
    by_cases c5 : t191 = true
    rotate_left
    ·replace c5 := Bool.eq_false_iff.mpr c5
     subst c5
     have H1 : (some false) = some r := by rw [if_neg (show ¬ (false = true) by decide)] at H; exact H
     clear H
     have H := H1
     clear H1
     obtain rfl := Option.some.inj H
     try go_wp2
     have n0_ := qd.mk (qcq HB.out)
     clear HB
     have HB := n0_
     clear n0_
     have p190 : 0 ≤ (x3_1 : Int) := odt_
     have q190 : x3_1 < (l0.length : Int) := odt_
     obtain ⟨ad190, e190, hx190_0, hx190_1⟩ := qey HR0.out x3_1 p190 q190
     have hw190_1 := hx190_1
     have hw190_0 := hx190_0
     cases e190
     replace hx190_0 := bcl_ HB hx190_0
     replace hx190_1 := bcl_ HB hx190_1
     replace p190 := eq_true p190
     replace q190 := eq_true q190
     refine qgv (n := 24) (S := fun w' => w'.cell? (ad190.add ((x3_1).toNat * 2)) = some (.string ((qo l0 x3_1).f0)) ∧ w'.cell? ⟨(ad190.add ((x3_1).toNat * 2)).block, (ad190.add ((x3_1).toNat * 2)).off + 1, none⟩ = some (.string ((qo l0 x3_1).f1))) (ds := []) #[false, false, false, false, false, false, false, false, false, false, false, false, false, false, false, false, false, false, false, false, false, false, false, false] (by kernel_rfl) rfl rfl ⟨(bcl_ HB hw190_0), (bcl_ HB hw190_1)⟩ (fun hHeld => ?_); refine qeq qbe.tab4 qbe.bits4 (fun HT_ HW_ => ?_)
     generalize wr.drew = w17 at HB hx190_0 hx190_1 hHeld ⊢
     refine pu_ 0 (some 10) (btz 24 1) HT_ ?_
     refine pu_ 1 (some 11) (btz 24 3) HT_ ?_
     refine pu_ 2 (some 12) (btz 24 7) HT_ ?_
     refine ta_ 3 (some 13) (btz 24 15) HT_ HW_ hHeld rfl rfl (by rintro w' ⟨s0, s1⟩; go_simp; with_reducible rfl) ?_
     refine one_ (i := 4) (N := some 14) #[true, true, true, true, true, false, false, false, false, false, false, false, false, false, false, false, false, false, false, false, false, false, false, false] rfl rfl (qhq HT_.out (by kernel_rfl)) (by decide) (fun K hK => ?_)
     refine qkk Tryd.func173 (by kernel_rfl) rfl #[.agg #[.string ((qo l0 x3_1).f0), .string ((qo l0 x3_1).f1)]] (by rfl) rfl rfl ml_ ?_
     with_reducible refine (qdi.calls k1 ((qo l0 x3_1).f0) ((qo l0 x3_1).f1) false _ A4.out).mono ?_
     rintro e w18 ⟨rfl, hb⟩
     refine ⟨_, rfl, ?_⟩
     have n0_ := qd.mk (qw (bw_) hb)
     clear HB
     have HB := n0_
     clear n0_
     (try clear hb)
     (try clear hb2)
     (try clear hk)
     (try clear hi)
     refine hK.out _ _ ⟨(bcl_ HB hw190_0), (bcl_ HB hw190_1)⟩ (fun hHeld => ?_)
     clear hK K
     refine qjm (a' := ?_) ?_ ?_
     rotate_left
     ·show Act.put _ (some 14) _ = _
      simp only [Act.put, List.setIfInBounds_toArray, List.set_cons_zero, List.set_cons_succ, qeh, qen]
      rfl
     refine pu_ 5 (some 15) (btz 24 63) HT_ ?_
     refine pu_ 6 (some 16) (btz 24 127) HT_ ?_
     refine un_ 7 (some 17) (btz 24 255) HT_ ?_
     refine un_ 8 (some 18) (btz 24 511) HT_ ?_
     refine un_ 9 (some 19) (btz 24 1023) HT_ ?_
     refine un_ 10 (some 20) (btz 24 2047) HT_ ?_
     refine un_ 11 (some 21) (btz 24 4095) HT_ ?_
     refine un_ 12 (some 22) (btz 24 8191) HT_ ?_
     refine un_ 13 (some 23) (btz 24 16383) HT_ ?_
     refine un_ 14 (some 24) (btz 24 32767) HT_ ?_
     refine un_ 15 (some 25) (btz 24 65535) HT_ ?_
     refine un_ 16 (some 26) (btz 24 131071) HT_ ?_
     refine un_ 17 (some 27) (btz 24 262143) HT_ ?_
     refine un_ 18 (some 28) (btz 24 524287) HT_ ?_
     refine un_ 19 (some 29) (btz 24 1048575) HT_ ?_
     refine un_ 20 (some 30) (btz 24 2097151) HT_ ?_
     refine un_ 21 (some 31) (btz 24 4194303) HT_ ?_
     refine un_ 22 (some 32) (btz 24 8388607) HT_ ?_
     refine pu_ 23 (some 33) (btz 24 16777215) HT_ ?_
     refine qjg (qgc HT_.out (by kernel_rfl)) ?_
     try go_wp2
     go_ret
     exact ⟨ew_, bw_⟩
    subst c5
    have H1 : (if x3_1 > 0 then (if 0 ≤ (wrap64 (x3_1 - 1)) then (if (wrap64 (x3_1 - 1)) < (l0.length : Int) then (if ((Op.bytesLess (((qo l0 (wrap64 (x3_1 - 1))).f0).toList) (((qo l0 x3_1).f0).toList)) = true) then (qbe.l0 k1 l0 (wrap64 (x3_1 + 1))) else (some false)) else (none)) else (none)) else (qbe.l0 k1 l0 (wrap64 (x3_1 + 1)))) = some r := by rw [if_pos rfl] at H; exact H
    clear H
    have H := H1
    clear H1
    by_cases c6 : x3_1 > 0
    rotate_left
    ·rw [if_neg c6] at H
     have c6b0 : decide (0 < x3_1) = false := decide_eq_false c6
     clear c6
     have H' := qd.mk H
     clear H
     try go_wp2
     have n0_ := qd.mk (qcq HB.out)
     clear HB
     have HB := n0_
     clear n0_
     have p190 : 0 ≤ (x3_1 : Int) := odt_
     have q190 : x3_1 < (l0.length : Int) := odt_
     obtain ⟨ad190, e190, hx190_0, hx190_1⟩ := qey HR0.out x3_1 p190 q190
     have hw190_1 := hx190_1
     have hw190_0 := hx190_0
     cases e190
     replace hx190_0 := bcl_ HB hx190_0
     replace hx190_1 := bcl_ HB hx190_1
     replace p190 := eq_true p190
     replace q190 := eq_true q190
     refine qgv (n := 24) (S := fun w' => w'.cell? (ad190.add ((x3_1).toNat * 2)) = some (.string ((qo l0 x3_1).f0)) ∧ w'.cell? ⟨(ad190.add ((x3_1).toNat * 2)).block, (ad190.add ((x3_1).toNat * 2)).off + 1, none⟩ = some (.string ((qo l0 x3_1).f1))) (ds := []) #[false, false, false, false, false, false, false, false, false, false, false, false, false, false, false, false, false, false, false, false, false, false, false, false] (by kernel_rfl) rfl rfl ⟨(bcl_ HB hw190_0), (bcl_ HB hw190_1)⟩ (fun hHeld => ?_); refine qeq qbe.tab4 qbe.bits4 (fun HT_ HW_ => ?_)
     generalize wr.drew = w15 at HB hx190_0 hx190_1 hHeld ⊢
     refine pu_ 0 (some 10) (btz 24 1) HT_ ?_
     refine pu_ 1 (some 11) (btz 24 3) HT_ ?_
     refine pu_ 2 (some 12) (btz 24 7) HT_ ?_
     refine ta_ 3 (some 13) (btz 24 15) HT_ HW_ hHeld rfl rfl (by rintro w' ⟨s0, s1⟩; go_simp; with_reducible rfl) ?_
     refine one_ (i := 4) (N := some 14) #[true, true, true, true, true, false, false, false, false, false, false, false, false, false, false, false, false, false, false, false, false, false, false, false] rfl rfl (qhq HT_.out (by kernel_rfl)) (by decide) (fun K hK => ?_)
     refine qkk Tryd.func173 (by kernel_rfl) rfl #[.agg #[.string ((qo l0 x3_1).f0), .string ((qo l0 x3_1).f1)]] (by rfl) rfl rfl ml_ ?_
     with_reducible refine (qdi.calls k1 ((qo l0 x3_1).f0) ((qo l0 x3_1).f1) true _ A4.out).mono ?_
     rintro e w16 ⟨rfl, hb⟩
     refine ⟨_, rfl, ?_⟩
     have n0_ := qd.mk (qw (bw_) hb)
     clear HB
     have HB := n0_
     clear n0_
     (try clear hb)
     (try clear hb2)
     (try clear hk)
     (try clear hi)
     refine hK.out _ _ ⟨(bcl_ HB hw190_0), (bcl_ HB hw190_1)⟩ (fun hHeld => ?_)
     clear hK K
     refine qjm (a' := ?_) ?_ ?_
     rotate_left
     ·show Act.put _ (some 14) _ = _
      simp only [Act.put, List.setIfInBounds_toArray, List.set_cons_zero, List.set_cons_succ, qeh, qen]
      rfl
     refine pu_ 5 (some 15) (btz 24 63) HT_ ?_
     refine pu_ 6 (some 16) (btz 24 127) HT_ ?_
     refine pu_ 7 (some 17) (btz 24 255) HT_ ?_
     refine pu_ 8 (some 18) (btz 24 511) HT_ ?_
     refine pu_ 9 (some 19) (btz 24 1023) HT_ ?_
     refine un_ 10 (some 20) (btz 24 2047) HT_ ?_
     refine un_ 11 (some 21) (btz 24 4095) HT_ ?_
     refine un_ 12 (some 22) (btz 24 8191) HT_ ?_
     refine un_ 13 (some 23) (btz 24 16383) HT_ ?_
     refine un_ 14 (some 24) (btz 24 32767) HT_ ?_
     refine un_ 15 (some 25) (btz 24 65535) HT_ ?_
     refine un_ 16 (some 26) (btz 24 131071) HT_ ?_
     refine un_ 17 (some 27) (btz 24 262143) HT_ ?_
     refine un_ 18 (some 28) (btz 24 524287) HT_ ?_
     refine un_ 19 (some 29) (btz 24 1048575) HT_ ?_
     refine un_ 20 (some 30) (btz 24 2097151) HT_ ?_
     refine un_ 21 (some 31) (btz 24 4194303) HT_ ?_
     refine pu_ 22 (some 32) (btz 24 8388607) HT_ ?_
     refine pu_ 23 (some 33) (btz 24 16777215) HT_ ?_
     refine qjg (qgc HT_.out (by kernel_rfl)) ?_
     try go_wp2
     go_roundg k1
     case measure => have := HK1.out; omega
     case rel => exact ⟨(wrap64 (x3_1 + 1)), sm_, H', ⟨by have := HK1.out; omega⟩, ⟨bw_⟩⟩
    rw [if_pos c6] at H
    have c6b0 : decide (0 < x3_1) = true := decide_eq_true c6
    clear c6
    obtain ⟨ji7, hji7⟩ : ∃ j_ : Int, (wrap64 (x3_1 - 1)) = j_ := ⟨_, rfl⟩
    replace H : (if 0 ≤ (ji7) then (if (ji7) < (l0.length : Int) then (if ((Op.bytesLess (((qo l0 (ji7)).f0).toList) (((qo l0 x3_1).f0).toList)) = true) then (qbe.l0 k1 l0 (wrap64 (x3_1 + 1))) else (some false)) else (none)) else (none)) = some r := by first | (rw [hji7] at H; exact H) | (simp only [hji7] at H ⊢; exact H)
    (try rw [hji7] at A4)
    have hji7w : (IntKind.i64.wrap (x3_1 - 1)) = ji7 := (qeh _).trans hji7
    by_cases c8 : 0 ≤ (ji7)
    rotate_left
    ·rw [if_neg c8] at H
     exact absurd H (by simp)
    rw [if_pos c8] at H
    have c8b0 : decide (0 ≤ (ji7)) = true := decide_eq_true c8
    clear c8
    by_cases c9 : (ji7) < (l0.length : Int)
    rotate_left
    ·rw [if_neg c9] at H
     exact absurd H (by simp)
    rw [if_pos c9] at H
    have c9b0 : decide ((ji7) < (l0.length : Int)) = true := decide_eq_true c9
    clear c9
    by_cases c10 : ((Op.bytesLess (((qo l0 (ji7)).f0).toList) (((qo l0 x3_1).f0).toList)) = true)
    ·rw [if_pos c10] at H
     have c10b0 : (Op.bytesLess (((qo l0 (ji7)).f0).toList) (((qo l0 x3_1).f0).toList)) = true := c10
     clear c10
     have H' := qd.mk H
     clear H
     try go_wp2
     have n0_ := qd.mk (qcq HB.out)
     clear HB
     have HB := n0_
     clear n0_
     have p190 : 0 ≤ (x3_1 : Int) := odt_
     have q190 : x3_1 < (l0.length : Int) := odt_
     obtain ⟨ad190, e190, hx190_0, hx190_1⟩ := qey HR0.out x3_1 p190 q190
     have hw190_1 := hx190_1
     have hw190_0 := hx190_0
     cases e190
     replace hx190_0 := bcl_ HB hx190_0
     replace hx190_1 := bcl_ HB hx190_1
     replace p190 := eq_true p190
     replace q190 := eq_true q190
     have p192 : 0 ≤ (x3_1 : Int) := odt_
     have q192 : x3_1 < (l0.length : Int) := odt_
     obtain ⟨ad192, e192, hx192_0, hx192_1⟩ := qey HR0.out x3_1 p192 q192
     have hw192_1 := hx192_1
     have hw192_0 := hx192_0
     obtain rfl : ad190 = ad192 := (by injection e192)
     replace hx192_0 := bcl_ HB hx192_0
     replace hx192_1 := bcl_ HB hx192_1
     replace p192 := eq_true p192
     replace q192 := eq_true q192
     have p193 : 0 ≤ ((ji7) : Int) := odt_
     have q193 : (ji7) < (l0.length : Int) := odt_
     obtain ⟨ad193, e193, hx193_0, hx193_1⟩ := qey HR0.out (ji7) p193 q193
     have hw193_1 := hx193_1
     have hw193_0 := hx193_0
     obtain rfl : ad190 = ad193 := (by injection e193)
     replace hx193_0 := bcl_ HB hx193_0
     replace hx193_1 := bcl_ HB hx193_1
     replace p193 := eq_true p193
     replace q193 := eq_true q193
     refine qgv (n := 24) (S := fun w' => w'.cell? (ad190.add ((x3_1).toNat * 2)) = some (.string ((qo l0 x3_1).f0)) ∧ w'.cell? ⟨(ad190.add ((x3_1).toNat * 2)).block, (ad190.add ((x3_1).toNat * 2)).off + 1, none⟩ = some (.string ((qo l0 x3_1).f1)) ∧ w'.cell? (ad190.add ((x3_1).toNat * 2)) = some (.string ((qo l0 x3_1).f0)) ∧ w'.cell? ⟨(ad190.add ((x3_1).toNat * 2)).block, (ad190.add ((x3_1).toNat * 2)).off + 1, none⟩ = some (.string ((qo l0 x3_1).f1)) ∧ w'.cell? (ad190.add (((ji7)).toNat * 2)) = some (.string ((qo l0 (ji7)).f0)) ∧ w'.cell? ⟨(ad190.add (((ji7)).toNat * 2)).block, (ad190.add (((ji7)).toNat * 2)).off + 1, none⟩ = some (.string ((qo l0 (ji7)).f1))) (ds := []) #[false, false, false, false, false, false, false, false, false, false, false, false, false, false, false, false, false, false, false, false, false, false, false, false] (by kernel_rfl) rfl rfl ⟨(bcl_ HB hw190_0), (bcl_ HB hw190_1), (bcl_ HB hw192_0), (bcl_ HB hw192_1), (bcl_ HB hw193_0), (bcl_ HB hw193_1)⟩ (fun hHeld => ?_); refine qeq qbe.tab4 qbe.bits4 (fun HT_ HW_ => ?_)
     generalize wr.drew = w11 at HB hx190_0 hx190_1 hx192_0 hx192_1 hx193_0 hx193_1 hHeld ⊢
     refine pu_ 0 (some 10) (btz 24 1) HT_ ?_
     refine pu_ 1 (some 11) (btz 24 3) HT_ ?_
     refine pu_ 2 (some 12) (btz 24 7) HT_ ?_
     refine ta_ 3 (some 13) (btz 24 15) HT_ HW_ hHeld rfl rfl (by rintro w' ⟨s0, s1, s2, s3, s4, s5⟩; go_simp; with_reducible rfl) ?_
     refine one_ (i := 4) (N := some 14) #[true, true, true, true, true, false, false, false, false, false, false, false, false, false, false, false, false, false, false, false, false, false, false, false] rfl rfl (qhq HT_.out (by kernel_rfl)) (by decide) (fun K hK => ?_)
     refine qkk Tryd.func173 (by kernel_rfl) rfl #[.agg #[.string ((qo l0 x3_1).f0), .string ((qo l0 x3_1).f1)]] (by rfl) rfl rfl ml_ ?_
     with_reducible refine (qdi.calls k1 ((qo l0 x3_1).f0) ((qo l0 x3_1).f1) true _ A4.out).mono ?_
     rintro e w12 ⟨rfl, hb⟩
     refine ⟨_, rfl, ?_⟩
     have n0_ := qd.mk (qw (bw_) hb)
     clear HB
     have HB := n0_
     clear n0_
     (try clear hb)
     (try clear hb2)
     (try clear hk)
     (try clear hi)
     refine hK.out _ _ ⟨(bcl_ HB hw190_0), (bcl_ HB hw190_1), (bcl_ HB hw192_0), (bcl_ HB hw192_1), (bcl_ HB hw193_0), (bcl_ HB hw193_1)⟩ (fun hHeld => ?_)
     clear hK K
     refine qjm (a' := ?_) ?_ ?_
     rotate_left
     ·show Act.put _ (some 14) _ = _
      simp only [Act.put, List.setIfInBounds_toArray, List.set_cons_zero, List.set_cons_succ, qeh, qen]
      rfl
     refine pu_ 5 (some 15) (btz 24 63) HT_ ?_
     refine pu_ 6 (some 16) (btz 24 127) HT_ ?_
     refine pu_ 7 (some 17) (btz 24 255) HT_ ?_
     refine pu_ 8 (some 18) (btz 24 511) HT_ ?_
     refine pu_ 9 (some 19) (btz 24 1023) HT_ ?_
     refine pu_ 10 (some 20) (btz 24 2047) HT_ ?_
     refine pu_ 11 (some 21) (btz 24 4095) HT_ ?_
     refine pu_ 12 (some 22) (btz 24 8191) HT_ ?_
     refine pu_ 13 (some 23) (btz 24 16383) HT_ ?_
     refine pu_ 15 (some 25) (btz 24 49151) HT_ ?_
     refine pu_ 16 (some 26) (btz 24 114687) HT_ ?_
     refine pu_ 17 (some 27) (btz 24 245759) HT_ ?_
     refine pu_ 18 (some 28) (btz 24 507903) HT_ ?_
     refine pu_ 19 (some 29) (btz 24 1032191) HT_ ?_
     refine ta_ 14 (some 24) (btz 24 1048575) HT_ HW_ hHeld rfl rfl (by rintro w' ⟨s0, s1, s2, s3, s4, s5⟩; go_simp; with_reducible rfl) ?_
     refine ta_ 20 (some 30) (btz 24 2097151) HT_ HW_ hHeld rfl rfl (by rintro w' ⟨s0, s1, s2, s3, s4, s5⟩; go_simp; with_reducible rfl) ?_
     refine pu_ 21 (some 31) (btz 24 4194303) HT_ ?_
     refine pu_ 22 (some 32) (btz 24 8388607) HT_ ?_
     refine pu_ 23 (some 33) (btz 24 16777215) HT_ ?_
     refine qjg (qgc HT_.out (by kernel_rfl)) ?_
     try go_wp2
     go_roundg k1
     case measure => have := HK1.out; omega
     case rel => exact ⟨(wrap64 (x3_1 + 1)), sm_, H', ⟨by have := HK1.out; omega⟩, ⟨bw_⟩⟩
    rw [if_neg c10] at H
    have c10b0 : (Op.bytesLess (((qo l0 (ji7)).f0).toList) (((qo l0 x3_1).f0).toList)) = false := by simpa using c10
    clear c10
    obtain rfl := Option.some.inj H
    try go_wp2
    have n0_ := qd.mk (qcq HB.out)
    clear HB
    have HB := n0_
    clear n0_
    have p190 : 0 ≤ (x3_1 : Int) := odt_
    have q190 : x3_1 < (l0.length : Int) := odt_
    obtain ⟨ad190, e190, hx190_0, hx190_1⟩ := qey HR0.out x3_1 p190 q190
    have hw190_1 := hx190_1
    have hw190_0 := hx190_0
    cases e190
    replace hx190_0 := bcl_ HB hx190_0
    replace hx190_1 := bcl_ HB hx190_1
    replace p190 := eq_true p190
    replace q190 := eq_true q190
    have p192 : 0 ≤ (x3_1 : Int) := odt_
    have q192 : x3_1 < (l0.length : Int) := odt_
    obtain ⟨ad192, e192, hx192_0, hx192_1⟩ := qey HR0.out x3_1 p192 q192
    have hw192_1 := hx192_1
    have hw192_0 := hx192_0
    obtain rfl : ad190 = ad192 := (by injection e192)
    replace hx192_0 := bcl_ HB hx192_0
    replace hx192_1 := bcl_ HB hx192_1
    replace p192 := eq_true p192
    replace q192 := eq_true q192
    have p193 : 0 ≤ ((ji7) : Int) := odt_
    have q193 : (ji7) < (l0.length : Int) := odt_
    obtain ⟨ad193, e193, hx193_0, hx193_1⟩ := qey HR0.out (ji7) p193 q193
    have hw193_1 := hx193_1
    have hw193_0 := hx193_0
    obtain rfl : ad190 = ad193 := (by injection e193)
    replace hx193_0 := bcl_ HB hx193_0
    replace hx193_1 := bcl_ HB hx193_1
    replace p193 := eq_true p193
    replace q193 := eq_true q193
    refine qgv (n := 24) (S := fun w' => w'.cell? (ad190.add ((x3_1).toNat * 2)) = some (.string ((qo l0 x3_1).f0)) ∧ w'.cell? ⟨(ad190.add ((x3_1).toNat * 2)).block, (ad190.add ((x3_1).toNat * 2)).off + 1, none⟩ = some (.string ((qo l0 x3_1).f1)) ∧ w'.cell? (ad190.add ((x3_1).toNat * 2)) = some (.string ((qo l0 x3_1).f0)) ∧ w'.cell? ⟨(ad190.add ((x3_1).toNat * 2)).block, (ad190.add ((x3_1).toNat * 2)).off + 1, none⟩ = some (.string ((qo l0 x3_1).f1)) ∧ w'.cell? (ad190.add (((ji7)).toNat * 2)) = some (.string ((qo l0 (ji7)).f0)) ∧ w'.cell? ⟨(ad190.add (((ji7)).toNat * 2)).block, (ad190.add (((ji7)).toNat * 2)).off + 1, none⟩ = some (.string ((qo l0 (ji7)).f1))) (ds := []) #[false, false, false, false, false, false, false, false, false, false, false, false, false, false, false, false, false, false, false, false, false, false, false, false] (by kernel_rfl) rfl rfl ⟨(bcl_ HB hw190_0), (bcl_ HB hw190_1), (bcl_ HB hw192_0), (bcl_ HB hw192_1), (bcl_ HB hw193_0), (bcl_ HB hw193_1)⟩ (fun hHeld => ?_); refine qeq qbe.tab4 qbe.bits4 (fun HT_ HW_ => ?_)
    generalize wr.drew = w13 at HB hx190_0 hx190_1 hx192_0 hx192_1 hx193_0 hx193_1 hHeld ⊢
    refine pu_ 0 (some 10) (btz 24 1) HT_ ?_
    refine pu_ 1 (some 11) (btz 24 3) HT_ ?_
    refine pu_ 2 (some 12) (btz 24 7) HT_ ?_
    refine ta_ 3 (some 13) (btz 24 15) HT_ HW_ hHeld rfl rfl (by rintro w' ⟨s0, s1, s2, s3, s4, s5⟩; go_simp; with_reducible rfl) ?_
    refine one_ (i := 4) (N := some 14) #[true, true, true, true, true, false, false, false, false, false, false, false, false, false, false, false, false, false, false, false, false, false, false, false] rfl rfl (qhq HT_.out (by kernel_rfl)) (by decide) (fun K hK => ?_)
    refine qkk Tryd.func173 (by kernel_rfl) rfl #[.agg #[.string ((qo l0 x3_1).f0), .string ((qo l0 x3_1).f1)]] (by rfl) rfl rfl ml_ ?_
    with_reducible refine (qdi.calls k1 ((qo l0 x3_1).f0) ((qo l0 x3_1).f1) true _ A4.out).mono ?_
    rintro e w14 ⟨rfl, hb⟩
    refine ⟨_, rfl, ?_⟩
    have n0_ := qd.mk (qw (bw_) hb)
    clear HB
    have HB := n0_
    clear n0_
    (try clear hb)
    (try clear hb2)
    (try clear hk)
    (try clear hi)
    refine hK.out _ _ ⟨(bcl_ HB hw190_0), (bcl_ HB hw190_1), (bcl_ HB hw192_0), (bcl_ HB hw192_1), (bcl_ HB hw193_0), (bcl_ HB hw193_1)⟩ (fun hHeld => ?_)
    clear hK K
    refine qjm (a' := ?_) ?_ ?_
    rotate_left
    ·show Act.put _ (some 14) _ = _
     simp only [Act.put, List.setIfInBounds_toArray, List.set_cons_zero, List.set_cons_succ, qeh, qen]
     rfl
    refine pu_ 5 (some 15) (btz 24 63) HT_ ?_
    refine pu_ 6 (some 16) (btz 24 127) HT_ ?_
    refine pu_ 7 (some 17) (btz 24 255) HT_ ?_
    refine pu_ 8 (some 18) (btz 24 511) HT_ ?_
    refine pu_ 9 (some 19) (btz 24 1023) HT_ ?_
    refine pu_ 10 (some 20) (btz 24 2047) HT_ ?_
    refine pu_ 11 (some 21) (btz 24 4095) HT_ ?_
    refine pu_ 12 (some 22) (btz 24 8191) HT_ ?_
    refine pu_ 13 (some 23) (btz 24 16383) HT_ ?_
    refine pu_ 15 (some 25) (btz 24 49151) HT_ ?_
    refine pu_ 16 (some 26) (btz 24 114687) HT_ ?_
    refine pu_ 17 (some 27) (btz 24 245759) HT_ ?_
    refine pu_ 18 (some 28) (btz 24 507903) HT_ ?_
    refine pu_ 19 (some 29) (btz 24 1032191) HT_ ?_
    refine ta_ 14 (some 24) (btz 24 1048575) HT_ HW_ hHeld rfl rfl (by rintro w' ⟨s0, s1, s2, s3, s4, s5⟩; go_simp; with_reducible rfl) ?_
    refine ta_ 20 (some 30) (btz 24 2097151) HT_ HW_ hHeld rfl rfl (by rintro w' ⟨s0, s1, s2, s3, s4, s5⟩; go_simp; with_reducible rfl) ?_
    refine pu_ 21 (some 31) (btz 24 4194303) HT_ ?_
    refine pu_ 22 (some 32) (btz 24 8388607) HT_ ?_
    refine pu_ 23 (some 33) (btz 24 16777215) HT_ ?_
    refine qjg (qgc HT_.out (by kernel_rfl)) ?_
    try go_wp2
    go_ret
    exact ⟨by first | rfl | (simp [qgp, qgo] <;> rfl) | (simp only [← hji7]; first | rfl | (simp [qgp, qgo] <;> rfl)) | (simp [*, qgp, qgo] <;> rfl), bw_⟩
   ·rw [if_neg c2] at H
    have c2b0 : decide (x3_1 < (l0.length : Int)) = false := decide_eq_false c2
    clear c2
    obtain rfl := Option.some.inj H
    go_wp2
    go_ret
    exact ⟨ew_, bw_⟩
mutual
def qbb.j0 : Nat → Bool → ByteArray → ByteArray → Int → Int → ByteArray → ByteArray → List (S213) → Option (Int)
 | 0, _, _, _, _, _, _, _, _ => none
 | k + 1, x3, x195000, x195001, x195002, x195003, x195004, x195005, x195006 => if x3 = true then (some 7) else ((qcg.f k x195001).bind fun t198 => (if t198 = true then ((qco.f x195002 1000000000000).bind fun t199 => (if t199 = true then ((qco.f x195003 1000000000000).bind fun t200 => (qbb.j1 k (!t200) x195000 x195001 x195002 x195003 x195004 x195005 x195006)) else (qbb.j1 k true x195000 x195001 x195002 x195003 x195004 x195005 x195006))) else (some 13)))
def qbb.j1 : Nat → Bool → ByteArray → ByteArray → Int → Int → ByteArray → ByteArray → List (S213) → Option (Int)
 | 0, _, _, _, _, _, _, _, _ => none
 | k + 1, x25, x195000, x195001, x195002, x195003, x195004, x195005, x195006 => if x25 = true then (some 4) else (if x195002 = 0 then (qbb.j2 k (x195003 == 0) x195000 x195001 x195002 x195003 x195004 x195005 x195006) else (qbb.j2 k false x195000 x195001 x195002 x195003 x195004 x195005 x195006))
def qbb.j2 : Nat → Bool → ByteArray → ByteArray → Int → Int → ByteArray → ByteArray → List (S213) → Option (Int)
 | 0, _, _, _, _, _, _, _, _ => none
 | k + 1, x36, x195000, x195001, x195002, x195003, x195004, x195005, x195006 => if x36 = true then (some 2) else ((qbe.f k x195006).bind fun t201 => (if t201 = true then (some 0) else (some 14)))
end
def qbb.f (k : Nat) (a0_0 : ByteArray) (a0_1 : ByteArray) (a0_2 : Int) (a0_3 : Int) (a0_4 : ByteArray) (a0_5 : ByteArray) (l0_6 : List (S213)) : Option (Int) := (qbh.f k a0_0).bind fun t195 => (if t195 = true then ((qci.f k a0_4).bind fun t196 => (if t196 = true then ((qci.f k a0_5).bind fun t197 => (qbb.j0 k (!t197) a0_0 a0_1 a0_2 a0_3 a0_4 a0_5 l0_6)) else (qbb.j0 k true a0_0 a0_1 a0_2 a0_3 a0_4 a0_5 l0_6))) else (qbb.j0 k true a0_0 a0_1 a0_2 a0_3 a0_4 a0_5 l0_6))
set_option maxRecDepth 100000 in
theorem qbb.calls (k : Nat) (a0_0 : ByteArray) (a0_1 : ByteArray) (a0_2 : Int) (a0_3 : Int) (a0_4 : ByteArray) (a0_5 : ByteArray) (A0_6 : Option Addr) (c0_6 : Nat) (l0_6 : List (S213)) (r : Int) (w : World) (hr0_6 : Kd.C k213 w A0_6 l0_6.length l0_6) (hc0_6 : l0_6.length ≤ c0_6) (h : qbb.f k a0_0 a0_1 a0_2 a0_3 a0_4 a0_5 l0_6 = some r) :
  Calls Tryd.prog 101 #[.agg #[.string a0_0, .string a0_1, .int .i64 a0_2, .int .i64 a0_3, .string a0_4, .string a0_5, .slice A0_6 l0_6.length c0_6]] w fun e w' => e = .returned (.int .i64 r) ∧ Below w.heap.size w w' := by
 have hu109 := Tryd.underlying109
 have HR0_6 := qd.mk hr0_6
 have HC0_6 := qd.mk hc0_6
 clear hr0_6 hc0_6
 have HB := qd.mk (Below.refl w.heap.size w)
 have H : ((qbh.f k a0_0).bind fun t195 => (if t195 = true then ((qci.f k a0_4).bind fun t196 => (if t196 = true then ((qci.f k a0_5).bind fun t197 => (qbb.j0 k (!t197) a0_0 a0_1 a0_2 a0_3 a0_4 a0_5 l0_6)) else (qbb.j0 k true a0_0 a0_1 a0_2 a0_3 a0_4 a0_5 l0_6))) else (qbb.j0 k true a0_0 a0_1 a0_2 a0_3 a0_4 a0_5 l0_6))) = some r := h
 clear h
 have HC2 := qd.mk H
 clear H
 go_enter Tryd.func101, Tryd.ntmps101
 go_upto_region 1 with (first | ((with_reducible refine qbx (N := 1) rfl ?_); refine qbu ?hg (N := 1) ?hd (cs := #[.string a0_0, .string a0_1, .int .i64 a0_2, .int .i64 a0_3, .string a0_4, .string a0_5, .slice A0_6 l0_6.length c0_6]) (t := 109) ?hr ?_; (case hd => rfl); (case hg => rfl); (case hr => first | (go_simp; done) | (go_simp; rfl)); intro gb194 hg w3 hbox hb; have n0_ := qd.mk (qw (bw_) hb); have n1_ := qd.mk (hbox); have n2_ := qd.mk (gw_ (w := w) hg); have n3_ := qd.mk (gw_ (w := w) hg); clear HB; have HB := n0_; have BK194 := n1_; have GW194 := n2_; have GE194 := n3_; clear n0_ n1_ n2_ n3_; clear hb hbox hg))
 (try simp only [Act.put, List.setIfInBounds_toArray, List.set_cons_zero, List.set_cons_succ])
 go_cut [3] (fun v3 wc => ∃ (kq : Nat) (x3_1 : Bool), v3 = .bool x3_1 ∧ qd (qbb.j0 kq x3_1 a0_0 a0_1 a0_2 a0_3 a0_4 a0_5 l0_6 = some r) ∧ qd (kq ≤ k) ∧ qd (wc.heap[gb194]? = some (.cells #[.string a0_0, .string a0_1, .int .i64 a0_2, .int .i64 a0_3, .string a0_4, .string a0_5, (.slice A0_6 l0_6.length c0_6)] 109 (0, 0))) ∧ qd (Below w.heap.size w wc))
 case first =>
  have H := HC2.out
  clear HC2
  replace H := Option.bind_eq_some_iff.mp H
  obtain ⟨t195, A40, H⟩ := H
  try dsimp only at H
  have A4 := qd.mk A40
  clear A40
  by_cases c5 : t195 = true
  rotate_left
  ·replace c5 := Bool.eq_false_iff.mpr c5
   subst c5
   have H1 : (qbb.j0 k true a0_0 a0_1 a0_2 a0_3 a0_4 a0_5 l0_6) = some r := by rw [if_neg (show ¬ (false = true) by decide)] at H; exact H
   clear H
   have H := H1
   clear H1
   have H' := qd.mk H
   clear H
   obtain ⟨cz11_0, cz11_1, cz11_2, cz11_3, cz11_4, cz11_5, cz11_6⟩ := bc7_ (w := w3) BK194.out
   obtain ⟨fz11_0, fz11_1, fz11_2, fz11_3, fz11_4, fz11_5, fz11_6⟩ := bf7_ BK194.out
   go_wp2_with (first | ((with_reducible refine qbf (f := 113) rfl ?_); refine qcp (some 6) rfl rfl Tryd.func113 (by kernel_rfl) rfl #[.string a0_0] rfl ml_ ?_; (with_reducible refine (qbh.calls k a0_0 false _ A4.out).mono ?_); rintro e w' ⟨rfl, ⟨nd, rfl⟩⟩; refine ⟨_, rfl, ?_⟩))
   go_meet
   case rel => exact ⟨_, (true), sm_, H', ⟨by first | omega | exact Nat.le_refl _⟩, ⟨by (with_reducible repeat (first | refine qp ?_ _ | refine qz ?_ | refine qm ?_ _)); exact BK194.out⟩, ⟨bwx_⟩⟩
  subst c5
  have H1 : ((qci.f k a0_4).bind fun t196 => (if t196 = true then ((qci.f k a0_5).bind fun t197 => (qbb.j0 k (!t197) a0_0 a0_1 a0_2 a0_3 a0_4 a0_5 l0_6)) else (qbb.j0 k true a0_0 a0_1 a0_2 a0_3 a0_4 a0_5 l0_6))) = some r := by rw [if_pos rfl] at H; exact H
  clear H
  have H := H1
  clear H1
  replace H := Option.bind_eq_some_iff.mp H
  obtain ⟨t196, A60, H⟩ := H
  try dsimp only at H
  have A6 := qd.mk A60
  clear A60
  by_cases c7 : t196 = true
  rotate_left
  ·replace c7 := Bool.eq_false_iff.mpr c7
   subst c7
   have H1 : (qbb.j0 k true a0_0 a0_1 a0_2 a0_3 a0_4 a0_5 l0_6) = some r := by rw [if_neg (show ¬ (false = true) by decide)] at H; exact H
   clear H
   have H := H1
   clear H1
   have H' := qd.mk H
   clear H
   obtain ⟨cz10_0, cz10_1, cz10_2, cz10_3, cz10_4, cz10_5, cz10_6⟩ := bc7_ (w := w3) BK194.out
   obtain ⟨fz10_0, fz10_1, fz10_2, fz10_3, fz10_4, fz10_5, fz10_6⟩ := bf7_ BK194.out
   go_wp2_with (first | ((with_reducible refine qbf (f := 113) rfl ?_); refine qcp (some 6) rfl rfl Tryd.func113 (by kernel_rfl) rfl #[.string a0_0] rfl ml_ ?_; (with_reducible refine (qbh.calls k a0_0 true _ A4.out).mono ?_); rintro e w' ⟨rfl, ⟨nd, rfl⟩⟩; refine ⟨_, rfl, ?_⟩) | (go_at_call 140; (with_reducible refine (qci.calls k a0_4 false _ A6.out).mono ?_); rintro e w' ⟨rfl, ⟨nd, rfl⟩⟩))
   go_meet
   case rel => exact ⟨_, (true), sm_, H', ⟨by first | omega | exact Nat.le_refl _⟩, ⟨by (with_reducible repeat (first | refine qp ?_ _ | refine qz ?_ | refine qm ?_ _)); exact BK194.out⟩, ⟨bwx_⟩⟩
  subst c7
  have H1 : ((qci.f k a0_5).bind fun t197 => (qbb.j0 k (!t197) a0_0 a0_1 a0_2 a0_3 a0_4 a0_5 l0_6)) = some r := by rw [if_pos rfl] at H; exact H
  clear H
  have H := H1
  clear H1
  replace H := Option.bind_eq_some_iff.mp H
  obtain ⟨t197, A80, H⟩ := H
  replace H : (qbb.j0 k (!t197) a0_0 a0_1 a0_2 a0_3 a0_4 a0_5 l0_6) = some r := H
  have A8 := qd.mk A80
  clear A80
  have H' := qd.mk H
  clear H
  obtain ⟨cz9_0, cz9_1, cz9_2, cz9_3, cz9_4, cz9_5, cz9_6⟩ := bc7_ (w := w3) BK194.out
  obtain ⟨fz9_0, fz9_1, fz9_2, fz9_3, fz9_4, fz9_5, fz9_6⟩ := bf7_ BK194.out
  go_wp2_with (first | ((with_reducible refine qbf (f := 113) rfl ?_); refine qcp (some 6) rfl rfl Tryd.func113 (by kernel_rfl) rfl #[.string a0_0] rfl ml_ ?_; (with_reducible refine (qbh.calls k a0_0 true _ A4.out).mono ?_); rintro e w' ⟨rfl, ⟨nd, rfl⟩⟩; refine ⟨_, rfl, ?_⟩) | (go_at_call 140; (with_reducible refine (qci.calls k a0_4 true _ A6.out).mono ?_); rintro e w' ⟨rfl, ⟨nd, rfl⟩⟩) | (go_at_call 140; (with_reducible refine (qci.calls k a0_5 t197 _ A8.out).mono ?_); rintro e w' ⟨rfl, ⟨nd, rfl⟩⟩))
  go_meet
  case rel => exact ⟨_, (!t197), sm_, H', ⟨by first | omega | exact Nat.le_refl _⟩, ⟨by (with_reducible repeat (first | refine qp ?_ _ | refine qz ?_ | refine qm ?_ _)); exact BK194.out⟩, ⟨bwx_⟩⟩
 case rest =>
  clear HC2
  try clear c1
  try clear p2
  try clear c5
  try clear c7
  try clear c10
  try clear c11
  try clear cz10_0 cz10_1 cz10_2 cz10_3 cz10_4 cz10_5 cz10_6
  try clear cz11_0 cz11_1 cz11_2 cz11_3 cz11_4 cz11_5 cz11_6
  try clear cz9_0 cz9_1 cz9_2 cz9_3 cz9_4 cz9_5 cz9_6
  try clear fz10_0 fz10_1 fz10_2 fz10_3 fz10_4 fz10_5 fz10_6
  try clear fz11_0 fz11_1 fz11_2 fz11_3 fz11_4 fz11_5 fz11_6
  try clear fz9_0 fz9_1 fz9_2 fz9_3 fz9_4 fz9_5 fz9_6
  obtain ⟨kq, x3_1, rfl, HA, HJ1, BK194, HB⟩ := hcut
  cases kq with
  | zero => exact absurd HA.out (by simp [qbb.j0])
  | succ kj1 =>
   have H := HA.out
   clear HA
   simp only [qbb.j0] at H
   by_cases c12 : x3_1 = true
   ·subst c12
    have H1 : (some 7) = some r := by rw [if_pos rfl] at H; exact H
    clear H
    have H := H1
    clear H1
    obtain rfl := Option.some.inj H
    go_wp2
    go_ret
    exact ⟨ew_, bwx_⟩
   ·replace c12 := Bool.eq_false_iff.mpr c12
    subst c12
    have H1 : ((qcg.f kj1 a0_1).bind fun t198 => (if t198 = true then ((qco.f a0_2 1000000000000).bind fun t199 => (if t199 = true then ((qco.f a0_3 1000000000000).bind fun t200 => (qbb.j1 kj1 (!t200) a0_0 a0_1 a0_2 a0_3 a0_4 a0_5 l0_6)) else (qbb.j1 kj1 true a0_0 a0_1 a0_2 a0_3 a0_4 a0_5 l0_6))) else (some 13))) = some r := by rw [if_neg (show ¬ (false = true) by decide)] at H; exact H
    clear H
    have H := H1
    clear H1
    replace H := Option.bind_eq_some_iff.mp H
    obtain ⟨t198, A130, H⟩ := H
    try dsimp only at H
    have A13 := qd.mk A130
    clear A130
    by_cases c14 : t198 = true
    ·subst c14
     have H1 : ((qco.f a0_2 1000000000000).bind fun t199 => (if t199 = true then ((qco.f a0_3 1000000000000).bind fun t200 => (qbb.j1 kj1 (!t200) a0_0 a0_1 a0_2 a0_3 a0_4 a0_5 l0_6)) else (qbb.j1 kj1 true a0_0 a0_1 a0_2 a0_3 a0_4 a0_5 l0_6))) = some r := by rw [if_pos rfl] at H; exact H
     clear H
     have H := H1
     clear H1
     have HC15 := qd.mk H
     clear H
     obtain ⟨cz16_0, cz16_1, cz16_2, cz16_3, cz16_4, cz16_5, cz16_6⟩ := bc7_ (w := wc) BK194.out
     obtain ⟨fz16_0, fz16_1, fz16_2, fz16_3, fz16_4, fz16_5, fz16_6⟩ := bf7_ BK194.out
     go_upto_region 5 with (first | ((with_reducible refine qbf (f := 114) rfl ?_); refine qcp (some 23) rfl rfl Tryd.func114 (by kernel_rfl) rfl #[.string a0_1] rfl ml_ ?_; (with_reducible refine (qcg.calls kj1 a0_1 true _ A13.out).mono ?_); rintro e w' ⟨rfl, ⟨nd, rfl⟩⟩; refine ⟨_, rfl, ?_⟩))
     (try simp only [Act.put, List.setIfInBounds_toArray, List.set_cons_zero, List.set_cons_succ])
     go_cut [25] (fun v25 wc => ∃ (kq : Nat) (x25_14 : Bool), v25 = .bool x25_14 ∧ qd (qbb.j1 kq x25_14 a0_0 a0_1 a0_2 a0_3 a0_4 a0_5 l0_6 = some r) ∧ qd (kq ≤ kj1) ∧ qd (wc.heap[gb194]? = some (.cells #[.string a0_0, .string a0_1, .int .i64 a0_2, .int .i64 a0_3, .string a0_4, .string a0_5, (.slice A0_6 l0_6.length c0_6)] 109 (0, 0))) ∧ qd (Below w.heap.size w wc))
     case first =>
      have H := HC15.out
      clear HC15
      replace H := Option.bind_eq_some_iff.mp H
      obtain ⟨t199, A170, H⟩ := H
      try dsimp only at H
      have A17 := qd.mk A170
      clear A170
      by_cases c18 : t199 = true
      rotate_left
      ·replace c18 := Bool.eq_false_iff.mpr c18
       subst c18
       have H1 : (qbb.j1 kj1 true a0_0 a0_1 a0_2 a0_3 a0_4 a0_5 l0_6) = some r := by rw [if_neg (show ¬ (false = true) by decide)] at H; exact H
       clear H
       have H := H1
       clear H1
       have H' := qd.mk H
       clear H
       obtain ⟨cz21_0, cz21_1, cz21_2, cz21_3, cz21_4, cz21_5, cz21_6⟩ := bc7_ (w := wc) BK194.out
       obtain ⟨fz21_0, fz21_1, fz21_2, fz21_3, fz21_4, fz21_5, fz21_6⟩ := bf7_ BK194.out
       go_wp2_with (first | ((with_reducible refine qbf (f := 141) rfl ?_); refine qcp (some 28) rfl rfl Tryd.func141 (by kernel_rfl) rfl #[.int .i64 a0_2, .int .i64 1000000000000] rfl ml_ ?_; (with_reducible refine (qco.calls a0_2 1000000000000 false _ A17.out).mono ?_); rintro e w' ⟨rfl, ⟨nd, rfl⟩⟩; refine ⟨_, rfl, ?_⟩))
       go_meet
       case rel => exact ⟨_, (true), sm_, H', ⟨by have := HJ1.out; first | omega | exact Nat.le_refl _⟩, ⟨by (with_reducible repeat (first | refine qp ?_ _ | refine qz ?_ | refine qm ?_ _)); exact BK194.out⟩, ⟨bwx_⟩⟩
      subst c18
      have H1 : ((qco.f a0_3 1000000000000).bind fun t200 => (qbb.j1 kj1 (!t200) a0_0 a0_1 a0_2 a0_3 a0_4 a0_5 l0_6)) = some r := by rw [if_pos rfl] at H; exact H
      clear H
      have H := H1
      clear H1
      replace H := Option.bind_eq_some_iff.mp H
      obtain ⟨t200, A190, H⟩ := H
      replace H : (qbb.j1 kj1 (!t200) a0_0 a0_1 a0_2 a0_3 a0_4 a0_5 l0_6) = some r := H
      have A19 := qd.mk A190
      clear A190
      have H' := qd.mk H
      clear H
      obtain ⟨cz20_0, cz20_1, cz20_2, cz20_3, cz20_4, cz20_5, cz20_6⟩ := bc7_ (w := wc) BK194.out
      obtain ⟨fz20_0, fz20_1, fz20_2, fz20_3, fz20_4, fz20_5, fz20_6⟩ := bf7_ BK194.out
      go_wp2_with (first | ((with_reducible refine qbf (f := 141) rfl ?_); refine qcp (some 28) rfl rfl Tryd.func141 (by kernel_rfl) rfl #[.int .i64 a0_2, .int .i64 1000000000000] rfl ml_ ?_; (with_reducible refine (qco.calls a0_2 1000000000000 true _ A17.out).mono ?_); rintro e w' ⟨rfl, ⟨nd, rfl⟩⟩; refine ⟨_, rfl, ?_⟩) | (go_at_call 141; (with_reducible refine (qco.calls a0_3 1000000000000 t200 _ A19.out).mono ?_); rintro e w' ⟨rfl, ⟨nd, rfl⟩⟩))
      go_meet
      case rel => exact ⟨_, (!t200), sm_, H', ⟨by have := HJ1.out; first | omega | exact Nat.le_refl _⟩, ⟨by (with_reducible repeat (first | refine qp ?_ _ | refine qz ?_ | refine qm ?_ _)); exact BK194.out⟩, ⟨bwx_⟩⟩
     clear HC15
     try clear c1
     try clear p2
     try clear c5
     try clear c7
     try clear c10
     try clear c11
     try clear c12
     try clear c14
     try clear c18
     try clear cz10_0 cz10_1 cz10_2 cz10_3 cz10_4 cz10_5 cz10_6
     try clear cz11_0 cz11_1 cz11_2 cz11_3 cz11_4 cz11_5 cz11_6
     try clear cz16_0 cz16_1 cz16_2 cz16_3 cz16_4 cz16_5 cz16_6
     try clear cz20_0 cz20_1 cz20_2 cz20_3 cz20_4 cz20_5 cz20_6
     try clear cz21_0 cz21_1 cz21_2 cz21_3 cz21_4 cz21_5 cz21_6
     try clear cz9_0 cz9_1 cz9_2 cz9_3 cz9_4 cz9_5 cz9_6
     try clear fz10_0 fz10_1 fz10_2 fz10_3 fz10_4 fz10_5 fz10_6
     try clear fz11_0 fz11_1 fz11_2 fz11_3 fz11_4 fz11_5 fz11_6
     try clear fz16_0 fz16_1 fz16_2 fz16_3 fz16_4 fz16_5 fz16_6
     try clear fz20_0 fz20_1 fz20_2 fz20_3 fz20_4 fz20_5 fz20_6
     try clear fz21_0 fz21_1 fz21_2 fz21_3 fz21_4 fz21_5 fz21_6
     try clear fz9_0 fz9_1 fz9_2 fz9_3 fz9_4 fz9_5 fz9_6
     try clear p2
     obtain ⟨kq, x25_14, rfl, HA, HJ14, BK194, HB⟩ := hcut
     cases kq with
     | zero => exact absurd HA.out (by simp [qbb.j1])
     | succ kj14 =>
      have H := HA.out
      clear HA
      simp only [qbb.j1] at H
      by_cases c22 : x25_14 = true
      ·subst c22
       have H1 : (some 4) = some r := by rw [if_pos rfl] at H; exact H
       clear H
       have H := H1
       clear H1
       obtain rfl := Option.some.inj H
       go_wp2
       go_ret
       exact ⟨ew_, bwx_⟩
      replace c22 := Bool.eq_false_iff.mpr c22
      subst c22
      have H1 : (if a0_2 = 0 then (qbb.j2 kj14 (a0_3 == 0) a0_0 a0_1 a0_2 a0_3 a0_4 a0_5 l0_6) else (qbb.j2 kj14 false a0_0 a0_1 a0_2 a0_3 a0_4 a0_5 l0_6)) = some r := by rw [if_neg (show ¬ (false = true) by decide)] at H; exact H
      clear H
      have H := H1
      clear H1
      have HC23 := qd.mk H
      clear H
      go_upto_region 7 with (fail)
      go_cut [36] (fun v36 wc => ∃ (kq : Nat) (x36_22 : Bool), v36 = .bool x36_22 ∧ qd (qbb.j2 kq x36_22 a0_0 a0_1 a0_2 a0_3 a0_4 a0_5 l0_6 = some r) ∧ qd (kq ≤ kj14) ∧ qd (wc.heap[gb194]? = some (.cells #[.string a0_0, .string a0_1, .int .i64 a0_2, .int .i64 a0_3, .string a0_4, .string a0_5, (.slice A0_6 l0_6.length c0_6)] 109 (0, 0))) ∧ qd (Below w.heap.size w wc))
      case first =>
       have H := HC23.out
       clear HC23
       by_cases c24 : a0_2 = 0
       ·rw [if_pos c24] at H
        have c24b0 : (a0_2 == 0) = true := beq_iff_eq.mpr c24
        have c24b1 : (a0_2 != 0) = false := bne_eq_false_iff_eq.mpr c24
        clear c24
        (first | rw [c24b0] | (simp only [qeh, qen]; rw [c24b0]) | skip)
        have H' := qd.mk H
        clear H
        obtain ⟨cz25_0, cz25_1, cz25_2, cz25_3, cz25_4, cz25_5, cz25_6⟩ := bc7_ (w := wc) BK194.out
        obtain ⟨fz25_0, fz25_1, fz25_2, fz25_3, fz25_4, fz25_5, fz25_6⟩ := bf7_ BK194.out
        go_wp2
        go_meet
        case rel => exact ⟨_, ((a0_3 == 0)), sm_, H', ⟨by have := HJ1.out; have := HJ14.out; first | omega | exact Nat.le_refl _⟩, ⟨by (with_reducible repeat (first | refine qp ?_ _ | refine qz ?_ | refine qm ?_ _)); exact BK194.out⟩, ⟨bwx_⟩⟩
       rw [if_neg c24] at H
       have c24b0 : (a0_2 == 0) = false := beq_eq_false_iff_ne.mpr c24
       have c24b1 : (a0_2 != 0) = true := bne_iff_ne.mpr c24
       (first | rw [c24b0] | (simp only [qeh, qen]; rw [c24b0]) | skip)
       have H' := qd.mk H
       clear H
       obtain ⟨cz26_0, cz26_1, cz26_2, cz26_3, cz26_4, cz26_5, cz26_6⟩ := bc7_ (w := wc) BK194.out
       obtain ⟨fz26_0, fz26_1, fz26_2, fz26_3, fz26_4, fz26_5, fz26_6⟩ := bf7_ BK194.out
       go_wp2
       go_meet
       case rel => exact ⟨_, (false), sm_, H', ⟨by have := HJ1.out; have := HJ14.out; first | omega | exact Nat.le_refl _⟩, ⟨by (with_reducible repeat (first | refine qp ?_ _ | refine qz ?_ | refine qm ?_ _)); exact BK194.out⟩, ⟨bwx_⟩⟩
      clear HC23
      try clear c1
      try clear c2
      try clear p2
      try clear c5
      try clear c7
      try clear c10
      try clear c11
      try clear c12
      try clear c14
      try clear c18
      try clear c22
      try clear c24
      try clear c24b0
      try clear c24b1
      try clear cz10_0 cz10_1 cz10_2 cz10_3 cz10_4 cz10_5 cz10_6
      try clear cz11_0 cz11_1 cz11_2 cz11_3 cz11_4 cz11_5 cz11_6
      try clear cz16_0 cz16_1 cz16_2 cz16_3 cz16_4 cz16_5 cz16_6
      try clear cz20_0 cz20_1 cz20_2 cz20_3 cz20_4 cz20_5 cz20_6
      try clear cz21_0 cz21_1 cz21_2 cz21_3 cz21_4 cz21_5 cz21_6
      try clear cz25_0 cz25_1 cz25_2 cz25_3 cz25_4 cz25_5 cz25_6
      try clear cz26_0 cz26_1 cz26_2 cz26_3 cz26_4 cz26_5 cz26_6
      try clear cz9_0 cz9_1 cz9_2 cz9_3 cz9_4 cz9_5 cz9_6
      try clear fz10_0 fz10_1 fz10_2 fz10_3 fz10_4 fz10_5 fz10_6
      try clear fz11_0 fz11_1 fz11_2 fz11_3 fz11_4 fz11_5 fz11_6
      try clear fz16_0 fz16_1 fz16_2 fz16_3 fz16_4 fz16_5 fz16_6
      try clear fz20_0 fz20_1 fz20_2 fz20_3 fz20_4 fz20_5 fz20_6
      try clear fz21_0 fz21_1 fz21_2 fz21_3 fz21_4 fz21_5 fz21_6
      try clear fz25_0 fz25_1 fz25_2 fz25_3 fz25_4 fz25_5 fz25_6
      try clear fz26_0 fz26_1 fz26_2 fz26_3 fz26_4 fz26_5 fz26_6
      try clear fz9_0 fz9_1 fz9_2 fz9_3 fz9_4 fz9_5 fz9_6
      try clear p2
      obtain ⟨kq, x36_22, rfl, HA, HJ22, BK194, HB⟩ := hcut
      cases kq with
      | zero => exact absurd HA.out (by simp [qbb.j2])
      | succ kj22 =>
       have H := HA.out
       clear HA
       simp only [qbb.j2] at H
       by_cases c27 : x36_22 = true
       ·subst c27
        have H1 : (some 2) = some r := by rw [if_pos rfl] at H; exact H
        clear H
        have H := H1
        clear H1
        obtain rfl := Option.some.inj H
        go_wp2
        go_ret
        exact ⟨ew_, bwx_⟩
       replace c27 := Bool.eq_false_iff.mpr c27
       subst c27
       have H1 : ((qbe.f kj22 l0_6).bind fun t201 => (if t201 = true then (some 0) else (some 14))) = some r := by rw [if_neg (show ¬ (false = true) by decide)] at H; exact H
       clear H
       have H := H1
       clear H1
       replace H := Option.bind_eq_some_iff.mp H
       obtain ⟨t201, A280, H⟩ := H
       replace H : (if t201 = true then (some 0) else (some 14)) = some r := H
       have A28 := qd.mk A280
       clear A280
       by_cases c29 : t201 = true
       ·subst c29
        have H1 : (some 0) = some r := by rw [if_pos rfl] at H; exact H
        clear H
        have H := H1
        clear H1
        obtain rfl := Option.some.inj H
        obtain ⟨cz30_0, cz30_1, cz30_2, cz30_3, cz30_4, cz30_5, cz30_6⟩ := bc7_ (w := wc) BK194.out
        obtain ⟨fz30_0, fz30_1, fz30_2, fz30_3, fz30_4, fz30_5, fz30_6⟩ := bf7_ BK194.out
        go_wp2_with (first | ((with_reducible refine qbf (f := 142) rfl ?_); refine qcp (some 48) rfl rfl Tryd.func142 (by kernel_rfl) rfl #[.slice A0_6 l0_6.length c0_6] rfl ml_ ?_; (with_reducible refine (qbe.calls kj22 _ _ l0_6 true _ ?side1 ?side2 A28.out).mono ?_); (case side1 => repeat (first | exact (Kd.qbw HR0_6.out HB.out) | (with_reducible refine Kd.qck ?_ _) | (with_reducible refine Kd.qcf ?_ _) | (with_reducible refine Kd.qcz ?_))); (case side2 => exact HC0_6.out); rintro e w31 ⟨rfl, hb⟩; refine ⟨_, rfl, ?_⟩; have n0_ := qd.mk (bb_ BK194 hb); have n1_ := qd.mk (qw (bwx_) hb); clear BK194; clear HB; have BK194 := n0_; have HB := n1_; clear n0_ n1_; (try clear hb); (try clear hb2); (try clear hk); (try clear hi)))
        go_ret
        exact ⟨ew_, bwx_⟩
       replace c29 := Bool.eq_false_iff.mpr c29
       subst c29
       have H1 : (some 14) = some r := by rw [if_neg (show ¬ (false = true) by decide)] at H; exact H
       clear H
       have H := H1
       clear H1
       obtain rfl := Option.some.inj H
       obtain ⟨cz32_0, cz32_1, cz32_2, cz32_3, cz32_4, cz32_5, cz32_6⟩ := bc7_ (w := wc) BK194.out
       obtain ⟨fz32_0, fz32_1, fz32_2, fz32_3, fz32_4, fz32_5, fz32_6⟩ := bf7_ BK194.out
       go_wp2_with (first | ((with_reducible refine qbf (f := 142) rfl ?_); refine qcp (some 48) rfl rfl Tryd.func142 (by kernel_rfl) rfl #[.slice A0_6 l0_6.length c0_6] rfl ml_ ?_; (with_reducible refine (qbe.calls kj22 _ _ l0_6 false _ ?side1 ?side2 A28.out).mono ?_); (case side1 => repeat (first | exact (Kd.qbw HR0_6.out HB.out) | (with_reducible refine Kd.qck ?_ _) | (with_reducible refine Kd.qcf ?_ _) | (with_reducible refine Kd.qcz ?_))); (case side2 => exact HC0_6.out); rintro e w33 ⟨rfl, hb⟩; refine ⟨_, rfl, ?_⟩; have n0_ := qd.mk (bb_ BK194 hb); have n1_ := qd.mk (qw (bwx_) hb); clear BK194; clear HB; have BK194 := n0_; have HB := n1_; clear n0_ n1_; (try clear hb); (try clear hb2); (try clear hk); (try clear hi)))
       go_ret
       exact ⟨ew_, bwx_⟩
    ·replace c14 := Bool.eq_false_iff.mpr c14
     subst c14
     have H1 : (some 13) = some r := by rw [if_neg (show ¬ (false = true) by decide)] at H; exact H
     clear H
     have H := H1
     clear H1
     obtain rfl := Option.some.inj H
     obtain ⟨cz34_0, cz34_1, cz34_2, cz34_3, cz34_4, cz34_5, cz34_6⟩ := bc7_ (w := wc) BK194.out
     obtain ⟨fz34_0, fz34_1, fz34_2, fz34_3, fz34_4, fz34_5, fz34_6⟩ := bf7_ BK194.out
     go_wp2_with (first | ((with_reducible refine qbf (f := 114) rfl ?_); refine qcp (some 23) rfl rfl Tryd.func114 (by kernel_rfl) rfl #[.string a0_1] rfl ml_ ?_; (with_reducible refine (qcg.calls kj1 a0_1 false _ A13.out).mono ?_); rintro e w' ⟨rfl, ⟨nd, rfl⟩⟩; refine ⟨_, rfl, ?_⟩))
     go_ret
     exact ⟨ew_, bwx_⟩
def qbp.l0 : Nat → List Int → Int → Int → Int → Option (Int × Bool)
 | 0, _, _, _, _ => none
 | k + 1, x0, x4, x5, x6 => if x6 < (x0.length : Int) then (if 0 ≤ x6 then (qbp.l0 k x0 (wrap64 (x4 + ((rd x0 x6) / 4294967296))) (wrap64 (x5 + (Go.bits .and .i64 (rd x0 x6) 4294967295))) (wrap64 (x6 + 1))) else (none)) else (if (wrap64 (x4 + (x5 / 4294967296))) < (-2147483648) then (some (0, false)) else (if (wrap64 (x4 + (x5 / 4294967296))) > 2147483647 then (some (0, false)) else (some (wrap64 ((wrap64 ((wrap64 (x4 + (x5 / 4294967296))) * 4294967296)) + (Go.bits .and .i64 x5 4294967295)), true))))
def qbp.f (k : Nat) (l0 : List Int) : Option (Int × Bool) := qbp.l0 k l0 0 0 0
set_option maxRecDepth 100000 in
theorem qbp.calls (k : Nat) (A0 : Option Addr) (c0 : Nat) (l0 : List Int) (r1 : Int) (r2 : Bool) (w : World) (hr0 : Kd.C (Kd.int .i64) w A0 l0.length l0) (hc0 : l0.length ≤ c0) (h : qbp.f k l0 = some (r1, r2)) :
  Calls Tryd.prog 77 #[.slice A0 l0.length c0] w fun e w' => e = .returned (.tuple #[.int .i64 r1, .bool r2]) ∧ qcs w w' := by
 have HR0 := qd.mk hr0
 have HC0 := qd.mk hc0
 clear hr0 hc0
 have H : (qbp.l0 k l0 0 0 0) = some (r1, r2) := h
 clear h
 have H' := qd.mk H
 clear H
 go_enter Tryd.func77, Tryd.ntmps77
 go_wp2
 go_loopg [4, 5, 6] k (fun kq v4 v5 v6 w' => ∃ (x4_1 : Int) (x5_1 : Int) (x6_1 : Int), v4 = .int .i64 x4_1 ∧ v5 = .int .i64 x5_1 ∧ v6 = .int .i64 x6_1 ∧ qd (qbp.l0 kq l0 x4_1 x5_1 x6_1 = some (r1, r2)) ∧ qd (kq ≤ k) ∧ qcs w w')
 case atStart => exact ⟨(0), (0), (0), sm_, sm_, sm_, H', ⟨Nat.le_refl _⟩, dn_⟩
 case round =>
  clear H'
  obtain ⟨x4_1, x5_1, x6_1, rfl, rfl, rfl, HA, HK1, ⟨m1, rfl⟩⟩ := hrel
  cases gk with
  | zero => exact absurd HA.out (by simp [qbp.l0])
  | succ k1 =>
   have H := HA.out
   clear HA
   simp only [qbp.l0] at H
   by_cases c2 : x6_1 < (l0.length : Int)
   ·rw [if_pos c2] at H
    have c2b0 : decide (x6_1 < (l0.length : Int)) = true := decide_eq_true c2
    clear c2
    by_cases c3 : 0 ≤ x6_1
    rotate_left
    ·rw [if_neg c3] at H
     exact absurd H (by simp)
    rw [if_pos c3] at H
    have c3b0 : decide (0 ≤ x6_1) = true := decide_eq_true c3
    clear c3
    have H' := qd.mk H
    clear H
    have p202 : 0 ≤ (x6_1 : Int) := odt_
    have q202 : x6_1 < (l0.length : Int) := odt_
    obtain ⟨ad202, e202, hx202_0⟩ := Kd.qms HR0.out x6_1 p202 q202
    cases e202
    replace p202 := eq_true p202
    replace q202 := eq_true q202
    have p203 : 0 ≤ (x6_1 : Int) := odt_
    have q203 : x6_1 < (l0.length : Int) := odt_
    obtain ⟨ad203, e203, hx203_0⟩ := Kd.qms HR0.out x6_1 p203 q203
    obtain rfl : ad202 = ad203 := (by injection e203)
    replace p203 := eq_true p203
    replace q203 := eq_true q203
    go_wp2
    go_roundg k1
    case measure => have := HK1.out; omega
    case rel => exact ⟨(wrap64 (x4_1 + ((rd l0 x6_1) / 4294967296))), (wrap64 (x5_1 + (Go.bits .and .i64 (rd l0 x6_1) 4294967295))), (wrap64 (x6_1 + 1)), sm_, sm_, sm_, H', ⟨by have := HK1.out; omega⟩, dn_⟩
   ·rw [if_neg c2] at H
    have c2b0 : decide (x6_1 < (l0.length : Int)) = false := decide_eq_false c2
    clear c2
    by_cases c4 : (wrap64 (x4_1 + (x5_1 / 4294967296))) < (-2147483648)
    ·rw [if_pos c4] at H
     have c4b0 : decide ((wrap64 (x4_1 + (x5_1 / 4294967296))) < (-2147483648)) = true := decide_eq_true c4
     clear c4
     simp only [Option.some.injEq, Prod.mk.injEq] at H
     obtain ⟨rfl, rfl⟩ := H
     go_wp2
     go_ret2
     exact ⟨sm_, dn_⟩
    ·rw [if_neg c4] at H
     have c4b0 : decide ((wrap64 (x4_1 + (x5_1 / 4294967296))) < (-2147483648)) = false := decide_eq_false c4
     clear c4
     by_cases c5 : (wrap64 (x4_1 + (x5_1 / 4294967296))) > 2147483647
     ·rw [if_pos c5] at H
      have c5b0 : decide (2147483647 < (wrap64 (x4_1 + (x5_1 / 4294967296)))) = true := decide_eq_true c5
      clear c5
      simp only [Option.some.injEq, Prod.mk.injEq] at H
      obtain ⟨rfl, rfl⟩ := H
      go_wp2
      go_ret2
      exact ⟨sm_, dn_⟩
     ·rw [if_neg c5] at H
      have c5b0 : decide (2147483647 < (wrap64 (x4_1 + (x5_1 / 4294967296)))) = false := decide_eq_false c5
      clear c5
      simp only [Option.some.injEq, Prod.mk.injEq] at H
      obtain ⟨rfl, rfl⟩ := H
      go_wp2
      go_ret2
      exact ⟨sm_, dn_⟩
def qby.l0 : Nat → List (S109) → ByteArray → List Int → List Int → Int → Option (Int × Int × Bool)
 | 0, _, _, _, _, _ => none
 | k + 1, x0, x1, x7, x8, x9 => if x9 < (x0.length : Int) then (if 0 ≤ x9 then (if ((ql x0 x9).f1).toList = x1.toList then (if x7.length < 17592186044416 then (if x8.length < 17592186044416 then (qby.l0 k x0 x1 (x7 ++ [(ql x0 x9).f2]) (x8 ++ [(ql x0 x9).f3]) (wrap64 (x9 + 1))) else (none)) else (none)) else (qby.l0 k x0 x1 x7 x8 (wrap64 (x9 + 1)))) else (none)) else ((qbp.f k x7).bind fun bt213 => ((qbp.f k x8).bind fun bt215 => (if bt213.2 = true then (some (bt213.1, bt215.1, bt215.2)) else (some (bt213.1, bt215.1, false)))))
def qby.f (k : Nat) (l0 : List (S109)) (a1 : ByteArray) : Option (Int × Int × Bool) := qby.l0 k l0 a1 ([] : List Int) ([] : List Int) 0
set_option maxRecDepth 100000 in
theorem qby.calls (k : Nat) (A0 : Option Addr) (c0 : Nat) (l0 : List (S109)) (a1 : ByteArray) (r1 : Int) (r2 : Int) (r3 : Bool) (w : World) (hr0 : Kd.C k109 w A0 l0.length l0) (hc0 : l0.length ≤ c0) (h : qby.f k l0 a1 = some (r1, r2, r3)) :
  Calls Tryd.prog 144 #[.slice A0 l0.length c0, .string a1] w fun e w' => e = .returned (.tuple #[.int .i64 r1, .int .i64 r2, .bool r3]) ∧ Below w.heap.size w w' := by
 have HR0 := qd.mk hr0
 have HC0 := qd.mk hc0
 clear hr0 hc0
 have HB := qd.mk (Below.refl w.heap.size w)
 have H : (qby.l0 k l0 a1 ([] : List Int) ([] : List Int) 0) = some (r1, r2, r3) := h
 clear h
 have H' := qd.mk H
 clear H
 go_enter Tryd.func144, Tryd.ntmps144
 go_wp2
 go_loopg [7, 8, 9] k (fun kq v7 v8 v9 w' => ∃ (x7_1 : List Int) (x8_1 : List Int) (x9_1 : Int), v9 = .int .i64 x9_1 ∧ qd (qby.l0 kq l0 a1 x7_1 x8_1 x9_1 = some (r1, r2, r3)) ∧ qd (kq ≤ k) ∧ qd (Kd.R (Kd.int .i64) 3 w' w.heap.size (fun k_ => some k_ ≠ (v8 : Value).ownBlock) v7 x7_1) ∧ qd (Kd.R (Kd.int .i64) 3 w' w.heap.size (fun k_ => some k_ ≠ (v7 : Value).ownBlock) v8 x8_1) ∧ qd (Below w.heap.size w w'))
 case atStart => exact ⟨(([] : List Int)), (([] : List Int)), (0), sm_, H', ⟨Nat.le_refl _⟩, ⟨by first | exact Kd.qhz _ _ _ _ _ | exact Kd.N_nil _ _ _ _ _ | exact Kd.V_nil _ _ _ _ _ | exact Kd.Q_nil _ _ _ _ _ | exact Kd.S_nil _ _ _ _ _⟩, ⟨by first | exact Kd.qhz _ _ _ _ _ | exact Kd.N_nil _ _ _ _ _ | exact Kd.V_nil _ _ _ _ _ | exact Kd.Q_nil _ _ _ _ _ | exact Kd.S_nil _ _ _ _ _⟩, ⟨bw_⟩⟩
 case round =>
  clear H'
  try clear c1
  try clear p2
  obtain ⟨x7_1, x8_1, x9_1, rfl, HA, HK1, HO_7, HO_8, HB⟩ := hrel
  cases gk with
  | zero => exact absurd HA.out (by simp [qby.l0])
  | succ k1 =>
   have H := HA.out
   clear HA
   simp only [qby.l0] at H
   by_cases c3 : x9_1 < (l0.length : Int)
   ·rw [if_pos c3] at H
    have c3b0 : decide (x9_1 < (l0.length : Int)) = true := decide_eq_true c3
    clear c3
    by_cases c4 : 0 ≤ x9_1
    rotate_left
    ·rw [if_neg c4] at H
     exact absurd H (by simp)
    rw [if_pos c4] at H
    have c4b0 : decide (0 ≤ x9_1) = true := decide_eq_true c4
    clear c4
    by_cases c5 : ((ql l0 x9_1).f1).toList = a1.toList
    rotate_left
    ·rw [if_neg c5] at H
     have c5b0 : (((ql l0 x9_1).f1).toList == a1.toList) = false := beq_eq_false_iff_ne.mpr c5
     have c5b1 : (((ql l0 x9_1).f1).toList != a1.toList) = true := bne_iff_ne.mpr c5
     have H' := qd.mk H
     clear H
     have p204 : 0 ≤ (x9_1 : Int) := odt_
     have q204 : x9_1 < (l0.length : Int) := odt_
     obtain ⟨ad204, A204_6, c204_6, e204, hx204_0, hx204_1, hx204_2, hx204_3, hx204_4, hx204_5, hx204_6, hl204_6, hi204_6⟩ := qfg HR0.out x9_1 p204 q204
     cases e204
     replace hx204_0 := bcl_ HB hx204_0
     replace hx204_1 := bcl_ HB hx204_1
     replace hx204_2 := bcl_ HB hx204_2
     replace hx204_3 := bcl_ HB hx204_3
     replace hx204_4 := bcl_ HB hx204_4
     replace hx204_5 := bcl_ HB hx204_5
     replace hx204_6 := bcl_ HB hx204_6
     have HR204_6 := qd.mk hi204_6
     have HC204_6 := qd.mk hl204_6
     clear hi204_6 hl204_6
     replace p204 := eq_true p204
     replace q204 := eq_true q204
     go_wp2
     go_roundg k1
     case measure => have := HK1.out; omega
     case rel => exact ⟨(x7_1), (x8_1), (wrap64 (x9_1 + 1)), sm_, H', ⟨by have := HK1.out; omega⟩, ⟨by (with_reducible repeat (first | apply Kd.R_alloc | apply Kd.qbj | apply Kd.qbl)); exact HO_7.out⟩, ⟨by (with_reducible repeat (first | apply Kd.R_alloc | apply Kd.qbj | apply Kd.qbl)); exact HO_8.out⟩, ⟨bw_⟩⟩
    rw [if_pos c5] at H
    have c5b0 : (((ql l0 x9_1).f1).toList == a1.toList) = true := beq_iff_eq.mpr c5
    have c5b1 : (((ql l0 x9_1).f1).toList != a1.toList) = false := bne_eq_false_iff_eq.mpr c5
    clear c5
    by_cases c6 : x7_1.length < 17592186044416
    rotate_left
    ·rw [if_neg c6] at H
     exact absurd H (by simp)
    rw [if_pos c6] at H
    have LMc6 := qd.mk c6
    clear c6
    obtain ⟨y206, hy206⟩ : ∃ y_ : List Int, y_ = (x7_1 ++ [(ql l0 x9_1).f2]) := ⟨_, rfl⟩
    replace H : (if x8_1.length < 17592186044416 then (qby.l0 k1 l0 a1 y206 (x8_1 ++ [(ql l0 x9_1).f3]) (wrap64 (x9_1 + 1))) else (none)) = some (r1, r2, r3) := by first | (rw [hy206]; with_reducible exact H) | (have H2_ := (Option.bind_some _ _).symm.trans H; rw [hy206]; with_reducible exact H2_) | (have H2_ := (Option.bind_some _ _).symm.trans H; with_reducible exact H2_) | with_reducible exact H | (rw [hy206]; exact H) | exact H
    have Ny206 := qd.mk hy206
    clear hy206
    by_cases c7 : x8_1.length < 17592186044416
    rotate_left
    ·rw [if_neg c7] at H
     exact absurd H (by simp)
    rw [if_pos c7] at H
    have LMc7 := qd.mk c7
    clear c7
    obtain ⟨y210, hy210⟩ : ∃ y_ : List Int, y_ = (x8_1 ++ [(ql l0 x9_1).f3]) := ⟨_, rfl⟩
    replace H : (qby.l0 k1 l0 a1 y206 y210 (wrap64 (x9_1 + 1))) = some (r1, r2, r3) := by first | (rw [hy210]; with_reducible exact H) | (have H2_ := (Option.bind_some _ _).symm.trans H; rw [hy210]; with_reducible exact H2_) | (have H2_ := (Option.bind_some _ _).symm.trans H; with_reducible exact H2_) | with_reducible exact H | (rw [hy210]; exact H) | exact H
    have Ny210 := qd.mk hy210
    clear hy210
    have H' := qd.mk H
    clear H
    have p204 : 0 ≤ (x9_1 : Int) := odt_
    have q204 : x9_1 < (l0.length : Int) := odt_
    obtain ⟨ad204, A204_6, c204_6, e204, hx204_0, hx204_1, hx204_2, hx204_3, hx204_4, hx204_5, hx204_6, hl204_6, hi204_6⟩ := qfg HR0.out x9_1 p204 q204
    cases e204
    replace hx204_0 := bcl_ HB hx204_0
    replace hx204_1 := bcl_ HB hx204_1
    replace hx204_2 := bcl_ HB hx204_2
    replace hx204_3 := bcl_ HB hx204_3
    replace hx204_4 := bcl_ HB hx204_4
    replace hx204_5 := bcl_ HB hx204_5
    replace hx204_6 := bcl_ HB hx204_6
    have HR204_6 := qd.mk hi204_6
    have HC204_6 := qd.mk hl204_6
    clear hi204_6 hl204_6
    replace p204 := eq_true p204
    replace q204 := eq_true q204
    have p205 : 0 ≤ (x9_1 : Int) := odt_
    have q205 : x9_1 < (l0.length : Int) := odt_
    obtain ⟨ad205, A205_6, c205_6, e205, hx205_0, hx205_1, hx205_2, hx205_3, hx205_4, hx205_5, hx205_6, hl205_6, hi205_6⟩ := qfg HR0.out x9_1 p205 q205
    obtain rfl : ad204 = ad205 := (by injection e205)
    replace hx205_0 := bcl_ HB hx205_0
    replace hx205_1 := bcl_ HB hx205_1
    replace hx205_2 := bcl_ HB hx205_2
    replace hx205_3 := bcl_ HB hx205_3
    replace hx205_4 := bcl_ HB hx205_4
    replace hx205_5 := bcl_ HB hx205_5
    replace hx205_6 := bcl_ HB hx205_6
    have HR205_6 := qd.mk hi205_6
    have HC205_6 := qd.mk hl205_6
    clear hi205_6 hl205_6
    replace p205 := eq_true p205
    replace q205 := eq_true q205
    have ea_ := Option.some.inj (hx204_6.symm.trans hx205_6)
    injection ea_ with ea_ en_ ec_
    subst ea_
    subst ec_
    clear en_
    go_wp2_with (first | ((with_reducible refine qdf (b := .append) (xs := #[.tmp 27, .tmp 33]) rfl ?_); at_builtin; refine Kd.qet (Kd.int .i64) (w0 := w) w.heap.size rfl (.tmp 27) (.tmp 33) 43 3 (.int .i64 0) 8 rfl Tryd.underlying43 info3 rfl (by decide) (by omega) u7 x7_1 ((ql l0 x9_1).f2) [.int .i64 ((ql l0 x9_1).f2)] (fun k_ => some k_ ≠ (u8 : Value).ownBlock) (fun _ => False) rfl rfl ?aP (fun _ hk => hk.elim) ?aF ?aO ?aB ?aS ?aL ?_; (case aP => exact rfl); (case aB => exact (bw_)); (case aF => exact (fun k_ hk => Kd.fresh' (Kd.R_lt (by (with_reducible repeat (first | apply Kd.R_alloc | apply Kd.qbj | apply Kd.qbl)); exact HO_8.out)) k_ hk)); (case aO => exact (by (with_reducible repeat (first | apply Kd.R_alloc | apply Kd.qbj | apply Kd.qbl)); exact HO_7.out)); (case aS => exact (qcm (bw_))); (case aL => have := LMc6.out; omega); intro v207 w8 ho hb hg hat; rw [← Ny206.out] at ho; have n0_ := qd.mk (Kd.qik (ok := (fun _ => True)) (by (with_reducible repeat (first | apply Kd.R_alloc | apply Kd.qbj | apply Kd.qbl)); exact Kd.qdt HO_8.out (fun _ hk => ⟨trivial, hk⟩)) hg hat); have n1_ := qd.mk (hb); have n2_ := qd.mk (ho); clear HO_8; clear HB; clear HO_7; have HO_8 := n0_; have HB := n1_; have HO208 := n2_; clear n0_ n1_ n2_; clear ho hb hg hat; have p209 : 0 ≤ (x9_1 : Int) := odt_; have q209 : x9_1 < (l0.length : Int) := odt_; obtain ⟨ad209, A209_6, c209_6, e209, hx209_0, hx209_1, hx209_2, hx209_3, hx209_4, hx209_5, hx209_6, hl209_6, hi209_6⟩ := qfg HR0.out x9_1 p209 q209; obtain rfl : ad204 = ad209 := (by injection e209); replace hx209_0 := bcl_ HB hx209_0; replace hx209_1 := bcl_ HB hx209_1; replace hx209_2 := bcl_ HB hx209_2; replace hx209_3 := bcl_ HB hx209_3; replace hx209_4 := bcl_ HB hx209_4; replace hx209_5 := bcl_ HB hx209_5; replace hx209_6 := bcl_ HB hx209_6; have HR209_6 := qd.mk hi209_6; have HC209_6 := qd.mk hl209_6; clear hi209_6 hl209_6; replace p209 := eq_true p209; replace q209 := eq_true q209) | ((with_reducible refine qdf (b := .append) (xs := #[.tmp 35, .tmp 41]) rfl ?_); at_builtin; refine Kd.qet (Kd.int .i64) (w0 := w) w.heap.size rfl (.tmp 35) (.tmp 41) 43 3 (.int .i64 0) 8 rfl Tryd.underlying43 info3 rfl (by decide) (by omega) u8 x8_1 ((ql l0 x9_1).f3) [.int .i64 ((ql l0 x9_1).f3)] (fun k_ => some k_ ≠ (v207 : Value).ownBlock) (fun _ => False) rfl rfl ?aP (fun _ hk => hk.elim) ?aF ?aO ?aB ?aS ?aL ?_; (case aP => exact rfl); (case aB => exact (bw_)); (case aF => exact (fun k_ hk => Kd.fresh' (Kd.R_lt (by (with_reducible repeat (first | apply Kd.R_alloc | apply Kd.qbj | apply Kd.qbl)); exact HO208.out)) k_ hk)); (case aO => exact (by (with_reducible repeat (first | apply Kd.R_alloc | apply Kd.qbj | apply Kd.qbl)); exact Kd.qdt HO_8.out (fun _ hk => hk.2))); (case aS => exact (qcm (bw_))); (case aL => have := LMc7.out; omega); intro v211 w9 ho hb hg hat; rw [← Ny210.out] at ho; have n0_ := qd.mk (Kd.qik (ok := (fun _ => True)) (by (with_reducible repeat (first | apply Kd.R_alloc | apply Kd.qbj | apply Kd.qbl)); exact Kd.qdt HO208.out (fun _ hk => ⟨trivial, hk⟩)) hg hat); have n1_ := qd.mk (hb); have n2_ := qd.mk (ho); clear HO208; clear HB; clear HO_8; have HO208 := n0_; have HB := n1_; have HO212 := n2_; clear n0_ n1_ n2_; clear ho hb hg hat))
    go_roundg k1
    case measure => have := HK1.out; omega
    case rel => exact ⟨(y206), (y210), (wrap64 (x9_1 + 1)), sm_, H', ⟨by have := HK1.out; omega⟩, ⟨by (with_reducible repeat (first | apply Kd.R_alloc | apply Kd.qbj | apply Kd.qbl)); exact Kd.qdt HO208.out (fun _ hk => hk.2)⟩, ⟨by (with_reducible repeat (first | apply Kd.R_alloc | apply Kd.qbj | apply Kd.qbl)); exact HO212.out⟩, ⟨bw_⟩⟩
   ·rw [if_neg c3] at H
    have c3b0 : decide (x9_1 < (l0.length : Int)) = false := decide_eq_false c3
    clear c3
    replace H := Option.bind_eq_some_iff.mp H
    obtain ⟨⟨t213, t214⟩, A100, H⟩ := H
    try dsimp only at H
    have A10 := qd.mk A100
    clear A100
    replace H := Option.bind_eq_some_iff.mp H
    obtain ⟨⟨t215, t216⟩, A110, H⟩ := H
    try dsimp only at H
    have A11 := qd.mk A110
    clear A110
    by_cases c12 : t214 = true
    ·subst c12
     have H1 : (some (t213, t215, t216)) = some (r1, r2, r3) := by rw [if_pos rfl] at H; exact H
     clear H
     have H := H1
     clear H1
     simp only [Option.some.injEq, Prod.mk.injEq] at H
     obtain ⟨rfl, rfl, rfl⟩ := H
     obtain ⟨Ao13, co13, eo13⟩ := Kd.qct HO_7.out
     subst eo13
     go_wp2_with (first | ((with_reducible refine qbf (f := 77) rfl ?_); refine qcp (some 45) rfl rfl Tryd.func77 (by kernel_rfl) rfl #[.slice Ao13 x7_1.length co13] rfl ml_ ?_; (with_reducible refine (qbp.calls k1 _ _ x7_1 t213 true _ ?side1 ?side2 A10.out).mono ?_); (case side1 => repeat (first | exact (Kd.qbt HO_7.out).2.2 | (with_reducible refine Kd.qck ?_ _) | (with_reducible refine Kd.qcf ?_ _) | (with_reducible refine Kd.qcz ?_))); (case side2 => exact (Kd.qbt HO_7.out).2.1); rintro e w' ⟨rfl, ⟨nd, rfl⟩⟩; refine ⟨_, rfl, ?_⟩; obtain ⟨Ao14, co14, eo14⟩ := Kd.qct HO_8.out; subst eo14) | ((with_reducible refine qbf (f := 77) rfl ?_); refine qcp (some 50) rfl rfl Tryd.func77 (by kernel_rfl) rfl #[.slice Ao14 x8_1.length co14] rfl ml_ ?_; (with_reducible refine (qbp.calls k1 _ _ x8_1 t215 t216 _ ?side1 ?side2 A11.out).mono ?_); (case side1 => repeat (first | exact (Kd.qbt HO_8.out).2.2 | (with_reducible refine Kd.qck ?_ _) | (with_reducible refine Kd.qcf ?_ _) | (with_reducible refine Kd.qcz ?_))); (case side2 => exact (Kd.qbt HO_8.out).2.1); rintro e w' ⟨rfl, ⟨nd, rfl⟩⟩; refine ⟨_, rfl, ?_⟩))
     go_ret3
     exact ⟨ew_, bw_⟩
    ·replace c12 := Bool.eq_false_iff.mpr c12
     subst c12
     have H1 : (some (t213, t215, false)) = some (r1, r2, r3) := by rw [if_neg (show ¬ (false = true) by decide)] at H; exact H
     clear H
     have H := H1
     clear H1
     simp only [Option.some.injEq, Prod.mk.injEq] at H
     obtain ⟨rfl, rfl, rfl⟩ := H
     obtain ⟨Ao15, co15, eo15⟩ := Kd.qct HO_7.out
     subst eo15
     go_wp2_with (first | ((with_reducible refine qbf (f := 77) rfl ?_); refine qcp (some 45) rfl rfl Tryd.func77 (by kernel_rfl) rfl #[.slice Ao15 x7_1.length co15] rfl ml_ ?_; (with_reducible refine (qbp.calls k1 _ _ x7_1 t213 false _ ?side1 ?side2 A10.out).mono ?_); (case side1 => repeat (first | exact (Kd.qbt HO_7.out).2.2 | (with_reducible refine Kd.qck ?_ _) | (with_reducible refine Kd.qcf ?_ _) | (with_reducible refine Kd.qcz ?_))); (case side2 => exact (Kd.qbt HO_7.out).2.1); rintro e w' ⟨rfl, ⟨nd, rfl⟩⟩; refine ⟨_, rfl, ?_⟩; obtain ⟨Ao16, co16, eo16⟩ := Kd.qct HO_8.out; subst eo16) | ((with_reducible refine qbf (f := 77) rfl ?_); refine qcp (some 50) rfl rfl Tryd.func77 (by kernel_rfl) rfl #[.slice Ao16 x8_1.length co16] rfl ml_ ?_; (with_reducible refine (qbp.calls k1 _ _ x8_1 t215 t216 _ ?side1 ?side2 A11.out).mono ?_); (case side1 => repeat (first | exact (Kd.qbt HO_8.out).2.2 | (with_reducible refine Kd.qck ?_ _) | (with_reducible refine Kd.qcf ?_ _) | (with_reducible refine Kd.qcz ?_))); (case side2 => exact (Kd.qbt HO_8.out).2.1); rintro e w' ⟨rfl, ⟨nd, rfl⟩⟩; refine ⟨_, rfl, ?_⟩))
     go_ret3
     exact ⟨ew_, bw_⟩
end
section
open Go.Sort Go.Maps Go.ChangeShapes Go.WideShapes Go.WideMaps
def ltB (a b : ByteArray) : Bool := Op.bytesLess a.toList b.toList
def insS (s : ByteArray) : List ByteArray → List ByteArray
 | [] => [s]
 | o :: r => if ltB o s = true then o :: insS s r else if o = s then o :: r else s :: o :: r
def curK (l : List S109) : List ByteArray := l.foldl (fun acc x => insS x.f1 acc) []
theorem qmj (s : ByteArray) : ∀ (out : List ByteArray) (k : Nat), k ≤ out.length → (∀ j (h : j < out.length), j < k → ltB out[j] s = true) →
  (k = out.length → insS s out = out ++ [s]) ∧ ∀ (h : k < out.length), ltB out[k] s = false → insS s out = if out[k] = s then out else out.take k ++ [s] ++ out.drop k
 | [], k, hk, _ => ⟨fun _ => rfl, fun h => absurd h (by simp)⟩
 | o :: r, 0, hk, _ => by
  refine ⟨fun h => by simp at h, fun h hl => ?_⟩
  have hl : ltB o s = false := hl
  unfold insS
  rw [if_neg (by rw [hl]; decide)]
  rfl
 | o :: r, k + 1, hk, hb => by
  have h0 : ltB o s = true := hb 0 (by simp) (by omega)
  obtain ⟨h1, h2⟩ := qmj s r k (by simpa using hk) (fun j h hj => hb (j + 1) (by simpa using h) (by omega))
  unfold insS
  rw [if_pos h0]
  refine ⟨fun h => ?_, fun h hl => ?_⟩
  ·rw [h1 (by simpa using h)]
   rfl
  ·have hk' : k < r.length := by simpa using h
   have e : (o :: r)[k + 1] = r[k] := rfl
   rw [e] at hl ⊢
   rw [h2 hk' hl]
   by_cases h3 : r[k] = s
   ·rw [if_pos h3, if_pos h3]
   rw [if_neg h3, if_neg h3]
   rfl
theorem insS_mem (s c : ByteArray) : ∀ (out : List ByteArray), c ∈ insS s out ↔ c = s ∨ c ∈ out
 | [] => by simp [insS]
 | o :: r => by
  unfold insS
  by_cases h0 : ltB o s = true
  ·rw [if_pos h0, List.mem_cons, insS_mem s c r, List.mem_cons]
   constructor
   ·rintro (h | h | h)
    ·exact .inr (.inl h)
    ·exact .inl h
    ·exact .inr (.inr h)
   ·rintro (h | h | h)
    ·exact .inr (.inl h)
    ·exact .inl h
    ·exact .inr (.inr h)
  rw [if_neg h0]
  by_cases h1 : o = s
  rotate_left
  ·rw [if_neg h1, List.mem_cons]
  rw [if_pos h1, List.mem_cons]
  constructor
  ·rintro (h | h)
   ·exact .inr (.inl h)
   ·exact .inr (.inr h)
  ·rintro (h | h | h)
   ·exact .inl (h.trans h1.symm)
   ·exact .inl h
   ·exact .inr h
theorem insS_len (s : ByteArray) : ∀ (out : List ByteArray), (insS s out).length ≤ out.length + 1
 | [] => by simp [insS]
 | o :: r => by
  unfold insS
  have := insS_len s r
  by_cases h0 : ltB o s = true
  ·rw [if_pos h0]; simp; omega
  rw [if_neg h0]
  by_cases h1 : o = s
  ·rw [if_pos h1]; simp
  rw [if_neg h1]; simp
theorem qhw {l : List S109} {i : Nat} {x : S109} (h : l[i]? = some x) : curK (l.take (i + 1)) = insS x.f1 (curK (l.take i)) := by
 unfold curK
 rw [List.take_add_one, h, List.foldl_append]
 rfl
theorem curK_mem (c : ByteArray) (l : List S109) : c ∈ curK l ↔ ∃ x ∈ l, x.f1 = c := by
 have key : ∀ i, i ≤ l.length → (c ∈ curK (l.take i) ↔ ∃ x ∈ l.take i, x.f1 = c) := by
  intro i
  induction i with
  | zero => intro _; simp [curK]
  | succ i ih =>
   intro hi
   have hg : l[i]? = some l[i] := List.getElem?_eq_getElem (by omega)
   rw [qhw hg, insS_mem, ih (by omega), List.take_add_one, hg]
   show _ ↔ ∃ x ∈ l.take i ++ [l[i]], x.f1 = c
   constructor
   ·rintro (h | ⟨x, hx, e⟩)
    ·exact ⟨l[i], List.mem_append.2 (.inr (List.mem_singleton.2 rfl)), h.symm⟩
    ·exact ⟨x, List.mem_append.2 (.inl hx), e⟩
   ·rintro ⟨x, hx, e⟩
    rcases List.mem_append.1 hx with hx | hx
    ·exact .inr ⟨x, hx, e⟩
    ·have : x = l[i] := by simpa using hx
     exact .inl (by rw [← e, this])
 have := key l.length (Nat.le_refl _)
 rwa [List.take_length] at this
theorem curK_len (l : List S109) : (curK l).length ≤ l.length := by
 have key : ∀ i, i ≤ l.length → (curK (l.take i)).length ≤ i := by
  intro i
  induction i with
  | zero => intro _; simp [curK]
  | succ i ih =>
   intro hi
   rw [qhw (List.getElem?_eq_getElem (show i < l.length by omega))]
   have := insS_len l[i].f1 (curK (l.take i))
   have := ih (by omega)
   omega
 have := key l.length (Nat.le_refl _)
 rwa [List.take_length] at this
theorem lit0 (W : World) (base : Nat) (hb : base ≤ W.heap.size) : Kd.string.R 9 (W.alloc (.cells #[] 9)) base (fun k => W.heap.size ≤ k) (.slice (some ⟨W.heap.size, 0, none⟩) 0 0) [] :=
 ⟨fun k hk => by have e : W.heap.size = k := (by simpa [Value.ownBlock] using hk); omega, [], World.ownsRow_lit (base := base) (e := 9) (size := 1) W #[] 0 hb (by decide) rfl, Reps.none _ _⟩
theorem take_C {W : World} {A : Option Addr} {out : List ByteArray} {k : Nat} (h : Kd.C Kd.string W A out.length out) (hk : k ≤ out.length) : Kd.C Kd.string W A k (out.take k) := by
 have := Kd.C_take h hk
 rwa [show (out.take k).length = k by rw [List.length_take]; omega] at this
theorem drop_C {W : World} {ak : Addr} {out : List ByteArray} {k co : Nat} (h : Kd.C Kd.string W (some ak) out.length out) (hk : k ≤ out.length) (hc : out.length ≤ co) : Kd.C Kd.string W (if co = k then some ak else some (ak.add k)) (out.length - k) (out.drop k) := by
 have := Kd.C_drop (c := co) h hk hc
 rw [show (out.drop k).length = out.length - k from List.length_drop] at this
 rw [show k * Kd.string.sz = k from Nat.mul_one k] at this
 exact this
theorem drop_C0 {W : World} {ak : Addr} {out : List ByteArray} {co : Nat} (h : Kd.C Kd.string W (some ak) out.length out) (hc : out.length ≤ co) : Kd.C Kd.string W (if co = out.length then some ak else some (ak.add out.length)) 0 (out.drop out.length) := by
 have := drop_C h (Nat.le_refl _) hc
 rwa [Nat.sub_self] at this
theorem R_none {W : World} {base co : Nat} {ok : Nat → Prop} {out : List ByteArray} (h : Kd.string.R 9 W base ok (.slice none out.length co) out) : out = [] ∧ co = 0 := by
 have hr := Kd.qbt h
 have h0 : out.length = 0 := by
  rcases Nat.eq_zero_or_pos out.length with h1 | h1
  ·exact h1
  ·obtain ⟨ad, e, _⟩ := hr.2.2.2.2 h1
   cases e
 obtain ⟨_, inner, ⟨_, ho⟩, _⟩ := h
 refine ⟨List.length_eq_zero_iff.1 h0, ?_⟩
 rcases ho with ⟨hv, _⟩ | ⟨b, _, _, hv, _⟩
 ·simp only [Value.slice.injEq] at hv
  exact hv.2.2
 ·simp at hv
theorem nil_C (W : World) : Kd.C Kd.string W none 0 (([] : List ByteArray).drop 0) := ⟨rfl, by decide, fun h => absurd h (by decide)⟩
theorem qnj {w w' : World} {base : Nat} {v : Value} {ks : List ByteArray} {ok : Nat → Prop} (h : Kd.string.R 9 w base ok v ks) (hk : ∀ q, q < w.heap.size → w'.heap[q]? = w.heap[q]?) : Kd.string.R 9 w' base ok v ks := Kd.qhj h (fun q _ hq => hk q hq)
theorem qgr {base : Nat} {w W : World} {o : Obj} (h : Below base w W) (hb : base ≤ W.heap.size) : Below base w (W.alloc o) := h.alloc hb _
theorem qnp {W : World} {g : Nat} {s : ByteArray} (h : W.heap[g]? = some (.cells #[.string s] 9 (0, 0))) : Kd.C Kd.string W (some ⟨g, 0, none⟩) 1 [s] := by
 refine ⟨rfl, by decide, fun _ => ⟨_, rfl, fun j p hj => ?_⟩⟩
 have hj0 : j = 0 := by have := (List.getElem?_eq_some_iff.1 hj).1; simpa using this
 subst hj0
 obtain rfl : s = p := by simpa using hj
 refine ⟨[.string s], rfl, rfl, fun i u hu => ?_⟩
 have hi0 : i = 0 := by have := (List.getElem?_eq_some_iff.1 hu).1; simpa using this
 subst hi0
 obtain rfl : Value.string s = u := by simpa using hu
 exact (qg h 0).trans rfl
structure Fct (w3 w : World) (base : Nat) (ak : Option Addr) (out : List ByteArray) (k : Nat) (s : ByteArray) (W : World) (gl : Nat) : Prop where
 row : Kd.string.R 9 W base (fun k => w3.heap.size ≤ k) (.slice (some ⟨gl, 0, none⟩) 0 0) []
 take : Kd.C Kd.string W ak k (out.take k)
 below : Below base w W
 le : w3.heap.size ≤ W.heap.size
 keep : ∀ q, q < w3.heap.size → W.heap[q]? = w3.heap[q]?
 new : w3.heap.size ≤ gl
 bs : base ≤ w3.heap.size
theorem Fct.after {w3 w W wB : World} {base : Nat} {ak : Option Addr} {out : List ByteArray} {k gl : Nat} {s : ByteArray} {v50 : Value} (h : Fct w3 w base ak out k s W gl) (hgB : W.grownBy wB (Value.slice (some ⟨gl, 0, none⟩) 0 0).ownBlock) (hat : v50.ownBlock = (Value.slice (some ⟨gl, 0, none⟩) 0 0).ownBlock ∨ ∃ b, v50.ownBlock = some b ∧ W.heap.size ≤ b) :
  w3.heap.size ≤ wB.heap.size ∧ base ≤ wB.heap.size ∧ ∀ {wC : World}, wB.grownBy wC v50.ownBlock → ∀ q, q < w3.heap.size → wC.heap[q]? = w3.heap[q]? := by
 have h0 := Nat.le_trans h.le hgB.size
 refine ⟨h0, Nat.le_trans h.bs h0, fun {wC} hgC q hq => ?_⟩
 have hn := h.new
 have hl := h.le
 have h2 := hgB.block q (by omega) (fun e => by
  have : gl = q := by simpa [Value.ownBlock] using e.symm
  omega)
 have h3 := hgC.block q (by omega) (fun e => by
  rcases hat with h | ⟨b, h, hb⟩
  ·have : gl = q := by simpa [Value.ownBlock] using (e.trans h).symm
   omega
  ·have : b = q := by simpa using (e.trans h).symm
   omega)
 exact h3.trans (h2.trans (h.keep q hq))
section
variable {w3 w : World} {base : Nat} {ak : Option Addr} {out : List ByteArray} {k : Nat} {s : ByteArray}
theorem fctG {W wB : World} {gl gs : Nat} {o : Obj} (hg : W.grownBy wB (Value.slice (some ⟨gl, 0, none⟩) 0 0).ownBlock) (h : W.heap[gs]? = some o) (hne : gl ≠ gs) : wB.heap[gs]? = some o :=
 (hg.block gs (Array.getElem?_eq_some_iff.1 h).1 (fun e => hne (by simpa [Value.ownBlock] using e.symm))).trans h
theorem fctX (hb : Below base w w3) (hs : base ≤ w3.heap.size) (hc : Kd.C Kd.string w3 ak out.length out) (hk : k ≤ out.length) : Fct w3 w base ak out k s (w3.alloc (.cells #[] 9)).drew w3.heap.size :=
 ⟨Kd.qbl (lit0 w3 base hs), take_C (Kd.qcz (Kd.qck hc _)) hk, qdo (qgr hb hs), by show _ ≤ (w3.alloc _).heap.size; simp, fun q hq => Below.heap_alloc _ _ _ hq, Nat.le_refl _, hs⟩
theorem fctY (hb : Below base w w3) (hs : base ≤ w3.heap.size) (hc : Kd.C Kd.string w3 ak out.length out) (hk : k ≤ out.length) : Fct w3 w base ak out k s ((w3.alloc (.cells #[] 9)).alloc (.cells #[.string s] 9)).drew w3.heap.size := by
 have h1 : base ≤ (w3.alloc (.cells #[] 9)).heap.size := by simp; omega
 refine ⟨Kd.qbl (Kd.qdw (lit0 w3 base hs) (qbk (Below.refl _ _) _)), take_C (Kd.qcz (Kd.qck (Kd.qck hc _) _)) hk, qdo (qgr (qgr hb hs) h1), by show _ ≤ ((w3.alloc _).alloc _).heap.size; simp; omega, fun q hq => ?_, Nat.le_refl _, hs⟩
 exact (Below.heap_alloc _ _ _ (by simp; omega)).trans (Below.heap_alloc _ _ _ hq)
theorem fctZ (hb : Below base w w3) (hs : base ≤ w3.heap.size) (hc : Kd.C Kd.string w3 ak out.length out) (hk : k ≤ out.length) : Fct w3 w base ak out k s ((w3.alloc (.cells #[.string s] 9)).alloc (.cells #[] 9)).drew (w3.heap.size + 1) := by
 have e1 : (w3.alloc (.cells #[.string s] 9)).heap.size = w3.heap.size + 1 := by simp
 have h1 : base ≤ (w3.alloc (.cells #[.string s] 9)).heap.size := by rw [e1]; omega
 have h2 := lit0 (w3.alloc (.cells #[.string s] 9)) base h1
 rw [e1] at h2
 refine ⟨Kd.qbl (Kd.qdt h2 (fun q hq => by omega)), take_C (Kd.qcz (Kd.qck (Kd.qck hc _) _)) hk, qdo (qgr (qgr hb hs) h1), by show _ ≤ ((w3.alloc _).alloc _).heap.size; simp; omega, fun q hq => ?_, by omega, hs⟩
 exact (Below.heap_alloc _ _ _ (by simp; omega)).trans (Below.heap_alloc _ _ _ hq)
theorem fctSY (hb : Below base w w3) (hs : base ≤ w3.heap.size) (hc : Kd.C Kd.string w3 ak out.length out) (hk : k ≤ out.length) (s : ByteArray) : ((w3.alloc (.cells #[] 9)).alloc (.cells #[.string s] 9)).drew.heap[w3.heap.size + 1]? = some (.cells #[.string s] 9 (0, 0)) ∧ w3.heap.size + 1 < ((w3.alloc (.cells #[] 9)).alloc (.cells #[.string s] 9)).drew.heap.size := by
 have h := qdu (w3.alloc (.cells #[] 9)) (.cells #[.string s] 9)
 rw [show (w3.alloc (.cells #[] 9)).heap.size = w3.heap.size + 1 by simp] at h
 exact ⟨h, (Array.getElem?_eq_some_iff.1 h).1⟩
theorem fctSZ (hb : Below base w w3) (hs : base ≤ w3.heap.size) (hc : Kd.C Kd.string w3 ak out.length out) (hk : k ≤ out.length) (s : ByteArray) : ((w3.alloc (.cells #[.string s] 9)).alloc (.cells #[] 9)).drew.heap[w3.heap.size]? = some (.cells #[.string s] 9 (0, 0)) ∧ w3.heap.size < ((w3.alloc (.cells #[.string s] 9)).alloc (.cells #[] 9)).drew.heap.size := by
 have h : ((w3.alloc (.cells #[.string s] 9)).alloc (.cells #[] 9)).heap[w3.heap.size]? = some (.cells #[.string s] 9 (0, 0)) := (Below.heap_alloc _ _ _ (by simp)).trans (qdu w3 _)
 exact ⟨h, (Array.getElem?_eq_some_iff.1 h).1⟩
end
set_option maxRecDepth 100000 in
theorem qlb (A : Option Addr) (c : Nat) (l : List S109) (w : World) (h : Kd.C k109 w A l.length l) (hc : l.length ≤ c) (hl : l.length ≤ 1000000) :
  Calls Tryd.prog 143 #[.slice A l.length c] w fun e w' => ∃ v, e = .returned v ∧ Kd.string.R 9 w' w.heap.size (fun _ => True) v (curK l) ∧ Below w.heap.size w w' := by
 have HC := qd.mk h
 clear h
 obtain ⟨base, hbase⟩ : ∃ base, w.heap.size = base := ⟨_, rfl⟩
 have HBS := qd.mk hbase
 rw [hbase]
 clear hbase
 go_enter Tryd.func143, Tryd.ntmps143
 go_wp2
 go_loopw [3, 4, 5, 6, 7, 8, 9, 10, 11, 12, 13, 14, 15, 16, 17, 18, 19, 20, 21, 22, 23, 24, 25, 26, 27, 28, 29, 30, 31, 32, 33, 34, 35, 36, 37, 38, 39, 40, 41, 42, 43, 44, 45, 46, 47, 48, 49, 50, 51, 52, 53, 54, 55, 56, 57, 58, 59, 60, 61] (fun v3 v4 _ _ _ _ _ _ _ _ _ _ _ _ _ _ _ _ _ _ _ _ _ _ _ _ _ _ _ _ _ _ _ _ _ _ _ _ _ _ _ _ _ _ _ _ _ _ _ _ _ _ _ _ _ _ _ _ _ wr => ∃ i : Nat, i ≤ l.length ∧ v4 = .int .i64 i ∧ qd (Kd.string.R 9 wr base (fun _ => True) v3 (curK (l.take i))) ∧ qd (Below base w wr) ∧ qd (base ≤ wr.heap.size)) (fun _ v4 _ _ _ _ _ _ _ _ _ _ _ _ _ _ _ _ _ _ _ _ _ _ _ _ _ _ _ _ _ _ _ _ _ _ _ _ _ _ _ _ _ _ _ _ _ _ _ _ _ _ _ _ _ _ _ _ _ _ => l.length - (intOf v4).toNat)
 case atStart => exact ⟨0, Nat.zero_le _, rfl, ⟨Kd.qhz _ _ _ _ _⟩, ⟨Below.refl _ _⟩, ⟨Nat.le_of_eq HBS.out.symm⟩⟩
 obtain ⟨i, hi, rfl, HO, HB, HS⟩ := hrel
 obtain ⟨out, hout⟩ : ∃ out, curK (l.take i) = out := ⟨_, rfl⟩
 rw [hout] at HO
 have HOUT := qd.mk hout
 have hol : out.length ≤ i := by rw [← hout]; exact Nat.le_trans (curK_len _) (by rw [List.length_take]; omega)
 clear hout
 obtain ⟨Ao, co, hk3⟩ := Kd.qct HO.out
 subst hk3
 rename World => wo
 by_cases hlt : i < l.length
 rotate_left
 ·obtain rfl : i = l.length := by omega
  have d1 : decide ((l.length : Int) < (l.length : Int)) = false := decide_eq_false (by omega)
  have ho := HO.out
  have hou := HOUT.out
  rw [List.take_length] at hou
  have HOU := qd.mk hou
  clear ho hou
  go_wp2
  go_ret
  exact ⟨_, rfl, by rw [HOU.out]; exact HO.out, HB.out⟩
 have d1 : decide ((i : Int) < (l.length : Int)) = true := decide_eq_true (by omega)
 have d2 : decide (i < l.length) = true := decide_eq_true hlt
 have p0 : (0 : Int) ≤ (i : Int) := by omega
 have p1 : (i : Int) < (l.length : Int) := by omega
 obtain ⟨ad, A6, c6, e, _, q1, _, _, _, _, _, _, _⟩ := qfg (Kd.qbw HC.out (by rw [HBS.out]; exact HB.out)) (i : Int) (by omega) (by omega)
 subst e
 rw [Int.toNat_natCast] at q1
 obtain ⟨x, hx⟩ : ∃ x, ql l (i : Int) = x := ⟨_, rfl⟩
 have hxi : l[i]? = some x := by rw [← hx]; simp [ql, hlt]
 rw [hx] at q1
 have HXI := qd.mk hxi
 have hxq := hx
 clear hx hxi
 obtain ⟨s, hs⟩ : ∃ s, x.f1 = s := ⟨_, rfl⟩
 rw [hs] at q1
 have HQ1 := qd.mk (show ∀ W, Below base w W → W.cell? ⟨(ad.add (i * 7)).block, (ad.add (i * 7)).off + 1, none⟩ = some (.string s) from fun W hW => by
  obtain ⟨ad3, A7, c7, e, _, r1, _, _, _, _, _, _, _⟩ := qfg (Kd.qbw HC.out (by rw [HBS.out]; exact hW)) (i : Int) (by omega) (by omega)
  obtain rfl : ad = ad3 := Option.some.inj e
  rw [Int.toNat_natCast, hxq, hs] at r1
  exact r1)
 clear hxq
 have HSX := qd.mk hs
 clear hs
 go_wp2
 go_loopw [5, 12, 13, 14, 15, 16, 17, 18, 19, 20, 21, 22, 23, 24, 25, 26, 27, 28, 29] (fun v5 _ _ _ _ _ _ _ _ _ _ _ _ _ _ _ _ _ _ wr => ∃ k : Nat, k ≤ out.length ∧ v5 = .int .i64 k ∧ qd (∃ n, wr = wo.drewN n) ∧ qd (∀ j (h : j < out.length), j < k → ltB out[j] s = true)) (fun v5 _ _ _ _ _ _ _ _ _ _ _ _ _ _ _ _ _ _ _ => out.length - (intOf v5).toNat)
 case atStart => exact ⟨0, Nat.zero_le _, rfl, ⟨⟨0, rfl⟩⟩, ⟨fun j h hj => by omega⟩⟩
 obtain ⟨k, hk, rfl, HD, HLT⟩ := hrel
 obtain ⟨nd, hwr⟩ := HD.out
 subst hwr
 clear HD
 have q1d : (wo.drewN nd).cell? ⟨(ad.add (i * 7)).block, (ad.add (i * 7)).off + 1, none⟩ = some (.string s) := q1
 have HOD := qd.mk (show Kd.string.R 9 (wo.drewN nd) base (fun _ => True) (.slice Ao out.length co) out from Kd.qhj HO.out (fun _ _ _ => rfl))
 have HB3 := qd.mk (show Below base w (wo.drewN nd) from qbn HB.out nd)
 have HS3 := qd.mk (show base ≤ (wo.drewN nd).heap.size from HS.out)
 by_cases hkl : k < out.length
 rotate_left
 ·obtain rfl : k = out.length := by omega
  have d4 : decide ((out.length : Int) < (out.length : Int)) = false := decide_eq_false (by omega)
  cases Ao with
  | some ak =>
   go_wp2
   go_quiet (fail)
   go_wp2
   go_quiet (fail)
   go_upto_region 9 with (fail)
   refine qdj (P := fun x => Code.wp _ _ _ _ x) _ ?_
   intro w3 hw3
   have HOD3 := qd.mk (show Kd.string.R 9 w3 base (fun _ => True) (.slice (some ak) out.length co) out from by rw [hw3]; exact Kd.qhj HO.out (fun _ _ _ => rfl))
   have HB3 := qd.mk (show Below base w w3 from by rw [hw3]; exact qbn (qbn (qbn HB.out _) _) _)
   have HS3 := qd.mk (show base ≤ w3.heap.size from by rw [hw3]; exact HS.out)
   clear hw3 q1 q1d
   have HKC := qd.mk (show out.length ≤ co from (Kd.qbt HO.out).2.1)
   have hkc : (out.length : Int) ≤ (co : Int) := by have := HKC.out; omega
   have hkc2 : decide (out.length ≤ co) = true := decide_eq_true HKC.out
   have hlc : (out.length : Int) ≤ (co : Int) := by have := (Kd.qbt HO.out).2.1; omega
   have p9 : (0 : Int) ≤ (out.length : Int) := by omega
   have p8 : (out.length : Int) ≤ (out.length : Int) := by omega
   have q1 := HQ1.out _ HB3.out
   have hbq : (ad.add (i * 7)).block < w3.heap.size := World.block_lt_of_cell? w3 ⟨(ad.add (i * 7)).block, (ad.add (i * 7)).off + 1, none⟩ q1
   have HLC := qd.mk (Kd.qbt HO.out).2.1
   have HTL := qd.mk (show (out.take out.length).length = out.length by rw [List.length_take]; omega)
   have HC3 := qd.mk (Kd.qbt HOD3.out).2.2
   have HFX := qd.mk (show Fct w3 w base (some ak) out out.length s ((w3.alloc (.cells #[] 9)).drew) w3.heap.size from fctX HB3.out HS3.out HC3.out (Nat.le_refl out.length))
   have HFY := qd.mk (show Fct w3 w base (some ak) out out.length s (((w3.alloc (.cells #[] 9)).alloc (.cells #[.string s] 9)).drew) w3.heap.size from fctY HB3.out HS3.out HC3.out (Nat.le_refl out.length))
   have HFZ := qd.mk (show Fct w3 w base (some ak) out out.length s (((w3.alloc (.cells #[.string s] 9)).alloc (.cells #[] 9)).drew) (w3.heap.size + 1) from fctZ HB3.out HS3.out HC3.out (Nat.le_refl out.length))
   go_region_law (first | (refine Kd.qcv Kd.string (w0 := w) (W := (w3.alloc (.cells #[] 9)).drew) (Rr := Kd.string.K ((w3.alloc (.cells #[] 9)).drew)) base (by rfl) (.tmp 46) (.tmp 49) 205 9 (.string ⟨#[]⟩) 16 rfl Tryd.underlying205 qid rfl (by decide) (by omega) (.slice (some ⟨w3.heap.size, 0, none⟩) 0 0) [] (out.take out.length) (some ak) out.length co (fun k => w3.heap.size ≤ k) (fun _ => False) rfl rfl HFX.out.row HFX.out.take (fun x cs hx => hx) (fun _ hk => hk.elim) (fun q hq => Nat.le_trans HFX.out.le hq) HFX.out.below (Nat.le_trans HS3.out HFX.out.le) (by simp; omega) ?_; intro v50 wB ho hb hg_ hat_; obtain ⟨A50, c50, hv50⟩ := Kd.qct ho; rw [List.nil_append] at hv50 ho; rw [HTL.out] at hv50; subst hv50; have HOB := qd.mk ho; have HBB := qd.mk hb; have HKB := qd.mk (HFX.out.after hg_ hat_); have q1B := HQ1.out _ hb; clear ho hb hg_ hat_) | (refine Kd.qcv Kd.string (w0 := w) (W := ((w3.alloc (.cells #[] 9)).alloc (.cells #[.string s] 9)).drew) (Rr := Kd.string.K (((w3.alloc (.cells #[] 9)).alloc (.cells #[.string s] 9)).drew)) base (by rfl) (.tmp 46) (.tmp 49) 205 9 (.string ⟨#[]⟩) 16 rfl Tryd.underlying205 qid rfl (by decide) (by omega) (.slice (some ⟨w3.heap.size, 0, none⟩) 0 0) [] (out.take out.length) (some ak) out.length co (fun k => w3.heap.size ≤ k) (fun _ => False) rfl rfl HFY.out.row HFY.out.take (fun x cs hx => hx) (fun _ hk => hk.elim) (fun q hq => Nat.le_trans HFY.out.le hq) HFY.out.below (Nat.le_trans HS3.out HFY.out.le) (by simp; omega) ?_; intro v50 wB ho hb hg_ hat_; obtain ⟨A50, c50, hv50⟩ := Kd.qct ho; rw [List.nil_append] at hv50 ho; rw [HTL.out] at hv50; subst hv50; have HOB := qd.mk ho; have HBB := qd.mk hb; have HKB := qd.mk (HFY.out.after hg_ hat_); have q1B := HQ1.out _ hb; have HS1 := qd.mk (qnp (fctG hg_ (fctSY HB3.out HS3.out HC3.out (Nat.le_refl out.length) s).1 (by omega))); clear ho hb hg_ hat_) | (refine Kd.qcv Kd.string (w0 := w) (W := ((w3.alloc (.cells #[.string s] 9)).alloc (.cells #[] 9)).drew) (Rr := Kd.string.K (((w3.alloc (.cells #[.string s] 9)).alloc (.cells #[] 9)).drew)) base (by rfl) (.tmp 46) (.tmp 49) 205 9 (.string ⟨#[]⟩) 16 rfl Tryd.underlying205 qid rfl (by decide) (by omega) (.slice (some ⟨(w3.heap.size + 1), 0, none⟩) 0 0) [] (out.take out.length) (some ak) out.length co (fun k => w3.heap.size ≤ k) (fun _ => False) rfl rfl HFZ.out.row HFZ.out.take (fun x cs hx => hx) (fun _ hk => hk.elim) (fun q hq => Nat.le_trans HFZ.out.le hq) HFZ.out.below (Nat.le_trans HS3.out HFZ.out.le) (by simp; omega) ?_; intro v50 wB ho hb hg_ hat_; obtain ⟨A50, c50, hv50⟩ := Kd.qct ho; rw [List.nil_append] at hv50 ho; rw [HTL.out] at hv50; subst hv50; have HOB := qd.mk ho; have HBB := qd.mk hb; have HKB := qd.mk (HFZ.out.after hg_ hat_); have q1B := HQ1.out _ hb; have HS1 := qd.mk (qnp (fctG hg_ (fctSZ HB3.out HS3.out HC3.out (Nat.le_refl out.length) s).1 (by omega))); clear ho hb hg_ hat_) | (refine Kd.qes Kd.string (w0 := w) (W := wB) base (by rfl) (.tmp 50) (.tmp 56) 205 9 (.string ⟨#[]⟩) 16 rfl Tryd.underlying205 qid rfl (by decide) (by omega) (.slice A50 out.length c50) (out.take out.length) s [.string s] (fun k => w3.heap.size ≤ k) (fun _ => False) rfl rfl rfl (fun _ hk => hk.elim) (fun q hq => Nat.le_trans HKB.out.1 hq) HOB.out HBB.out HKB.out.2.1 (by rw [HTL.out]; omega) ?_; intro v57 wC ho hb hg_ hat_; obtain ⟨A57, c57, hv57⟩ := Kd.qct ho; rw [show (out.take out.length ++ [s]).length = out.length + 1 by rw [List.length_append, HTL.out]; rfl] at hv57; subst hv57; have HOC := qd.mk ho; have HBC := qd.mk hb; have HSC := qd.mk (Nat.le_trans HKB.out.2.1 hg_.size); have HSW := qd.mk (Nat.le_trans HKB.out.1 hg_.size); have HDC := qd.mk (drop_C0 (Kd.qbt (qnj HOD3.out (HKB.out.2.2 hg_))).2.2 HLC.out); clear ho hb hg_ hat_) | (refine Kd.qcv Kd.string (w0 := w) (W := wB) (Rr := Kd.string.K wB) base (by rfl) (.tmp 50) (.tmp 56) 205 9 (.string ⟨#[]⟩) 16 rfl Tryd.underlying205 qid rfl (by decide) (by omega) (.slice A50 out.length c50) (out.take out.length) [s] (some ⟨w3.heap.size + 1, 0, none⟩) 1 1 (fun k => w3.heap.size ≤ k) (fun _ => False) rfl rfl HOB.out HS1.out (fun x cs hx => hx) (fun _ hk => hk.elim) (fun q hq => Nat.le_trans HKB.out.1 hq) HBB.out HKB.out.2.1 (by rw [HTL.out]; omega) ?_; intro v57 wC ho hb hg_ hat_; obtain ⟨A57, c57, hv57⟩ := Kd.qct ho; rw [show (out.take out.length ++ [s]).length = out.length + 1 by rw [List.length_append, HTL.out]; rfl] at hv57; subst hv57; have HOC := qd.mk ho; have HBC := qd.mk hb; have HSC := qd.mk (Nat.le_trans HKB.out.2.1 hg_.size); have HSW := qd.mk (Nat.le_trans HKB.out.1 hg_.size); have HDC := qd.mk (drop_C0 (Kd.qbt (qnj HOD3.out (HKB.out.2.2 hg_))).2.2 HLC.out); clear ho hb hg_ hat_) | (refine Kd.qcv Kd.string (w0 := w) (W := wB) (Rr := Kd.string.K wB) base (by rfl) (.tmp 50) (.tmp 56) 205 9 (.string ⟨#[]⟩) 16 rfl Tryd.underlying205 qid rfl (by decide) (by omega) (.slice A50 out.length c50) (out.take out.length) [s] (some ⟨w3.heap.size, 0, none⟩) 1 1 (fun k => w3.heap.size ≤ k) (fun _ => False) rfl rfl HOB.out HS1.out (fun x cs hx => hx) (fun _ hk => hk.elim) (fun q hq => Nat.le_trans HKB.out.1 hq) HBB.out HKB.out.2.1 (by rw [HTL.out]; omega) ?_; intro v57 wC ho hb hg_ hat_; obtain ⟨A57, c57, hv57⟩ := Kd.qct ho; rw [show (out.take out.length ++ [s]).length = out.length + 1 by rw [List.length_append, HTL.out]; rfl] at hv57; subst hv57; have HOC := qd.mk ho; have HBC := qd.mk hb; have HSC := qd.mk (Nat.le_trans HKB.out.2.1 hg_.size); have HSW := qd.mk (Nat.le_trans HKB.out.1 hg_.size); have HDC := qd.mk (drop_C0 (Kd.qbt (qnj HOD3.out (HKB.out.2.2 hg_))).2.2 HLC.out); clear ho hb hg_ hat_) | (refine Kd.qcv Kd.string (w0 := w) (W := wC) (Rr := Kd.string.K wC) base (by rfl) (.tmp 57) (.tmp 60) 205 9 (.string ⟨#[]⟩) 16 rfl Tryd.underlying205 qid rfl (by decide) (by omega) (.slice A57 (out.length + 1) c57) (out.take out.length ++ [s]) (out.drop out.length) (if co = out.length then some ak else some (ak.add out.length)) 0 (co - out.length) (fun k => w3.heap.size ≤ k) (fun _ => False) rfl rfl HOC.out HDC.out (fun x cs hx => hx) (fun _ hk => hk.elim) (fun q hq => Nat.le_trans HSW.out hq) HBC.out HSC.out (by rw [List.length_append, HTL.out]; simp; omega) ?_; intro v61 wD ho hb hg_ hat_; obtain ⟨A61, c61, hv61⟩ := Kd.qct ho; subst hv61; have HOE := qd.mk ho; have HBE := qd.mk hb; have HSE := qd.mk (Nat.le_trans HSC.out hg_.size); clear ho hb hg_ hat_))
   all_goals
    go_wp2
    go_roundw
    case rel =>
     refine ⟨i + 1, by omega, by go_num, ⟨?_⟩, HBE, HSE⟩
     rw [qhw HXI.out, HOUT.out, HSX.out, (qmj s out out.length (Nat.le_refl _) HLT.out).1 rfl]
     have ho := HOE.out
     rw [List.take_length, List.drop_length, List.append_nil, show (out ++ [s]).length = out.length + 1 by simp] at ho
     exact Kd.qdt ho (fun _ _ => trivial)
    case measure => simp [intOf]; omega
  | none =>
   obtain ⟨rfl, rfl⟩ := R_none HO.out
   go_wp2
   go_quiet (fail)
   go_wp2
   go_quiet (fail)
   go_upto_region 9 with (fail)
   refine qdj (P := fun x => Code.wp _ _ _ _ x) _ ?_
   intro w3 hw3
   have HOD3 := qd.mk (show Kd.string.R 9 w3 base (fun _ => True) (.slice none 0 0) [] from by rw [hw3]; exact Kd.qhj HO.out (fun _ _ _ => rfl))
   have HB3 := qd.mk (show Below base w w3 from by rw [hw3]; exact qbn (qbn (qbn HB.out _) _) _)
   have HS3 := qd.mk (show base ≤ w3.heap.size from by rw [hw3]; exact HS.out)
   clear hw3 q1 q1d
   have HKC := qd.mk (show 0 ≤ 0 from Nat.le_refl 0)
   have hkc : (0 : Int) ≤ (0 : Int) := Int.le_refl _
   have hkc2 : decide (0 ≤ 0) = true := decide_eq_true HKC.out
   have hlc : (0 : Int) ≤ (0 : Int) := Int.le_refl _
   have p9 : (0 : Int) ≤ (0 : Int) := by omega
   have p8 : (0 : Int) ≤ (0 : Int) := by omega
   have q1 := HQ1.out _ HB3.out
   have hbq : (ad.add (i * 7)).block < w3.heap.size := World.block_lt_of_cell? w3 ⟨(ad.add (i * 7)).block, (ad.add (i * 7)).off + 1, none⟩ q1
   have HLC := qd.mk (Kd.qbt HO.out).2.1
   have HTL := qd.mk (show (([] : List ByteArray).take 0).length = 0 by rw [List.length_take]; omega)
   have HC3 := qd.mk (Kd.qbt HOD3.out).2.2
   have HFX := qd.mk (show Fct w3 w base none [] 0 s ((w3.alloc (.cells #[] 9)).drew) w3.heap.size from fctX HB3.out HS3.out HC3.out (Nat.le_refl _))
   have HFY := qd.mk (show Fct w3 w base none [] 0 s (((w3.alloc (.cells #[] 9)).alloc (.cells #[.string s] 9)).drew) w3.heap.size from fctY HB3.out HS3.out HC3.out (Nat.le_refl _))
   have HFZ := qd.mk (show Fct w3 w base none [] 0 s (((w3.alloc (.cells #[.string s] 9)).alloc (.cells #[] 9)).drew) (w3.heap.size + 1) from fctZ HB3.out HS3.out HC3.out (Nat.le_refl _))
   go_region_law (first | (refine Kd.qes Kd.string (w0 := w) (W := (w3.alloc (.cells #[] 9)).drew) base (by rfl) (.tmp 50) (.tmp 56) 205 9 (.string ⟨#[]⟩) 16 rfl Tryd.underlying205 qid rfl (by decide) (by omega) (.slice (some ⟨w3.heap.size, 0, none⟩) 0 0) [] s [.string s] (fun k => w3.heap.size ≤ k) (fun _ => False) rfl rfl rfl (fun _ hk => hk.elim) (fun q hq => Nat.le_trans HFX.out.le hq) HFX.out.row HFX.out.below (Nat.le_trans HS3.out HFX.out.le) (by simp) ?_; intro v57 wC ho hb hg_ hat_; obtain ⟨A57, c57, hv57⟩ := Kd.qct ho; rw [List.nil_append] at hv57 ho; subst hv57; have HOC := qd.mk ho; have HBC := qd.mk hb; have HSC := qd.mk (Nat.le_trans (Nat.le_trans HS3.out HFX.out.le) hg_.size); have HSW := qd.mk (Nat.le_trans HFX.out.le hg_.size); clear ho hb hg_ hat_) | (refine Kd.qcv Kd.string (w0 := w) (W := ((w3.alloc (.cells #[] 9)).alloc (.cells #[.string s] 9)).drew) (Rr := Kd.string.K (((w3.alloc (.cells #[] 9)).alloc (.cells #[.string s] 9)).drew)) base (by rfl) (.tmp 50) (.tmp 56) 205 9 (.string ⟨#[]⟩) 16 rfl Tryd.underlying205 qid rfl (by decide) (by omega) (.slice (some ⟨w3.heap.size, 0, none⟩) 0 0) [] [s] (some ⟨w3.heap.size + 1, 0, none⟩) 1 1 (fun k => w3.heap.size ≤ k) (fun _ => False) rfl rfl HFY.out.row (qnp (fctSY HB3.out HS3.out HC3.out (Nat.le_refl _) s).1) (fun x cs hx => hx) (fun _ hk => hk.elim) (fun q hq => Nat.le_trans HFY.out.le hq) HFY.out.below (Nat.le_trans HS3.out HFY.out.le) (by simp) ?_; intro v57 wC ho hb hg_ hat_; obtain ⟨A57, c57, hv57⟩ := Kd.qct ho; rw [List.nil_append] at hv57 ho; subst hv57; have HOC := qd.mk ho; have HBC := qd.mk hb; have HSC := qd.mk (Nat.le_trans (Nat.le_trans HS3.out HFY.out.le) hg_.size); have HSW := qd.mk (Nat.le_trans HFY.out.le hg_.size); clear ho hb hg_ hat_) | (refine Kd.qcv Kd.string (w0 := w) (W := ((w3.alloc (.cells #[.string s] 9)).alloc (.cells #[] 9)).drew) (Rr := Kd.string.K (((w3.alloc (.cells #[.string s] 9)).alloc (.cells #[] 9)).drew)) base (by rfl) (.tmp 50) (.tmp 56) 205 9 (.string ⟨#[]⟩) 16 rfl Tryd.underlying205 qid rfl (by decide) (by omega) (.slice (some ⟨w3.heap.size + 1, 0, none⟩) 0 0) [] [s] (some ⟨w3.heap.size, 0, none⟩) 1 1 (fun k => w3.heap.size ≤ k) (fun _ => False) rfl rfl HFZ.out.row (qnp (fctSZ HB3.out HS3.out HC3.out (Nat.le_refl _) s).1) (fun x cs hx => hx) (fun _ hk => hk.elim) (fun q hq => Nat.le_trans HFZ.out.le hq) HFZ.out.below (Nat.le_trans HS3.out HFZ.out.le) (by simp) ?_; intro v57 wC ho hb hg_ hat_; obtain ⟨A57, c57, hv57⟩ := Kd.qct ho; rw [List.nil_append] at hv57 ho; subst hv57; have HOC := qd.mk ho; have HBC := qd.mk hb; have HSC := qd.mk (Nat.le_trans (Nat.le_trans HS3.out HFZ.out.le) hg_.size); have HSW := qd.mk (Nat.le_trans HFZ.out.le hg_.size); clear ho hb hg_ hat_) | (refine Kd.qcv Kd.string (w0 := w) (W := wC) (Rr := Kd.string.K wC) base (by rfl) (.tmp 57) (.tmp 60) 205 9 (.string ⟨#[]⟩) 16 rfl Tryd.underlying205 qid rfl (by decide) (by omega) (.slice A57 1 c57) [s] [] none 0 0 (fun k => w3.heap.size ≤ k) (fun _ => False) rfl rfl HOC.out (nil_C wC) (fun x cs hx => hx) (fun _ hk => hk.elim) (fun q hq => Nat.le_trans HSW.out hq) HBC.out HSC.out (by simp) ?_; intro v61 wD ho hb hg_ hat_; obtain ⟨A61, c61, hv61⟩ := Kd.qct ho; rw [List.append_nil] at hv61 ho; subst hv61; have HOE := qd.mk ho; have HBE := qd.mk hb; have HSE := qd.mk (Nat.le_trans HSC.out hg_.size); clear ho hb hg_ hat_))
   all_goals
    go_wp2
    go_roundw
    case rel =>
     refine ⟨i + 1, by omega, by go_num, ⟨?_⟩, (by first | exact HBE | exact HBC), (by first | exact HSE | exact HSC)⟩
     rw [qhw HXI.out, HOUT.out, HSX.out, (qmj s [] 0 (Nat.le_refl _) HLT.out).1 rfl, List.nil_append]
     first | exact Kd.qdt HOE.out (fun _ _ => trivial) | exact Kd.qdt HOC.out (fun _ _ => trivial)
    case measure => simp [intOf]; omega
 have d4 : decide ((k : Int) < (out.length : Int)) = true := decide_eq_true (by omega)
 have d5 : decide (k < out.length) = true := decide_eq_true hkl
 have p2 : (0 : Int) ≤ (k : Int) := by omega
 have p3 : (k : Int) < (out.length : Int) := by omega
 obtain ⟨ak, e, qk⟩ := Kd.qfv (Kd.qbt HO.out).2.2 (k : Int) (by omega) (by omega)
 subst e
 rw [Int.toNat_natCast, show rdOf ByteArray.empty out (k : Int) = out[k] by simp [rdOf, hkl]] at qk
 obtain ⟨o, ho⟩ : ∃ o, out[k] = o := ⟨_, rfl⟩
 rw [ho] at qk
 have HOK := qd.mk ho
 obtain ⟨b, hb⟩ : ∃ b, Op.bytesLess o.toList s.toList = b := ⟨_, rfl⟩
 have HBL := qd.mk hb
 clear ho
 cases b
 ·go_wp2
  go_quiet (fail)
  have dkn : ((k : Int) == (out.length : Int)) = false := beq_eq_false_iff_ne.mpr (by omega)
  have dkn2 : (k == out.length) = false := beq_eq_false_iff_ne.mpr (by omega)
  by_cases hos : o = s
  ·have dos : (o.toList == s.toList) = true := by rw [hos]; simp
   have HEQ := qd.mk hos
   clear hos
   go_wp2
   go_quiet (fail)
   go_wp2
   go_roundw
   case rel =>
    refine ⟨i + 1, by omega, by go_num, ⟨?_⟩, ⟨qbn HB.out _⟩, ⟨HS.out⟩⟩
    rw [qhw HXI.out, HOUT.out, HSX.out, (qmj s out k hk HLT.out).2 hkl (by rw [HOK.out]; exact HBL.out), if_pos (HOK.out.trans HEQ.out)]
    exact Kd.qhj HO.out (fun _ _ _ => rfl)
   case measure => simp [intOf]; omega
  have dos : (o.toList == s.toList) = false := beq_eq_false_iff_ne.mpr (fun e => hos (ByteArray.ext (Array.ext' (by rw [← ByteArray.toList_eq o, ← ByteArray.toList_eq s]; exact e))))
  have HEQ := qd.mk hos
  clear hos
  go_wp2
  go_quiet (fail)
  go_upto_region 9 with (fail)
  refine qdj (P := fun x => Code.wp _ _ _ _ x) _ ?_
  intro w3 hw3
  have HOD3 := qd.mk (show Kd.string.R 9 w3 base (fun _ => True) (.slice (some ak) out.length co) out from by rw [hw3]; exact Kd.qhj HO.out (fun _ _ _ => rfl))
  have HB3 := qd.mk (show Below base w w3 from by rw [hw3]; exact qbn (qbn (qbn HB.out _) _) _)
  have HS3 := qd.mk (show base ≤ w3.heap.size from by rw [hw3]; exact HS.out)
  clear hw3 q1 q1d qk
  have HKC := qd.mk (show k ≤ co from Nat.le_trans hk (Kd.qbt HO.out).2.1)
  have hkc : (k : Int) ≤ (co : Int) := by have := HKC.out; omega
  have hkc2 : decide (k ≤ co) = true := decide_eq_true HKC.out
  have hlc : (out.length : Int) ≤ (co : Int) := by have := (Kd.qbt HO.out).2.1; omega
  have p9 : (0 : Int) ≤ (k : Int) := by omega
  have p8 : (k : Int) ≤ (out.length : Int) := by omega
  have q1 := HQ1.out _ HB3.out
  have hbq : (ad.add (i * 7)).block < w3.heap.size := World.block_lt_of_cell? w3 ⟨(ad.add (i * 7)).block, (ad.add (i * 7)).off + 1, none⟩ q1
  have HLC := qd.mk (Kd.qbt HO.out).2.1
  have HTL := qd.mk (show (out.take k).length = k by rw [List.length_take]; omega)
  have HC3 := qd.mk (Kd.qbt HOD3.out).2.2
  have HFX := qd.mk (show Fct w3 w base (some ak) out k s ((w3.alloc (.cells #[] 9)).drew) w3.heap.size from fctX HB3.out HS3.out HC3.out hk)
  have HFY := qd.mk (show Fct w3 w base (some ak) out k s (((w3.alloc (.cells #[] 9)).alloc (.cells #[.string s] 9)).drew) w3.heap.size from fctY HB3.out HS3.out HC3.out hk)
  have HFZ := qd.mk (show Fct w3 w base (some ak) out k s (((w3.alloc (.cells #[.string s] 9)).alloc (.cells #[] 9)).drew) (w3.heap.size + 1) from fctZ HB3.out HS3.out HC3.out hk)
  go_region_law (first | (refine Kd.qcv Kd.string (w0 := w) (W := (w3.alloc (.cells #[] 9)).drew) (Rr := Kd.string.K ((w3.alloc (.cells #[] 9)).drew)) base (by rfl) (.tmp 46) (.tmp 49) 205 9 (.string ⟨#[]⟩) 16 rfl Tryd.underlying205 qid rfl (by decide) (by omega) (.slice (some ⟨w3.heap.size, 0, none⟩) 0 0) [] (out.take k) (some ak) k co (fun k => w3.heap.size ≤ k) (fun _ => False) rfl rfl HFX.out.row HFX.out.take (fun x cs hx => hx) (fun _ hk => hk.elim) (fun q hq => Nat.le_trans HFX.out.le hq) HFX.out.below (Nat.le_trans HS3.out HFX.out.le) (by simp; omega) ?_; intro v50 wB ho hb hg_ hat_; obtain ⟨A50, c50, hv50⟩ := Kd.qct ho; rw [List.nil_append] at hv50 ho; rw [HTL.out] at hv50; subst hv50; have HOB := qd.mk ho; have HBB := qd.mk hb; have HKB := qd.mk (HFX.out.after hg_ hat_); have q1B := HQ1.out _ hb; clear ho hb hg_ hat_) | (refine Kd.qcv Kd.string (w0 := w) (W := ((w3.alloc (.cells #[] 9)).alloc (.cells #[.string s] 9)).drew) (Rr := Kd.string.K (((w3.alloc (.cells #[] 9)).alloc (.cells #[.string s] 9)).drew)) base (by rfl) (.tmp 46) (.tmp 49) 205 9 (.string ⟨#[]⟩) 16 rfl Tryd.underlying205 qid rfl (by decide) (by omega) (.slice (some ⟨w3.heap.size, 0, none⟩) 0 0) [] (out.take k) (some ak) k co (fun k => w3.heap.size ≤ k) (fun _ => False) rfl rfl HFY.out.row HFY.out.take (fun x cs hx => hx) (fun _ hk => hk.elim) (fun q hq => Nat.le_trans HFY.out.le hq) HFY.out.below (Nat.le_trans HS3.out HFY.out.le) (by simp; omega) ?_; intro v50 wB ho hb hg_ hat_; obtain ⟨A50, c50, hv50⟩ := Kd.qct ho; rw [List.nil_append] at hv50 ho; rw [HTL.out] at hv50; subst hv50; have HOB := qd.mk ho; have HBB := qd.mk hb; have HKB := qd.mk (HFY.out.after hg_ hat_); have q1B := HQ1.out _ hb; have HS1 := qd.mk (qnp (fctG hg_ (fctSY HB3.out HS3.out HC3.out hk s).1 (by omega))); clear ho hb hg_ hat_) | (refine Kd.qcv Kd.string (w0 := w) (W := ((w3.alloc (.cells #[.string s] 9)).alloc (.cells #[] 9)).drew) (Rr := Kd.string.K (((w3.alloc (.cells #[.string s] 9)).alloc (.cells #[] 9)).drew)) base (by rfl) (.tmp 46) (.tmp 49) 205 9 (.string ⟨#[]⟩) 16 rfl Tryd.underlying205 qid rfl (by decide) (by omega) (.slice (some ⟨(w3.heap.size + 1), 0, none⟩) 0 0) [] (out.take k) (some ak) k co (fun k => w3.heap.size ≤ k) (fun _ => False) rfl rfl HFZ.out.row HFZ.out.take (fun x cs hx => hx) (fun _ hk => hk.elim) (fun q hq => Nat.le_trans HFZ.out.le hq) HFZ.out.below (Nat.le_trans HS3.out HFZ.out.le) (by simp; omega) ?_; intro v50 wB ho hb hg_ hat_; obtain ⟨A50, c50, hv50⟩ := Kd.qct ho; rw [List.nil_append] at hv50 ho; rw [HTL.out] at hv50; subst hv50; have HOB := qd.mk ho; have HBB := qd.mk hb; have HKB := qd.mk (HFZ.out.after hg_ hat_); have q1B := HQ1.out _ hb; have HS1 := qd.mk (qnp (fctG hg_ (fctSZ HB3.out HS3.out HC3.out hk s).1 (by omega))); clear ho hb hg_ hat_) | (refine Kd.qes Kd.string (w0 := w) (W := wB) base (by rfl) (.tmp 50) (.tmp 56) 205 9 (.string ⟨#[]⟩) 16 rfl Tryd.underlying205 qid rfl (by decide) (by omega) (.slice A50 k c50) (out.take k) s [.string s] (fun k => w3.heap.size ≤ k) (fun _ => False) rfl rfl rfl (fun _ hk => hk.elim) (fun q hq => Nat.le_trans HKB.out.1 hq) HOB.out HBB.out HKB.out.2.1 (by rw [HTL.out]; omega) ?_; intro v57 wC ho hb hg_ hat_; obtain ⟨A57, c57, hv57⟩ := Kd.qct ho; rw [show (out.take k ++ [s]).length = k + 1 by rw [List.length_append, HTL.out]; rfl] at hv57; subst hv57; have HOC := qd.mk ho; have HBC := qd.mk hb; have HSC := qd.mk (Nat.le_trans HKB.out.2.1 hg_.size); have HSW := qd.mk (Nat.le_trans HKB.out.1 hg_.size); have HDC := qd.mk (drop_C (Kd.qbt (qnj HOD3.out (HKB.out.2.2 hg_))).2.2 hk HLC.out); clear ho hb hg_ hat_) | (refine Kd.qcv Kd.string (w0 := w) (W := wB) (Rr := Kd.string.K wB) base (by rfl) (.tmp 50) (.tmp 56) 205 9 (.string ⟨#[]⟩) 16 rfl Tryd.underlying205 qid rfl (by decide) (by omega) (.slice A50 k c50) (out.take k) [s] (some ⟨w3.heap.size + 1, 0, none⟩) 1 1 (fun k => w3.heap.size ≤ k) (fun _ => False) rfl rfl HOB.out HS1.out (fun x cs hx => hx) (fun _ hk => hk.elim) (fun q hq => Nat.le_trans HKB.out.1 hq) HBB.out HKB.out.2.1 (by rw [HTL.out]; omega) ?_; intro v57 wC ho hb hg_ hat_; obtain ⟨A57, c57, hv57⟩ := Kd.qct ho; rw [show (out.take k ++ [s]).length = k + 1 by rw [List.length_append, HTL.out]; rfl] at hv57; subst hv57; have HOC := qd.mk ho; have HBC := qd.mk hb; have HSC := qd.mk (Nat.le_trans HKB.out.2.1 hg_.size); have HSW := qd.mk (Nat.le_trans HKB.out.1 hg_.size); have HDC := qd.mk (drop_C (Kd.qbt (qnj HOD3.out (HKB.out.2.2 hg_))).2.2 hk HLC.out); clear ho hb hg_ hat_) | (refine Kd.qcv Kd.string (w0 := w) (W := wB) (Rr := Kd.string.K wB) base (by rfl) (.tmp 50) (.tmp 56) 205 9 (.string ⟨#[]⟩) 16 rfl Tryd.underlying205 qid rfl (by decide) (by omega) (.slice A50 k c50) (out.take k) [s] (some ⟨w3.heap.size, 0, none⟩) 1 1 (fun k => w3.heap.size ≤ k) (fun _ => False) rfl rfl HOB.out HS1.out (fun x cs hx => hx) (fun _ hk => hk.elim) (fun q hq => Nat.le_trans HKB.out.1 hq) HBB.out HKB.out.2.1 (by rw [HTL.out]; omega) ?_; intro v57 wC ho hb hg_ hat_; obtain ⟨A57, c57, hv57⟩ := Kd.qct ho; rw [show (out.take k ++ [s]).length = k + 1 by rw [List.length_append, HTL.out]; rfl] at hv57; subst hv57; have HOC := qd.mk ho; have HBC := qd.mk hb; have HSC := qd.mk (Nat.le_trans HKB.out.2.1 hg_.size); have HSW := qd.mk (Nat.le_trans HKB.out.1 hg_.size); have HDC := qd.mk (drop_C (Kd.qbt (qnj HOD3.out (HKB.out.2.2 hg_))).2.2 hk HLC.out); clear ho hb hg_ hat_) | (refine Kd.qcv Kd.string (w0 := w) (W := wC) (Rr := Kd.string.K wC) base (by rfl) (.tmp 57) (.tmp 60) 205 9 (.string ⟨#[]⟩) 16 rfl Tryd.underlying205 qid rfl (by decide) (by omega) (.slice A57 (k + 1) c57) (out.take k ++ [s]) (out.drop k) (if co = k then some ak else some (ak.add k)) (out.length - k) (co - k) (fun k => w3.heap.size ≤ k) (fun _ => False) rfl rfl HOC.out HDC.out (fun x cs hx => hx) (fun _ hk => hk.elim) (fun q hq => Nat.le_trans HSW.out hq) HBC.out HSC.out (by rw [List.length_append, HTL.out]; simp; omega) ?_; intro v61 wD ho hb hg_ hat_; obtain ⟨A61, c61, hv61⟩ := Kd.qct ho; subst hv61; have HOE := qd.mk ho; have HBE := qd.mk hb; have HSE := qd.mk (Nat.le_trans HSC.out hg_.size); clear ho hb hg_ hat_))
  all_goals
   go_wp2
   go_roundw
   case rel =>
    refine ⟨i + 1, by omega, by go_num, ⟨?_⟩, HBE, HSE⟩
    rw [qhw HXI.out, HOUT.out, HSX.out, (qmj s out k hk HLT.out).2 hkl (by rw [HOK.out]; exact HBL.out), if_neg (fun e => HEQ.out (HOK.out.symm.trans e))]
    have ho := HOE.out
    rw [show (out.take k ++ [s] ++ out.drop k).length = k + (out.length - k + 1) by simp; omega] at ho
    exact Kd.qdt ho (fun _ _ => trivial)
   case measure => simp [intOf]; omega
 ·have hrel2 : ∀ j (h : j < out.length), j < k + 1 → ltB out[j] s = true := by
   intro j h hj
   by_cases e : j = k
   ·subst e
    rw [HOK.out]
    exact HBL.out
   exact HLT.out j h (by omega)
  have HREL := qd.mk hrel2
  clear hrel2
  go_wp2
  go_quiet (fail)
  go_wp2
  go_roundw
  case rel => exact ⟨k + 1, by omega, by go_num, ⟨⟨_, rfl⟩⟩, HREL⟩
  case measure => simp [intOf]; omega
end
section
open Go.Sort
def qdh.f (l0 : List S109) : Option (List ByteArray) := if l0.length ≤ 1000000 then some (curK l0) else none
theorem qdh.calls (A0 : Option Addr) (c0 : Nat) (l0 : List (S109)) (r : List ByteArray) (w : World) (hr0 : Kd.C k109 w A0 l0.length l0) (hc0 : l0.length ≤ c0) (h : qdh.f l0 = some r) :
  Calls Tryd.prog 143 #[.slice A0 l0.length c0] w fun e w' => ∃ v0_ : Value, e = .returned (v0_) ∧ Kd.R Kd.string 9 w' w.heap.size (fun _ => True) v0_ r ∧ Below w.heap.size w w' := by
 unfold qdh.f at h
 split at h
 ·rename_i hl
  obtain rfl := Option.some.inj h
  exact qlb A0 c0 l0 w hr0 hc0 hl
 ·cases h
end
section
attribute [local go_sem] qfp qfn qgk qgj qex qew qfo qfm
def qbr.l0 : Nat → List (S109) → List ByteArray → Int → Option (Bool)
 | 0, _, _, _ => none
 | k + 1, x0, x3, x4 => if x4 < (x3.length : Int) then (if 0 ≤ x4 then ((qby.f k x0 (rdOf ByteArray.empty x3 x4)).bind fun bt221 => (if bt221.2.2 = true then (if bt221.1 = 0 then (if bt221.2.1 = 0 then (qbr.l0 k x0 x3 (wrap64 (x4 + 1))) else (some false)) else (some false)) else (some false))) else (none)) else (some true)
def qbr.f (k : Nat) (l0 : List (S109)) : Option (Bool) := (qdh.f l0).bind fun t217 => (qbr.l0 k l0 t217 0)
set_option maxRecDepth 100000 in
theorem qbr.calls (k : Nat) (A0 : Option Addr) (c0 : Nat) (l0 : List (S109)) (r : Bool) (w : World) (hr0 : Kd.C k109 w A0 l0.length l0) (hc0 : l0.length ≤ c0) (h : qbr.f k l0 = some r) :
  Calls Tryd.prog 102 #[.slice A0 l0.length c0] w fun e w' => e = .returned (.bool r) ∧ Below w.heap.size w w' := by
 have HR0 := qd.mk hr0
 have HC0 := qd.mk hc0
 clear hr0 hc0
 have HB := qd.mk (Below.refl w.heap.size w)
 have H : ((qdh.f l0).bind fun t217 => (qbr.l0 k l0 t217 0)) = some r := h
 clear h
 replace H := Option.bind_eq_some_iff.mp H
 obtain ⟨t217, A20, H⟩ := H
 replace H : (qbr.l0 k l0 t217 0) = some r := H
 have A2 := qd.mk A20
 clear A20
 have H' := qd.mk H
 clear H
 go_enter Tryd.func102, Tryd.ntmps102
 go_wp2_with (first | ((with_reducible refine qbf (f := 143) rfl ?_); refine qcp (some 9) rfl rfl Tryd.func143 (by kernel_rfl) rfl #[.slice A0 l0.length c0] rfl ml_ ?_; (with_reducible refine (qdh.calls _ _ l0 t217 _ ?side1 ?side2 A2.out).mono ?_); (case side1 => repeat (first | exact HR0.out | (with_reducible refine Kd.qck ?_ _) | (with_reducible refine Kd.qcf ?_ _) | (with_reducible refine Kd.qcz ?_))); (case side2 => exact HC0.out); rintro e w3 ⟨v218, rfl, ho0, hb⟩; refine ⟨_, rfl, ?_⟩; have n0_ := qd.mk (Kd.qec ho0 (qcm (bw_))); have n1_ := qd.mk (qw (bw_) hb); clear HB; have HO219 := n0_; have HB := n1_; clear n0_ n1_; (try clear hb); (try clear hb2); (try clear hk); (try clear hi); (try clear ho0)))
 go_loopg [4] k (fun kq v4 w' => ∃ (x4_1 : Int), v4 = .int .i64 x4_1 ∧ qd (qbr.l0 kq l0 t217 x4_1 = some r) ∧ qd (kq ≤ k) ∧ qd (Kd.R Kd.string 9 w' w.heap.size (fun _ => True) v218 t217) ∧ qd (Below w.heap.size w w'))
 case atStart => exact ⟨(0), sm_, H', ⟨Nat.le_refl _⟩, ⟨by (with_reducible repeat (first | apply Kd.R_alloc | apply Kd.qbj | apply Kd.qbl)); exact HO219.out⟩, ⟨bw_⟩⟩
 case round =>
  clear H'
  try clear c1
  try clear p2
  obtain ⟨x4_1, rfl, HA, HK1, HO_3, HB⟩ := hrel
  cases gk with
  | zero => exact absurd HA.out (by simp [qbr.l0])
  | succ k1 =>
   have H := HA.out
   clear HA
   simp only [qbr.l0] at H
   by_cases c4 : x4_1 < (t217.length : Int)
   ·rw [if_pos c4] at H
    have c4b0 : decide (x4_1 < (t217.length : Int)) = true := decide_eq_true c4
    clear c4
    by_cases c5 : 0 ≤ x4_1
    rotate_left
    ·rw [if_neg c5] at H
     exact absurd H (by simp)
    rw [if_pos c5] at H
    have c5b0 : decide (0 ≤ x4_1) = true := decide_eq_true c5
    clear c5
    replace H := Option.bind_eq_some_iff.mp H
    obtain ⟨⟨t221, t222, t223⟩, A60, H⟩ := H
    try dsimp only at H
    have A6 := qd.mk A60
    clear A60
    by_cases c7 : t223 = true
    rotate_left
    ·replace c7 := Bool.eq_false_iff.mpr c7
     subst c7
     have H1 : (some false) = some r := by rw [if_neg (show ¬ (false = true) by decide)] at H; exact H
     clear H
     have H := H1
     clear H1
     obtain rfl := Option.some.inj H
     obtain ⟨Ao16, co16, eo16⟩ := Kd.qct HO_3.out
     subst eo16
     have p220 : 0 ≤ (x4_1 : Int) := odt_
     have q220 : x4_1 < (t217.length : Int) := odt_
     obtain ⟨ad220, e220, hx220_0⟩ := Kd.qfv (Kd.qbt HO_3.out).2.2 x4_1 p220 q220
     cases e220
     replace p220 := eq_true p220
     replace q220 := eq_true q220
     go_wp2_with (first | ((with_reducible refine qbf (f := 144) rfl ?_); refine qcp (some 22) rfl rfl Tryd.func144 (by kernel_rfl) rfl #[.slice A0 l0.length c0, .string (rdOf ByteArray.empty t217 x4_1)] rfl ml_ ?_; (with_reducible refine (qby.calls k1 _ _ l0 (rdOf ByteArray.empty t217 x4_1) t221 t222 false _ ?side1 ?side2 A6.out).mono ?_); (case side1 => repeat (first | exact (Kd.qbw HR0.out HB.out) | exact (Kd.qcf (Kd.qbw HR0.out HB.out) _) | (with_reducible refine Kd.qck ?_ _) | (with_reducible refine Kd.qcf ?_ _) | (with_reducible refine Kd.qcz ?_))); (case side2 => exact HC0.out); rintro e w17 ⟨rfl, hb⟩; refine ⟨_, rfl, ?_⟩; have n0_ := qd.mk (Kd.qdw (by (with_reducible repeat (first | apply Kd.R_alloc | apply Kd.qbj | apply Kd.qbl)); exact HO_3.out) hb); have n1_ := qd.mk (qw (bw_) hb); clear HO_3; clear HB; have HO_3 := n0_; have HB := n1_; clear n0_ n1_; (try clear hb); (try clear hb2); (try clear hk); (try clear hi)))
     go_ret
     exact ⟨ew_, bw_⟩
    subst c7
    have H1 : (if t221 = 0 then (if t222 = 0 then (qbr.l0 k1 l0 t217 (wrap64 (x4_1 + 1))) else (some false)) else (some false)) = some r := by rw [if_pos rfl] at H; exact H
    clear H
    have H := H1
    clear H1
    by_cases c8 : t221 = 0
    rotate_left
    ·rw [if_neg c8] at H
     have c8b0 : (t221 == 0) = false := beq_eq_false_iff_ne.mpr c8
     have c8b1 : (t221 != 0) = true := bne_iff_ne.mpr c8
     obtain rfl := Option.some.inj H
     obtain ⟨Ao14, co14, eo14⟩ := Kd.qct HO_3.out
     subst eo14
     have p220 : 0 ≤ (x4_1 : Int) := odt_
     have q220 : x4_1 < (t217.length : Int) := odt_
     obtain ⟨ad220, e220, hx220_0⟩ := Kd.qfv (Kd.qbt HO_3.out).2.2 x4_1 p220 q220
     cases e220
     replace p220 := eq_true p220
     replace q220 := eq_true q220
     go_wp2_with (first | ((with_reducible refine qbf (f := 144) rfl ?_); refine qcp (some 22) rfl rfl Tryd.func144 (by kernel_rfl) rfl #[.slice A0 l0.length c0, .string (rdOf ByteArray.empty t217 x4_1)] rfl ml_ ?_; (with_reducible refine (qby.calls k1 _ _ l0 (rdOf ByteArray.empty t217 x4_1) t221 t222 true _ ?side1 ?side2 A6.out).mono ?_); (case side1 => repeat (first | exact (Kd.qbw HR0.out HB.out) | exact (Kd.qcf (Kd.qbw HR0.out HB.out) _) | (with_reducible refine Kd.qck ?_ _) | (with_reducible refine Kd.qcf ?_ _) | (with_reducible refine Kd.qcz ?_))); (case side2 => exact HC0.out); rintro e w15 ⟨rfl, hb⟩; refine ⟨_, rfl, ?_⟩; have n0_ := qd.mk (Kd.qdw (by (with_reducible repeat (first | apply Kd.R_alloc | apply Kd.qbj | apply Kd.qbl)); exact HO_3.out) hb); have n1_ := qd.mk (qw (bw_) hb); clear HO_3; clear HB; have HO_3 := n0_; have HB := n1_; clear n0_ n1_; (try clear hb); (try clear hb2); (try clear hk); (try clear hi)))
     go_ret
     exact ⟨ew_, bw_⟩
    rw [if_pos c8] at H
    have c8b0 : (t221 == 0) = true := beq_iff_eq.mpr c8
    have c8b1 : (t221 != 0) = false := bne_eq_false_iff_eq.mpr c8
    clear c8
    by_cases c9 : t222 = 0
    ·rw [if_pos c9] at H
     have c9b0 : (t222 == 0) = true := beq_iff_eq.mpr c9
     have c9b1 : (t222 != 0) = false := bne_eq_false_iff_eq.mpr c9
     clear c9
     have H' := qd.mk H
     clear H
     obtain ⟨Ao10, co10, eo10⟩ := Kd.qct HO_3.out
     subst eo10
     have p220 : 0 ≤ (x4_1 : Int) := odt_
     have q220 : x4_1 < (t217.length : Int) := odt_
     obtain ⟨ad220, e220, hx220_0⟩ := Kd.qfv (Kd.qbt HO_3.out).2.2 x4_1 p220 q220
     cases e220
     replace p220 := eq_true p220
     replace q220 := eq_true q220
     go_wp2_with (first | ((with_reducible refine qbf (f := 144) rfl ?_); refine qcp (some 22) rfl rfl Tryd.func144 (by kernel_rfl) rfl #[.slice A0 l0.length c0, .string (rdOf ByteArray.empty t217 x4_1)] rfl ml_ ?_; (with_reducible refine (qby.calls k1 _ _ l0 (rdOf ByteArray.empty t217 x4_1) t221 t222 true _ ?side1 ?side2 A6.out).mono ?_); (case side1 => repeat (first | exact (Kd.qbw HR0.out HB.out) | exact (Kd.qcf (Kd.qbw HR0.out HB.out) _) | (with_reducible refine Kd.qck ?_ _) | (with_reducible refine Kd.qcf ?_ _) | (with_reducible refine Kd.qcz ?_))); (case side2 => exact HC0.out); rintro e w11 ⟨rfl, hb⟩; refine ⟨_, rfl, ?_⟩; have n0_ := qd.mk (Kd.qdw (by (with_reducible repeat (first | apply Kd.R_alloc | apply Kd.qbj | apply Kd.qbl)); exact HO_3.out) hb); have n1_ := qd.mk (qw (bw_) hb); clear HO_3; clear HB; have HO_3 := n0_; have HB := n1_; clear n0_ n1_; (try clear hb); (try clear hb2); (try clear hk); (try clear hi)))
     go_roundg k1
     case measure => have := HK1.out; omega
     case rel => exact ⟨(wrap64 (x4_1 + 1)), sm_, H', ⟨by have := HK1.out; omega⟩, ⟨by (with_reducible repeat (first | apply Kd.R_alloc | apply Kd.qbj | apply Kd.qbl)); exact HO_3.out⟩, ⟨bw_⟩⟩
    rw [if_neg c9] at H
    have c9b0 : (t222 == 0) = false := beq_eq_false_iff_ne.mpr c9
    have c9b1 : (t222 != 0) = true := bne_iff_ne.mpr c9
    obtain rfl := Option.some.inj H
    obtain ⟨Ao12, co12, eo12⟩ := Kd.qct HO_3.out
    subst eo12
    have p220 : 0 ≤ (x4_1 : Int) := odt_
    have q220 : x4_1 < (t217.length : Int) := odt_
    obtain ⟨ad220, e220, hx220_0⟩ := Kd.qfv (Kd.qbt HO_3.out).2.2 x4_1 p220 q220
    cases e220
    replace p220 := eq_true p220
    replace q220 := eq_true q220
    go_wp2_with (first | ((with_reducible refine qbf (f := 144) rfl ?_); refine qcp (some 22) rfl rfl Tryd.func144 (by kernel_rfl) rfl #[.slice A0 l0.length c0, .string (rdOf ByteArray.empty t217 x4_1)] rfl ml_ ?_; (with_reducible refine (qby.calls k1 _ _ l0 (rdOf ByteArray.empty t217 x4_1) t221 t222 true _ ?side1 ?side2 A6.out).mono ?_); (case side1 => repeat (first | exact (Kd.qbw HR0.out HB.out) | exact (Kd.qcf (Kd.qbw HR0.out HB.out) _) | (with_reducible refine Kd.qck ?_ _) | (with_reducible refine Kd.qcf ?_ _) | (with_reducible refine Kd.qcz ?_))); (case side2 => exact HC0.out); rintro e w13 ⟨rfl, hb⟩; refine ⟨_, rfl, ?_⟩; have n0_ := qd.mk (Kd.qdw (by (with_reducible repeat (first | apply Kd.R_alloc | apply Kd.qbj | apply Kd.qbl)); exact HO_3.out) hb); have n1_ := qd.mk (qw (bw_) hb); clear HO_3; clear HB; have HO_3 := n0_; have HB := n1_; clear n0_ n1_; (try clear hb); (try clear hb2); (try clear hk); (try clear hi)))
    go_ret
    exact ⟨ew_, bw_⟩
   ·rw [if_neg c4] at H
    have c4b0 : decide (x4_1 < (t217.length : Int)) = false := decide_eq_false c4
    clear c4
    obtain rfl := Option.some.inj H
    obtain ⟨Ao18, co18, eo18⟩ := Kd.qct HO_3.out
    subst eo18
    go_wp2
    go_ret
    exact ⟨ew_, bw_⟩
def qcc.l0 : Nat → Int → Int → ByteArray → Int → Int → Int → ByteArray → ByteArray → Int → List (S109) → Option (Int × Int)
 | 0, _, _, _, _, _, _, _, _, _, _ => none
 | k + 1, x5, x225000, x225001, x225002, x225003, x225004, x225005, x225006, x225007, x225008 => if x5 < (x225008.length : Int) then (if 0 ≤ x5 then ((qbb.f k ((ql x225008 x5).f0) ((ql x225008 x5).f1) ((ql x225008 x5).f2) ((ql x225008 x5).f3) ((ql x225008 x5).f4) ((ql x225008 x5).f5) ((ql x225008 x5).f6)).bind fun t227 => (if t227 = 0 then (qcc.l0 k (wrap64 (x5 + 1)) x225000 x225001 x225002 x225003 x225004 x225005 x225006 x225007 x225008) else (some (x5, t227)))) else (none)) else ((qbr.f k x225008).bind fun t228 => (if t228 = true then (some ((-1), 0)) else (some ((-1), 15))))
def qcc.f (k : Nat) (a0_0 : Int) (a0_1 : ByteArray) (a0_2 : Int) (a0_3 : Int) (a0_4 : Int) (a0_5 : ByteArray) (a0_6 : ByteArray) (a0_7 : Int) (l0_8 : List (S109)) : Option (Int × Int) := (qy.f k a0_0 a0_1 a0_2 a0_3 a0_4 a0_5 a0_6 a0_7 l0_8).bind fun t225 => (if t225 = 0 then (qcc.l0 k 0 a0_0 a0_1 a0_2 a0_3 a0_4 a0_5 a0_6 a0_7 l0_8) else (some ((-1), t225)))
set_option maxRecDepth 100000 in
theorem qcc.calls (k : Nat) (a0_0 : Int) (a0_1 : ByteArray) (a0_2 : Int) (a0_3 : Int) (a0_4 : Int) (a0_5 : ByteArray) (a0_6 : ByteArray) (a0_7 : Int) (A0_8 : Option Addr) (c0_8 : Nat) (l0_8 : List (S109)) (r1 : Int) (r2 : Int) (w : World) (hr0_8 : Kd.C k109 w A0_8 l0_8.length l0_8) (hc0_8 : l0_8.length ≤ c0_8) (h : qcc.f k a0_0 a0_1 a0_2 a0_3 a0_4 a0_5 a0_6 a0_7 l0_8 = some (r1, r2)) :
  Calls Tryd.prog 53 #[.agg #[.int .i64 a0_0, .string a0_1, .int .i64 a0_2, .int .i64 a0_3, .int .i64 a0_4, .string a0_5, .string a0_6, .int .i64 a0_7, .slice A0_8 l0_8.length c0_8]] w fun e w' => e = .returned (.tuple #[.int .i64 r1, .int .i64 r2]) ∧ Below w.heap.size w w' := by
 have hu29 := Tryd.underlying29
 have hu109 := Tryd.underlying109
 have HR0_8 := qd.mk hr0_8
 have HC0_8 := qd.mk hc0_8
 clear hr0_8 hc0_8
 have HB := qd.mk (Below.refl w.heap.size w)
 have H : ((qy.f k a0_0 a0_1 a0_2 a0_3 a0_4 a0_5 a0_6 a0_7 l0_8).bind fun t225 => (if t225 = 0 then (qcc.l0 k 0 a0_0 a0_1 a0_2 a0_3 a0_4 a0_5 a0_6 a0_7 l0_8) else (some ((-1), t225)))) = some (r1, r2) := h
 clear h
 replace H := Option.bind_eq_some_iff.mp H
 obtain ⟨t225, A20, H⟩ := H
 try dsimp only at H
 have A2 := qd.mk A20
 clear A20
 by_cases c3 : t225 = 0
 ·rw [if_pos c3] at H
  have c3b0 : (t225 == 0) = true := beq_iff_eq.mpr c3
  have c3b1 : (t225 != 0) = false := bne_eq_false_iff_eq.mpr c3
  clear c3
  have H' := qd.mk H
  clear H
  go_enter Tryd.func53, Tryd.ntmps53
  go_wp2_with (first | ((with_reducible refine qbx (N := 1) rfl ?_); refine qbu ?hg (N := 1) ?hd (cs := #[.int .i64 a0_0, .string a0_1, .int .i64 a0_2, .int .i64 a0_3, .int .i64 a0_4, .string a0_5, .string a0_6, .int .i64 a0_7, .slice A0_8 l0_8.length c0_8]) (t := 29) ?hr ?_; (case hd => rfl); (case hg => rfl); (case hr => first | (go_simp; done) | (go_simp; rfl)); intro gb224 hg w4 hbox hb; have n0_ := qd.mk (qw (bw_) hb); have n1_ := qd.mk (hbox); have n2_ := qd.mk (gw_ (w := w) hg); have n3_ := qd.mk (gw_ (w := w) hg); clear HB; have HB := n0_; have BK224 := n1_; have GW224 := n2_; have GE224 := n3_; clear n0_ n1_ n2_ n3_; clear hb hbox hg; obtain ⟨cz5_0, cz5_1, cz5_2, cz5_3, cz5_4, cz5_5, cz5_6, cz5_7, cz5_8⟩ := bc9_ (w := w4) BK224.out; obtain ⟨fz5_0, fz5_1, fz5_2, fz5_3, fz5_4, fz5_5, fz5_6, fz5_7, fz5_8⟩ := bf9_ BK224.out) | ((with_reducible refine qbf (f := 100) rfl ?_); refine qcp (some 8) rfl rfl Tryd.func100 (by kernel_rfl) rfl #[.agg #[.int .i64 a0_0, .string a0_1, .int .i64 a0_2, .int .i64 a0_3, .int .i64 a0_4, .string a0_5, .string a0_6, .int .i64 a0_7, .slice A0_8 l0_8.length c0_8]] rfl ml_ ?_; (with_reducible refine (qy.calls k a0_0 a0_1 a0_2 a0_3 a0_4 a0_5 a0_6 a0_7 _ _ l0_8 t225 _ ?side1 ?side2 A2.out).mono ?_); (case side1 => repeat (first | exact (Kd.qbw HR0_8.out HB.out) | (with_reducible refine Kd.qck ?_ _) | (with_reducible refine Kd.qcf ?_ _) | (with_reducible refine Kd.qcz ?_))); (case side2 => exact HC0_8.out); rintro e w6 ⟨rfl, hb⟩; refine ⟨_, rfl, ?_⟩; have n0_ := qd.mk (bb_ BK224 hb); have n1_ := qd.mk (qw (bwx_) hb); clear BK224; clear HB; have BK224 := n0_; have HB := n1_; clear n0_ n1_; (try clear hb); (try clear hb2); (try clear hk); (try clear hi)))
  go_loopg [5] k (fun kq v5 w' => ∃ (x5_1 : Int), v5 = .int .i64 x5_1 ∧ qd (qcc.l0 kq x5_1 a0_0 a0_1 a0_2 a0_3 a0_4 a0_5 a0_6 a0_7 l0_8 = some (r1, r2)) ∧ qd (kq ≤ k) ∧ qd (w'.heap[gb224]? = some (.cells #[.int .i64 a0_0, .string a0_1, .int .i64 a0_2, .int .i64 a0_3, .int .i64 a0_4, .string a0_5, .string a0_6, .int .i64 a0_7, (.slice A0_8 l0_8.length c0_8)] 29 (0, 0))) ∧ qd (Below w.heap.size w w'))
  case atStart => exact ⟨(0), sm_, H', ⟨Nat.le_refl _⟩, ⟨by (with_reducible repeat (first | refine qp ?_ _ | refine qz ?_ | refine qm ?_ _)); exact BK224.out⟩, ⟨bwx_⟩⟩
  clear H'
  try clear c1
  try clear p2
  try clear c3
  try clear c3b0
  try clear c3b1
  try clear c5
  try clear cz5_0 cz5_1 cz5_2 cz5_3 cz5_4 cz5_5 cz5_6 cz5_7 cz5_8
  try clear fz5_0 fz5_1 fz5_2 fz5_3 fz5_4 fz5_5 fz5_6 fz5_7 fz5_8
  obtain ⟨x5_1, rfl, HA, HK1, BK224, HB⟩ := hrel
  cases gk with
  | zero => exact absurd HA.out (by simp [qcc.l0])
  | succ k1 =>
   have H := HA.out
   clear HA
   simp only [qcc.l0] at H
   by_cases c7 : x5_1 < (l0_8.length : Int)
   rotate_left
   ·rw [if_neg c7] at H
    have c7b0 : decide (x5_1 < (l0_8.length : Int)) = false := decide_eq_false c7
    clear c7
    replace H := Option.bind_eq_some_iff.mp H
    obtain ⟨t228, A150, H⟩ := H
    replace H : (if t228 = true then (some ((-1), 0)) else (some ((-1), 15))) = some (r1, r2) := H
    have A15 := qd.mk A150
    clear A150
    by_cases c16 : t228 = true
    ·subst c16
     have H1 : (some ((-1), 0)) = some (r1, r2) := by rw [if_pos rfl] at H; exact H
     clear H
     have H := H1
     clear H1
     simp only [Option.some.injEq, Prod.mk.injEq] at H
     obtain ⟨rfl, rfl⟩ := H
     obtain ⟨cz17_0, cz17_1, cz17_2, cz17_3, cz17_4, cz17_5, cz17_6, cz17_7, cz17_8⟩ := bc9_ (w := wr) BK224.out
     obtain ⟨fz17_0, fz17_1, fz17_2, fz17_3, fz17_4, fz17_5, fz17_6, fz17_7, fz17_8⟩ := bf9_ BK224.out
     go_wp2_with (first | ((with_reducible refine qbf (f := 102) rfl ?_); refine qcp (some 31) rfl rfl Tryd.func102 (by kernel_rfl) rfl #[.slice A0_8 l0_8.length c0_8] rfl ml_ ?_; (with_reducible refine (qbr.calls k1 _ _ l0_8 true _ ?side1 ?side2 A15.out).mono ?_); (case side1 => repeat (first | exact (Kd.qbw HR0_8.out HB.out) | (with_reducible refine Kd.qck ?_ _) | (with_reducible refine Kd.qcf ?_ _) | (with_reducible refine Kd.qcz ?_))); (case side2 => exact HC0_8.out); rintro e w18 ⟨rfl, hb⟩; refine ⟨_, rfl, ?_⟩; have n0_ := qd.mk (bb_ BK224 hb); have n1_ := qd.mk (qw (bwx_) hb); clear BK224; clear HB; have BK224 := n0_; have HB := n1_; clear n0_ n1_; (try clear hb); (try clear hb2); (try clear hk); (try clear hi)))
     go_ret2
     exact ⟨ew_, bwx_⟩
    replace c16 := Bool.eq_false_iff.mpr c16
    subst c16
    have H1 : (some ((-1), 15)) = some (r1, r2) := by rw [if_neg (show ¬ (false = true) by decide)] at H; exact H
    clear H
    have H := H1
    clear H1
    simp only [Option.some.injEq, Prod.mk.injEq] at H
    obtain ⟨rfl, rfl⟩ := H
    obtain ⟨cz19_0, cz19_1, cz19_2, cz19_3, cz19_4, cz19_5, cz19_6, cz19_7, cz19_8⟩ := bc9_ (w := wr) BK224.out
    obtain ⟨fz19_0, fz19_1, fz19_2, fz19_3, fz19_4, fz19_5, fz19_6, fz19_7, fz19_8⟩ := bf9_ BK224.out
    go_wp2_with (first | ((with_reducible refine qbf (f := 102) rfl ?_); refine qcp (some 31) rfl rfl Tryd.func102 (by kernel_rfl) rfl #[.slice A0_8 l0_8.length c0_8] rfl ml_ ?_; (with_reducible refine (qbr.calls k1 _ _ l0_8 false _ ?side1 ?side2 A15.out).mono ?_); (case side1 => repeat (first | exact (Kd.qbw HR0_8.out HB.out) | (with_reducible refine Kd.qck ?_ _) | (with_reducible refine Kd.qcf ?_ _) | (with_reducible refine Kd.qcz ?_))); (case side2 => exact HC0_8.out); rintro e w20 ⟨rfl, hb⟩; refine ⟨_, rfl, ?_⟩; have n0_ := qd.mk (bb_ BK224 hb); have n1_ := qd.mk (qw (bwx_) hb); clear BK224; clear HB; have BK224 := n0_; have HB := n1_; clear n0_ n1_; (try clear hb); (try clear hb2); (try clear hk); (try clear hi)))
    go_ret2
    exact ⟨ew_, bwx_⟩
   rw [if_pos c7] at H
   have c7b0 : decide (x5_1 < (l0_8.length : Int)) = true := decide_eq_true c7
   clear c7
   by_cases c8 : 0 ≤ x5_1
   rotate_left
   ·rw [if_neg c8] at H
    exact absurd H (by simp)
   rw [if_pos c8] at H
   have c8b0 : decide (0 ≤ x5_1) = true := decide_eq_true c8
   clear c8
   replace H := Option.bind_eq_some_iff.mp H
   obtain ⟨t227, A90, H⟩ := H
   try dsimp only at H
   have A9 := qd.mk A90
   clear A90
   by_cases c10 : t227 = 0
   ·rw [if_pos c10] at H
    have c10b0 : (t227 == 0) = true := beq_iff_eq.mpr c10
    have c10b1 : (t227 != 0) = false := bne_eq_false_iff_eq.mpr c10
    clear c10
    have H' := qd.mk H
    clear H
    obtain ⟨cz11_0, cz11_1, cz11_2, cz11_3, cz11_4, cz11_5, cz11_6, cz11_7, cz11_8⟩ := bc9_ (w := wr) BK224.out
    obtain ⟨fz11_0, fz11_1, fz11_2, fz11_3, fz11_4, fz11_5, fz11_6, fz11_7, fz11_8⟩ := bf9_ BK224.out
    have p226 : 0 ≤ (x5_1 : Int) := odt_
    have q226 : x5_1 < (l0_8.length : Int) := odt_
    obtain ⟨ad226, A226_6, c226_6, e226, hx226_0, hx226_1, hx226_2, hx226_3, hx226_4, hx226_5, hx226_6, hl226_6, hi226_6⟩ := qfg HR0_8.out x5_1 p226 q226
    cases e226
    replace hx226_0 := bcl_ HB hx226_0
    replace hx226_1 := bcl_ HB hx226_1
    replace hx226_2 := bcl_ HB hx226_2
    replace hx226_3 := bcl_ HB hx226_3
    replace hx226_4 := bcl_ HB hx226_4
    replace hx226_5 := bcl_ HB hx226_5
    replace hx226_6 := bcl_ HB hx226_6
    have HR226_6 := qd.mk hi226_6
    have HC226_6 := qd.mk hl226_6
    clear hi226_6 hl226_6
    replace p226 := eq_true p226
    replace q226 := eq_true q226
    go_wp2_with (first | ((with_reducible refine qbf (f := 101) rfl ?_); refine qcp (some 24) rfl rfl Tryd.func101 (by kernel_rfl) rfl #[.agg #[.string ((ql l0_8 x5_1).f0), .string ((ql l0_8 x5_1).f1), .int .i64 ((ql l0_8 x5_1).f2), .int .i64 ((ql l0_8 x5_1).f3), .string ((ql l0_8 x5_1).f4), .string ((ql l0_8 x5_1).f5), .slice A226_6 ((ql l0_8 x5_1).f6).length c226_6]] rfl ml_ ?_; (with_reducible refine (qbb.calls k1 ((ql l0_8 x5_1).f0) ((ql l0_8 x5_1).f1) ((ql l0_8 x5_1).f2) ((ql l0_8 x5_1).f3) ((ql l0_8 x5_1).f4) ((ql l0_8 x5_1).f5) _ _ ((ql l0_8 x5_1).f6) t227 _ ?side1 ?side2 A9.out).mono ?_); (case side1 => repeat (first | exact (Kd.qbw HR226_6.out HB.out) | (with_reducible refine Kd.qck ?_ _) | (with_reducible refine Kd.qcf ?_ _) | (with_reducible refine Kd.qcz ?_))); (case side2 => exact HC226_6.out); rintro e w12 ⟨rfl, hb⟩; refine ⟨_, rfl, ?_⟩; have n0_ := qd.mk (bb_ BK224 hb); have n1_ := qd.mk (qw (bwx_) hb); clear BK224; clear HB; have BK224 := n0_; have HB := n1_; clear n0_ n1_; (try clear hb); (try clear hb2); (try clear hk); (try clear hi)))
    go_roundg k1
    case measure => have := HK1.out; omega
    case rel => exact ⟨(wrap64 (x5_1 + 1)), sm_, H', ⟨by have := HK1.out; omega⟩, ⟨by (with_reducible repeat (first | refine qp ?_ _ | refine qz ?_ | refine qm ?_ _)); exact BK224.out⟩, ⟨bwx_⟩⟩
   rw [if_neg c10] at H
   have c10b0 : (t227 == 0) = false := beq_eq_false_iff_ne.mpr c10
   have c10b1 : (t227 != 0) = true := bne_iff_ne.mpr c10
   simp only [Option.some.injEq, Prod.mk.injEq] at H
   obtain ⟨rfl, rfl⟩ := H
   obtain ⟨cz13_0, cz13_1, cz13_2, cz13_3, cz13_4, cz13_5, cz13_6, cz13_7, cz13_8⟩ := bc9_ (w := wr) BK224.out
   obtain ⟨fz13_0, fz13_1, fz13_2, fz13_3, fz13_4, fz13_5, fz13_6, fz13_7, fz13_8⟩ := bf9_ BK224.out
   have p226 : 0 ≤ (x5_1 : Int) := odt_
   have q226 : x5_1 < (l0_8.length : Int) := odt_
   obtain ⟨ad226, A226_6, c226_6, e226, hx226_0, hx226_1, hx226_2, hx226_3, hx226_4, hx226_5, hx226_6, hl226_6, hi226_6⟩ := qfg HR0_8.out x5_1 p226 q226
   cases e226
   replace hx226_0 := bcl_ HB hx226_0
   replace hx226_1 := bcl_ HB hx226_1
   replace hx226_2 := bcl_ HB hx226_2
   replace hx226_3 := bcl_ HB hx226_3
   replace hx226_4 := bcl_ HB hx226_4
   replace hx226_5 := bcl_ HB hx226_5
   replace hx226_6 := bcl_ HB hx226_6
   have HR226_6 := qd.mk hi226_6
   have HC226_6 := qd.mk hl226_6
   clear hi226_6 hl226_6
   replace p226 := eq_true p226
   replace q226 := eq_true q226
   go_wp2_with (first | ((with_reducible refine qbf (f := 101) rfl ?_); refine qcp (some 24) rfl rfl Tryd.func101 (by kernel_rfl) rfl #[.agg #[.string ((ql l0_8 x5_1).f0), .string ((ql l0_8 x5_1).f1), .int .i64 ((ql l0_8 x5_1).f2), .int .i64 ((ql l0_8 x5_1).f3), .string ((ql l0_8 x5_1).f4), .string ((ql l0_8 x5_1).f5), .slice A226_6 ((ql l0_8 x5_1).f6).length c226_6]] rfl ml_ ?_; (with_reducible refine (qbb.calls k1 ((ql l0_8 x5_1).f0) ((ql l0_8 x5_1).f1) ((ql l0_8 x5_1).f2) ((ql l0_8 x5_1).f3) ((ql l0_8 x5_1).f4) ((ql l0_8 x5_1).f5) _ _ ((ql l0_8 x5_1).f6) t227 _ ?side1 ?side2 A9.out).mono ?_); (case side1 => repeat (first | exact (Kd.qbw HR226_6.out HB.out) | (with_reducible refine Kd.qck ?_ _) | (with_reducible refine Kd.qcf ?_ _) | (with_reducible refine Kd.qcz ?_))); (case side2 => exact HC226_6.out); rintro e w14 ⟨rfl, hb⟩; refine ⟨_, rfl, ?_⟩; have n0_ := qd.mk (bb_ BK224 hb); have n1_ := qd.mk (qw (bwx_) hb); clear BK224; clear HB; have BK224 := n0_; have HB := n1_; clear n0_ n1_; (try clear hb); (try clear hb2); (try clear hk); (try clear hi)))
   go_ret2
   exact ⟨ew_, bwx_⟩
 ·rw [if_neg c3] at H
  have c3b0 : (t225 == 0) = false := beq_eq_false_iff_ne.mpr c3
  have c3b1 : (t225 != 0) = true := bne_iff_ne.mpr c3
  simp only [Option.some.injEq, Prod.mk.injEq] at H
  obtain ⟨rfl, rfl⟩ := H
  go_enter Tryd.func53, Tryd.ntmps53
  go_wp2_with (first | ((with_reducible refine qbx (N := 1) rfl ?_); refine qbu ?hg (N := 1) ?hd (cs := #[.int .i64 a0_0, .string a0_1, .int .i64 a0_2, .int .i64 a0_3, .int .i64 a0_4, .string a0_5, .string a0_6, .int .i64 a0_7, .slice A0_8 l0_8.length c0_8]) (t := 29) ?hr ?_; (case hd => rfl); (case hg => rfl); (case hr => first | (go_simp; done) | (go_simp; rfl)); intro gb224 hg w21 hbox hb; have n0_ := qd.mk (qw (bw_) hb); have n1_ := qd.mk (hbox); have n2_ := qd.mk (gw_ (w := w) hg); have n3_ := qd.mk (gw_ (w := w) hg); clear HB; have HB := n0_; have BK224 := n1_; have GW224 := n2_; have GE224 := n3_; clear n0_ n1_ n2_ n3_; clear hb hbox hg; obtain ⟨cz22_0, cz22_1, cz22_2, cz22_3, cz22_4, cz22_5, cz22_6, cz22_7, cz22_8⟩ := bc9_ (w := w21) BK224.out; obtain ⟨fz22_0, fz22_1, fz22_2, fz22_3, fz22_4, fz22_5, fz22_6, fz22_7, fz22_8⟩ := bf9_ BK224.out) | ((with_reducible refine qbf (f := 100) rfl ?_); refine qcp (some 8) rfl rfl Tryd.func100 (by kernel_rfl) rfl #[.agg #[.int .i64 a0_0, .string a0_1, .int .i64 a0_2, .int .i64 a0_3, .int .i64 a0_4, .string a0_5, .string a0_6, .int .i64 a0_7, .slice A0_8 l0_8.length c0_8]] rfl ml_ ?_; (with_reducible refine (qy.calls k a0_0 a0_1 a0_2 a0_3 a0_4 a0_5 a0_6 a0_7 _ _ l0_8 t225 _ ?side1 ?side2 A2.out).mono ?_); (case side1 => repeat (first | exact (Kd.qbw HR0_8.out HB.out) | (with_reducible refine Kd.qck ?_ _) | (with_reducible refine Kd.qcf ?_ _) | (with_reducible refine Kd.qcz ?_))); (case side2 => exact HC0_8.out); rintro e w23 ⟨rfl, hb⟩; refine ⟨_, rfl, ?_⟩; have n0_ := qd.mk (bb_ BK224 hb); have n1_ := qd.mk (qw (bwx_) hb); clear BK224; clear HB; have BK224 := n0_; have HB := n1_; clear n0_ n1_; (try clear hb); (try clear hb2); (try clear hk); (try clear hi)))
  go_ret2
  exact ⟨ew_, bwx_⟩
def qcu.f (a0 : ByteArray) (a1 : ByteArray) : Option (Int) := if (Op.bytesLess a0.toList a1.toList) = true then (some (-1)) else (if (Op.bytesLess a1.toList a0.toList) = true then (some 1) else (some 0))
set_option maxRecDepth 100000 in
theorem qcu.calls (a0 : ByteArray) (a1 : ByteArray) (r : Int) (w : World) (h : qcu.f a0 a1 = some r) :
  Calls Tryd.prog 174 #[.string a0, .string a1] w fun e w' => e = .returned (.int .i64 r) ∧ qcs w w' := by
 have H : (if (Op.bytesLess a0.toList a1.toList) = true then (some (-1)) else (if (Op.bytesLess a1.toList a0.toList) = true then (some 1) else (some 0))) = some r := h
 clear h
 by_cases c3 : (Op.bytesLess a0.toList a1.toList) = true
 ·rw [if_pos c3] at H
  have c3b0 : (Op.bytesLess a0.toList a1.toList) = true := c3
  clear c3
  obtain rfl := Option.some.inj H
  go_enter Tryd.func174, Tryd.ntmps174
  go_wp2
  go_ret
  exact ⟨sm_, dn_⟩
 ·rw [if_neg c3] at H
  have c3b0 : (Op.bytesLess a0.toList a1.toList) = false := by simpa using c3
  clear c3
  by_cases c4 : (Op.bytesLess a1.toList a0.toList) = true
  ·rw [if_pos c4] at H
   have c4b0 : (Op.bytesLess a1.toList a0.toList) = true := c4
   clear c4
   obtain rfl := Option.some.inj H
   go_enter Tryd.func174, Tryd.ntmps174
   go_wp2
   go_ret
   exact ⟨sm_, dn_⟩
  ·rw [if_neg c4] at H
   have c4b0 : (Op.bytesLess a1.toList a0.toList) = false := by simpa using c4
   clear c4
   obtain rfl := Option.some.inj H
   go_enter Tryd.func174, Tryd.ntmps174
   go_wp2
   go_ret
   exact ⟨sm_, dn_⟩
def qch.l0 : Nat → List ByteArray → List ByteArray → Int → Option (Int)
 | 0, _, _, _ => none
 | k + 1, x5, x6, x7 => if x7 < 5 then (if 0 ≤ x7 then (if x7 < (x5.length : Int) then (if x7 < (x6.length : Int) then ((qcu.f (rdOf ByteArray.empty x5 x7) (rdOf ByteArray.empty x6 x7)).bind fun t239 => (if t239 = 0 then (qch.l0 k x5 x6 (wrap64 (x7 + 1))) else (some t239))) else (none)) else (none)) else (none)) else (some 0)
def qch.f (k : Nat) (a0_0 : ByteArray) (a0_1 : ByteArray) (a0_2 : ByteArray) (a0_3 : ByteArray) (a0_4 : ByteArray) (a1_0 : ByteArray) (a1_1 : ByteArray) (a1_2 : ByteArray) (a1_3 : ByteArray) (a1_4 : ByteArray) : Option (Int) := qch.l0 k (([a0_0, a0_1, a0_2, a0_3, a0_4] : List ByteArray)) (([a1_0, a1_1, a1_2, a1_3, a1_4] : List ByteArray)) 0
set_option maxRecDepth 100000 in
theorem qch.calls (k : Nat) (a0_0 : ByteArray) (a0_1 : ByteArray) (a0_2 : ByteArray) (a0_3 : ByteArray) (a0_4 : ByteArray) (a1_0 : ByteArray) (a1_1 : ByteArray) (a1_2 : ByteArray) (a1_3 : ByteArray) (a1_4 : ByteArray) (r : Int) (w : World) (h : qch.f k a0_0 a0_1 a0_2 a0_3 a0_4 a1_0 a1_1 a1_2 a1_3 a1_4 = some r) :
  Calls Tryd.prog 145 #[.agg #[.string a0_0, .string a0_1, .string a0_2, .string a0_3, .string a0_4], .agg #[.string a1_0, .string a1_1, .string a1_2, .string a1_3, .string a1_4]] w fun e w' => e = .returned (.int .i64 r) ∧ Below w.heap.size w w' := by
 have hu40 := Tryd.underlying40
 have HB := qd.mk (Below.refl w.heap.size w)
 have H : (qch.l0 k (([a0_0, a0_1, a0_2, a0_3, a0_4] : List ByteArray)) (([a1_0, a1_1, a1_2, a1_3, a1_4] : List ByteArray)) 0) = some r := h
 clear h
 obtain ⟨y231, hy231⟩ : ∃ y_ : List ByteArray, y_ = (([a0_0, a0_1, a0_2, a0_3, a0_4] : List ByteArray)) := ⟨_, rfl⟩
 replace H : (qch.l0 k y231 (([a1_0, a1_1, a1_2, a1_3, a1_4] : List ByteArray)) 0) = some r := by first | (rw [hy231]; with_reducible exact H) | (have H2_ := (Option.bind_some _ _).symm.trans H; rw [hy231]; with_reducible exact H2_) | (have H2_ := (Option.bind_some _ _).symm.trans H; with_reducible exact H2_) | with_reducible exact H | (rw [hy231]; exact H) | exact H
 have Ny231 := qd.mk hy231
 clear hy231
 obtain ⟨y234, hy234⟩ : ∃ y_ : List ByteArray, y_ = (([a1_0, a1_1, a1_2, a1_3, a1_4] : List ByteArray)) := ⟨_, rfl⟩
 replace H : (qch.l0 k y231 y234 0) = some r := by first | (rw [hy234]; with_reducible exact H) | (have H2_ := (Option.bind_some _ _).symm.trans H; rw [hy234]; with_reducible exact H2_) | (have H2_ := (Option.bind_some _ _).symm.trans H; with_reducible exact H2_) | with_reducible exact H | (rw [hy234]; exact H) | exact H
 have Ny234 := qd.mk hy234
 clear hy234
 have H' := qd.mk H
 clear H
 go_enter Tryd.func145, Tryd.ntmps145
 go_wp2_with (first | ((with_reducible refine qbx (N := 2) rfl ?_); refine qbu ?hg (N := 2) ?hd (cs := #[.string a0_0, .string a0_1, .string a0_2, .string a0_3, .string a0_4]) (t := 40) ?hr ?_; (case hd => rfl); (case hg => rfl); (case hr => first | (go_simp; done) | (go_simp; rfl)); intro gb229 hg w3 hbox hb; have n0_ := qd.mk (qw (bw_) hb); have n1_ := qd.mk (hbox); have n2_ := qd.mk (gw_ (w := w) hg); have n3_ := qd.mk (gw_ (w := w) hg); clear HB; have HB := n0_; have BK229 := n1_; have GW229 := n2_; have GE229 := n3_; clear n0_ n1_ n2_ n3_; clear hb hbox hg) | ((with_reducible refine qbx (N := 3) rfl ?_); refine qbu ?hg (N := 3) ?hd (cs := #[.string a1_0, .string a1_1, .string a1_2, .string a1_3, .string a1_4]) (t := 40) ?hr ?_; (case hd => rfl); (case hg => rfl); (case hr => first | (go_simp; done) | (go_simp; rfl)); intro gb230 hg w4 hbox hb; have n0_ := qd.mk (bb_ BK229 hb); have n1_ := qd.mk (qw (bwx_) hb); have n2_ := qd.mk (hbox); have n3_ := qd.mk (gw_ (w := w) hg); have n4_ := qd.mk (gw_ (w := w) hg); have n5_ := qd.mk ((by rw [hg]; exact Nat.ne_of_lt (bl_ BK229) : gb229 ≠ gb230)); have n6_ := qd.mk ((by rw [hg]; exact Nat.ne_of_gt (bl_ BK229) : gb230 ≠ gb229)); clear BK229; clear HB; have BK229 := n0_; have HB := n1_; have BK230 := n2_; have GW230 := n3_; have GE230 := n4_; have NB229_230 := n5_; have NB230_229 := n6_; clear n0_ n1_ n2_ n3_ n4_ n5_ n6_; clear hb hbox hg; have hnb5 := NB229_230.out; have hnc5 := NB230_229.out; obtain ⟨cz6_0, cz6_1, cz6_2, cz6_3, cz6_4⟩ := bc5_ (w := w4) BK229.out; obtain ⟨fz6_0, fz6_1, fz6_2, fz6_3, fz6_4⟩ := bf5_ BK229.out) | ((with_reducible refine qbx (N := 19) rfl ?_); refine Kd.R_lit Kd.string _ 9 ?hg (N := 19) ?hd (xs := ([a0_0, a0_1, a0_2, a0_3, a0_4] : List ByteArray)) (inner := [.string a0_0, .string a0_1, .string a0_2, .string a0_3, .string a0_4]) (ok := fun _ => True) (okp := fun _ => True) ?hr ?hp (fun _ hk => hk) trivial (Below.refl _ _) (Nat.le_refl _) (by simp) ?_; (case hd => rfl); (case hg => rfl); (case hr => first | (go_simp; done) | (go_simp; rfl)); (case hp => exact (Reps.one (show Kd.M Kd.string _ _ _ a0_0 [.string a0_0] from rfl) (Reps.one (show Kd.M Kd.string _ _ _ a0_1 [.string a0_1] from rfl) (Reps.one (show Kd.M Kd.string _ _ _ a0_2 [.string a0_2] from rfl) (Reps.one (show Kd.M Kd.string _ _ _ a0_3 [.string a0_3] from rfl) (Reps.one (show Kd.M Kd.string _ _ _ a0_4 [.string a0_4] from rfl) (Reps.none _ _))))))); intro v232 w7 ho8 hb hg_ hnew_; clear hg_ hnew_; (first | rw [← Ny231.out] at ho8 | (simp only [Int.reduceToNat] at ho8; rw [← Ny231.out] at ho8)); have n0_ := qd.mk (Kd.qec ho8 (qcm (bwx_))); have n1_ := qd.mk (bb_ BK229 hb); have n2_ := qd.mk (bb_ BK230 hb); have n3_ := qd.mk (qw (bwx_) hb); clear BK229; clear BK230; clear HB; have HO233 := n0_; have BK229 := n1_; have BK230 := n2_; have HB := n3_; clear n0_ n1_ n2_ n3_; clear hb ho8; obtain ⟨cz9_0, cz9_1, cz9_2, cz9_3, cz9_4⟩ := bc5_ (w := w7) BK230.out; obtain ⟨fz9_0, fz9_1, fz9_2, fz9_3, fz9_4⟩ := bf5_ BK230.out) | ((with_reducible refine qbx (N := 30) rfl ?_); refine Kd.R_lit Kd.string _ 9 ?hg (N := 30) ?hd (xs := ([a1_0, a1_1, a1_2, a1_3, a1_4] : List ByteArray)) (inner := [.string a1_0, .string a1_1, .string a1_2, .string a1_3, .string a1_4]) (ok := fun _ => True) (okp := fun _ => True) ?hr ?hp (fun _ hk => hk) trivial (Below.refl _ _) (Nat.le_refl _) (by simp) ?_; (case hd => rfl); (case hg => rfl); (case hr => first | (go_simp; done) | (go_simp; rfl)); (case hp => exact (Reps.one (show Kd.M Kd.string _ _ _ a1_0 [.string a1_0] from rfl) (Reps.one (show Kd.M Kd.string _ _ _ a1_1 [.string a1_1] from rfl) (Reps.one (show Kd.M Kd.string _ _ _ a1_2 [.string a1_2] from rfl) (Reps.one (show Kd.M Kd.string _ _ _ a1_3 [.string a1_3] from rfl) (Reps.one (show Kd.M Kd.string _ _ _ a1_4 [.string a1_4] from rfl) (Reps.none _ _))))))); intro v235 w10 ho11 hb hg_ hnew_; clear hg_ hnew_; (first | rw [← Ny234.out] at ho11 | (simp only [Int.reduceToNat] at ho11; rw [← Ny234.out] at ho11)); have n0_ := qd.mk (Kd.qhk (by (with_reducible repeat (first | apply Kd.R_alloc | apply Kd.qbj | apply Kd.qbl)); exact HO233.out) (Kd.qkx ho11) hb); have n1_ := qd.mk (Kd.qec (Kd.qkw ho11 (Kd.R_lt (by (with_reducible repeat (first | apply Kd.R_alloc | apply Kd.qbj | apply Kd.qbl)); exact HO233.out))) (qcm (bwx_))); have n2_ := qd.mk (bb_ BK229 hb); have n3_ := qd.mk (bb_ BK230 hb); have n4_ := qd.mk (qw (bwx_) hb); clear HO233; clear BK229; clear BK230; clear HB; have HO233 := n0_; have HO236 := n1_; have BK229 := n2_; have BK230 := n3_; have HB := n4_; clear n0_ n1_ n2_ n3_ n4_; clear hb ho11))
 repeat (go_quiet (first | ((with_reducible refine qbx (N := 2) rfl ?_); refine qbu ?hg (N := 2) ?hd (cs := #[.string a0_0, .string a0_1, .string a0_2, .string a0_3, .string a0_4]) (t := 40) ?hr ?_; (case hd => rfl); (case hg => rfl); (case hr => first | (go_simp; done) | (go_simp; rfl)); intro gb229 hg w3 hbox hb; have n0_ := qd.mk (qw (bw_) hb); have n1_ := qd.mk (hbox); have n2_ := qd.mk (gw_ (w := w) hg); have n3_ := qd.mk (gw_ (w := w) hg); clear HB; have HB := n0_; have BK229 := n1_; have GW229 := n2_; have GE229 := n3_; clear n0_ n1_ n2_ n3_; clear hb hbox hg) | ((with_reducible refine qbx (N := 3) rfl ?_); refine qbu ?hg (N := 3) ?hd (cs := #[.string a1_0, .string a1_1, .string a1_2, .string a1_3, .string a1_4]) (t := 40) ?hr ?_; (case hd => rfl); (case hg => rfl); (case hr => first | (go_simp; done) | (go_simp; rfl)); intro gb230 hg w4 hbox hb; have n0_ := qd.mk (bb_ BK229 hb); have n1_ := qd.mk (qw (bwx_) hb); have n2_ := qd.mk (hbox); have n3_ := qd.mk (gw_ (w := w) hg); have n4_ := qd.mk (gw_ (w := w) hg); have n5_ := qd.mk ((by rw [hg]; exact Nat.ne_of_lt (bl_ BK229) : gb229 ≠ gb230)); have n6_ := qd.mk ((by rw [hg]; exact Nat.ne_of_gt (bl_ BK229) : gb230 ≠ gb229)); clear BK229; clear HB; have BK229 := n0_; have HB := n1_; have BK230 := n2_; have GW230 := n3_; have GE230 := n4_; have NB229_230 := n5_; have NB230_229 := n6_; clear n0_ n1_ n2_ n3_ n4_ n5_ n6_; clear hb hbox hg; have hnb5 := NB229_230.out; have hnc5 := NB230_229.out; obtain ⟨cz6_0, cz6_1, cz6_2, cz6_3, cz6_4⟩ := bc5_ (w := w4) BK229.out; obtain ⟨fz6_0, fz6_1, fz6_2, fz6_3, fz6_4⟩ := bf5_ BK229.out) | ((with_reducible refine qbx (N := 19) rfl ?_); refine Kd.R_lit Kd.string _ 9 ?hg (N := 19) ?hd (xs := ([a0_0, a0_1, a0_2, a0_3, a0_4] : List ByteArray)) (inner := [.string a0_0, .string a0_1, .string a0_2, .string a0_3, .string a0_4]) (ok := fun _ => True) (okp := fun _ => True) ?hr ?hp (fun _ hk => hk) trivial (Below.refl _ _) (Nat.le_refl _) (by simp) ?_; (case hd => rfl); (case hg => rfl); (case hr => first | (go_simp; done) | (go_simp; rfl)); (case hp => exact (Reps.one (show Kd.M Kd.string _ _ _ a0_0 [.string a0_0] from rfl) (Reps.one (show Kd.M Kd.string _ _ _ a0_1 [.string a0_1] from rfl) (Reps.one (show Kd.M Kd.string _ _ _ a0_2 [.string a0_2] from rfl) (Reps.one (show Kd.M Kd.string _ _ _ a0_3 [.string a0_3] from rfl) (Reps.one (show Kd.M Kd.string _ _ _ a0_4 [.string a0_4] from rfl) (Reps.none _ _))))))); intro v232 w7 ho8 hb hg_ hnew_; clear hg_ hnew_; (first | rw [← Ny231.out] at ho8 | (simp only [Int.reduceToNat] at ho8; rw [← Ny231.out] at ho8)); have n0_ := qd.mk (Kd.qec ho8 (qcm (bwx_))); have n1_ := qd.mk (bb_ BK229 hb); have n2_ := qd.mk (bb_ BK230 hb); have n3_ := qd.mk (qw (bwx_) hb); clear BK229; clear BK230; clear HB; have HO233 := n0_; have BK229 := n1_; have BK230 := n2_; have HB := n3_; clear n0_ n1_ n2_ n3_; clear hb ho8; obtain ⟨cz9_0, cz9_1, cz9_2, cz9_3, cz9_4⟩ := bc5_ (w := w7) BK230.out; obtain ⟨fz9_0, fz9_1, fz9_2, fz9_3, fz9_4⟩ := bf5_ BK230.out) | ((with_reducible refine qbx (N := 30) rfl ?_); refine Kd.R_lit Kd.string _ 9 ?hg (N := 30) ?hd (xs := ([a1_0, a1_1, a1_2, a1_3, a1_4] : List ByteArray)) (inner := [.string a1_0, .string a1_1, .string a1_2, .string a1_3, .string a1_4]) (ok := fun _ => True) (okp := fun _ => True) ?hr ?hp (fun _ hk => hk) trivial (Below.refl _ _) (Nat.le_refl _) (by simp) ?_; (case hd => rfl); (case hg => rfl); (case hr => first | (go_simp; done) | (go_simp; rfl)); (case hp => exact (Reps.one (show Kd.M Kd.string _ _ _ a1_0 [.string a1_0] from rfl) (Reps.one (show Kd.M Kd.string _ _ _ a1_1 [.string a1_1] from rfl) (Reps.one (show Kd.M Kd.string _ _ _ a1_2 [.string a1_2] from rfl) (Reps.one (show Kd.M Kd.string _ _ _ a1_3 [.string a1_3] from rfl) (Reps.one (show Kd.M Kd.string _ _ _ a1_4 [.string a1_4] from rfl) (Reps.none _ _))))))); intro v235 w10 ho11 hb hg_ hnew_; clear hg_ hnew_; (first | rw [← Ny234.out] at ho11 | (simp only [Int.reduceToNat] at ho11; rw [← Ny234.out] at ho11)); have n0_ := qd.mk (Kd.qhk (by (with_reducible repeat (first | apply Kd.R_alloc | apply Kd.qbj | apply Kd.qbl)); exact HO233.out) (Kd.qkx ho11) hb); have n1_ := qd.mk (Kd.qec (Kd.qkw ho11 (Kd.R_lt (by (with_reducible repeat (first | apply Kd.R_alloc | apply Kd.qbj | apply Kd.qbl)); exact HO233.out))) (qcm (bwx_))); have n2_ := qd.mk (bb_ BK229 hb); have n3_ := qd.mk (bb_ BK230 hb); have n4_ := qd.mk (qw (bwx_) hb); clear HO233; clear BK229; clear BK230; clear HB; have HO233 := n0_; have HO236 := n1_; have BK229 := n2_; have BK230 := n3_; have HB := n4_; clear n0_ n1_ n2_ n3_ n4_; clear hb ho11)); try go_wp2_with (first | ((with_reducible refine qbx (N := 2) rfl ?_); refine qbu ?hg (N := 2) ?hd (cs := #[.string a0_0, .string a0_1, .string a0_2, .string a0_3, .string a0_4]) (t := 40) ?hr ?_; (case hd => rfl); (case hg => rfl); (case hr => first | (go_simp; done) | (go_simp; rfl)); intro gb229 hg w3 hbox hb; have n0_ := qd.mk (qw (bw_) hb); have n1_ := qd.mk (hbox); have n2_ := qd.mk (gw_ (w := w) hg); have n3_ := qd.mk (gw_ (w := w) hg); clear HB; have HB := n0_; have BK229 := n1_; have GW229 := n2_; have GE229 := n3_; clear n0_ n1_ n2_ n3_; clear hb hbox hg) | ((with_reducible refine qbx (N := 3) rfl ?_); refine qbu ?hg (N := 3) ?hd (cs := #[.string a1_0, .string a1_1, .string a1_2, .string a1_3, .string a1_4]) (t := 40) ?hr ?_; (case hd => rfl); (case hg => rfl); (case hr => first | (go_simp; done) | (go_simp; rfl)); intro gb230 hg w4 hbox hb; have n0_ := qd.mk (bb_ BK229 hb); have n1_ := qd.mk (qw (bwx_) hb); have n2_ := qd.mk (hbox); have n3_ := qd.mk (gw_ (w := w) hg); have n4_ := qd.mk (gw_ (w := w) hg); have n5_ := qd.mk ((by rw [hg]; exact Nat.ne_of_lt (bl_ BK229) : gb229 ≠ gb230)); have n6_ := qd.mk ((by rw [hg]; exact Nat.ne_of_gt (bl_ BK229) : gb230 ≠ gb229)); clear BK229; clear HB; have BK229 := n0_; have HB := n1_; have BK230 := n2_; have GW230 := n3_; have GE230 := n4_; have NB229_230 := n5_; have NB230_229 := n6_; clear n0_ n1_ n2_ n3_ n4_ n5_ n6_; clear hb hbox hg; have hnb5 := NB229_230.out; have hnc5 := NB230_229.out; obtain ⟨cz6_0, cz6_1, cz6_2, cz6_3, cz6_4⟩ := bc5_ (w := w4) BK229.out; obtain ⟨fz6_0, fz6_1, fz6_2, fz6_3, fz6_4⟩ := bf5_ BK229.out) | ((with_reducible refine qbx (N := 19) rfl ?_); refine Kd.R_lit Kd.string _ 9 ?hg (N := 19) ?hd (xs := ([a0_0, a0_1, a0_2, a0_3, a0_4] : List ByteArray)) (inner := [.string a0_0, .string a0_1, .string a0_2, .string a0_3, .string a0_4]) (ok := fun _ => True) (okp := fun _ => True) ?hr ?hp (fun _ hk => hk) trivial (Below.refl _ _) (Nat.le_refl _) (by simp) ?_; (case hd => rfl); (case hg => rfl); (case hr => first | (go_simp; done) | (go_simp; rfl)); (case hp => exact (Reps.one (show Kd.M Kd.string _ _ _ a0_0 [.string a0_0] from rfl) (Reps.one (show Kd.M Kd.string _ _ _ a0_1 [.string a0_1] from rfl) (Reps.one (show Kd.M Kd.string _ _ _ a0_2 [.string a0_2] from rfl) (Reps.one (show Kd.M Kd.string _ _ _ a0_3 [.string a0_3] from rfl) (Reps.one (show Kd.M Kd.string _ _ _ a0_4 [.string a0_4] from rfl) (Reps.none _ _))))))); intro v232 w7 ho8 hb hg_ hnew_; clear hg_ hnew_; (first | rw [← Ny231.out] at ho8 | (simp only [Int.reduceToNat] at ho8; rw [← Ny231.out] at ho8)); have n0_ := qd.mk (Kd.qec ho8 (qcm (bwx_))); have n1_ := qd.mk (bb_ BK229 hb); have n2_ := qd.mk (bb_ BK230 hb); have n3_ := qd.mk (qw (bwx_) hb); clear BK229; clear BK230; clear HB; have HO233 := n0_; have BK229 := n1_; have BK230 := n2_; have HB := n3_; clear n0_ n1_ n2_ n3_; clear hb ho8; obtain ⟨cz9_0, cz9_1, cz9_2, cz9_3, cz9_4⟩ := bc5_ (w := w7) BK230.out; obtain ⟨fz9_0, fz9_1, fz9_2, fz9_3, fz9_4⟩ := bf5_ BK230.out) | ((with_reducible refine qbx (N := 30) rfl ?_); refine Kd.R_lit Kd.string _ 9 ?hg (N := 30) ?hd (xs := ([a1_0, a1_1, a1_2, a1_3, a1_4] : List ByteArray)) (inner := [.string a1_0, .string a1_1, .string a1_2, .string a1_3, .string a1_4]) (ok := fun _ => True) (okp := fun _ => True) ?hr ?hp (fun _ hk => hk) trivial (Below.refl _ _) (Nat.le_refl _) (by simp) ?_; (case hd => rfl); (case hg => rfl); (case hr => first | (go_simp; done) | (go_simp; rfl)); (case hp => exact (Reps.one (show Kd.M Kd.string _ _ _ a1_0 [.string a1_0] from rfl) (Reps.one (show Kd.M Kd.string _ _ _ a1_1 [.string a1_1] from rfl) (Reps.one (show Kd.M Kd.string _ _ _ a1_2 [.string a1_2] from rfl) (Reps.one (show Kd.M Kd.string _ _ _ a1_3 [.string a1_3] from rfl) (Reps.one (show Kd.M Kd.string _ _ _ a1_4 [.string a1_4] from rfl) (Reps.none _ _))))))); intro v235 w10 ho11 hb hg_ hnew_; clear hg_ hnew_; (first | rw [← Ny234.out] at ho11 | (simp only [Int.reduceToNat] at ho11; rw [← Ny234.out] at ho11)); have n0_ := qd.mk (Kd.qhk (by (with_reducible repeat (first | apply Kd.R_alloc | apply Kd.qbj | apply Kd.qbl)); exact HO233.out) (Kd.qkx ho11) hb); have n1_ := qd.mk (Kd.qec (Kd.qkw ho11 (Kd.R_lt (by (with_reducible repeat (first | apply Kd.R_alloc | apply Kd.qbj | apply Kd.qbl)); exact HO233.out))) (qcm (bwx_))); have n2_ := qd.mk (bb_ BK229 hb); have n3_ := qd.mk (bb_ BK230 hb); have n4_ := qd.mk (qw (bwx_) hb); clear HO233; clear BK229; clear BK230; clear HB; have HO233 := n0_; have HO236 := n1_; have BK229 := n2_; have BK230 := n3_; have HB := n4_; clear n0_ n1_ n2_ n3_ n4_; clear hb ho11)))
 go_loopg [7] k (fun kq v7 w' => ∃ (x7_1 : Int), v7 = .int .i64 x7_1 ∧ qd (qch.l0 kq y231 y234 x7_1 = some r) ∧ qd (kq ≤ k) ∧ qd (Kd.R Kd.string 9 w' w.heap.size (fun k_ => some k_ ≠ (v235 : Value).ownBlock) v232 y231) ∧ qd (Kd.R Kd.string 9 w' w.heap.size (fun k_ => some k_ ≠ (v232 : Value).ownBlock) v235 y234) ∧ qd (w'.heap[gb229]? = some (.cells #[.string a0_0, .string a0_1, .string a0_2, .string a0_3, .string a0_4] 40 (0, 0))) ∧ qd (w'.heap[gb230]? = some (.cells #[.string a1_0, .string a1_1, .string a1_2, .string a1_3, .string a1_4] 40 (0, 0))) ∧ qd (Below w.heap.size w w'))
 case atStart => exact ⟨(0), sm_, H', ⟨Nat.le_refl _⟩, ⟨by (with_reducible repeat (first | apply Kd.R_alloc | apply Kd.qbj | apply Kd.qbl)); exact Kd.qdt HO233.out (fun _ hk => hk.2)⟩, ⟨by (with_reducible repeat (first | apply Kd.R_alloc | apply Kd.qbj | apply Kd.qbl)); exact Kd.qdt HO236.out (fun _ hk => hk.2)⟩, ⟨by (with_reducible repeat (first | refine qp ?_ _ | refine qz ?_ | refine qm ?_ _)); exact BK229.out⟩, ⟨by (with_reducible repeat (first | refine qp ?_ _ | refine qz ?_ | refine qm ?_ _)); exact BK230.out⟩, ⟨bwx_⟩⟩
 case round =>
  clear H'
  try clear c1
  try clear p2
  try clear c5
  try clear cz6_0 cz6_1 cz6_2 cz6_3 cz6_4
  try clear cz9_0 cz9_1 cz9_2 cz9_3 cz9_4
  try clear fz6_0 fz6_1 fz6_2 fz6_3 fz6_4
  try clear fz9_0 fz9_1 fz9_2 fz9_3 fz9_4
  obtain ⟨x7_1, rfl, HA, HK1, HO_5, HO_6, BK229, BK230, HB⟩ := hrel
  cases gk with
  | zero => exact absurd HA.out (by simp [qch.l0])
  | succ k1 =>
   have H := HA.out
   clear HA
   simp only [qch.l0] at H
   by_cases c12 : x7_1 < 5
   ·rw [if_pos c12] at H
    have c12b0 : decide (x7_1 < 5) = true := decide_eq_true c12
    clear c12
    by_cases c13 : 0 ≤ x7_1
    rotate_left
    ·rw [if_neg c13] at H
     exact absurd H (by simp)
    rw [if_pos c13] at H
    have c13b0 : decide (0 ≤ x7_1) = true := decide_eq_true c13
    clear c13
    by_cases c14 : x7_1 < (y231.length : Int)
    rotate_left
    ·rw [if_neg c14] at H
     exact absurd H (by simp)
    rw [if_pos c14] at H
    have c14b0 : decide (x7_1 < (y231.length : Int)) = true := decide_eq_true c14
    clear c14
    by_cases c15 : x7_1 < (y234.length : Int)
    rotate_left
    ·rw [if_neg c15] at H
     exact absurd H (by simp)
    rw [if_pos c15] at H
    have c15b0 : decide (x7_1 < (y234.length : Int)) = true := decide_eq_true c15
    clear c15
    replace H := Option.bind_eq_some_iff.mp H
    obtain ⟨t239, A160, H⟩ := H
    try dsimp only at H
    have A16 := qd.mk A160
    clear A160
    by_cases c17 : t239 = 0
    ·rw [if_pos c17] at H
     have c17b0 : (t239 == 0) = true := beq_iff_eq.mpr c17
     have c17b1 : (t239 != 0) = false := bne_eq_false_iff_eq.mpr c17
     clear c17
     have H' := qd.mk H
     clear H
     obtain ⟨Ao18, co18, eo18⟩ := Kd.qct HO_5.out
     subst eo18
     have p237 : 0 ≤ (x7_1 : Int) := odt_
     have q237 : x7_1 < (y231.length : Int) := odt_
     obtain ⟨ad237, e237, hx237_0⟩ := Kd.qfv (Kd.qbt HO_5.out).2.2 x7_1 p237 q237
     cases e237
     replace p237 := eq_true p237
     replace q237 := eq_true q237
     obtain ⟨Ao19, co19, eo19⟩ := Kd.qct HO_6.out
     subst eo19
     have p238 : 0 ≤ (x7_1 : Int) := odt_
     have q238 : x7_1 < (y234.length : Int) := odt_
     obtain ⟨ad238, e238, hx238_0⟩ := Kd.qfv (Kd.qbt HO_6.out).2.2 x7_1 p238 q238
     cases e238
     replace p238 := eq_true p238
     replace q238 := eq_true q238
     go_wp2_with (first | (go_at_call 174; (with_reducible refine (qcu.calls (rdOf ByteArray.empty y231 x7_1) (rdOf ByteArray.empty y234 x7_1) t239 _ A16.out).mono ?_); rintro e w' ⟨rfl, ⟨nd, rfl⟩⟩; (try first | exact ⟨rfl, _, World.drewN_drewN _ _ _⟩ | exact ⟨rfl, _, Eq.trans (World.drewN_drewN _ _ _) (congrArg (World.drewN _) (Nat.add_assoc _ _ _))⟩)))
     repeat (go_quiet (first | (go_at_call 174; (with_reducible refine (qcu.calls (rdOf ByteArray.empty y231 x7_1) (rdOf ByteArray.empty y234 x7_1) t239 _ A16.out).mono ?_); rintro e w' ⟨rfl, ⟨nd, rfl⟩⟩; (try first | exact ⟨rfl, _, World.drewN_drewN _ _ _⟩ | exact ⟨rfl, _, Eq.trans (World.drewN_drewN _ _ _) (congrArg (World.drewN _) (Nat.add_assoc _ _ _))⟩))); try go_wp2_with (first | (go_at_call 174; (with_reducible refine (qcu.calls (rdOf ByteArray.empty y231 x7_1) (rdOf ByteArray.empty y234 x7_1) t239 _ A16.out).mono ?_); rintro e w' ⟨rfl, ⟨nd, rfl⟩⟩; (try first | exact ⟨rfl, _, World.drewN_drewN _ _ _⟩ | exact ⟨rfl, _, Eq.trans (World.drewN_drewN _ _ _) (congrArg (World.drewN _) (Nat.add_assoc _ _ _))⟩))))
     go_roundg k1
     case measure => have := HK1.out; omega
     case rel => exact ⟨(wrap64 (x7_1 + 1)), sm_, H', ⟨by have := HK1.out; omega⟩, ⟨by (with_reducible repeat (first | apply Kd.R_alloc | apply Kd.qbj | apply Kd.qbl)); exact HO_5.out⟩, ⟨by (with_reducible repeat (first | apply Kd.R_alloc | apply Kd.qbj | apply Kd.qbl)); exact HO_6.out⟩, ⟨by (with_reducible repeat (first | refine qp ?_ _ | refine qz ?_ | refine qm ?_ _)); exact BK229.out⟩, ⟨by (with_reducible repeat (first | refine qp ?_ _ | refine qz ?_ | refine qm ?_ _)); exact BK230.out⟩, ⟨bwx_⟩⟩
    rw [if_neg c17] at H
    have c17b0 : (t239 == 0) = false := beq_eq_false_iff_ne.mpr c17
    have c17b1 : (t239 != 0) = true := bne_iff_ne.mpr c17
    obtain rfl := Option.some.inj H
    obtain ⟨Ao20, co20, eo20⟩ := Kd.qct HO_5.out
    subst eo20
    have p237 : 0 ≤ (x7_1 : Int) := odt_
    have q237 : x7_1 < (y231.length : Int) := odt_
    obtain ⟨ad237, e237, hx237_0⟩ := Kd.qfv (Kd.qbt HO_5.out).2.2 x7_1 p237 q237
    cases e237
    replace p237 := eq_true p237
    replace q237 := eq_true q237
    obtain ⟨Ao21, co21, eo21⟩ := Kd.qct HO_6.out
    subst eo21
    have p238 : 0 ≤ (x7_1 : Int) := odt_
    have q238 : x7_1 < (y234.length : Int) := odt_
    obtain ⟨ad238, e238, hx238_0⟩ := Kd.qfv (Kd.qbt HO_6.out).2.2 x7_1 p238 q238
    cases e238
    replace p238 := eq_true p238
    replace q238 := eq_true q238
    go_wp2_with (first | (go_at_call 174; (with_reducible refine (qcu.calls (rdOf ByteArray.empty y231 x7_1) (rdOf ByteArray.empty y234 x7_1) t239 _ A16.out).mono ?_); rintro e w' ⟨rfl, ⟨nd, rfl⟩⟩; (try first | exact ⟨rfl, _, World.drewN_drewN _ _ _⟩ | exact ⟨rfl, _, Eq.trans (World.drewN_drewN _ _ _) (congrArg (World.drewN _) (Nat.add_assoc _ _ _))⟩)))
    repeat (go_quiet (first | (go_at_call 174; (with_reducible refine (qcu.calls (rdOf ByteArray.empty y231 x7_1) (rdOf ByteArray.empty y234 x7_1) t239 _ A16.out).mono ?_); rintro e w' ⟨rfl, ⟨nd, rfl⟩⟩; (try first | exact ⟨rfl, _, World.drewN_drewN _ _ _⟩ | exact ⟨rfl, _, Eq.trans (World.drewN_drewN _ _ _) (congrArg (World.drewN _) (Nat.add_assoc _ _ _))⟩))); try go_wp2_with (first | (go_at_call 174; (with_reducible refine (qcu.calls (rdOf ByteArray.empty y231 x7_1) (rdOf ByteArray.empty y234 x7_1) t239 _ A16.out).mono ?_); rintro e w' ⟨rfl, ⟨nd, rfl⟩⟩; (try first | exact ⟨rfl, _, World.drewN_drewN _ _ _⟩ | exact ⟨rfl, _, Eq.trans (World.drewN_drewN _ _ _) (congrArg (World.drewN _) (Nat.add_assoc _ _ _))⟩))))
    go_ret
    exact ⟨ew_, bwx_⟩
   ·rw [if_neg c12] at H
    have c12b0 : decide (x7_1 < 5) = false := decide_eq_false c12
    clear c12
    obtain rfl := Option.some.inj H
    go_wp2
    repeat (go_quiet (fail); try go_wp2)
    go_ret
    exact ⟨ew_, bwx_⟩
section
attribute [local go_sem high] eqA40
mutual
def qj.l0 : Nat → List (S112) → List (S40) → Int → Option ((List (S40)))
 | 0, _, _, _ => none
 | k + 1, x0, x3, x4 => if x4 < (x0.length : Int) then (qj.l1 k x0 x3 x4 (x3.length : Int)) else (some x3)
def qj.j2 : Nat → List (S112) → List (S40) → Int → Int → Option ((List (S40)))
 | 0, _, _, _, _ => none
 | k + 1, x0, x3, x4, x5 => if x5 > 0 then (if 0 ≤ (wrap64 (x5 - 1)) then (if (wrap64 (x5 - 1)) < (x3.length : Int) then (if 0 ≤ x4 then (if x4 < (x0.length : Int) then (qj.j3 k x0 x3 x4 x5 ((((qbd x3 (wrap64 (x5 - 1))).f0).toList) == (((qx x0 x4).f0.f0).toList) && ((((qbd x3 (wrap64 (x5 - 1))).f1).toList) == (((qx x0 x4).f0.f1).toList) && ((((qbd x3 (wrap64 (x5 - 1))).f2).toList) == (((qx x0 x4).f0.f2).toList) && ((((qbd x3 (wrap64 (x5 - 1))).f3).toList) == (((qx x0 x4).f0.f3).toList) && ((((qbd x3 (wrap64 (x5 - 1))).f4).toList) == (((qx x0 x4).f0.f4).toList))))))) else (none)) else (none)) else (none)) else (none)) else (qj.j3 k x0 x3 x4 x5 false)
def qj.j3 : Nat → List (S112) → List (S40) → Int → Int → Bool → Option ((List (S40)))
 | 0, _, _, _, _, _ => none
 | k + 1, x0, x3, x4, x5, x47 => if x47 = true then (qj.l0 k x0 x3 (wrap64 (x4 + 1))) else (if x3.length < 1759218604441 then ((some (x3 ++ [(⟨(⟨#[]⟩ : ByteArray), (⟨#[]⟩ : ByteArray), (⟨#[]⟩ : ByteArray), (⟨#[]⟩ : ByteArray), (⟨#[]⟩ : ByteArray)⟩ : S40)] : List (S40))).bind fun y245 => (qj.l2 k x0 y245 x4 x5 (wrap64 ((y245.length : Int) - 1)))) else (none))
def qj.l2 : Nat → List (S112) → List (S40) → Int → Int → Int → Option ((List (S40)))
 | 0, _, _, _, _, _ => none
 | k + 1, x0, x3, x4, x5, x6 => if x6 > x5 then (if 0 ≤ (wrap64 (x6 - 1)) then (if (wrap64 (x6 - 1)) < (x3.length : Int) then (if 0 ≤ x6 then (if x6 < (x3.length : Int) then (qj.l2 k x0 (x3.set (x6 : Int).toNat (⟨(qbd x3 (wrap64 (x6 - 1))).f0, (qbd x3 (wrap64 (x6 - 1))).f1, (qbd x3 (wrap64 (x6 - 1))).f2, (qbd x3 (wrap64 (x6 - 1))).f3, (qbd x3 (wrap64 (x6 - 1))).f4⟩ : S40)) x4 x5 (wrap64 (x6 - 1))) else (none)) else (none)) else (none)) else (none)) else (if 0 ≤ x4 then (if x4 < (x0.length : Int) then (if 0 ≤ x5 then (if x5 < (x3.length : Int) then (qj.l0 k x0 (x3.set (x5 : Int).toNat (⟨(qx x0 x4).f0.f0, (qx x0 x4).f0.f1, (qx x0 x4).f0.f2, (qx x0 x4).f0.f3, (qx x0 x4).f0.f4⟩ : S40)) (wrap64 (x4 + 1))) else (none)) else (none)) else (none)) else (none))
def qj.l1 : Nat → List (S112) → List (S40) → Int → Int → Option ((List (S40)))
 | 0, _, _, _, _ => none
 | k + 1, x0, x3, x4, x5 => if x5 > 0 then (if 0 ≤ (wrap64 (x5 - 1)) then (if (wrap64 (x5 - 1)) < (x3.length : Int) then (if 0 ≤ x4 then (if x4 < (x0.length : Int) then ((qch.f k ((qbd x3 (wrap64 (x5 - 1))).f0) ((qbd x3 (wrap64 (x5 - 1))).f1) ((qbd x3 (wrap64 (x5 - 1))).f2) ((qbd x3 (wrap64 (x5 - 1))).f3) ((qbd x3 (wrap64 (x5 - 1))).f4) ((qx x0 x4).f0.f0) ((qx x0 x4).f0.f1) ((qx x0 x4).f0.f2) ((qx x0 x4).f0.f3) ((qx x0 x4).f0.f4)).bind fun t242 => (if t242 > 0 then (qj.l1 k x0 x3 x4 (wrap64 (x5 - 1))) else (qj.j2 k x0 x3 x4 x5))) else (none)) else (none)) else (none)) else (none)) else (qj.j2 k x0 x3 x4 x5)
end
def qj.f (k : Nat) (l0 : List (S112)) : Option ((List (S40))) := qj.l0 k l0 ([] : List (S40)) 0
def qj.T6 : Bool × List (List Nat × List Nat) := (true, [([], []), ([0], [0]), ([1], [1]), ([2], [2]), ([2], [2]), ([4, 2], [2, 4]), ([3, 5, 2], [2, 3, 5]), ([6, 2], [2, 6]), ([2], [2]), ([2], [2]), ([8, 9, 2], [2, 8, 9]), ([10, 2], [2, 10]), ([11, 2], [2, 11]), ([7, 12, 2, 2], [2, 7, 12]), ([13, 2], [2, 13]), ([2, 14], [2, 14])])
def qj.B6 : List Nat := [0, 1, 3, 7, 7, 23, 63, 127, 7, 7, 775, 1799, 3847, 8191, 16383, 32767]
theorem qj.tab6 : rtab .any (opsOf Tryd.f103 6) = qj.T6 := by kernel_rfl
theorem qj.bits6 : qhl qj.T6.2 qj.B6 = true := by kernel_rfl
def qj.T8 : Bool × List (List Nat × List Nat) := (true, [([], []), ([0], [0]), ([1], [1]), ([2], [2]), ([2], [2]), ([4, 2], [2, 4]), ([3, 5, 2], [2, 3, 5]), ([6, 2], [2, 6]), ([2], [2]), ([2], [2]), ([8, 9, 2], [2, 8, 9]), ([10, 2], [2, 10]), ([11, 2], [2, 11]), ([7, 12, 2], [2, 7, 12]), ([2, 13], [2, 13])])
def qj.B8 : List Nat := [0, 1, 3, 7, 7, 23, 63, 127, 7, 7, 775, 1799, 3847, 8191, 16383]
theorem qj.tab8 : rtab .any (opsOf Tryd.f103 8) = qj.T8 := by kernel_rfl
theorem qj.bits8 : qhl qj.T8.2 qj.B8 = true := by kernel_rfl
set_option maxRecDepth 100000 in
theorem qj.calls (k : Nat) (A0 : Option Addr) (c0 : Nat) (l0 : List (S112)) (r : List (S40)) (w : World) (hr0 : Kd.C k112 w A0 l0.length l0) (hc0 : l0.length ≤ c0) (h : qj.f k l0 = some r) :
  Calls Tryd.prog 103 #[.slice A0 l0.length c0] w fun e w' => ∃ v0_ : Value, e = .returned (v0_) ∧ Kd.R k40 40 w' w.heap.size (fun _ => True) v0_ r ∧ Below w.heap.size w w' := by
 have hu40 := Tryd.underlying40
 have HR0 := qd.mk hr0
 have HC0 := qd.mk hc0
 clear hr0 hc0
 have HB := qd.mk (Below.refl w.heap.size w)
 have H : (qj.l0 k l0 ([] : List (S40)) 0) = some r := h
 clear h
 have H' := qd.mk H
 clear H
 go_enter Tryd.func103, Tryd.ntmps103
 go_wp2
 go_loopg [3, 4] k (fun kq v3 v4 w' => ∃ (x3_1 : List (S40)) (x4_1 : Int), v4 = .int .i64 x4_1 ∧ qd (qj.l0 kq l0 x3_1 x4_1 = some r) ∧ qd (kq ≤ k) ∧ qd (Kd.R k40 40 w' w.heap.size (fun _ => True) v3 x3_1) ∧ qd (Below w.heap.size w w'))
 case atStart => exact ⟨(([] : List (S40))), (0), sm_, H', ⟨Nat.le_refl _⟩, ⟨by first | exact Kd.qhz _ _ _ _ _ | exact Kd.N_nil _ _ _ _ _ | exact Kd.V_nil _ _ _ _ _ | exact Kd.Q_nil _ _ _ _ _ | exact Kd.S_nil _ _ _ _ _⟩, ⟨bw_⟩⟩
 case round =>
  clear H'
  try clear c1
  obtain ⟨x3_1, x4_1, rfl, HA, HK1, HO_3, HB⟩ := hrel
  cases gk with
  | zero => exact absurd HA.out (by simp [qj.l0])
  | succ k1 =>
   have H := HA.out
   clear HA
   simp only [qj.l0] at H
   by_cases c2 : x4_1 < (l0.length : Int)
   ·rw [if_pos c2] at H
    have c2b0 : decide (x4_1 < (l0.length : Int)) = true := decide_eq_true c2
    clear c2
    have HC3 := qd.mk H
    clear H
    obtain ⟨Ao4, co4, eo4⟩ := Kd.qct HO_3.out
    subst eo4
    go_upto_block 2 with (fail)
    go_cut [5] (fun v5 wc => ∃ (kq : Nat) (x5_2 : Int), v5 = .int .i64 x5_2 ∧ qd (qj.j2 kq l0 x3_1 x4_1 x5_2 = some r) ∧ qd (kq ≤ k1) ∧ qd (Kd.R k40 40 wc w.heap.size (fun _ => True) (.slice Ao4 x3_1.length co4) x3_1) ∧ qd (Below w.heap.size w wc))
    case first =>
     have H := HC3.out
     clear HC3
     have H' := qd.mk H
     clear H
     go_wp2
     go_loopg [5] k1 (fun kq v5 w' => ∃ (x5_2 : Int), v5 = .int .i64 x5_2 ∧ qd (qj.l1 kq l0 x3_1 x4_1 x5_2 = some r) ∧ qd (kq ≤ k1) ∧ qd (Kd.R k40 40 w' w.heap.size (fun _ => True) (.slice Ao4 x3_1.length co4) x3_1) ∧ qd (Below w.heap.size w w'))
     case atStart => exact ⟨((x3_1.length : Int)), sm_, H', ⟨Nat.le_refl _⟩, ⟨by (with_reducible repeat (first | apply Kd.R_alloc | apply Kd.qbj | apply Kd.qbl)); exact HO_3.out⟩, ⟨bw_⟩⟩
     clear H'
     try clear c1
     try clear c2
     try clear c2b0
     try clear p2
     obtain ⟨x5_2, rfl, HA, HK2, HO_3, HB⟩ := hrel
     cases gk with
     | zero => exact absurd HA.out (by simp [qj.l1])
     | succ k2 =>
      have H := HA.out
      clear HA
      simp only [qj.l1] at H
      by_cases c5 : x5_2 > 0
      rotate_left
      ·rw [if_neg c5] at H
       have c5b0 : decide (0 < x5_2) = false := decide_eq_false c5
       clear c5
       (first | rw [c5b0] | (simp only [qeh, qen]; rw [c5b0]) | skip)
       have H' := qd.mk H
       clear H
       try go_wp2
       have n0_ := qd.mk (Kd.qbl HO_3.out)
       have n1_ := qd.mk (qcq HB.out)
       clear HO_3
       clear HB
       have HO_3 := n0_
       have HB := n1_
       clear n0_ n1_
       refine qgv (n := 16) (S := fun w' => True) (ds := []) #[false, false, false, false, false, false, false, false, false, false, false, false, false, false, false, false] (by kernel_rfl) rfl rfl trivial (fun hHeld => ?_); refine qeq qj.tab6 qj.bits6 (fun HT_ HW_ => ?_)
       generalize wr.drew = w17 at HO_3 HB hHeld ⊢
       refine pu_ 0 (some 15) (btz 16 1) HT_ ?_
       refine pu_ 1 (some 16) (btz 16 3) HT_ ?_
       refine pu_ 2 (some 17) (btz 16 7) HT_ ?_
       refine un_ 3 (some 18) (btz 16 15) HT_ ?_
       refine un_ 4 (some 19) (btz 16 31) HT_ ?_
       refine un_ 5 (some 20) (btz 16 63) HT_ ?_
       refine un_ 6 (some 21) (btz 16 127) HT_ ?_
       refine un_ 7 (some 22) (btz 16 255) HT_ ?_
       refine un_ 8 (some 23) (btz 16 511) HT_ ?_
       refine un_ 9 (some 24) (btz 16 1023) HT_ ?_
       refine un_ 10 (some 25) (btz 16 2047) HT_ ?_
       refine un_ 11 (some 26) (btz 16 4095) HT_ ?_
       refine un_ 12 (some 27) (btz 16 8191) HT_ ?_
       refine un_ 13 (some 28) (btz 16 16383) HT_ ?_
       refine un_ 14 (some 29) (btz 16 32767) HT_ ?_
       refine pu_ 15 (some 30) (btz 16 65535) HT_ ?_
       refine qjg (qgc HT_.out (by kernel_rfl)) ?_
       try go_wp2
       go_meet
       case rel => exact ⟨_, (x5_2), sm_, H', ⟨by have := HK1.out; have := HK2.out; first | omega | exact Nat.le_refl _⟩, ⟨by (with_reducible repeat (first | apply Kd.R_alloc | apply Kd.qbj | apply Kd.qbl)); exact HO_3.out⟩, ⟨bw_⟩⟩
      rw [if_pos c5] at H
      have c5b0 : decide (0 < x5_2) = true := decide_eq_true c5
      clear c5
      (first | rw [c5b0] | (simp only [qeh, qen]; rw [c5b0]) | skip)
      obtain ⟨ji6, hji6⟩ : ∃ j_ : Int, (wrap64 (x5_2 - 1)) = j_ := ⟨_, rfl⟩
      replace H : (if 0 ≤ (ji6) then (if (ji6) < (x3_1.length : Int) then (if 0 ≤ x4_1 then (if x4_1 < (l0.length : Int) then ((qch.f k2 ((qbd x3_1 (ji6)).f0) ((qbd x3_1 (ji6)).f1) ((qbd x3_1 (ji6)).f2) ((qbd x3_1 (ji6)).f3) ((qbd x3_1 (ji6)).f4) ((qx l0 x4_1).f0.f0) ((qx l0 x4_1).f0.f1) ((qx l0 x4_1).f0.f2) ((qx l0 x4_1).f0.f3) ((qx l0 x4_1).f0.f4)).bind fun t242 => (if t242 > 0 then (qj.l1 k2 l0 x3_1 x4_1 ji6) else (qj.j2 k2 l0 x3_1 x4_1 x5_2))) else (none)) else (none)) else (none)) else (none)) = some r := by first | (rw [hji6] at H; exact H) | (simp only [hji6] at H ⊢; exact H)
      have hji6w : (IntKind.i64.wrap (x5_2 - 1)) = ji6 := (qeh _).trans hji6
      by_cases c7 : 0 ≤ (ji6)
      rotate_left
      ·rw [if_neg c7] at H
       exact absurd H (by simp)
      rw [if_pos c7] at H
      have c7b0 : decide (0 ≤ (ji6)) = true := decide_eq_true c7
      clear c7
      by_cases c8 : (ji6) < (x3_1.length : Int)
      rotate_left
      ·rw [if_neg c8] at H
       exact absurd H (by simp)
      rw [if_pos c8] at H
      have c8b0 : decide ((ji6) < (x3_1.length : Int)) = true := decide_eq_true c8
      clear c8
      by_cases c9 : 0 ≤ x4_1
      rotate_left
      ·rw [if_neg c9] at H
       exact absurd H (by simp)
      rw [if_pos c9] at H
      have c9b0 : decide (0 ≤ x4_1) = true := decide_eq_true c9
      clear c9
      by_cases c10 : x4_1 < (l0.length : Int)
      rotate_left
      ·rw [if_neg c10] at H
       exact absurd H (by simp)
      rw [if_pos c10] at H
      have c10b0 : decide (x4_1 < (l0.length : Int)) = true := decide_eq_true c10
      clear c10
      replace H := Option.bind_eq_some_iff.mp H
      obtain ⟨t242, A110, H⟩ := H
      try dsimp only at H
      have A11 := qd.mk A110
      clear A110
      by_cases c12 : t242 > 0
      ·rw [if_pos c12] at H
       have c12b0 : decide (0 < t242) = true := decide_eq_true c12
       clear c12
       have H' := qd.mk H
       clear H
       try go_wp2
       have n0_ := qd.mk (Kd.qbl HO_3.out)
       have n1_ := qd.mk (qcq HB.out)
       clear HO_3
       clear HB
       have HO_3 := n0_
       have HB := n1_
       clear n0_ n1_
       have p240 : 0 ≤ ((ji6) : Int) := odt_
       have q240 : (ji6) < (x3_1.length : Int) := odt_
       obtain ⟨ad240, e240, hx240_0, hx240_1, hx240_2, hx240_3, hx240_4⟩ := qkv (Kd.qbt HO_3.out).2.2 (ji6) p240 q240
       cases e240
       replace p240 := eq_true p240
       replace q240 := eq_true q240
       have p241 : 0 ≤ (x4_1 : Int) := odt_
       have q241 : x4_1 < (l0.length : Int) := odt_
       obtain ⟨ad241, e241, hx241_0, hx241_1, hx241_2, hx241_3, hx241_4, hx241_5, hx241_6⟩ := qep HR0.out x4_1 p241 q241
       have hw241_6 := hx241_6
       have hw241_5 := hx241_5
       have hw241_4 := hx241_4
       have hw241_3 := hx241_3
       have hw241_2 := hx241_2
       have hw241_1 := hx241_1
       have hw241_0 := hx241_0
       cases e241
       replace hx241_0 := bcl_ HB hx241_0
       replace hx241_1 := bcl_ HB hx241_1
       replace hx241_2 := bcl_ HB hx241_2
       replace hx241_3 := bcl_ HB hx241_3
       replace hx241_4 := bcl_ HB hx241_4
       replace hx241_5 := bcl_ HB hx241_5
       replace hx241_6 := bcl_ HB hx241_6
       replace p241 := eq_true p241
       replace q241 := eq_true q241
       refine qgv (n := 16) (S := fun w' => w'.cell? (ad240.add (((ji6)).toNat * 5)) = some (.string ((qbd x3_1 (ji6)).f0)) ∧ w'.cell? ⟨(ad240.add (((ji6)).toNat * 5)).block, (ad240.add (((ji6)).toNat * 5)).off + 1, none⟩ = some (.string ((qbd x3_1 (ji6)).f1)) ∧ w'.cell? ⟨(ad240.add (((ji6)).toNat * 5)).block, (ad240.add (((ji6)).toNat * 5)).off + 2, none⟩ = some (.string ((qbd x3_1 (ji6)).f2)) ∧ w'.cell? ⟨(ad240.add (((ji6)).toNat * 5)).block, (ad240.add (((ji6)).toNat * 5)).off + 3, none⟩ = some (.string ((qbd x3_1 (ji6)).f3)) ∧ w'.cell? ⟨(ad240.add (((ji6)).toNat * 5)).block, (ad240.add (((ji6)).toNat * 5)).off + 4, none⟩ = some (.string ((qbd x3_1 (ji6)).f4)) ∧ w'.cell? (ad241.add ((x4_1).toNat * 7)) = some (.string ((qx l0 x4_1).f0.f0)) ∧ w'.cell? ⟨(ad241.add ((x4_1).toNat * 7)).block, (ad241.add ((x4_1).toNat * 7)).off + 1, none⟩ = some (.string ((qx l0 x4_1).f0.f1)) ∧ w'.cell? ⟨(ad241.add ((x4_1).toNat * 7)).block, (ad241.add ((x4_1).toNat * 7)).off + 2, none⟩ = some (.string ((qx l0 x4_1).f0.f2)) ∧ w'.cell? ⟨(ad241.add ((x4_1).toNat * 7)).block, (ad241.add ((x4_1).toNat * 7)).off + 3, none⟩ = some (.string ((qx l0 x4_1).f0.f3)) ∧ w'.cell? ⟨(ad241.add ((x4_1).toNat * 7)).block, (ad241.add ((x4_1).toNat * 7)).off + 4, none⟩ = some (.string ((qx l0 x4_1).f0.f4)) ∧ w'.cell? ⟨(ad241.add ((x4_1).toNat * 7)).block, (ad241.add ((x4_1).toNat * 7)).off + 5, none⟩ = some (.int .i64 ((qx l0 x4_1).f1)) ∧ w'.cell? ⟨(ad241.add ((x4_1).toNat * 7)).block, (ad241.add ((x4_1).toNat * 7)).off + 6, none⟩ = some (.int .i64 ((qx l0 x4_1).f2))) (ds := []) #[false, false, false, false, false, false, false, false, false, false, false, false, false, false, false, false] (by kernel_rfl) rfl rfl ⟨hx240_0, hx240_1, hx240_2, hx240_3, hx240_4, (bcl_ HB hw241_0), (bcl_ HB hw241_1), (bcl_ HB hw241_2), (bcl_ HB hw241_3), (bcl_ HB hw241_4), (bcl_ HB hw241_5), (bcl_ HB hw241_6)⟩ (fun hHeld => ?_); refine qeq qj.tab6 qj.bits6 (fun HT_ HW_ => ?_)
       generalize wr.drew = w13 at HO_3 HB hx240_0 hx240_1 hx240_2 hx240_3 hx240_4 hx241_0 hx241_1 hx241_2 hx241_3 hx241_4 hx241_5 hx241_6 hHeld ⊢
       refine pu_ 0 (some 15) (btz 16 1) HT_ ?_
       refine pu_ 1 (some 16) (btz 16 3) HT_ ?_
       refine pu_ 2 (some 17) (btz 16 7) HT_ ?_
       refine pu_ 3 (some 18) (btz 16 15) HT_ ?_
       refine pu_ 4 (some 19) (btz 16 31) HT_ ?_
       refine pu_ 5 (some 20) (btz 16 63) HT_ ?_
       refine pu_ 6 (some 21) (btz 16 127) HT_ ?_
       refine pu_ 8 (some 23) (btz 16 383) HT_ ?_
       refine pu_ 9 (some 24) (btz 16 895) HT_ ?_
       refine pu_ 10 (some 25) (btz 16 1919) HT_ ?_
       refine pu_ 11 (some 26) (btz 16 3967) HT_ ?_
       refine ta_ 7 (some 22) (btz 16 4095) HT_ HW_ hHeld rfl rfl (by rintro w' ⟨s0, s1, s2, s3, s4, s5, s6, s7, s8, s9, s10, s11⟩; go_simp; with_reducible rfl) ?_
       refine ta_ 12 (some 27) (btz 16 8191) HT_ HW_ hHeld rfl rfl (by rintro w' ⟨s0, s1, s2, s3, s4, s5, s6, s7, s8, s9, s10, s11⟩; go_simp; with_reducible rfl) ?_
       refine one_ (i := 13) (N := some 28) #[true, true, true, true, true, true, true, true, true, true, true, true, true, true, false, false] rfl rfl (qhq HT_.out (by kernel_rfl)) (by decide) (fun K hK => ?_)
       refine qkk Tryd.func145 (by kernel_rfl) rfl #[.agg #[.string ((qbd x3_1 (ji6)).f0), .string ((qbd x3_1 (ji6)).f1), .string ((qbd x3_1 (ji6)).f2), .string ((qbd x3_1 (ji6)).f3), .string ((qbd x3_1 (ji6)).f4)], .agg #[.string ((qx l0 x4_1).f0.f0), .string ((qx l0 x4_1).f0.f1), .string ((qx l0 x4_1).f0.f2), .string ((qx l0 x4_1).f0.f3), .string ((qx l0 x4_1).f0.f4)]] (by rfl) rfl rfl (by (try simp only [List.map_toArray, List.map_cons, List.map_nil]); first | done | (simp only [hji6]; rfl) | rfl | (simp only [List.length_drop, List.length_take]; rfl)) ?_
       with_reducible refine (qch.calls k2 ((qbd x3_1 (ji6)).f0) ((qbd x3_1 (ji6)).f1) ((qbd x3_1 (ji6)).f2) ((qbd x3_1 (ji6)).f3) ((qbd x3_1 (ji6)).f4) ((qx l0 x4_1).f0.f0) ((qx l0 x4_1).f0.f1) ((qx l0 x4_1).f0.f2) ((qx l0 x4_1).f0.f3) ((qx l0 x4_1).f0.f4) t242 _ A11.out).mono ?_
       rintro e w14 ⟨rfl, hb⟩
       have HS0_ := (hb.cell (World.block_lt_of_cell? _ _ (hHeld.1))).trans (hHeld.1)
       have HS1_ := (hb.cell (World.block_lt_of_cell? _ _ (hHeld.2.1))).trans (hHeld.2.1)
       have HS2_ := (hb.cell (World.block_lt_of_cell? _ _ (hHeld.2.2.1))).trans (hHeld.2.2.1)
       have HS3_ := (hb.cell (World.block_lt_of_cell? _ _ (hHeld.2.2.2.1))).trans (hHeld.2.2.2.1)
       have HS4_ := (hb.cell (World.block_lt_of_cell? _ _ (hHeld.2.2.2.2.1))).trans (hHeld.2.2.2.2.1)
       refine ⟨_, rfl, ?_⟩
       have n0_ := qd.mk (Kd.qdw (by (with_reducible repeat (first | apply Kd.R_alloc | apply Kd.qbj | apply Kd.qbl)); exact HO_3.out) hb)
       have n1_ := qd.mk (qw (bw_) hb)
       clear HO_3
       clear HB
       have HO_3 := n0_
       have HB := n1_
       clear n0_ n1_
       (try clear hb)
       (try clear hb2)
       (try clear hk)
       (try clear hi)
       refine hK.out _ _ ⟨HS0_, HS1_, HS2_, HS3_, HS4_, (bcl_ HB hw241_0), (bcl_ HB hw241_1), (bcl_ HB hw241_2), (bcl_ HB hw241_3), (bcl_ HB hw241_4), (bcl_ HB hw241_5), (bcl_ HB hw241_6)⟩ (fun hHeld => ?_)
       clear hK K
       refine qjm (a' := ?_) ?_ ?_
       rotate_left
       ·show Act.put _ (some 28) _ = _
        simp only [Act.put, List.setIfInBounds_toArray, List.set_cons_zero, List.set_cons_succ, qeh, qen]
        rfl
       refine pu_ 14 (some 29) (btz 16 32767) HT_ ?_
       refine pu_ 15 (some 30) (btz 16 65535) HT_ ?_
       refine qjg (qgc HT_.out (by kernel_rfl)) ?_
       try go_wp2
       go_roundg k2
       case measure => have := HK1.out; have := HK2.out; omega
       case rel => exact ⟨(ji6), (by first | rfl | (simp; done) | (simp only [← hji6] <;> (first | rfl | simp)) | (simp [*]; done)), H', ⟨by have := HK1.out; have := HK2.out; omega⟩, ⟨by (with_reducible repeat (first | apply Kd.R_alloc | apply Kd.qbj | apply Kd.qbl)); exact HO_3.out⟩, ⟨bw_⟩⟩
      rw [if_neg c12] at H
      have c12b0 : decide (0 < t242) = false := decide_eq_false c12
      clear c12
      have H' := qd.mk H
      clear H
      try go_wp2
      have n0_ := qd.mk (Kd.qbl HO_3.out)
      have n1_ := qd.mk (qcq HB.out)
      clear HO_3
      clear HB
      have HO_3 := n0_
      have HB := n1_
      clear n0_ n1_
      have p240 : 0 ≤ ((ji6) : Int) := odt_
      have q240 : (ji6) < (x3_1.length : Int) := odt_
      obtain ⟨ad240, e240, hx240_0, hx240_1, hx240_2, hx240_3, hx240_4⟩ := qkv (Kd.qbt HO_3.out).2.2 (ji6) p240 q240
      cases e240
      replace p240 := eq_true p240
      replace q240 := eq_true q240
      have p241 : 0 ≤ (x4_1 : Int) := odt_
      have q241 : x4_1 < (l0.length : Int) := odt_
      obtain ⟨ad241, e241, hx241_0, hx241_1, hx241_2, hx241_3, hx241_4, hx241_5, hx241_6⟩ := qep HR0.out x4_1 p241 q241
      have hw241_6 := hx241_6
      have hw241_5 := hx241_5
      have hw241_4 := hx241_4
      have hw241_3 := hx241_3
      have hw241_2 := hx241_2
      have hw241_1 := hx241_1
      have hw241_0 := hx241_0
      cases e241
      replace hx241_0 := bcl_ HB hx241_0
      replace hx241_1 := bcl_ HB hx241_1
      replace hx241_2 := bcl_ HB hx241_2
      replace hx241_3 := bcl_ HB hx241_3
      replace hx241_4 := bcl_ HB hx241_4
      replace hx241_5 := bcl_ HB hx241_5
      replace hx241_6 := bcl_ HB hx241_6
      replace p241 := eq_true p241
      replace q241 := eq_true q241
      refine qgv (n := 16) (S := fun w' => w'.cell? (ad240.add (((ji6)).toNat * 5)) = some (.string ((qbd x3_1 (ji6)).f0)) ∧ w'.cell? ⟨(ad240.add (((ji6)).toNat * 5)).block, (ad240.add (((ji6)).toNat * 5)).off + 1, none⟩ = some (.string ((qbd x3_1 (ji6)).f1)) ∧ w'.cell? ⟨(ad240.add (((ji6)).toNat * 5)).block, (ad240.add (((ji6)).toNat * 5)).off + 2, none⟩ = some (.string ((qbd x3_1 (ji6)).f2)) ∧ w'.cell? ⟨(ad240.add (((ji6)).toNat * 5)).block, (ad240.add (((ji6)).toNat * 5)).off + 3, none⟩ = some (.string ((qbd x3_1 (ji6)).f3)) ∧ w'.cell? ⟨(ad240.add (((ji6)).toNat * 5)).block, (ad240.add (((ji6)).toNat * 5)).off + 4, none⟩ = some (.string ((qbd x3_1 (ji6)).f4)) ∧ w'.cell? (ad241.add ((x4_1).toNat * 7)) = some (.string ((qx l0 x4_1).f0.f0)) ∧ w'.cell? ⟨(ad241.add ((x4_1).toNat * 7)).block, (ad241.add ((x4_1).toNat * 7)).off + 1, none⟩ = some (.string ((qx l0 x4_1).f0.f1)) ∧ w'.cell? ⟨(ad241.add ((x4_1).toNat * 7)).block, (ad241.add ((x4_1).toNat * 7)).off + 2, none⟩ = some (.string ((qx l0 x4_1).f0.f2)) ∧ w'.cell? ⟨(ad241.add ((x4_1).toNat * 7)).block, (ad241.add ((x4_1).toNat * 7)).off + 3, none⟩ = some (.string ((qx l0 x4_1).f0.f3)) ∧ w'.cell? ⟨(ad241.add ((x4_1).toNat * 7)).block, (ad241.add ((x4_1).toNat * 7)).off + 4, none⟩ = some (.string ((qx l0 x4_1).f0.f4)) ∧ w'.cell? ⟨(ad241.add ((x4_1).toNat * 7)).block, (ad241.add ((x4_1).toNat * 7)).off + 5, none⟩ = some (.int .i64 ((qx l0 x4_1).f1)) ∧ w'.cell? ⟨(ad241.add ((x4_1).toNat * 7)).block, (ad241.add ((x4_1).toNat * 7)).off + 6, none⟩ = some (.int .i64 ((qx l0 x4_1).f2))) (ds := []) #[false, false, false, false, false, false, false, false, false, false, false, false, false, false, false, false] (by kernel_rfl) rfl rfl ⟨hx240_0, hx240_1, hx240_2, hx240_3, hx240_4, (bcl_ HB hw241_0), (bcl_ HB hw241_1), (bcl_ HB hw241_2), (bcl_ HB hw241_3), (bcl_ HB hw241_4), (bcl_ HB hw241_5), (bcl_ HB hw241_6)⟩ (fun hHeld => ?_); refine qeq qj.tab6 qj.bits6 (fun HT_ HW_ => ?_)
      generalize wr.drew = w15 at HO_3 HB hx240_0 hx240_1 hx240_2 hx240_3 hx240_4 hx241_0 hx241_1 hx241_2 hx241_3 hx241_4 hx241_5 hx241_6 hHeld ⊢
      refine pu_ 0 (some 15) (btz 16 1) HT_ ?_
      refine pu_ 1 (some 16) (btz 16 3) HT_ ?_
      refine pu_ 2 (some 17) (btz 16 7) HT_ ?_
      refine pu_ 3 (some 18) (btz 16 15) HT_ ?_
      refine pu_ 4 (some 19) (btz 16 31) HT_ ?_
      refine pu_ 5 (some 20) (btz 16 63) HT_ ?_
      refine pu_ 6 (some 21) (btz 16 127) HT_ ?_
      refine pu_ 8 (some 23) (btz 16 383) HT_ ?_
      refine pu_ 9 (some 24) (btz 16 895) HT_ ?_
      refine pu_ 10 (some 25) (btz 16 1919) HT_ ?_
      refine pu_ 11 (some 26) (btz 16 3967) HT_ ?_
      refine ta_ 7 (some 22) (btz 16 4095) HT_ HW_ hHeld rfl rfl (by rintro w' ⟨s0, s1, s2, s3, s4, s5, s6, s7, s8, s9, s10, s11⟩; go_simp; with_reducible rfl) ?_
      refine ta_ 12 (some 27) (btz 16 8191) HT_ HW_ hHeld rfl rfl (by rintro w' ⟨s0, s1, s2, s3, s4, s5, s6, s7, s8, s9, s10, s11⟩; go_simp; with_reducible rfl) ?_
      refine one_ (i := 13) (N := some 28) #[true, true, true, true, true, true, true, true, true, true, true, true, true, true, false, false] rfl rfl (qhq HT_.out (by kernel_rfl)) (by decide) (fun K hK => ?_)
      refine qkk Tryd.func145 (by kernel_rfl) rfl #[.agg #[.string ((qbd x3_1 (ji6)).f0), .string ((qbd x3_1 (ji6)).f1), .string ((qbd x3_1 (ji6)).f2), .string ((qbd x3_1 (ji6)).f3), .string ((qbd x3_1 (ji6)).f4)], .agg #[.string ((qx l0 x4_1).f0.f0), .string ((qx l0 x4_1).f0.f1), .string ((qx l0 x4_1).f0.f2), .string ((qx l0 x4_1).f0.f3), .string ((qx l0 x4_1).f0.f4)]] (by rfl) rfl rfl (by (try simp only [List.map_toArray, List.map_cons, List.map_nil]); first | done | (simp only [hji6]; rfl) | rfl | (simp only [List.length_drop, List.length_take]; rfl)) ?_
      with_reducible refine (qch.calls k2 ((qbd x3_1 (ji6)).f0) ((qbd x3_1 (ji6)).f1) ((qbd x3_1 (ji6)).f2) ((qbd x3_1 (ji6)).f3) ((qbd x3_1 (ji6)).f4) ((qx l0 x4_1).f0.f0) ((qx l0 x4_1).f0.f1) ((qx l0 x4_1).f0.f2) ((qx l0 x4_1).f0.f3) ((qx l0 x4_1).f0.f4) t242 _ A11.out).mono ?_
      rintro e w16 ⟨rfl, hb⟩
      have HS0_ := (hb.cell (World.block_lt_of_cell? _ _ (hHeld.1))).trans (hHeld.1)
      have HS1_ := (hb.cell (World.block_lt_of_cell? _ _ (hHeld.2.1))).trans (hHeld.2.1)
      have HS2_ := (hb.cell (World.block_lt_of_cell? _ _ (hHeld.2.2.1))).trans (hHeld.2.2.1)
      have HS3_ := (hb.cell (World.block_lt_of_cell? _ _ (hHeld.2.2.2.1))).trans (hHeld.2.2.2.1)
      have HS4_ := (hb.cell (World.block_lt_of_cell? _ _ (hHeld.2.2.2.2.1))).trans (hHeld.2.2.2.2.1)
      refine ⟨_, rfl, ?_⟩
      have n0_ := qd.mk (Kd.qdw (by (with_reducible repeat (first | apply Kd.R_alloc | apply Kd.qbj | apply Kd.qbl)); exact HO_3.out) hb)
      have n1_ := qd.mk (qw (bw_) hb)
      clear HO_3
      clear HB
      have HO_3 := n0_
      have HB := n1_
      clear n0_ n1_
      (try clear hb)
      (try clear hb2)
      (try clear hk)
      (try clear hi)
      refine hK.out _ _ ⟨HS0_, HS1_, HS2_, HS3_, HS4_, (bcl_ HB hw241_0), (bcl_ HB hw241_1), (bcl_ HB hw241_2), (bcl_ HB hw241_3), (bcl_ HB hw241_4), (bcl_ HB hw241_5), (bcl_ HB hw241_6)⟩ (fun hHeld => ?_)
      clear hK K
      refine qjm (a' := ?_) ?_ ?_
      rotate_left
      ·show Act.put _ (some 28) _ = _
       simp only [Act.put, List.setIfInBounds_toArray, List.set_cons_zero, List.set_cons_succ, qeh, qen]
       rfl
      refine pu_ 14 (some 29) (btz 16 32767) HT_ ?_
      refine pu_ 15 (some 30) (btz 16 65535) HT_ ?_
      refine qjg (qgc HT_.out (by kernel_rfl)) ?_
      try go_wp2
      go_meet
      case rel => exact ⟨_, (x5_2), sm_, H', ⟨by have := HK1.out; have := HK2.out; first | omega | exact Nat.le_refl _⟩, ⟨by (with_reducible repeat (first | apply Kd.R_alloc | apply Kd.qbj | apply Kd.qbl)); exact HO_3.out⟩, ⟨bw_⟩⟩
    clear HC3
    try clear c1
    try clear c2
    try clear c2b0
    try clear p2
    try clear q2
    try clear hx2
    try clear c5
    try clear c5b0
    try clear p6
    try clear c7
    try clear c7b0
    try clear c8
    try clear c8b0
    try clear c9
    try clear c9b0
    try clear c10
    try clear c10b0
    try clear c12
    try clear c12b0
    try clear c14
    try clear hx240_0
    try clear hx240_1
    try clear hx240_2
    try clear hx240_3
    try clear hx240_4
    try clear hx241_0
    try clear hx241_1
    try clear hx241_2
    try clear hx241_3
    try clear hx241_4
    try clear hx241_5
    try clear hx241_6
    try clear p2
    try clear p240
    try clear p241
    try clear q240
    try clear q241
    obtain ⟨kq, x5_2, rfl, HA, HJ2, HO_3, HB⟩ := hcut
    cases kq with
    | zero => exact absurd HA.out (by simp [qj.j2])
    | succ kj2 =>
     have H := HA.out
     clear HA
     simp only [qj.j2] at H
     have HC18 := qd.mk H
     clear H
     go_upto_region 8 with (fail)
     go_cut [47] (fun v47 wc => ∃ (kq : Nat) (x47_17 : Bool), v47 = .bool x47_17 ∧ qd (qj.j3 kq l0 x3_1 x4_1 x5_2 x47_17 = some r) ∧ qd (kq ≤ kj2) ∧ qd (Kd.R k40 40 wc w.heap.size (fun _ => True) (.slice Ao4 x3_1.length co4) x3_1) ∧ qd (Below w.heap.size w wc))
     case first =>
      have H := HC18.out
      clear HC18
      by_cases c19 : x5_2 > 0
      rotate_left
      ·rw [if_neg c19] at H
       have c19b0 : decide (0 < x5_2) = false := decide_eq_false c19
       clear c19
       (first | rw [c19b0] | (simp only [qeh, qen]; rw [c19b0]) | skip)
       have H' := qd.mk H
       clear H
       try go_wp2
       have n0_ := qd.mk (Kd.qbl HO_3.out)
       have n1_ := qd.mk (qcq HB.out)
       clear HO_3
       clear HB
       have HO_3 := n0_
       have HB := n1_
       clear n0_ n1_
       refine qgv (n := 15) (S := fun w' => True) (ds := []) #[false, false, false, false, false, false, false, false, false, false, false, false, false, false, false] (by kernel_rfl) rfl rfl trivial (fun hHeld => ?_); refine qeq qj.tab8 qj.bits8 (fun HT_ HW_ => ?_)
       generalize wc.drew = w26 at HO_3 HB hHeld ⊢
       refine pu_ 0 (some 33) (btz 15 1) HT_ ?_
       refine pu_ 1 (some 34) (btz 15 3) HT_ ?_
       refine pu_ 2 (some 35) (btz 15 7) HT_ ?_
       refine un_ 3 (some 36) (btz 15 15) HT_ ?_
       refine un_ 4 (some 37) (btz 15 31) HT_ ?_
       refine un_ 5 (some 38) (btz 15 63) HT_ ?_
       refine un_ 6 (some 39) (btz 15 127) HT_ ?_
       refine un_ 7 (some 40) (btz 15 255) HT_ ?_
       refine un_ 8 (some 41) (btz 15 511) HT_ ?_
       refine un_ 9 (some 42) (btz 15 1023) HT_ ?_
       refine un_ 10 (some 43) (btz 15 2047) HT_ ?_
       refine un_ 11 (some 44) (btz 15 4095) HT_ ?_
       refine un_ 12 (some 45) (btz 15 8191) HT_ ?_
       refine un_ 13 (some 46) (btz 15 16383) HT_ ?_
       refine pu_ 14 (some 47) (btz 15 32767) HT_ ?_
       refine qjg (qgc HT_.out (by kernel_rfl)) ?_
       try go_wp2
       go_meet
       case rel => exact ⟨_, (false), sm_, H', ⟨by have := HK1.out; have := HJ2.out; first | omega | exact Nat.le_refl _⟩, ⟨by (with_reducible repeat (first | apply Kd.R_alloc | apply Kd.qbj | apply Kd.qbl)); exact HO_3.out⟩, ⟨bw_⟩⟩
      rw [if_pos c19] at H
      have c19b0 : decide (0 < x5_2) = true := decide_eq_true c19
      clear c19
      (first | rw [c19b0] | (simp only [qeh, qen]; rw [c19b0]) | skip)
      obtain ⟨ji20, hji20⟩ : ∃ j_ : Int, (wrap64 (x5_2 - 1)) = j_ := ⟨_, rfl⟩
      replace H : (if 0 ≤ (ji20) then (if (ji20) < (x3_1.length : Int) then (if 0 ≤ x4_1 then (if x4_1 < (l0.length : Int) then (qj.j3 kj2 l0 x3_1 x4_1 x5_2 ((((qbd x3_1 (ji20)).f0).toList) == (((qx l0 x4_1).f0.f0).toList) && ((((qbd x3_1 (ji20)).f1).toList) == (((qx l0 x4_1).f0.f1).toList) && ((((qbd x3_1 (ji20)).f2).toList) == (((qx l0 x4_1).f0.f2).toList) && ((((qbd x3_1 (ji20)).f3).toList) == (((qx l0 x4_1).f0.f3).toList) && ((((qbd x3_1 (ji20)).f4).toList) == (((qx l0 x4_1).f0.f4).toList))))))) else (none)) else (none)) else (none)) else (none)) = some r := by first | (rw [hji20] at H; exact H) | (simp only [hji20] at H ⊢; exact H)
      have hji20w : (IntKind.i64.wrap (x5_2 - 1)) = ji20 := (qeh _).trans hji20
      by_cases c21 : 0 ≤ (ji20)
      rotate_left
      ·rw [if_neg c21] at H
       exact absurd H (by simp)
      rw [if_pos c21] at H
      have c21b0 : decide (0 ≤ (ji20)) = true := decide_eq_true c21
      clear c21
      by_cases c22 : (ji20) < (x3_1.length : Int)
      rotate_left
      ·rw [if_neg c22] at H
       exact absurd H (by simp)
      rw [if_pos c22] at H
      have c22b0 : decide ((ji20) < (x3_1.length : Int)) = true := decide_eq_true c22
      clear c22
      by_cases c23 : 0 ≤ x4_1
      rotate_left
      ·rw [if_neg c23] at H
       exact absurd H (by simp)
      rw [if_pos c23] at H
      have c23b0 : decide (0 ≤ x4_1) = true := decide_eq_true c23
      clear c23
      by_cases c24 : x4_1 < (l0.length : Int)
      rotate_left
      ·rw [if_neg c24] at H
       exact absurd H (by simp)
      rw [if_pos c24] at H
      have c24b0 : decide (x4_1 < (l0.length : Int)) = true := decide_eq_true c24
      clear c24
      have H' := qd.mk H
      clear H
      try go_wp2
      have n0_ := qd.mk (Kd.qbl HO_3.out)
      have n1_ := qd.mk (qcq HB.out)
      clear HO_3
      clear HB
      have HO_3 := n0_
      have HB := n1_
      clear n0_ n1_
      have p243 : 0 ≤ ((ji20) : Int) := odt_
      have q243 : (ji20) < (x3_1.length : Int) := odt_
      obtain ⟨ad243, e243, hx243_0, hx243_1, hx243_2, hx243_3, hx243_4⟩ := qkv (Kd.qbt HO_3.out).2.2 (ji20) p243 q243
      cases e243
      replace p243 := eq_true p243
      replace q243 := eq_true q243
      have p244 : 0 ≤ (x4_1 : Int) := odt_
      have q244 : x4_1 < (l0.length : Int) := odt_
      obtain ⟨ad244, e244, hx244_0, hx244_1, hx244_2, hx244_3, hx244_4, hx244_5, hx244_6⟩ := qep HR0.out x4_1 p244 q244
      have hw244_6 := hx244_6
      have hw244_5 := hx244_5
      have hw244_4 := hx244_4
      have hw244_3 := hx244_3
      have hw244_2 := hx244_2
      have hw244_1 := hx244_1
      have hw244_0 := hx244_0
      cases e244
      replace hx244_0 := bcl_ HB hx244_0
      replace hx244_1 := bcl_ HB hx244_1
      replace hx244_2 := bcl_ HB hx244_2
      replace hx244_3 := bcl_ HB hx244_3
      replace hx244_4 := bcl_ HB hx244_4
      replace hx244_5 := bcl_ HB hx244_5
      replace hx244_6 := bcl_ HB hx244_6
      replace p244 := eq_true p244
      replace q244 := eq_true q244
      refine qgv (n := 15) (S := fun w' => w'.cell? (ad243.add (((ji20)).toNat * 5)) = some (.string ((qbd x3_1 (ji20)).f0)) ∧ w'.cell? ⟨(ad243.add (((ji20)).toNat * 5)).block, (ad243.add (((ji20)).toNat * 5)).off + 1, none⟩ = some (.string ((qbd x3_1 (ji20)).f1)) ∧ w'.cell? ⟨(ad243.add (((ji20)).toNat * 5)).block, (ad243.add (((ji20)).toNat * 5)).off + 2, none⟩ = some (.string ((qbd x3_1 (ji20)).f2)) ∧ w'.cell? ⟨(ad243.add (((ji20)).toNat * 5)).block, (ad243.add (((ji20)).toNat * 5)).off + 3, none⟩ = some (.string ((qbd x3_1 (ji20)).f3)) ∧ w'.cell? ⟨(ad243.add (((ji20)).toNat * 5)).block, (ad243.add (((ji20)).toNat * 5)).off + 4, none⟩ = some (.string ((qbd x3_1 (ji20)).f4)) ∧ w'.cell? (ad244.add ((x4_1).toNat * 7)) = some (.string ((qx l0 x4_1).f0.f0)) ∧ w'.cell? ⟨(ad244.add ((x4_1).toNat * 7)).block, (ad244.add ((x4_1).toNat * 7)).off + 1, none⟩ = some (.string ((qx l0 x4_1).f0.f1)) ∧ w'.cell? ⟨(ad244.add ((x4_1).toNat * 7)).block, (ad244.add ((x4_1).toNat * 7)).off + 2, none⟩ = some (.string ((qx l0 x4_1).f0.f2)) ∧ w'.cell? ⟨(ad244.add ((x4_1).toNat * 7)).block, (ad244.add ((x4_1).toNat * 7)).off + 3, none⟩ = some (.string ((qx l0 x4_1).f0.f3)) ∧ w'.cell? ⟨(ad244.add ((x4_1).toNat * 7)).block, (ad244.add ((x4_1).toNat * 7)).off + 4, none⟩ = some (.string ((qx l0 x4_1).f0.f4)) ∧ w'.cell? ⟨(ad244.add ((x4_1).toNat * 7)).block, (ad244.add ((x4_1).toNat * 7)).off + 5, none⟩ = some (.int .i64 ((qx l0 x4_1).f1)) ∧ w'.cell? ⟨(ad244.add ((x4_1).toNat * 7)).block, (ad244.add ((x4_1).toNat * 7)).off + 6, none⟩ = some (.int .i64 ((qx l0 x4_1).f2))) (ds := []) #[false, false, false, false, false, false, false, false, false, false, false, false, false, false, false] (by kernel_rfl) rfl rfl ⟨hx243_0, hx243_1, hx243_2, hx243_3, hx243_4, (bcl_ HB hw244_0), (bcl_ HB hw244_1), (bcl_ HB hw244_2), (bcl_ HB hw244_3), (bcl_ HB hw244_4), (bcl_ HB hw244_5), (bcl_ HB hw244_6)⟩ (fun hHeld => ?_); refine qeq qj.tab8 qj.bits8 (fun HT_ HW_ => ?_)
      generalize wc.drew = w25 at HO_3 HB hx243_0 hx243_1 hx243_2 hx243_3 hx243_4 hx244_0 hx244_1 hx244_2 hx244_3 hx244_4 hx244_5 hx244_6 hHeld ⊢
      refine pu_ 0 (some 33) (btz 15 1) HT_ ?_
      refine pu_ 1 (some 34) (btz 15 3) HT_ ?_
      refine pu_ 2 (some 35) (btz 15 7) HT_ ?_
      refine pu_ 3 (some 36) (btz 15 15) HT_ ?_
      refine pu_ 4 (some 37) (btz 15 31) HT_ ?_
      refine pu_ 5 (some 38) (btz 15 63) HT_ ?_
      refine pu_ 6 (some 39) (btz 15 127) HT_ ?_
      refine pu_ 8 (some 41) (btz 15 383) HT_ ?_
      refine pu_ 9 (some 42) (btz 15 895) HT_ ?_
      refine pu_ 10 (some 43) (btz 15 1919) HT_ ?_
      refine pu_ 11 (some 44) (btz 15 3967) HT_ ?_
      refine ta_ 7 (some 40) (btz 15 4095) HT_ HW_ hHeld rfl rfl (by rintro w' ⟨s0, s1, s2, s3, s4, s5, s6, s7, s8, s9, s10, s11⟩; go_simp; with_reducible rfl) ?_
      refine ta_ 12 (some 45) (btz 15 8191) HT_ HW_ hHeld rfl rfl (by rintro w' ⟨s0, s1, s2, s3, s4, s5, s6, s7, s8, s9, s10, s11⟩; go_simp; with_reducible rfl) ?_
      refine pu_ 13 (some 46) (btz 15 16383) HT_ ?_
      refine pu_ 14 (some 47) (btz 15 32767) HT_ ?_
      refine qjg (qgc HT_.out (by kernel_rfl)) ?_
      try go_wp2
      go_meet
      case rel => exact ⟨_, (((((qbd x3_1 (ji20)).f0).toList) == (((qx l0 x4_1).f0.f0).toList) && ((((qbd x3_1 (ji20)).f1).toList) == (((qx l0 x4_1).f0.f1).toList) && ((((qbd x3_1 (ji20)).f2).toList) == (((qx l0 x4_1).f0.f2).toList) && ((((qbd x3_1 (ji20)).f3).toList) == (((qx l0 x4_1).f0.f3).toList) && ((((qbd x3_1 (ji20)).f4).toList) == (((qx l0 x4_1).f0.f4).toList))))))), (by first | rfl | (simp; done) | (simp only [← hji20] <;> (first | rfl | simp)) | (simp [*]; done)), H', ⟨by have := HK1.out; have := HJ2.out; first | omega | exact Nat.le_refl _⟩, ⟨by (with_reducible repeat (first | apply Kd.R_alloc | apply Kd.qbj | apply Kd.qbl)); exact HO_3.out⟩, ⟨bw_⟩⟩
     clear HC18
     try clear c1
     try clear c2
     try clear c2b0
     try clear p2
     try clear q2
     try clear hx2
     try clear c5
     try clear c5b0
     try clear p6
     try clear c7
     try clear c7b0
     try clear c8
     try clear c8b0
     try clear c9
     try clear c9b0
     try clear c10
     try clear c10b0
     try clear c12
     try clear c12b0
     try clear c14
     try clear c19
     try clear c19b0
     try clear c21
     try clear c21b0
     try clear c22
     try clear c22b0
     try clear c23
     try clear c23b0
     try clear c24
     try clear c24b0
     try clear p24
     try clear q24
     try clear hx24
     try clear hx240_0
     try clear hx240_1
     try clear hx240_2
     try clear hx240_3
     try clear hx240_4
     try clear hx241_0
     try clear hx241_1
     try clear hx241_2
     try clear hx241_3
     try clear hx241_4
     try clear hx241_5
     try clear hx241_6
     try clear hx243_0
     try clear hx243_1
     try clear hx243_2
     try clear hx243_3
     try clear hx243_4
     try clear hx244_0
     try clear hx244_1
     try clear hx244_2
     try clear hx244_3
     try clear hx244_4
     try clear hx244_5
     try clear hx244_6
     try clear p2
     try clear p240
     try clear p241
     try clear p243
     try clear p244
     try clear p6
     try clear q2
     try clear q240
     try clear q241
     try clear q243
     try clear q244
     obtain ⟨kq, x47_17, rfl, HA, HJ17, HO_3, HB⟩ := hcut
     cases kq with
     | zero => exact absurd HA.out (by simp [qj.j3])
     | succ kj17 =>
      have H := HA.out
      clear HA
      simp only [qj.j3] at H
      by_cases c27 : x47_17 = true
      ·subst c27
       have H1 : (qj.l0 kj17 l0 x3_1 (wrap64 (x4_1 + 1))) = some r := by rw [if_pos rfl] at H; exact H
       clear H
       have H := H1
       clear H1
       have H' := qd.mk H
       clear H
       go_wp2
       go_roundg kj17
       case measure => have := HK1.out; have := HJ2.out; have := HJ17.out; omega
       case rel => exact ⟨(x3_1), (wrap64 (x4_1 + 1)), sm_, H', ⟨by have := HK1.out; have := HJ2.out; have := HJ17.out; omega⟩, ⟨by (with_reducible repeat (first | apply Kd.R_alloc | apply Kd.qbj | apply Kd.qbl)); exact HO_3.out⟩, ⟨bw_⟩⟩
      replace c27 := Bool.eq_false_iff.mpr c27
      subst c27
      have H1 : (if x3_1.length < 1759218604441 then ((some (x3_1 ++ [(⟨(⟨#[]⟩ : ByteArray), (⟨#[]⟩ : ByteArray), (⟨#[]⟩ : ByteArray), (⟨#[]⟩ : ByteArray), (⟨#[]⟩ : ByteArray)⟩ : S40)] : List (S40))).bind fun y245 => (qj.l2 kj17 l0 y245 x4_1 x5_2 (wrap64 ((y245.length : Int) - 1)))) else (none)) = some r := by rw [if_neg (show ¬ (false = true) by decide)] at H; exact H
      clear H
      have H := H1
      clear H1
      by_cases c28 : x3_1.length < 1759218604441
      rotate_left
      ·rw [if_neg c28] at H
       exact absurd H (by simp)
      rw [if_pos c28] at H
      have LMc28 := qd.mk c28
      clear c28
      obtain ⟨y245, hy245⟩ : ∃ y_ : List (S40), y_ = (x3_1 ++ [(⟨(⟨#[]⟩ : ByteArray), (⟨#[]⟩ : ByteArray), (⟨#[]⟩ : ByteArray), (⟨#[]⟩ : ByteArray), (⟨#[]⟩ : ByteArray)⟩ : S40)]) := ⟨_, rfl⟩
      replace H : (qj.l2 kj17 l0 y245 x4_1 x5_2 (wrap64 ((y245.length : Int) - 1))) = some r := by first | (rw [hy245]; with_reducible exact H) | (have H2_ := (Option.bind_some _ _).symm.trans H; rw [hy245]; with_reducible exact H2_) | (have H2_ := (Option.bind_some _ _).symm.trans H; with_reducible exact H2_) | with_reducible exact H | (rw [hy245]; exact H) | exact H
      have Ny245 := qd.mk hy245
      clear hy245
      have H' := qd.mk H
      clear H
      go_wp2_with (first | ((with_reducible refine qdf (b := .append) (xs := #[.tmp 48, .tmp 50]) rfl ?_); at_builtin; refine Kd.qet k40 (w0 := w) w.heap.size rfl (.tmp 48) (.tmp 50) 170 40 (.agg #[(.string ⟨#[]⟩), (.string ⟨#[]⟩), (.string ⟨#[]⟩), (.string ⟨#[]⟩), (.string ⟨#[]⟩)]) 80 rfl Tryd.underlying170 info40 rfl (by decide) (by omega) (.slice Ao4 x3_1.length co4) x3_1 (⟨(⟨#[]⟩ : ByteArray), (⟨#[]⟩ : ByteArray), (⟨#[]⟩ : ByteArray), (⟨#[]⟩ : ByteArray), (⟨#[]⟩ : ByteArray)⟩ : S40) [.string (⟨#[]⟩ : ByteArray), .string (⟨#[]⟩ : ByteArray), .string (⟨#[]⟩ : ByteArray), .string (⟨#[]⟩ : ByteArray), .string (⟨#[]⟩ : ByteArray)] (fun _ => True) (fun _ => False) rfl rfl ?aP (fun _ hk => hk.elim) ?aF ?aO ?aB ?aS ?aL ?_; (case aP => exact k40_mkM _ _ _ (⟨(⟨#[]⟩ : ByteArray), (⟨#[]⟩ : ByteArray), (⟨#[]⟩ : ByteArray), (⟨#[]⟩ : ByteArray), (⟨#[]⟩ : ByteArray)⟩ : S40)); (case aB => exact (bw_)); (case aF => exact (fun _ _ => trivial)); (case aO => exact (by (with_reducible repeat (first | apply Kd.R_alloc | apply Kd.qbj | apply Kd.qbl)); exact HO_3.out)); (case aS => exact (qcm (bw_))); (case aL => have := LMc28.out; omega); intro v246 w29 ho hb hg hat; rw [← Ny245.out] at ho; have n0_ := qd.mk (hb); have n1_ := qd.mk (ho); clear HB; clear HO_3; have HB := n0_; have HO247 := n1_; clear n0_ n1_; clear ho hb hg hat; obtain ⟨Ao30, co30, eo30⟩ := Kd.qct HO247.out; subst eo30))
      go_loopg [6] kj17 (fun kq v6 w' => ∃ (x3_4 : List (S40)) (x6_4 : Int), v6 = .int .i64 x6_4 ∧ qd (qj.l2 kq l0 x3_4 x4_1 x5_2 x6_4 = some r) ∧ qd (kq ≤ kj17) ∧ qd (Kd.R k40 40 w' w.heap.size (fun _ => True) (.slice Ao30 y245.length co30) x3_4) ∧ qd (Below w.heap.size w w'))
      case atStart => exact ⟨(y245), (wrap64 ((y245.length : Int) - 1)), sm_, H', ⟨Nat.le_refl _⟩, ⟨by (with_reducible repeat (first | apply Kd.R_alloc | apply Kd.qbj | apply Kd.qbl)); exact HO247.out⟩, ⟨bw_⟩⟩
      clear H'
      try clear c1
      try clear c2
      try clear c2b0
      try clear p2
      try clear q2
      try clear hx2
      try clear c5
      try clear c5b0
      try clear p6
      try clear c7
      try clear c7b0
      try clear c8
      try clear c8b0
      try clear c9
      try clear c9b0
      try clear c10
      try clear c10b0
      try clear c12
      try clear c12b0
      try clear c14
      try clear c19
      try clear c19b0
      try clear c21
      try clear c21b0
      try clear c22
      try clear c22b0
      try clear c23
      try clear c23b0
      try clear c24
      try clear c24b0
      try clear p24
      try clear q24
      try clear hx24
      try clear c27
      try clear c28
      try clear hx240_0
      try clear hx240_1
      try clear hx240_2
      try clear hx240_3
      try clear hx240_4
      try clear hx241_0
      try clear hx241_1
      try clear hx241_2
      try clear hx241_3
      try clear hx241_4
      try clear hx241_5
      try clear hx241_6
      try clear hx243_0
      try clear hx243_1
      try clear hx243_2
      try clear hx243_3
      try clear hx243_4
      try clear hx244_0
      try clear hx244_1
      try clear hx244_2
      try clear hx244_3
      try clear hx244_4
      try clear hx244_5
      try clear hx244_6
      try clear p2
      try clear p24
      try clear p240
      try clear p241
      try clear p243
      try clear p244
      try clear p6
      try clear q2
      try clear q24
      try clear q240
      try clear q241
      try clear q243
      try clear q244
      obtain ⟨x3_4, x6_4, rfl, HA, HK4, HO_3, HB⟩ := hrel
      have hl3_4 := (Kd.qbt HO_3.out).1
      rw [hl3_4] at HO_3
      (try simp only [hl3_4])
      cases gk with
      | zero => exact absurd HA.out (by simp [qj.l2])
      | succ k4 =>
       have H := HA.out
       clear HA
       simp only [qj.l2] at H
       by_cases c31 : x6_4 > x5_2
       ·rw [if_pos c31] at H
        have c31b0 : decide (x5_2 < x6_4) = true := decide_eq_true c31
        clear c31
        obtain ⟨ji32, hji32⟩ : ∃ j_ : Int, (wrap64 (x6_4 - 1)) = j_ := ⟨_, rfl⟩
        replace H : (if 0 ≤ (ji32) then (if (ji32) < (x3_4.length : Int) then (if 0 ≤ x6_4 then (if x6_4 < (x3_4.length : Int) then (qj.l2 k4 l0 (x3_4.set (x6_4 : Int).toNat (⟨(qbd x3_4 (ji32)).f0, (qbd x3_4 (ji32)).f1, (qbd x3_4 (ji32)).f2, (qbd x3_4 (ji32)).f3, (qbd x3_4 (ji32)).f4⟩ : S40)) x4_1 x5_2 ji32) else (none)) else (none)) else (none)) else (none)) = some r := by first | (rw [hji32] at H; exact H) | (simp only [hji32] at H ⊢; exact H)
        have hji32w : (IntKind.i64.wrap (x6_4 - 1)) = ji32 := (qeh _).trans hji32
        by_cases c33 : 0 ≤ (ji32)
        rotate_left
        ·rw [if_neg c33] at H
         exact absurd H (by simp)
        rw [if_pos c33] at H
        have c33b0 : decide (0 ≤ (ji32)) = true := decide_eq_true c33
        clear c33
        by_cases c34 : (ji32) < (x3_4.length : Int)
        rotate_left
        ·rw [if_neg c34] at H
         exact absurd H (by simp)
        rw [if_pos c34] at H
        have c34b0 : decide ((ji32) < (x3_4.length : Int)) = true := decide_eq_true c34
        clear c34
        by_cases c35 : 0 ≤ x6_4
        rotate_left
        ·rw [if_neg c35] at H
         exact absurd H (by simp)
        rw [if_pos c35] at H
        have c35b0 : decide (0 ≤ x6_4) = true := decide_eq_true c35
        clear c35
        by_cases c36 : x6_4 < (x3_4.length : Int)
        rotate_left
        ·rw [if_neg c36] at H
         exact absurd H (by simp)
        rw [if_pos c36] at H
        have c36b0 : decide (x6_4 < (x3_4.length : Int)) = true := decide_eq_true c36
        clear c36
        obtain ⟨y249, hy249⟩ : ∃ y_ : List (S40), y_ = (x3_4.set (x6_4 : Int).toNat (⟨(qbd x3_4 (ji32)).f0, (qbd x3_4 (ji32)).f1, (qbd x3_4 (ji32)).f2, (qbd x3_4 (ji32)).f3, (qbd x3_4 (ji32)).f4⟩ : S40)) := ⟨_, rfl⟩
        replace H : (qj.l2 k4 l0 y249 x4_1 x5_2 ji32) = some r := by first | (rw [hy249]; with_reducible exact H) | (have H2_ := (Option.bind_some _ _).symm.trans H; rw [hy249]; with_reducible exact H2_) | (have H2_ := (Option.bind_some _ _).symm.trans H; with_reducible exact H2_) | with_reducible exact H | (rw [hy249]; exact H) | exact H
        have Ny249 := qd.mk hy249
        clear hy249
        have H' := qd.mk H
        clear H
        have p248 : 0 ≤ ((ji32) : Int) := odt_
        have q248 : (ji32) < (x3_4.length : Int) := odt_
        obtain ⟨ad248, e248, hx248_0, hx248_1, hx248_2, hx248_3, hx248_4⟩ := qkv (Kd.qbt HO_3.out).2.2 (ji32) p248 q248
        cases e248
        replace p248 := eq_true p248
        replace q248 := eq_true q248
        have p37 : 0 ≤ (x6_4 : Int) := odt_
        have q37 : (x6_4 : Int) < ((x3_4.length : Int) : Int) := odt_
        obtain ⟨go37, co37, eo37, gb37, gl37, cl37, HG37⟩ := Kd.R_form HO_3.out (by omega)
        (first | cases eo37 | (injection eo37 with ea_ en_ ec_; (first | subst ea_ | (injection ea_ with ea_; subst ea_)); subst ec_; clear en_))
        have GB37 := qd.mk gb37
        have GG37 := qd.mk HG37
        clear gb37 gl37 HG37
        (first | simp only [add_plain] at hx248_0 | skip)
        (first | simp only [add_plain] at hx248_1 | skip)
        (first | simp only [add_plain] at hx248_2 | skip)
        (first | simp only [add_plain] at hx248_3 | skip)
        (first | simp only [add_plain] at hx248_4 | skip)
        obtain ⟨ce37, hcl37, hM37, hcc37, hfr37⟩ := Kd.R_elem HO_3.out z40 (x6_4 : Int) p37 q37
        obtain rfl := qke hM37
        have hx37_0 : wr.cell? ⟨go37, (x6_4 : Int).toNat * 5, none⟩ = some (.string ((qbd x3_4 x6_4).f0)) := hcc37 0 _ rfl
        have hx37_1 : wr.cell? ⟨go37, (x6_4 : Int).toNat * 5 + 1, none⟩ = some (.string ((qbd x3_4 x6_4).f1)) := hcc37 1 _ rfl
        have hx37_2 : wr.cell? ⟨go37, (x6_4 : Int).toNat * 5 + 2, none⟩ = some (.string ((qbd x3_4 x6_4).f2)) := hcc37 2 _ rfl
        have hx37_3 : wr.cell? ⟨go37, (x6_4 : Int).toNat * 5 + 3, none⟩ = some (.string ((qbd x3_4 x6_4).f3)) := hcc37 3 _ rfl
        have hx37_4 : wr.cell? ⟨go37, (x6_4 : Int).toNat * 5 + 4, none⟩ = some (.string ((qbd x3_4 x6_4).f4)) := hcc37 4 _ rfl
        have hf37_0 : wr.frozen? ⟨go37, (x6_4 : Int).toNat * 5, none⟩ = false := hfr37 0
        have hf37_1 : wr.frozen? ⟨go37, (x6_4 : Int).toNat * 5 + 1, none⟩ = false := hfr37 1
        have hf37_2 : wr.frozen? ⟨go37, (x6_4 : Int).toNat * 5 + 2, none⟩ = false := hfr37 2
        have hf37_3 : wr.frozen? ⟨go37, (x6_4 : Int).toNat * 5 + 3, none⟩ = false := hfr37 3
        have hf37_4 : wr.frozen? ⟨go37, (x6_4 : Int).toNat * 5 + 4, none⟩ = false := hfr37 4
        clear hcl37 hcc37 hfr37 hM37
        replace p37 := eq_true p37
        replace q37 := eq_true q37
        have HX38 := qd.mk (show Kd.R k40 40 wr w.heap.size (fun _ => True) (.slice (some ⟨go37, 0, none⟩) x3_4.length co30) x3_4 from (by (with_reducible repeat (first | apply Kd.R_alloc | apply Kd.qbj | apply Kd.qbl)); exact HO_3.out))
        obtain ⟨ce38, hcl38, hM38, hcc38, hfr38⟩ := Kd.R_elem HX38.out z40 (x6_4 : Int) (odt_) (by have h_ : (x6_4 : Int) < ((x3_4.length : Int) : Int) := odt_; first | exact h_ | (have e_ := (Kd.qbt HO_3.out).1; omega) | simpa using h_)
        obtain rfl := qke hM38
        have HP38 := Kd.R_seg HX38.out (x6_4 : Int) (odt_) (by have h_ : (x6_4 : Int) < ((x3_4.length : Int) : Int) := odt_; first | exact h_ | (have e_ := (Kd.qbt HO_3.out).1; omega) | simpa using h_) (seg := [.string ((qbd x3_4 (ji32)).f0), .string ((qbd x3_4 (ji32)).f1), .string ((qbd x3_4 (ji32)).f2), .string ((qbd x3_4 (ji32)).f3), .string ((qbd x3_4 (ji32)).f4)]) (j := 0) hcl38 hcc38 (show 5 ≤ 5 from by decide) (x' := (⟨(qbd x3_4 (ji32)).f0, (qbd x3_4 (ji32)).f1, (qbd x3_4 (ji32)).f2, (qbd x3_4 (ji32)).f3, (qbd x3_4 (ji32)).f4⟩ : S40)) (k40_mkM _ _ _ (⟨(qbd x3_4 (ji32)).f0, (qbd x3_4 (ji32)).f1, (qbd x3_4 (ji32)).f2, (qbd x3_4 (ji32)).f3, (qbd x3_4 (ji32)).f4⟩ : S40) ) (fun _ hk => hk)
        have hx38_0 := hcc38 0 _ rfl
        (try simp only [show (k40).sz = 5 from rfl, Nat.mul_one, Nat.add_zero] at hx38_0)
        have hf38_0 := hfr38 0
        (try simp only [show (k40).sz = 5 from rfl, Nat.mul_one, Nat.add_zero] at hf38_0)
        have hx38_1 := hcc38 1 _ rfl
        (try simp only [show (k40).sz = 5 from rfl, Nat.mul_one, Nat.add_zero] at hx38_1)
        have hf38_1 := hfr38 1
        (try simp only [show (k40).sz = 5 from rfl, Nat.mul_one, Nat.add_zero] at hf38_1)
        have hx38_2 := hcc38 2 _ rfl
        (try simp only [show (k40).sz = 5 from rfl, Nat.mul_one, Nat.add_zero] at hx38_2)
        have hf38_2 := hfr38 2
        (try simp only [show (k40).sz = 5 from rfl, Nat.mul_one, Nat.add_zero] at hf38_2)
        have hx38_3 := hcc38 3 _ rfl
        (try simp only [show (k40).sz = 5 from rfl, Nat.mul_one, Nat.add_zero] at hx38_3)
        have hf38_3 := hfr38 3
        (try simp only [show (k40).sz = 5 from rfl, Nat.mul_one, Nat.add_zero] at hf38_3)
        have hx38_4 := hcc38 4 _ rfl
        (try simp only [show (k40).sz = 5 from rfl, Nat.mul_one, Nat.add_zero] at hx38_4)
        have hf38_4 := hfr38 4
        (try simp only [show (k40).sz = 5 from rfl, Nat.mul_one, Nat.add_zero] at hf38_4)
        clear hcl38 hcc38 hfr38 hM38
        go_wp2_with (first | ((with_reducible refine qnx (t := 40) (p := 67) rfl ?_); refine qlp (t := 40) (p := 67) (v := ?vo_w39) (w1 := (((((wr.setCell ⟨go37, (x6_4 : Int).toNat * 5, none⟩ (.string ((qbd x3_4 (ji32)).f0))).setCell ⟨go37, (x6_4 : Int).toNat * 5 + 1, none⟩ (.string ((qbd x3_4 (ji32)).f1))).setCell ⟨go37, (x6_4 : Int).toNat * 5 + 2, none⟩ (.string ((qbd x3_4 (ji32)).f2))).setCell ⟨go37, (x6_4 : Int).toNat * 5 + 3, none⟩ (.string ((qbd x3_4 (ji32)).f3))).setCell ⟨go37, (x6_4 : Int).toNat * 5 + 4, none⟩ (.string ((qbd x3_4 (ji32)).f4)))) ?hg ?ho ?hn ?hr ?_; (case ho => rfl); (case hg => rfl); (case hn => rfl); (case hr => first | (go_simp; done) | (go_simp; rfl)); intro w39 hw; have hg : wr.grownBy w39 (some go37) := (by rw [hw]; exact HP38.2); have hp_ : Kd.R k40 40 w39 w.heap.size (fun _ => True) (.slice (some ⟨go37, 0, none⟩) x3_4.length co30) y249 := (by rw [hw, Ny249.out]; exact HP38.1); clear HP38; have n0_ := qd.mk (hp_); have n1_ := qd.mk ((by rw [hw]; exact qdm (qdm (qdm (qdm (qdm (HB.out) GB37.out) GB37.out) GB37.out) GB37.out) GB37.out : Below w.heap.size w w39)); clear HO_3; clear HB; have HO_3 := n0_; have HB := n1_; clear n0_ n1_; clear hg hw hp_))
        (try simp only [← hl3_4])
        go_roundg k4
        case measure => have := HK1.out; have := HJ2.out; have := HJ17.out; have := HK4.out; omega
        case rel => exact ⟨(y249), (ji32), (by first | rfl | (simp; done) | (simp only [← hji32] <;> (first | rfl | simp)) | (simp [*]; done)), H', ⟨by have := HK1.out; have := HJ2.out; have := HJ17.out; have := HK4.out; omega⟩, ⟨by (try simp only [hl3_4]); (with_reducible repeat (first | apply Kd.R_alloc | apply Kd.qbj | apply Kd.qbl)); exact HO_3.out⟩, ⟨bw_⟩⟩
       rw [if_neg c31] at H
       have c31b0 : decide (x5_2 < x6_4) = false := decide_eq_false c31
       clear c31
       by_cases c40 : 0 ≤ x4_1
       rotate_left
       ·rw [if_neg c40] at H
        exact absurd H (by simp)
       rw [if_pos c40] at H
       have c40b0 : decide (0 ≤ x4_1) = true := decide_eq_true c40
       clear c40
       by_cases c41 : x4_1 < (l0.length : Int)
       rotate_left
       ·rw [if_neg c41] at H
        exact absurd H (by simp)
       rw [if_pos c41] at H
       have c41b0 : decide (x4_1 < (l0.length : Int)) = true := decide_eq_true c41
       clear c41
       by_cases c42 : 0 ≤ x5_2
       rotate_left
       ·rw [if_neg c42] at H
        exact absurd H (by simp)
       rw [if_pos c42] at H
       have c42b0 : decide (0 ≤ x5_2) = true := decide_eq_true c42
       clear c42
       by_cases c43 : x5_2 < (x3_4.length : Int)
       rotate_left
       ·rw [if_neg c43] at H
        exact absurd H (by simp)
       rw [if_pos c43] at H
       have c43b0 : decide (x5_2 < (x3_4.length : Int)) = true := decide_eq_true c43
       clear c43
       obtain ⟨y251, hy251⟩ : ∃ y_ : List (S40), y_ = (x3_4.set (x5_2 : Int).toNat (⟨(qx l0 x4_1).f0.f0, (qx l0 x4_1).f0.f1, (qx l0 x4_1).f0.f2, (qx l0 x4_1).f0.f3, (qx l0 x4_1).f0.f4⟩ : S40)) := ⟨_, rfl⟩
       replace H : (qj.l0 k4 l0 y251 (wrap64 (x4_1 + 1))) = some r := by first | (rw [hy251]; with_reducible exact H) | (have H2_ := (Option.bind_some _ _).symm.trans H; rw [hy251]; with_reducible exact H2_) | (have H2_ := (Option.bind_some _ _).symm.trans H; with_reducible exact H2_) | with_reducible exact H | (rw [hy251]; exact H) | exact H
       have Ny251 := qd.mk hy251
       clear hy251
       have H' := qd.mk H
       clear H
       have p250 : 0 ≤ (x4_1 : Int) := odt_
       have q250 : x4_1 < (l0.length : Int) := odt_
       obtain ⟨ad250, e250, hx250_0, hx250_1, hx250_2, hx250_3, hx250_4, hx250_5, hx250_6⟩ := qep HR0.out x4_1 p250 q250
       cases e250
       replace hx250_0 := bcl_ HB hx250_0
       replace hx250_1 := bcl_ HB hx250_1
       replace hx250_2 := bcl_ HB hx250_2
       replace hx250_3 := bcl_ HB hx250_3
       replace hx250_4 := bcl_ HB hx250_4
       replace hx250_5 := bcl_ HB hx250_5
       replace hx250_6 := bcl_ HB hx250_6
       replace p250 := eq_true p250
       replace q250 := eq_true q250
       have p44 : 0 ≤ (x5_2 : Int) := odt_
       have q44 : (x5_2 : Int) < ((x3_4.length : Int) : Int) := odt_
       obtain ⟨go44, co44, eo44, gb44, gl44, cl44, HG44⟩ := Kd.R_form HO_3.out (by omega)
       (first | cases eo44 | (injection eo44 with ea_ en_ ec_; (first | subst ea_ | (injection ea_ with ea_; subst ea_)); subst ec_; clear en_))
       have GB44 := qd.mk gb44
       have GG44 := qd.mk HG44
       clear gb44 gl44 HG44
       obtain ⟨ce44, hcl44, hM44, hcc44, hfr44⟩ := Kd.R_elem HO_3.out z40 (x5_2 : Int) p44 q44
       obtain rfl := qke hM44
       have hx44_0 : wr.cell? ⟨go44, (x5_2 : Int).toNat * 5, none⟩ = some (.string ((qbd x3_4 x5_2).f0)) := hcc44 0 _ rfl
       have hx44_1 : wr.cell? ⟨go44, (x5_2 : Int).toNat * 5 + 1, none⟩ = some (.string ((qbd x3_4 x5_2).f1)) := hcc44 1 _ rfl
       have hx44_2 : wr.cell? ⟨go44, (x5_2 : Int).toNat * 5 + 2, none⟩ = some (.string ((qbd x3_4 x5_2).f2)) := hcc44 2 _ rfl
       have hx44_3 : wr.cell? ⟨go44, (x5_2 : Int).toNat * 5 + 3, none⟩ = some (.string ((qbd x3_4 x5_2).f3)) := hcc44 3 _ rfl
       have hx44_4 : wr.cell? ⟨go44, (x5_2 : Int).toNat * 5 + 4, none⟩ = some (.string ((qbd x3_4 x5_2).f4)) := hcc44 4 _ rfl
       have hf44_0 : wr.frozen? ⟨go44, (x5_2 : Int).toNat * 5, none⟩ = false := hfr44 0
       have hf44_1 : wr.frozen? ⟨go44, (x5_2 : Int).toNat * 5 + 1, none⟩ = false := hfr44 1
       have hf44_2 : wr.frozen? ⟨go44, (x5_2 : Int).toNat * 5 + 2, none⟩ = false := hfr44 2
       have hf44_3 : wr.frozen? ⟨go44, (x5_2 : Int).toNat * 5 + 3, none⟩ = false := hfr44 3
       have hf44_4 : wr.frozen? ⟨go44, (x5_2 : Int).toNat * 5 + 4, none⟩ = false := hfr44 4
       clear hcl44 hcc44 hfr44 hM44
       replace p44 := eq_true p44
       replace q44 := eq_true q44
       have HX45 := qd.mk (show Kd.R k40 40 wr w.heap.size (fun _ => True) (.slice (some ⟨go44, 0, none⟩) x3_4.length co30) x3_4 from (by (with_reducible repeat (first | apply Kd.R_alloc | apply Kd.qbj | apply Kd.qbl)); exact HO_3.out))
       obtain ⟨ce45, hcl45, hM45, hcc45, hfr45⟩ := Kd.R_elem HX45.out z40 (x5_2 : Int) (odt_) (by have h_ : (x5_2 : Int) < ((x3_4.length : Int) : Int) := odt_; first | exact h_ | (have e_ := (Kd.qbt HO_3.out).1; omega) | simpa using h_)
       obtain rfl := qke hM45
       have HP45 := Kd.R_seg HX45.out (x5_2 : Int) (odt_) (by have h_ : (x5_2 : Int) < ((x3_4.length : Int) : Int) := odt_; first | exact h_ | (have e_ := (Kd.qbt HO_3.out).1; omega) | simpa using h_) (seg := [.string ((qx l0 x4_1).f0.f0), .string ((qx l0 x4_1).f0.f1), .string ((qx l0 x4_1).f0.f2), .string ((qx l0 x4_1).f0.f3), .string ((qx l0 x4_1).f0.f4)]) (j := 0) hcl45 hcc45 (show 5 ≤ 5 from by decide) (x' := (⟨(qx l0 x4_1).f0.f0, (qx l0 x4_1).f0.f1, (qx l0 x4_1).f0.f2, (qx l0 x4_1).f0.f3, (qx l0 x4_1).f0.f4⟩ : S40)) (k40_mkM _ _ _ (⟨(qx l0 x4_1).f0.f0, (qx l0 x4_1).f0.f1, (qx l0 x4_1).f0.f2, (qx l0 x4_1).f0.f3, (qx l0 x4_1).f0.f4⟩ : S40) ) (fun _ hk => hk)
       have hx45_0 := hcc45 0 _ rfl
       (try simp only [show (k40).sz = 5 from rfl, Nat.mul_one, Nat.add_zero] at hx45_0)
       have hf45_0 := hfr45 0
       (try simp only [show (k40).sz = 5 from rfl, Nat.mul_one, Nat.add_zero] at hf45_0)
       have hx45_1 := hcc45 1 _ rfl
       (try simp only [show (k40).sz = 5 from rfl, Nat.mul_one, Nat.add_zero] at hx45_1)
       have hf45_1 := hfr45 1
       (try simp only [show (k40).sz = 5 from rfl, Nat.mul_one, Nat.add_zero] at hf45_1)
       have hx45_2 := hcc45 2 _ rfl
       (try simp only [show (k40).sz = 5 from rfl, Nat.mul_one, Nat.add_zero] at hx45_2)
       have hf45_2 := hfr45 2
       (try simp only [show (k40).sz = 5 from rfl, Nat.mul_one, Nat.add_zero] at hf45_2)
       have hx45_3 := hcc45 3 _ rfl
       (try simp only [show (k40).sz = 5 from rfl, Nat.mul_one, Nat.add_zero] at hx45_3)
       have hf45_3 := hfr45 3
       (try simp only [show (k40).sz = 5 from rfl, Nat.mul_one, Nat.add_zero] at hf45_3)
       have hx45_4 := hcc45 4 _ rfl
       (try simp only [show (k40).sz = 5 from rfl, Nat.mul_one, Nat.add_zero] at hx45_4)
       have hf45_4 := hfr45 4
       (try simp only [show (k40).sz = 5 from rfl, Nat.mul_one, Nat.add_zero] at hf45_4)
       clear hcl45 hcc45 hfr45 hM45
       go_wp2_with (first | ((with_reducible refine qnx (t := 40) (p := 75) rfl ?_); refine qlp (t := 40) (p := 75) (v := ?vo_w46) (w1 := (((((wr.setCell ⟨go44, (x5_2 : Int).toNat * 5, none⟩ (.string ((qx l0 x4_1).f0.f0))).setCell ⟨go44, (x5_2 : Int).toNat * 5 + 1, none⟩ (.string ((qx l0 x4_1).f0.f1))).setCell ⟨go44, (x5_2 : Int).toNat * 5 + 2, none⟩ (.string ((qx l0 x4_1).f0.f2))).setCell ⟨go44, (x5_2 : Int).toNat * 5 + 3, none⟩ (.string ((qx l0 x4_1).f0.f3))).setCell ⟨go44, (x5_2 : Int).toNat * 5 + 4, none⟩ (.string ((qx l0 x4_1).f0.f4)))) ?hg ?ho ?hn ?hr ?_; (case ho => rfl); (case hg => rfl); (case hn => rfl); (case hr => first | (go_simp; done) | (go_simp; rfl)); intro w46 hw; have hg : wr.grownBy w46 (some go44) := (by rw [hw]; exact HP45.2); have hp_ : Kd.R k40 40 w46 w.heap.size (fun _ => True) (.slice (some ⟨go44, 0, none⟩) x3_4.length co30) y251 := (by rw [hw, Ny251.out]; exact HP45.1); clear HP45; have n0_ := qd.mk (hp_); have n1_ := qd.mk ((by rw [hw]; exact qdm (qdm (qdm (qdm (qdm (HB.out) GB44.out) GB44.out) GB44.out) GB44.out) GB44.out : Below w.heap.size w w46)); clear HO_3; clear HB; have HO_3 := n0_; have HB := n1_; clear n0_ n1_; clear hg hw hp_))
       (try simp only [← hl3_4])
       go_roundg k4
       case measure => have := HK1.out; have := HJ2.out; have := HJ17.out; have := HK4.out; omega
       case rel => exact ⟨(y251), (wrap64 (x4_1 + 1)), sm_, H', ⟨by have := HK1.out; have := HJ2.out; have := HJ17.out; have := HK4.out; omega⟩, ⟨by (try simp only [hl3_4]); (with_reducible repeat (first | apply Kd.R_alloc | apply Kd.qbj | apply Kd.qbl)); exact HO_3.out⟩, ⟨bw_⟩⟩
   ·rw [if_neg c2] at H
    have c2b0 : decide (x4_1 < (l0.length : Int)) = false := decide_eq_false c2
    clear c2
    obtain rfl := Option.some.inj H
    go_wp2
    go_ret
    exact ⟨_, ew_, by (with_reducible repeat (first | apply Kd.R_alloc | apply Kd.qbj | apply Kd.qbl)); exact HO_3.out, bw_⟩
end
def qcb.f (a0 : Int) : Option (Bool) := if a0 ≥ (-1000000000000000) then (some (decide (a0 ≤ 1000000000000000))) else (some false)
set_option maxRecDepth 100000 in
theorem qcb.calls (a0 : Int) (r : Bool) (w : World) (h : qcb.f a0 = some r) :
  Calls Tryd.prog 104 #[.int .i64 a0] w fun e w' => e = .returned (.bool r) ∧ qcs w w' := by
 have H : (if a0 ≥ (-1000000000000000) then (some (decide (a0 ≤ 1000000000000000))) else (some false)) = some r := h
 clear h
 by_cases c2 : a0 ≥ (-1000000000000000)
 ·rw [if_pos c2] at H
  have c2b0 : decide ((-1000000000000000) ≤ a0) = true := decide_eq_true c2
  clear c2
  obtain rfl := Option.some.inj H
  go_enter Tryd.func104, Tryd.ntmps104
  go_wp2
  go_ret
  exact ⟨sm_, dn_⟩
 ·rw [if_neg c2] at H
  have c2b0 : decide ((-1000000000000000) ≤ a0) = false := decide_eq_false c2
  clear c2
  obtain rfl := Option.some.inj H
  go_enter Tryd.func104, Tryd.ntmps104
  go_wp2
  go_ret
  exact ⟨sm_, dn_⟩
end
end Go.Proofs.YtppcjoaghlecmaaDoor.P
