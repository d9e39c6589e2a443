/- Texts of mine and of the print, joined: Px44, Opn0, Opn, SpecW, SpecS, SpecO, SpecK, Px46, Px47, SpecEr, HandLed, SpecLg, HandNew, HandPost, HandPut, HandPuz, HandPst, HandSel, HandSld, HandItr, HandFlt, HandSht, HandFnd, SpecC. -/
import Derived.Test.YtppcjoaghlecmaaDoorCa
import Derived.Test.YtppcjoaghlecmaaDoorCd
import Derived.Deep.Slices
import Derived.ChangeArms
import Derived.ChangeSame
import Derived.WideShapes
import Derived.Test.YtppcjoaghlecmaaDoorCc
import Derived.Test.YtppcjoaghlecmaaDoorCb
import Derived.BigQuiet
import Derived.Deep.RegionHeld3
import Derived.StillTailTactics
import Derived.RangeFuncBox
import Derived.RangeFuncNested
import Derived.RangeFuncLeaves
import Derived.Shelf.Abstract
import Derived.WalkKit
import Derived.OwnWalkIn
import Derived.TacticsInMore
import Derived.LoopNIn
import Derived.LoopIn
import Derived.Maps.AppendAt
namespace Go.Proofs.YtppcjoaghlecmaaDoor.P
open Go.RowKit Go.Proofs.YtppcjoaghlecmaaDoorW.PrintWords Go.Proofs.YtppcjoaghlecmaaDoorW.PrintLast Go.Proofs.YtppcjoaghlecmaaDoorW.PrintMore
attribute [local go_sem] qfa qey qft qfs qej qei qez qex
set_option linter.unusedVariables false
set_option linter.unusedSimpArgs false
section
attribute [local go_sem high] eqA40
mutual
def qy.l0 : Nat → List (S112) → List (S112) → List (S40) → Int → Option ((List (S112)) × Int)
 | 0, _, _, _, _ => none
 | k + 1, x0, x4, x5, x6 => if x6 < (x5.length : Int) then (qy.l1 k x0 x4 x5 x6 ([] : List Int) ([] : List Int) 0) else (some (x4, 0))
def qy.l1 : Nat → List (S112) → List (S112) → List (S40) → Int → List Int → List Int → Int → Option ((List (S112)) × Int)
 | 0, _, _, _, _, _, _, _ => none
 | k + 1, x0, x4, x5, x6, x7, x8, x9 => if x9 < (x0.length : Int) then (if 0 ≤ x9 then (if 0 ≤ x6 then (if x6 < (x5.length : Int) then (if ((((qp x0 x9).f0.f0).toList) == (((qbc x5 x6).f0).toList) && ((((qp x0 x9).f0.f1).toList) == (((qbc x5 x6).f1).toList) && ((((qp x0 x9).f0.f2).toList) == (((qbc x5 x6).f2).toList) && ((((qp x0 x9).f0.f3).toList) == (((qbc x5 x6).f3).toList) && ((((qp x0 x9).f0.f4).toList) == (((qbc x5 x6).f4).toList)))))) = true then (if x7.length < 17592186044416 then (if x8.length < 17592186044416 then (qy.l1 k x0 x4 x5 x6 (x7 ++ [(qp x0 x9).f1]) (x8 ++ [(qp x0 x9).f2]) (wrap64 (x9 + 1))) else (none)) else (none)) else (qy.l1 k x0 x4 x5 x6 x7 x8 (wrap64 (x9 + 1)))) else (none)) else (none)) else (none)) else ((qbn.f k x7).bind fun bt265 => ((qbn.f k x8).bind fun bt267 => (if bt265.2 = true then (if bt267.2 = true then ((qbw.f bt265.1).bind fun t269 => (if t269 = true then ((qbw.f bt267.1).bind fun t270 => (qy.j2 k x0 x4 x5 x6 bt265.1 bt267.1 (!t270))) else (qy.j2 k x0 x4 x5 x6 bt265.1 bt267.1 true))) else (qy.j2 k x0 x4 x5 x6 bt265.1 bt267.1 true)) else (qy.j2 k x0 x4 x5 x6 bt265.1 bt267.1 true))))
def qy.j2 : Nat → List (S112) → List (S112) → List (S40) → Int → Int → Int → Bool → Option ((List (S112)) × Int)
 | 0, _, _, _, _, _, _, _ => none
 | k + 1, x0, x4, x5, x6, x10, x12, x79 => if x79 = true then (some (([] : List (S112)), 4)) else (if x10 = 0 then (if x12 = 0 then (qy.l0 k x0 x4 x5 (wrap64 (x6 + 1))) else (if 0 ≤ x6 then (if x6 < (x5.length : Int) then (if x4.length < 1466015503701 then (qy.l0 k x0 (x4 ++ [(⟨(⟨(qbc x5 x6).f0, (qbc x5 x6).f1, (qbc x5 x6).f2, (qbc x5 x6).f3, (qbc x5 x6).f4⟩ : S40), x10, x12⟩ : S112)]) x5 (wrap64 (x6 + 1))) else (none)) else (none)) else (none))) else (if 0 ≤ x6 then (if x6 < (x5.length : Int) then (if x4.length < 1466015503701 then (qy.l0 k x0 (x4 ++ [(⟨(⟨(qbc x5 x6).f0, (qbc x5 x6).f1, (qbc x5 x6).f2, (qbc x5 x6).f3, (qbc x5 x6).f4⟩ : S40), x10, x12⟩ : S112)]) x5 (wrap64 (x6 + 1))) else (none)) else (none)) else (none)))
end
def qy.f (k : Nat) (l0 : List (S112)) : Option ((List (S112)) × Int) := (qg.f k l0).bind fun t252 => (qy.l0 k l0 ([] : List (S112)) t252 0)
set_option maxHeartbeats 8000000 in
set_option maxRecDepth 100000 in
theorem qy.calls (k : Nat) (A0 : Option Addr) (c0 : Nat) (l0 : List (S112)) (r1 : List (S112)) (r2 : Int) (w : World) (hr0 : Kd.C k112 w A0 l0.length l0) (hc0 : l0.length ≤ c0) (h : qy.f k l0 = some (r1, r2)) :
  Calls Tryd.prog 54 #[.slice A0 l0.length c0] w fun e w' => ∃ v0_ : Value, e = .returned (.tuple #[v0_, .int .i64 r2]) ∧ Kd.R k112 112 w' w.heap.size (fun _ => True) v0_ r1 ∧ Below w.heap.size w w' := by
 have hu40 := Tryd.underlying40
 have hu112 := Tryd.underlying112
 have HR0 := qd.mk hr0
 have HC0 := qd.mk hc0
 clear hr0 hc0
 have HB := qd.mk (Below.refl w.heap.size w)
 have H : ((qg.f k l0).bind fun t252 => (qy.l0 k l0 ([] : List (S112)) t252 0)) = some (r1, r2) := h
 clear h
 replace H := Option.bind_eq_some_iff.mp H
 obtain ⟨t252, A20, H⟩ := H
 replace H : (qy.l0 k l0 ([] : List (S112)) t252 0) = some (r1, r2) := H
 have A2 := qd.mk A20
 clear A20
 have H' := qd.mk H
 clear H
 go_enter Tryd.func54, Tryd.ntmps54
 go_wp2_with (first | (go_at_call 103; (with_reducible refine (qg.calls k _ _ l0 t252 _ ?side1 ?side2 A2.out).mono ?_); (case side1 => repeat (first | exact HR0.out | (with_reducible refine Kd.qco ?_ _) | (with_reducible refine Kd.qcs ?_ _) | (with_reducible refine Kd.qdk ?_))); (case side2 => exact HC0.out); rintro e w3 ⟨v253, rfl, ho0, hb⟩; have n0_ := qd.mk (Kd.qel ho0 (qcn (bw_))); have n1_ := qd.mk (qbd (bw_) hb); clear HB; have HO254 := n0_; have HB := n1_; clear n0_ n1_; (try clear hb); (try clear hb2); (try clear hk); (try clear hi); (try clear ho0)))
 repeat (go_quiet (first | (go_at_call 103; (with_reducible refine (qg.calls k _ _ l0 t252 _ ?side1 ?side2 A2.out).mono ?_); (case side1 => repeat (first | exact HR0.out | (with_reducible refine Kd.qco ?_ _) | (with_reducible refine Kd.qcs ?_ _) | (with_reducible refine Kd.qdk ?_))); (case side2 => exact HC0.out); rintro e w3 ⟨v253, rfl, ho0, hb⟩; have n0_ := qd.mk (Kd.qel ho0 (qcn (bw_))); have n1_ := qd.mk (qbd (bw_) hb); clear HB; have HO254 := n0_; have HB := n1_; clear n0_ n1_; (try clear hb); (try clear hb2); (try clear hk); (try clear hi); (try clear ho0))); try go_wp2_with (first | (go_at_call 103; (with_reducible refine (qg.calls k _ _ l0 t252 _ ?side1 ?side2 A2.out).mono ?_); (case side1 => repeat (first | exact HR0.out | (with_reducible refine Kd.qco ?_ _) | (with_reducible refine Kd.qcs ?_ _) | (with_reducible refine Kd.qdk ?_))); (case side2 => exact HC0.out); rintro e w3 ⟨v253, rfl, ho0, hb⟩; have n0_ := qd.mk (Kd.qel ho0 (qcn (bw_))); have n1_ := qd.mk (qbd (bw_) hb); clear HB; have HO254 := n0_; have HB := n1_; clear n0_ n1_; (try clear hb); (try clear hb2); (try clear hk); (try clear hi); (try clear ho0))))
 go_loopg [4, 6] k (fun kq v4 v6 w' => ∃ (x4_1 : List (S112)) (x6_1 : Int), v6 = .int .i64 x6_1 ∧ qd (qy.l0 kq l0 x4_1 t252 x6_1 = some (r1, r2)) ∧ qd (kq ≤ k) ∧ qd (Kd.R k112 112 w' w.heap.size (fun _ => True) v4 x4_1) ∧ qd (Kd.R k40 40 w' w.heap.size (fun _ => True) v253 t252) ∧ qd (Below w.heap.size w w'))
 case atStart => exact ⟨(([] : List (S112))), (0), sm_, H', ⟨Nat.le_refl _⟩, ⟨by first | exact Kd.qia _ _ _ _ _ | exact Kd.N_nil _ _ _ _ _ | exact Kd.V_nil _ _ _ _ _ | exact Kd.Q_nil _ _ _ _ _ | exact Kd.S_nil _ _ _ _ _⟩, ⟨by (with_reducible repeat (first | apply Kd.R_alloc | apply Kd.qbi | apply Kd.qbl)); exact HO254.out⟩, ⟨bw_⟩⟩
 case round =>
  clear H'
  try clear p2
  obtain ⟨x4_1, x6_1, rfl, HA, HK1, HO_4, HO_5, HB⟩ := hrel
  cases gk with
  | zero => exact absurd HA.out (by simp [qy.l0])
  | succ k1 =>
   have H := HA.out
   clear HA
   simp only [qy.l0] at H
   by_cases c4 : x6_1 < (t252.length : Int)
   ·rw [if_pos c4] at H
    have c4b0 : decide (x6_1 < (t252.length : Int)) = true := decide_eq_true c4
    clear c4
    have H' := qd.mk H
    clear H
    obtain ⟨Ao5, co5, eo5⟩ := Kd.qcp HO_5.out
    subst eo5
    go_wp2
    repeat (go_quiet (fail); try go_wp2)
    go_loopg [7, 8, 9] k1 (fun kq v7 v8 v9 w' => ∃ (x7_2 : List Int) (x8_2 : List Int) (x9_2 : Int), v9 = .int .i64 x9_2 ∧ qd (qy.l1 kq l0 x4_1 t252 x6_1 x7_2 x8_2 x9_2 = some (r1, r2)) ∧ qd (kq ≤ k1) ∧ qd (Kd.R k112 112 w' w.heap.size (fun _ => True) u4 x4_1) ∧ qd (Kd.R k40 40 w' w.heap.size (fun _ => True) (.slice Ao5 t252.length co5) t252) ∧ qd (Kd.R (Kd.int .i64) 3 w' w.heap.size (fun k_ => some k_ ≠ (v8 : Value).ownBlock) v7 x7_2) ∧ qd (Kd.R (Kd.int .i64) 3 w' w.heap.size (fun k_ => some k_ ≠ (v7 : Value).ownBlock) v8 x8_2) ∧ qd (Below w.heap.size w w'))
    case atStart => exact ⟨(([] : List Int)), (([] : List Int)), (0), sm_, H', ⟨Nat.le_refl _⟩, ⟨by (with_reducible repeat (first | apply Kd.R_alloc | apply Kd.qbi | apply Kd.qbl)); exact HO_4.out⟩, ⟨by (with_reducible repeat (first | apply Kd.R_alloc | apply Kd.qbi | apply Kd.qbl)); exact HO_5.out⟩, ⟨by first | exact Kd.qia _ _ _ _ _ | exact Kd.N_nil _ _ _ _ _ | exact Kd.V_nil _ _ _ _ _ | exact Kd.Q_nil _ _ _ _ _ | exact Kd.S_nil _ _ _ _ _⟩, ⟨by first | exact Kd.qia _ _ _ _ _ | exact Kd.N_nil _ _ _ _ _ | exact Kd.V_nil _ _ _ _ _ | exact Kd.Q_nil _ _ _ _ _ | exact Kd.S_nil _ _ _ _ _⟩, ⟨bw_⟩⟩
    clear H'
    try clear p2
    try clear c4
    try clear c4b0
    try clear c5
    try clear p2
    obtain ⟨x7_2, x8_2, x9_2, rfl, HA, HK2, HO_4, HO_5, HO_7, HO_8, HB⟩ := hrel
    cases gk with
    | zero => exact absurd HA.out (by simp [qy.l1])
    | succ k2 =>
     have H := HA.out
     clear HA
     simp only [qy.l1] at H
     by_cases c6 : x9_2 < (l0.length : Int)
     ·rw [if_pos c6] at H
      have c6b0 : decide (x9_2 < (l0.length : Int)) = true := decide_eq_true c6
      clear c6
      by_cases c7 : 0 ≤ x9_2
      rotate_left
      ·rw [if_neg c7] at H
       exact absurd H (by simp)
      rw [if_pos c7] at H
      have c7b0 : decide (0 ≤ x9_2) = true := decide_eq_true c7
      clear c7
      by_cases c8 : 0 ≤ x6_1
      rotate_left
      ·rw [if_neg c8] at H
       exact absurd H (by simp)
      rw [if_pos c8] at H
      have c8b0 : decide (0 ≤ x6_1) = true := decide_eq_true c8
      clear c8
      by_cases c9 : x6_1 < (t252.length : Int)
      rotate_left
      ·rw [if_neg c9] at H
       exact absurd H (by simp)
      rw [if_pos c9] at H
      have c9b0 : decide (x6_1 < (t252.length : Int)) = true := decide_eq_true c9
      clear c9
      by_cases c10 : ((((qp l0 x9_2).f0.f0).toList) == (((qbc t252 x6_1).f0).toList) && ((((qp l0 x9_2).f0.f1).toList) == (((qbc t252 x6_1).f1).toList) && ((((qp l0 x9_2).f0.f2).toList) == (((qbc t252 x6_1).f2).toList) && ((((qp l0 x9_2).f0.f3).toList) == (((qbc t252 x6_1).f3).toList) && ((((qp l0 x9_2).f0.f4).toList) == (((qbc t252 x6_1).f4).toList)))))) = true
      rotate_left
      ·rw [if_neg c10] at H
       have c10b0 : ((((qp l0 x9_2).f0.f0).toList) == (((qbc t252 x6_1).f0).toList) && ((((qp l0 x9_2).f0.f1).toList) == (((qbc t252 x6_1).f1).toList) && ((((qp l0 x9_2).f0.f2).toList) == (((qbc t252 x6_1).f2).toList) && ((((qp l0 x9_2).f0.f3).toList) == (((qbc t252 x6_1).f3).toList) && ((((qp l0 x9_2).f0.f4).toList) == (((qbc t252 x6_1).f4).toList)))))) = false := by simpa using c10
       (try (have c10b1 : decide ((((qp l0 x9_2).f0.f0).toList) = (((qbc t252 x6_1).f0).toList) && ((((qp l0 x9_2).f0.f1).toList) == (((qbc t252 x6_1).f1).toList) && ((((qp l0 x9_2).f0.f2).toList) == (((qbc t252 x6_1).f2).toList) && ((((qp l0 x9_2).f0.f3).toList) == (((qbc t252 x6_1).f3).toList) && ((((qp l0 x9_2).f0.f4).toList) == (((qbc t252 x6_1).f4).toList)))))) = false := by simpa using c10))
       (try (have c10b2 : ((((qp l0 x9_2).f0.f0).toList) == (((qbc t252 x6_1).f0).toList) && ((((qp l0 x9_2).f0.f1).toList) == (((qbc t252 x6_1).f1).toList) && ((((qp l0 x9_2).f0.f2).toList) == (((qbc t252 x6_1).f2).toList) && ((((qp l0 x9_2).f0.f3).toList) == (((qbc t252 x6_1).f3).toList) && ((((qp l0 x9_2).f0.f4).toList) == (((qbc t252 x6_1).f4).toList)))))) = false := by simpa using c10))
       (try (have c10b3 : ¬ ((((qp l0 x9_2).f0.f0).toList) = (((qbc t252 x6_1).f0).toList) && ((((qp l0 x9_2).f0.f1).toList) == (((qbc t252 x6_1).f1).toList) && ((((qp l0 x9_2).f0.f2).toList) == (((qbc t252 x6_1).f2).toList) && ((((qp l0 x9_2).f0.f3).toList) == (((qbc t252 x6_1).f3).toList) && ((((qp l0 x9_2).f0.f4).toList) == (((qbc t252 x6_1).f4).toList)))))) := by simpa using c10))
       clear c10
       have H' := qd.mk H
       clear H
       have p255 : 0 ≤ (x9_2 : Int) := odt_
       have q255 : x9_2 < (l0.length : Int) := odt_
       obtain ⟨ad255, e255, hx255_0, hx255_1, hx255_2, hx255_3, hx255_4, hx255_5, hx255_6⟩ := qek HR0.out x9_2 p255 q255
       cases e255
       replace hx255_0 := bcl_ HB hx255_0
       replace hx255_1 := bcl_ HB hx255_1
       replace hx255_2 := bcl_ HB hx255_2
       replace hx255_3 := bcl_ HB hx255_3
       replace hx255_4 := bcl_ HB hx255_4
       replace hx255_5 := bcl_ HB hx255_5
       replace hx255_6 := bcl_ HB hx255_6
       replace p255 := eq_true p255
       replace q255 := eq_true q255
       have p256 : 0 ≤ (x6_1 : Int) := odt_
       have q256 : x6_1 < (t252.length : Int) := odt_
       obtain ⟨ad256, e256, hx256_0, hx256_1, hx256_2, hx256_3, hx256_4⟩ := qkm (Kd.qbr HO_5.out).2.2 x6_1 p256 q256
       cases e256
       replace p256 := eq_true p256
       replace q256 := eq_true q256
       go_wp2
       repeat (go_quiet (fail); try go_wp2)
       go_roundg k2
       case measure => have := HK1.out; have := HK2.out; omega
       case rel => exact ⟨(x7_2), (x8_2), (wrap64 (x9_2 + 1)), sm_, H', ⟨by have := HK1.out; have := HK2.out; omega⟩, ⟨by (with_reducible repeat (first | apply Kd.R_alloc | apply Kd.qbi | apply Kd.qbl)); exact HO_4.out⟩, ⟨by (with_reducible repeat (first | apply Kd.R_alloc | apply Kd.qbi | apply Kd.qbl)); exact HO_5.out⟩, ⟨by (with_reducible repeat (first | apply Kd.R_alloc | apply Kd.qbi | apply Kd.qbl)); exact HO_7.out⟩, ⟨by (with_reducible repeat (first | apply Kd.R_alloc | apply Kd.qbi | apply Kd.qbl)); exact HO_8.out⟩, ⟨bw_⟩⟩
      rw [if_pos c10] at H
      have c10b0 : ((((qp l0 x9_2).f0.f0).toList) == (((qbc t252 x6_1).f0).toList) && ((((qp l0 x9_2).f0.f1).toList) == (((qbc t252 x6_1).f1).toList) && ((((qp l0 x9_2).f0.f2).toList) == (((qbc t252 x6_1).f2).toList) && ((((qp l0 x9_2).f0.f3).toList) == (((qbc t252 x6_1).f3).toList) && ((((qp l0 x9_2).f0.f4).toList) == (((qbc t252 x6_1).f4).toList)))))) = true := c10
      (try (have c10b1 : decide ((((qp l0 x9_2).f0.f0).toList) = (((qbc t252 x6_1).f0).toList) && ((((qp l0 x9_2).f0.f1).toList) == (((qbc t252 x6_1).f1).toList) && ((((qp l0 x9_2).f0.f2).toList) == (((qbc t252 x6_1).f2).toList) && ((((qp l0 x9_2).f0.f3).toList) == (((qbc t252 x6_1).f3).toList) && ((((qp l0 x9_2).f0.f4).toList) == (((qbc t252 x6_1).f4).toList)))))) = true := by simpa using c10))
      (try (have c10b2 : ((((qp l0 x9_2).f0.f0).toList) == (((qbc t252 x6_1).f0).toList) && ((((qp l0 x9_2).f0.f1).toList) == (((qbc t252 x6_1).f1).toList) && ((((qp l0 x9_2).f0.f2).toList) == (((qbc t252 x6_1).f2).toList) && ((((qp l0 x9_2).f0.f3).toList) == (((qbc t252 x6_1).f3).toList) && ((((qp l0 x9_2).f0.f4).toList) == (((qbc t252 x6_1).f4).toList)))))) = true := by simpa using c10))
      clear c10
      by_cases c11 : x7_2.length < 17592186044416
      rotate_left
      ·rw [if_neg c11] at H
       exact absurd H (by simp)
      rw [if_pos c11] at H
      have LMc11 := qd.mk c11
      clear c11
      obtain ⟨y258, hy258⟩ : ∃ y_ : List Int, y_ = (x7_2 ++ [(qp l0 x9_2).f1]) := ⟨_, rfl⟩
      replace H : (if x8_2.length < 17592186044416 then (qy.l1 k2 l0 x4_1 t252 x6_1 y258 (x8_2 ++ [(qp l0 x9_2).f2]) (wrap64 (x9_2 + 1))) else (none)) = some (r1, r2) := by first | (rw [hy258]; with_reducible exact H) | (have H2_ := (Option.bind_some _ _).symm.trans H; rw [hy258]; with_reducible exact H2_) | (have H2_ := (Option.bind_some _ _).symm.trans H; with_reducible exact H2_) | with_reducible exact H | (rw [hy258]; exact H) | exact H
      have Ny258 := qd.mk hy258
      clear hy258
      by_cases c12 : x8_2.length < 17592186044416
      rotate_left
      ·rw [if_neg c12] at H
       exact absurd H (by simp)
      rw [if_pos c12] at H
      have LMc12 := qd.mk c12
      clear c12
      obtain ⟨y262, hy262⟩ : ∃ y_ : List Int, y_ = (x8_2 ++ [(qp l0 x9_2).f2]) := ⟨_, rfl⟩
      replace H : (qy.l1 k2 l0 x4_1 t252 x6_1 y258 y262 (wrap64 (x9_2 + 1))) = some (r1, r2) := by first | (rw [hy262]; with_reducible exact H) | (have H2_ := (Option.bind_some _ _).symm.trans H; rw [hy262]; with_reducible exact H2_) | (have H2_ := (Option.bind_some _ _).symm.trans H; with_reducible exact H2_) | with_reducible exact H | (rw [hy262]; exact H) | exact H
      have Ny262 := qd.mk hy262
      clear hy262
      have H' := qd.mk H
      clear H
      have p255 : 0 ≤ (x9_2 : Int) := odt_
      have q255 : x9_2 < (l0.length : Int) := odt_
      obtain ⟨ad255, e255, hx255_0, hx255_1, hx255_2, hx255_3, hx255_4, hx255_5, hx255_6⟩ := qek HR0.out x9_2 p255 q255
      cases e255
      replace hx255_0 := bcl_ HB hx255_0
      replace hx255_1 := bcl_ HB hx255_1
      replace hx255_2 := bcl_ HB hx255_2
      replace hx255_3 := bcl_ HB hx255_3
      replace hx255_4 := bcl_ HB hx255_4
      replace hx255_5 := bcl_ HB hx255_5
      replace hx255_6 := bcl_ HB hx255_6
      replace p255 := eq_true p255
      replace q255 := eq_true q255
      have p256 : 0 ≤ (x6_1 : Int) := odt_
      have q256 : x6_1 < (t252.length : Int) := odt_
      obtain ⟨ad256, e256, hx256_0, hx256_1, hx256_2, hx256_3, hx256_4⟩ := qkm (Kd.qbr HO_5.out).2.2 x6_1 p256 q256
      cases e256
      replace p256 := eq_true p256
      replace q256 := eq_true q256
      have p257 : 0 ≤ (x9_2 : Int) := odt_
      have q257 : x9_2 < (l0.length : Int) := odt_
      obtain ⟨ad257, e257, hx257_0, hx257_1, hx257_2, hx257_3, hx257_4, hx257_5, hx257_6⟩ := qek HR0.out x9_2 p257 q257
      obtain rfl : ad255 = ad257 := (by injection e257)
      replace hx257_0 := bcl_ HB hx257_0
      replace hx257_1 := bcl_ HB hx257_1
      replace hx257_2 := bcl_ HB hx257_2
      replace hx257_3 := bcl_ HB hx257_3
      replace hx257_4 := bcl_ HB hx257_4
      replace hx257_5 := bcl_ HB hx257_5
      replace hx257_6 := bcl_ HB hx257_6
      replace p257 := eq_true p257
      replace q257 := eq_true q257
      go_wp2_with (first | ((with_reducible refine qdi (b := .append) (xs := #[.tmp 38, .tmp 44]) rfl ?_); at_builtin; refine Kd.qep (Kd.int .i64) (w0 := w) w.heap.size rfl (.tmp 38) (.tmp 44) 43 3 (.int .i64 0) 8 rfl Tryd.underlying43 info3 rfl (by decide) (by omega) u7 x7_2 ((qp l0 x9_2).f1) [.int .i64 ((qp l0 x9_2).f1)] (fun k_ => some k_ ≠ (u8 : Value).ownBlock) (fun _ => False) rfl rfl ?aP (fun _ hk => hk.elim) ?aF ?aO ?aB ?aS ?aL ?_; (case aP => exact rfl); (case aB => exact (bw_)); (case aF => exact (fun k_ hk => Kd.fresh' (Kd.R_lt (by (with_reducible repeat (first | apply Kd.R_alloc | apply Kd.qbi | apply Kd.qbl)); exact HO_8.out)) k_ hk)); (case aO => exact (by (with_reducible repeat (first | apply Kd.R_alloc | apply Kd.qbi | apply Kd.qbl)); exact HO_7.out)); (case aS => exact (qcn (bw_))); (case aL => have := LMc11.out; omega); intro v259 w13 ho hb hg hat; rw [← Ny258.out] at ho; have n0_ := qd.mk (Kd.qfh (by (with_reducible repeat (first | apply Kd.R_alloc | apply Kd.qbi | apply Kd.qbl)); exact HO_4.out) (Kd.qdw (by (with_reducible repeat (first | apply Kd.R_alloc | apply Kd.qbi | apply Kd.qbl)); exact HO_7.out)) (by decide) hg); have n1_ := qd.mk (Kd.qfh (by (with_reducible repeat (first | apply Kd.R_alloc | apply Kd.qbi | apply Kd.qbl)); exact HO_5.out) (Kd.qdw (by (with_reducible repeat (first | apply Kd.R_alloc | apply Kd.qbi | apply Kd.qbl)); exact HO_7.out)) (by decide) hg); have n2_ := qd.mk (Kd.qiq (ok := (fun _ => True)) (by (with_reducible repeat (first | apply Kd.R_alloc | apply Kd.qbi | apply Kd.qbl)); exact Kd.qdq HO_8.out (fun _ hk => ⟨trivial, hk⟩)) hg hat); have n3_ := qd.mk (hb); have n4_ := qd.mk (ho); clear HO_4; clear HO_5; clear HO_8; clear HB; clear HO_7; have HO_4 := n0_; have HO_5 := n1_; have HO_8 := n2_; have HB := n3_; have HO260 := n4_; clear n0_ n1_ n2_ n3_ n4_; clear ho hb hg hat; have p261 : 0 ≤ (x9_2 : Int) := odt_; have q261 : x9_2 < (l0.length : Int) := odt_; obtain ⟨ad261, e261, hx261_0, hx261_1, hx261_2, hx261_3, hx261_4, hx261_5, hx261_6⟩ := qek HR0.out x9_2 p261 q261; obtain rfl : ad255 = ad261 := (by injection e261); replace hx261_0 := bcl_ HB hx261_0; replace hx261_1 := bcl_ HB hx261_1; replace hx261_2 := bcl_ HB hx261_2; replace hx261_3 := bcl_ HB hx261_3; replace hx261_4 := bcl_ HB hx261_4; replace hx261_5 := bcl_ HB hx261_5; replace hx261_6 := bcl_ HB hx261_6; replace p261 := eq_true p261; replace q261 := eq_true q261) | ((with_reducible refine qdi (b := .append) (xs := #[.tmp 46, .tmp 52]) rfl ?_); at_builtin; refine Kd.qep (Kd.int .i64) (w0 := w) w.heap.size rfl (.tmp 46) (.tmp 52) 43 3 (.int .i64 0) 8 rfl Tryd.underlying43 info3 rfl (by decide) (by omega) u8 x8_2 ((qp l0 x9_2).f2) [.int .i64 ((qp l0 x9_2).f2)] (fun k_ => some k_ ≠ (v259 : Value).ownBlock) (fun _ => False) rfl rfl ?aP (fun _ hk => hk.elim) ?aF ?aO ?aB ?aS ?aL ?_; (case aP => exact rfl); (case aB => exact (bw_)); (case aF => exact (fun k_ hk => Kd.fresh' (Kd.R_lt (by (with_reducible repeat (first | apply Kd.R_alloc | apply Kd.qbi | apply Kd.qbl)); exact HO260.out)) k_ hk)); (case aO => exact (by (with_reducible repeat (first | apply Kd.R_alloc | apply Kd.qbi | apply Kd.qbl)); exact Kd.qdq HO_8.out (fun _ hk => hk.2))); (case aS => exact (qcn (bw_))); (case aL => have := LMc12.out; omega); intro v263 w14 ho hb hg hat; rw [← Ny262.out] at ho; have n0_ := qd.mk (Kd.qfh (by (with_reducible repeat (first | apply Kd.R_alloc | apply Kd.qbi | apply Kd.qbl)); exact HO_4.out) (Kd.qdw (by (with_reducible repeat (first | apply Kd.R_alloc | apply Kd.qbi | apply Kd.qbl)); exact HO_8.out)) (by decide) hg); have n1_ := qd.mk (Kd.qfh (by (with_reducible repeat (first | apply Kd.R_alloc | apply Kd.qbi | apply Kd.qbl)); exact HO_5.out) (Kd.qdw (by (with_reducible repeat (first | apply Kd.R_alloc | apply Kd.qbi | apply Kd.qbl)); exact HO_8.out)) (by decide) hg); have n2_ := qd.mk (Kd.qiq (ok := (fun _ => True)) (by (with_reducible repeat (first | apply Kd.R_alloc | apply Kd.qbi | apply Kd.qbl)); exact Kd.qdq HO260.out (fun _ hk => ⟨trivial, hk⟩)) hg hat); have n3_ := qd.mk (hb); have n4_ := qd.mk (ho); clear HO_4; clear HO_5; clear HO260; clear HB; clear HO_8; have HO_4 := n0_; have HO_5 := n1_; have HO260 := n2_; have HB := n3_; have HO264 := n4_; clear n0_ n1_ n2_ n3_ n4_; clear ho hb hg hat))
      repeat (go_quiet (first | ((with_reducible refine qdi (b := .append) (xs := #[.tmp 38, .tmp 44]) rfl ?_); at_builtin; refine Kd.qep (Kd.int .i64) (w0 := w) w.heap.size rfl (.tmp 38) (.tmp 44) 43 3 (.int .i64 0) 8 rfl Tryd.underlying43 info3 rfl (by decide) (by omega) u7 x7_2 ((qp l0 x9_2).f1) [.int .i64 ((qp l0 x9_2).f1)] (fun k_ => some k_ ≠ (u8 : Value).ownBlock) (fun _ => False) rfl rfl ?aP (fun _ hk => hk.elim) ?aF ?aO ?aB ?aS ?aL ?_; (case aP => exact rfl); (case aB => exact (bw_)); (case aF => exact (fun k_ hk => Kd.fresh' (Kd.R_lt (by (with_reducible repeat (first | apply Kd.R_alloc | apply Kd.qbi | apply Kd.qbl)); exact HO_8.out)) k_ hk)); (case aO => exact (by (with_reducible repeat (first | apply Kd.R_alloc | apply Kd.qbi | apply Kd.qbl)); exact HO_7.out)); (case aS => exact (qcn (bw_))); (case aL => have := LMc11.out; omega); intro v259 w13 ho hb hg hat; rw [← Ny258.out] at ho; have n0_ := qd.mk (Kd.qfh (by (with_reducible repeat (first | apply Kd.R_alloc | apply Kd.qbi | apply Kd.qbl)); exact HO_4.out) (Kd.qdw (by (with_reducible repeat (first | apply Kd.R_alloc | apply Kd.qbi | apply Kd.qbl)); exact HO_7.out)) (by decide) hg); have n1_ := qd.mk (Kd.qfh (by (with_reducible repeat (first | apply Kd.R_alloc | apply Kd.qbi | apply Kd.qbl)); exact HO_5.out) (Kd.qdw (by (with_reducible repeat (first | apply Kd.R_alloc | apply Kd.qbi | apply Kd.qbl)); exact HO_7.out)) (by decide) hg); have n2_ := qd.mk (Kd.qiq (ok := (fun _ => True)) (by (with_reducible repeat (first | apply Kd.R_alloc | apply Kd.qbi | apply Kd.qbl)); exact Kd.qdq HO_8.out (fun _ hk => ⟨trivial, hk⟩)) hg hat); have n3_ := qd.mk (hb); have n4_ := qd.mk (ho); clear HO_4; clear HO_5; clear HO_8; clear HB; clear HO_7; have HO_4 := n0_; have HO_5 := n1_; have HO_8 := n2_; have HB := n3_; have HO260 := n4_; clear n0_ n1_ n2_ n3_ n4_; clear ho hb hg hat; have p261 : 0 ≤ (x9_2 : Int) := odt_; have q261 : x9_2 < (l0.length : Int) := odt_; obtain ⟨ad261, e261, hx261_0, hx261_1, hx261_2, hx261_3, hx261_4, hx261_5, hx261_6⟩ := qek HR0.out x9_2 p261 q261; obtain rfl : ad255 = ad261 := (by injection e261); replace hx261_0 := bcl_ HB hx261_0; replace hx261_1 := bcl_ HB hx261_1; replace hx261_2 := bcl_ HB hx261_2; replace hx261_3 := bcl_ HB hx261_3; replace hx261_4 := bcl_ HB hx261_4; replace hx261_5 := bcl_ HB hx261_5; replace hx261_6 := bcl_ HB hx261_6; replace p261 := eq_true p261; replace q261 := eq_true q261) | ((with_reducible refine qdi (b := .append) (xs := #[.tmp 46, .tmp 52]) rfl ?_); at_builtin; refine Kd.qep (Kd.int .i64) (w0 := w) w.heap.size rfl (.tmp 46) (.tmp 52) 43 3 (.int .i64 0) 8 rfl Tryd.underlying43 info3 rfl (by decide) (by omega) u8 x8_2 ((qp l0 x9_2).f2) [.int .i64 ((qp l0 x9_2).f2)] (fun k_ => some k_ ≠ (v259 : Value).ownBlock) (fun _ => False) rfl rfl ?aP (fun _ hk => hk.elim) ?aF ?aO ?aB ?aS ?aL ?_; (case aP => exact rfl); (case aB => exact (bw_)); (case aF => exact (fun k_ hk => Kd.fresh' (Kd.R_lt (by (with_reducible repeat (first | apply Kd.R_alloc | apply Kd.qbi | apply Kd.qbl)); exact HO260.out)) k_ hk)); (case aO => exact (by (with_reducible repeat (first | apply Kd.R_alloc | apply Kd.qbi | apply Kd.qbl)); exact Kd.qdq HO_8.out (fun _ hk => hk.2))); (case aS => exact (qcn (bw_))); (case aL => have := LMc12.out; omega); intro v263 w14 ho hb hg hat; rw [← Ny262.out] at ho; have n0_ := qd.mk (Kd.qfh (by (with_reducible repeat (first | apply Kd.R_alloc | apply Kd.qbi | apply Kd.qbl)); exact HO_4.out) (Kd.qdw (by (with_reducible repeat (first | apply Kd.R_alloc | apply Kd.qbi | apply Kd.qbl)); exact HO_8.out)) (by decide) hg); have n1_ := qd.mk (Kd.qfh (by (with_reducible repeat (first | apply Kd.R_alloc | apply Kd.qbi | apply Kd.qbl)); exact HO_5.out) (Kd.qdw (by (with_reducible repeat (first | apply Kd.R_alloc | apply Kd.qbi | apply Kd.qbl)); exact HO_8.out)) (by decide) hg); have n2_ := qd.mk (Kd.qiq (ok := (fun _ => True)) (by (with_reducible repeat (first | apply Kd.R_alloc | apply Kd.qbi | apply Kd.qbl)); exact Kd.qdq HO260.out (fun _ hk => ⟨trivial, hk⟩)) hg hat); have n3_ := qd.mk (hb); have n4_ := qd.mk (ho); clear HO_4; clear HO_5; clear HO260; clear HB; clear HO_8; have HO_4 := n0_; have HO_5 := n1_; have HO260 := n2_; have HB := n3_; have HO264 := n4_; clear n0_ n1_ n2_ n3_ n4_; clear ho hb hg hat)); try go_wp2_with (first | ((with_reducible refine qdi (b := .append) (xs := #[.tmp 38, .tmp 44]) rfl ?_); at_builtin; refine Kd.qep (Kd.int .i64) (w0 := w) w.heap.size rfl (.tmp 38) (.tmp 44) 43 3 (.int .i64 0) 8 rfl Tryd.underlying43 info3 rfl (by decide) (by omega) u7 x7_2 ((qp l0 x9_2).f1) [.int .i64 ((qp l0 x9_2).f1)] (fun k_ => some k_ ≠ (u8 : Value).ownBlock) (fun _ => False) rfl rfl ?aP (fun _ hk => hk.elim) ?aF ?aO ?aB ?aS ?aL ?_; (case aP => exact rfl); (case aB => exact (bw_)); (case aF => exact (fun k_ hk => Kd.fresh' (Kd.R_lt (by (with_reducible repeat (first | apply Kd.R_alloc | apply Kd.qbi | apply Kd.qbl)); exact HO_8.out)) k_ hk)); (case aO => exact (by (with_reducible repeat (first | apply Kd.R_alloc | apply Kd.qbi | apply Kd.qbl)); exact HO_7.out)); (case aS => exact (qcn (bw_))); (case aL => have := LMc11.out; omega); intro v259 w13 ho hb hg hat; rw [← Ny258.out] at ho; have n0_ := qd.mk (Kd.qfh (by (with_reducible repeat (first | apply Kd.R_alloc | apply Kd.qbi | apply Kd.qbl)); exact HO_4.out) (Kd.qdw (by (with_reducible repeat (first | apply Kd.R_alloc | apply Kd.qbi | apply Kd.qbl)); exact HO_7.out)) (by decide) hg); have n1_ := qd.mk (Kd.qfh (by (with_reducible repeat (first | apply Kd.R_alloc | apply Kd.qbi | apply Kd.qbl)); exact HO_5.out) (Kd.qdw (by (with_reducible repeat (first | apply Kd.R_alloc | apply Kd.qbi | apply Kd.qbl)); exact HO_7.out)) (by decide) hg); have n2_ := qd.mk (Kd.qiq (ok := (fun _ => True)) (by (with_reducible repeat (first | apply Kd.R_alloc | apply Kd.qbi | apply Kd.qbl)); exact Kd.qdq HO_8.out (fun _ hk => ⟨trivial, hk⟩)) hg hat); have n3_ := qd.mk (hb); have n4_ := qd.mk (ho); clear HO_4; clear HO_5; clear HO_8; clear HB; clear HO_7; have HO_4 := n0_; have HO_5 := n1_; have HO_8 := n2_; have HB := n3_; have HO260 := n4_; clear n0_ n1_ n2_ n3_ n4_; clear ho hb hg hat; have p261 : 0 ≤ (x9_2 : Int) := odt_; have q261 : x9_2 < (l0.length : Int) := odt_; obtain ⟨ad261, e261, hx261_0, hx261_1, hx261_2, hx261_3, hx261_4, hx261_5, hx261_6⟩ := qek HR0.out x9_2 p261 q261; obtain rfl : ad255 = ad261 := (by injection e261); replace hx261_0 := bcl_ HB hx261_0; replace hx261_1 := bcl_ HB hx261_1; replace hx261_2 := bcl_ HB hx261_2; replace hx261_3 := bcl_ HB hx261_3; replace hx261_4 := bcl_ HB hx261_4; replace hx261_5 := bcl_ HB hx261_5; replace hx261_6 := bcl_ HB hx261_6; replace p261 := eq_true p261; replace q261 := eq_true q261) | ((with_reducible refine qdi (b := .append) (xs := #[.tmp 46, .tmp 52]) rfl ?_); at_builtin; refine Kd.qep (Kd.int .i64) (w0 := w) w.heap.size rfl (.tmp 46) (.tmp 52) 43 3 (.int .i64 0) 8 rfl Tryd.underlying43 info3 rfl (by decide) (by omega) u8 x8_2 ((qp l0 x9_2).f2) [.int .i64 ((qp l0 x9_2).f2)] (fun k_ => some k_ ≠ (v259 : Value).ownBlock) (fun _ => False) rfl rfl ?aP (fun _ hk => hk.elim) ?aF ?aO ?aB ?aS ?aL ?_; (case aP => exact rfl); (case aB => exact (bw_)); (case aF => exact (fun k_ hk => Kd.fresh' (Kd.R_lt (by (with_reducible repeat (first | apply Kd.R_alloc | apply Kd.qbi | apply Kd.qbl)); exact HO260.out)) k_ hk)); (case aO => exact (by (with_reducible repeat (first | apply Kd.R_alloc | apply Kd.qbi | apply Kd.qbl)); exact Kd.qdq HO_8.out (fun _ hk => hk.2))); (case aS => exact (qcn (bw_))); (case aL => have := LMc12.out; omega); intro v263 w14 ho hb hg hat; rw [← Ny262.out] at ho; have n0_ := qd.mk (Kd.qfh (by (with_reducible repeat (first | apply Kd.R_alloc | apply Kd.qbi | apply Kd.qbl)); exact HO_4.out) (Kd.qdw (by (with_reducible repeat (first | apply Kd.R_alloc | apply Kd.qbi | apply Kd.qbl)); exact HO_8.out)) (by decide) hg); have n1_ := qd.mk (Kd.qfh (by (with_reducible repeat (first | apply Kd.R_alloc | apply Kd.qbi | apply Kd.qbl)); exact HO_5.out) (Kd.qdw (by (with_reducible repeat (first | apply Kd.R_alloc | apply Kd.qbi | apply Kd.qbl)); exact HO_8.out)) (by decide) hg); have n2_ := qd.mk (Kd.qiq (ok := (fun _ => True)) (by (with_reducible repeat (first | apply Kd.R_alloc | apply Kd.qbi | apply Kd.qbl)); exact Kd.qdq HO260.out (fun _ hk => ⟨trivial, hk⟩)) hg hat); have n3_ := qd.mk (hb); have n4_ := qd.mk (ho); clear HO_4; clear HO_5; clear HO260; clear HB; clear HO_8; have HO_4 := n0_; have HO_5 := n1_; have HO260 := n2_; have HB := n3_; have HO264 := n4_; clear n0_ n1_ n2_ n3_ n4_; clear ho hb hg hat)))
      go_roundg k2
      case measure => have := HK1.out; have := HK2.out; omega
      case rel => exact ⟨(y258), (y262), (wrap64 (x9_2 + 1)), sm_, H', ⟨by have := HK1.out; have := HK2.out; omega⟩, ⟨by (with_reducible repeat (first | apply Kd.R_alloc | apply Kd.qbi | apply Kd.qbl)); exact HO_4.out⟩, ⟨by (with_reducible repeat (first | apply Kd.R_alloc | apply Kd.qbi | apply Kd.qbl)); exact HO_5.out⟩, ⟨by (with_reducible repeat (first | apply Kd.R_alloc | apply Kd.qbi | apply Kd.qbl)); exact Kd.qdq HO260.out (fun _ hk => hk.2)⟩, ⟨by (with_reducible repeat (first | apply Kd.R_alloc | apply Kd.qbi | apply Kd.qbl)); exact HO264.out⟩, ⟨bw_⟩⟩
     rw [if_neg c6] at H
     have c6b0 : decide (x9_2 < (l0.length : Int)) = false := decide_eq_false c6
     clear c6
     replace H := Option.bind_eq_some_iff.mp H
     obtain ⟨⟨t265, t266⟩, A150, H⟩ := H
     try dsimp only at H
     have A15 := qd.mk A150
     clear A150
     replace H := Option.bind_eq_some_iff.mp H
     obtain ⟨⟨t267, t268⟩, A160, H⟩ := H
     try dsimp only at H
     have A16 := qd.mk A160
     clear A160
     have HC17 := qd.mk H
     clear H
     obtain ⟨Ao18, co18, eo18⟩ := Kd.qcp HO_7.out
     subst eo18
     go_upto_region 15 with (first | (go_at_call 77; (with_reducible refine (qbn.calls k2 _ _ x7_2 t265 t266 _ ?side1 ?side2 A15.out).mono ?_); (case side1 => repeat (first | exact (Kd.qbr HO_7.out).2.2 | (with_reducible refine Kd.qco ?_ _) | (with_reducible refine Kd.qcs ?_ _) | (with_reducible refine Kd.qdk ?_))); (case side2 => exact (Kd.qbr HO_7.out).2.1); rintro e w' ⟨rfl, ⟨nd, rfl⟩⟩; (try first | exact ⟨rfl, _, World.drewN_drewN _ _ _⟩ | exact ⟨rfl, _, Eq.trans (World.drewN_drewN _ _ _) (congrArg (World.drewN _) (Nat.add_assoc _ _ _))⟩); obtain ⟨Ao19, co19, eo19⟩ := Kd.qcp HO_8.out; subst eo19) | (go_at_call 77; (with_reducible refine (qbn.calls k2 _ _ x8_2 t267 t268 _ ?side1 ?side2 A16.out).mono ?_); (case side1 => repeat (first | exact (Kd.qbr HO_8.out).2.2 | (with_reducible refine Kd.qco ?_ _) | (with_reducible refine Kd.qcs ?_ _) | (with_reducible refine Kd.qdk ?_))); (case side2 => exact (Kd.qbr HO_8.out).2.1); rintro e w' ⟨rfl, ⟨nd, rfl⟩⟩; (try first | exact ⟨rfl, _, World.drewN_drewN _ _ _⟩ | exact ⟨rfl, _, Eq.trans (World.drewN_drewN _ _ _) (congrArg (World.drewN _) (Nat.add_assoc _ _ _))⟩)))
     repeat (go_quiet (first | (go_at_call 77; (with_reducible refine (qbn.calls k2 _ _ x7_2 t265 t266 _ ?side1 ?side2 A15.out).mono ?_); (case side1 => repeat (first | exact (Kd.qbr HO_7.out).2.2 | (with_reducible refine Kd.qco ?_ _) | (with_reducible refine Kd.qcs ?_ _) | (with_reducible refine Kd.qdk ?_))); (case side2 => exact (Kd.qbr HO_7.out).2.1); rintro e w' ⟨rfl, ⟨nd, rfl⟩⟩; (try first | exact ⟨rfl, _, World.drewN_drewN _ _ _⟩ | exact ⟨rfl, _, Eq.trans (World.drewN_drewN _ _ _) (congrArg (World.drewN _) (Nat.add_assoc _ _ _))⟩); obtain ⟨Ao19, co19, eo19⟩ := Kd.qcp HO_8.out; subst eo19) | (go_at_call 77; (with_reducible refine (qbn.calls k2 _ _ x8_2 t267 t268 _ ?side1 ?side2 A16.out).mono ?_); (case side1 => repeat (first | exact (Kd.qbr HO_8.out).2.2 | (with_reducible refine Kd.qco ?_ _) | (with_reducible refine Kd.qcs ?_ _) | (with_reducible refine Kd.qdk ?_))); (case side2 => exact (Kd.qbr HO_8.out).2.1); rintro e w' ⟨rfl, ⟨nd, rfl⟩⟩; (try first | exact ⟨rfl, _, World.drewN_drewN _ _ _⟩ | exact ⟨rfl, _, Eq.trans (World.drewN_drewN _ _ _) (congrArg (World.drewN _) (Nat.add_assoc _ _ _))⟩))); go_upto_region 15 with (first | (go_at_call 77; (with_reducible refine (qbn.calls k2 _ _ x7_2 t265 t266 _ ?side1 ?side2 A15.out).mono ?_); (case side1 => repeat (first | exact (Kd.qbr HO_7.out).2.2 | (with_reducible refine Kd.qco ?_ _) | (with_reducible refine Kd.qcs ?_ _) | (with_reducible refine Kd.qdk ?_))); (case side2 => exact (Kd.qbr HO_7.out).2.1); rintro e w' ⟨rfl, ⟨nd, rfl⟩⟩; (try first | exact ⟨rfl, _, World.drewN_drewN _ _ _⟩ | exact ⟨rfl, _, Eq.trans (World.drewN_drewN _ _ _) (congrArg (World.drewN _) (Nat.add_assoc _ _ _))⟩); obtain ⟨Ao19, co19, eo19⟩ := Kd.qcp HO_8.out; subst eo19) | (go_at_call 77; (with_reducible refine (qbn.calls k2 _ _ x8_2 t267 t268 _ ?side1 ?side2 A16.out).mono ?_); (case side1 => repeat (first | exact (Kd.qbr HO_8.out).2.2 | (with_reducible refine Kd.qco ?_ _) | (with_reducible refine Kd.qcs ?_ _) | (with_reducible refine Kd.qdk ?_))); (case side2 => exact (Kd.qbr HO_8.out).2.1); rintro e w' ⟨rfl, ⟨nd, rfl⟩⟩; (try first | exact ⟨rfl, _, World.drewN_drewN _ _ _⟩ | exact ⟨rfl, _, Eq.trans (World.drewN_drewN _ _ _) (congrArg (World.drewN _) (Nat.add_assoc _ _ _))⟩))))
     (try simp only [Act.put, List.setIfInBounds_toArray, List.set_cons_zero, List.set_cons_succ])
     go_cut [79] (fun v79 wc => ∃ (kq : Nat) (x79_16 : Bool), v79 = .bool x79_16 ∧ qd (qy.j2 kq l0 x4_1 t252 x6_1 t265 t267 x79_16 = some (r1, r2)) ∧ qd (kq ≤ k2) ∧ qd (Kd.R k112 112 wc w.heap.size (fun _ => True) u4 x4_1) ∧ qd (Kd.R k40 40 wc w.heap.size (fun _ => True) (.slice Ao5 t252.length co5) t252) ∧ qd (Below w.heap.size w wc))
     case first =>
      have H := HC17.out
      clear HC17
      by_cases c20 : t266 = true
      rotate_left
      ·replace c20 := Bool.eq_false_iff.mpr c20
       subst c20
       have H1 : (qy.j2 k2 l0 x4_1 t252 x6_1 t265 t267 true) = some (r1, r2) := by rw [if_neg (show ¬ (false = true) by decide)] at H; exact H
       clear H
       have H := H1
       clear H1
       have H' := qd.mk H
       clear H
       go_wp2
       repeat (go_quiet (fail); try go_wp2)
       go_meet
       case rel => exact ⟨_, (true), sm_, H', ⟨by have := HK1.out; have := HK2.out; first | omega | exact Nat.le_refl _⟩, ⟨by (with_reducible repeat (first | apply Kd.R_alloc | apply Kd.qbi | apply Kd.qbl)); exact HO_4.out⟩, ⟨by (with_reducible repeat (first | apply Kd.R_alloc | apply Kd.qbi | apply Kd.qbl)); exact HO_5.out⟩, ⟨bw_⟩⟩
      subst c20
      have H1 : (if t268 = true then ((qbw.f t265).bind fun t269 => (if t269 = true then ((qbw.f t267).bind fun t270 => (qy.j2 k2 l0 x4_1 t252 x6_1 t265 t267 (!t270))) else (qy.j2 k2 l0 x4_1 t252 x6_1 t265 t267 true))) else (qy.j2 k2 l0 x4_1 t252 x6_1 t265 t267 true)) = some (r1, r2) := by rw [if_pos rfl] at H; exact H
      clear H
      have H := H1
      clear H1
      by_cases c21 : t268 = true
      rotate_left
      ·replace c21 := Bool.eq_false_iff.mpr c21
       subst c21
       have H1 : (qy.j2 k2 l0 x4_1 t252 x6_1 t265 t267 true) = some (r1, r2) := by rw [if_neg (show ¬ (false = true) by decide)] at H; exact H
       clear H
       have H := H1
       clear H1
       have H' := qd.mk H
       clear H
       go_wp2
       repeat (go_quiet (fail); try go_wp2)
       go_meet
       case rel => exact ⟨_, (true), sm_, H', ⟨by have := HK1.out; have := HK2.out; first | omega | exact Nat.le_refl _⟩, ⟨by (with_reducible repeat (first | apply Kd.R_alloc | apply Kd.qbi | apply Kd.qbl)); exact HO_4.out⟩, ⟨by (with_reducible repeat (first | apply Kd.R_alloc | apply Kd.qbi | apply Kd.qbl)); exact HO_5.out⟩, ⟨bw_⟩⟩
      subst c21
      have H1 : ((qbw.f t265).bind fun t269 => (if t269 = true then ((qbw.f t267).bind fun t270 => (qy.j2 k2 l0 x4_1 t252 x6_1 t265 t267 (!t270))) else (qy.j2 k2 l0 x4_1 t252 x6_1 t265 t267 true))) = some (r1, r2) := by rw [if_pos rfl] at H; exact H
      clear H
      have H := H1
      clear H1
      replace H := Option.bind_eq_some_iff.mp H
      obtain ⟨t269, A220, H⟩ := H
      try dsimp only at H
      have A22 := qd.mk A220
      clear A220
      by_cases c23 : t269 = true
      rotate_left
      ·replace c23 := Bool.eq_false_iff.mpr c23
       subst c23
       have H1 : (qy.j2 k2 l0 x4_1 t252 x6_1 t265 t267 true) = some (r1, r2) := by rw [if_neg (show ¬ (false = true) by decide)] at H; exact H
       clear H
       have H := H1
       clear H1
       have H' := qd.mk H
       clear H
       go_wp2_with (first | (go_at_call 104; (with_reducible refine (qbw.calls t265 false _ A22.out).mono ?_); rintro e w' ⟨rfl, ⟨nd, rfl⟩⟩; (try first | exact ⟨rfl, _, World.drewN_drewN _ _ _⟩ | exact ⟨rfl, _, Eq.trans (World.drewN_drewN _ _ _) (congrArg (World.drewN _) (Nat.add_assoc _ _ _))⟩)))
       repeat (go_quiet (first | (go_at_call 104; (with_reducible refine (qbw.calls t265 false _ A22.out).mono ?_); rintro e w' ⟨rfl, ⟨nd, rfl⟩⟩; (try first | exact ⟨rfl, _, World.drewN_drewN _ _ _⟩ | exact ⟨rfl, _, Eq.trans (World.drewN_drewN _ _ _) (congrArg (World.drewN _) (Nat.add_assoc _ _ _))⟩))); try go_wp2_with (first | (go_at_call 104; (with_reducible refine (qbw.calls t265 false _ A22.out).mono ?_); rintro e w' ⟨rfl, ⟨nd, rfl⟩⟩; (try first | exact ⟨rfl, _, World.drewN_drewN _ _ _⟩ | exact ⟨rfl, _, Eq.trans (World.drewN_drewN _ _ _) (congrArg (World.drewN _) (Nat.add_assoc _ _ _))⟩))))
       go_meet
       case rel => exact ⟨_, (true), sm_, H', ⟨by have := HK1.out; have := HK2.out; first | omega | exact Nat.le_refl _⟩, ⟨by (with_reducible repeat (first | apply Kd.R_alloc | apply Kd.qbi | apply Kd.qbl)); exact HO_4.out⟩, ⟨by (with_reducible repeat (first | apply Kd.R_alloc | apply Kd.qbi | apply Kd.qbl)); exact HO_5.out⟩, ⟨bw_⟩⟩
      subst c23
      have H1 : ((qbw.f t267).bind fun t270 => (qy.j2 k2 l0 x4_1 t252 x6_1 t265 t267 (!t270))) = some (r1, r2) := by rw [if_pos rfl] at H; exact H
      clear H
      have H := H1
      clear H1
      replace H := Option.bind_eq_some_iff.mp H
      obtain ⟨t270, A240, H⟩ := H
      replace H : (qy.j2 k2 l0 x4_1 t252 x6_1 t265 t267 (!t270)) = some (r1, r2) := H
      have A24 := qd.mk A240
      clear A240
      have H' := qd.mk H
      clear H
      go_wp2_with (first | (go_at_call 104; (with_reducible refine (qbw.calls t265 true _ A22.out).mono ?_); rintro e w' ⟨rfl, ⟨nd, rfl⟩⟩; (try first | exact ⟨rfl, _, World.drewN_drewN _ _ _⟩ | exact ⟨rfl, _, Eq.trans (World.drewN_drewN _ _ _) (congrArg (World.drewN _) (Nat.add_assoc _ _ _))⟩)) | (go_at_call 104; (with_reducible refine (qbw.calls t267 t270 _ A24.out).mono ?_); rintro e w' ⟨rfl, ⟨nd, rfl⟩⟩; (try first | exact ⟨rfl, _, World.drewN_drewN _ _ _⟩ | exact ⟨rfl, _, Eq.trans (World.drewN_drewN _ _ _) (congrArg (World.drewN _) (Nat.add_assoc _ _ _))⟩)))
      repeat (go_quiet (first | (go_at_call 104; (with_reducible refine (qbw.calls t265 true _ A22.out).mono ?_); rintro e w' ⟨rfl, ⟨nd, rfl⟩⟩; (try first | exact ⟨rfl, _, World.drewN_drewN _ _ _⟩ | exact ⟨rfl, _, Eq.trans (World.drewN_drewN _ _ _) (congrArg (World.drewN _) (Nat.add_assoc _ _ _))⟩)) | (go_at_call 104; (with_reducible refine (qbw.calls t267 t270 _ A24.out).mono ?_); rintro e w' ⟨rfl, ⟨nd, rfl⟩⟩; (try first | exact ⟨rfl, _, World.drewN_drewN _ _ _⟩ | exact ⟨rfl, _, Eq.trans (World.drewN_drewN _ _ _) (congrArg (World.drewN _) (Nat.add_assoc _ _ _))⟩))); try go_wp2_with (first | (go_at_call 104; (with_reducible refine (qbw.calls t265 true _ A22.out).mono ?_); rintro e w' ⟨rfl, ⟨nd, rfl⟩⟩; (try first | exact ⟨rfl, _, World.drewN_drewN _ _ _⟩ | exact ⟨rfl, _, Eq.trans (World.drewN_drewN _ _ _) (congrArg (World.drewN _) (Nat.add_assoc _ _ _))⟩)) | (go_at_call 104; (with_reducible refine (qbw.calls t267 t270 _ A24.out).mono ?_); rintro e w' ⟨rfl, ⟨nd, rfl⟩⟩; (try first | exact ⟨rfl, _, World.drewN_drewN _ _ _⟩ | exact ⟨rfl, _, Eq.trans (World.drewN_drewN _ _ _) (congrArg (World.drewN _) (Nat.add_assoc _ _ _))⟩))))
      go_meet
      case rel => exact ⟨_, (!t270), sm_, H', ⟨by have := HK1.out; have := HK2.out; first | omega | exact Nat.le_refl _⟩, ⟨by (with_reducible repeat (first | apply Kd.R_alloc | apply Kd.qbi | apply Kd.qbl)); exact HO_4.out⟩, ⟨by (with_reducible repeat (first | apply Kd.R_alloc | apply Kd.qbi | apply Kd.qbl)); exact HO_5.out⟩, ⟨bw_⟩⟩
     clear HC17
     try clear c1
     try clear c2
     try clear p2
     try clear q2
     try clear hx2
     try clear c4
     try clear c4b0
     try clear c5
     try clear c6
     try clear c6b0
     try clear p6
     try clear c7
     try clear c7b0
     try clear c8
     try clear c8b0
     try clear c9
     try clear c9b0
     try clear c10
     try clear c10b0
     try clear c10b1
     try clear c10b2
     try clear c11
     try clear c12
     try clear c20
     try clear c21
     try clear c23
     try clear hx255_0
     try clear hx255_1
     try clear hx255_2
     try clear hx255_3
     try clear hx255_4
     try clear hx255_5
     try clear hx255_6
     try clear hx256_0
     try clear hx256_1
     try clear hx256_2
     try clear hx256_3
     try clear hx256_4
     try clear hx257_0
     try clear hx257_1
     try clear hx257_2
     try clear hx257_3
     try clear hx257_4
     try clear hx257_5
     try clear hx257_6
     try clear hx261_0
     try clear hx261_1
     try clear hx261_2
     try clear hx261_3
     try clear hx261_4
     try clear hx261_5
     try clear hx261_6
     try clear p2
     try clear p255
     try clear p256
     try clear p257
     try clear p261
     try clear q255
     try clear q256
     try clear q257
     try clear q261
     obtain ⟨kq, x79_16, rfl, HA, HJ16, HO_4, HO_5, HB⟩ := hcut
     cases kq with
     | zero => exact absurd HA.out (by simp [qy.j2])
     | succ kj16 =>
      have H := HA.out
      clear HA
      simp only [qy.j2] at H
      by_cases c25 : x79_16 = true
      ·subst c25
       have H1 : (some (([] : List (S112)), 4)) = some (r1, r2) := by rw [if_pos rfl] at H; exact H
       clear H
       have H := H1
       clear H1
       simp only [Option.some.injEq, Prod.mk.injEq] at H
       obtain ⟨rfl, rfl⟩ := H
       go_wp2
       repeat (go_quiet (fail); try go_wp2)
       go_ret2
       exact ⟨_, ew_, by first | exact Kd.qia _ _ _ _ _ | exact Kd.N_nil _ _ _ _ _ | exact Kd.V_nil _ _ _ _ _ | exact Kd.Q_nil _ _ _ _ _ | exact Kd.S_nil _ _ _ _ _, bw_⟩
      replace c25 := Bool.eq_false_iff.mpr c25
      subst c25
      have H1 : (if t265 = 0 then (if t267 = 0 then (qy.l0 kj16 l0 x4_1 t252 (wrap64 (x6_1 + 1))) else (if 0 ≤ x6_1 then (if x6_1 < (t252.length : Int) then (if x4_1.length < 1466015503701 then (qy.l0 kj16 l0 (x4_1 ++ [(⟨(⟨(qbc t252 x6_1).f0, (qbc t252 x6_1).f1, (qbc t252 x6_1).f2, (qbc t252 x6_1).f3, (qbc t252 x6_1).f4⟩ : S40), t265, t267⟩ : S112)]) t252 (wrap64 (x6_1 + 1))) else (none)) else (none)) else (none))) else (if 0 ≤ x6_1 then (if x6_1 < (t252.length : Int) then (if x4_1.length < 1466015503701 then (qy.l0 kj16 l0 (x4_1 ++ [(⟨(⟨(qbc t252 x6_1).f0, (qbc t252 x6_1).f1, (qbc t252 x6_1).f2, (qbc t252 x6_1).f3, (qbc t252 x6_1).f4⟩ : S40), t265, t267⟩ : S112)]) t252 (wrap64 (x6_1 + 1))) else (none)) else (none)) else (none))) = some (r1, r2) := by rw [if_neg (show ¬ (false = true) by decide)] at H; exact H
      clear H
      have H := H1
      clear H1
      by_cases c26 : t265 = 0
      rotate_left
      ·rw [if_neg c26] at H
       have c26b0 : (t265 == 0) = false := beq_eq_false_iff_ne.mpr c26
       have c26b1 : (t265 != 0) = true := bne_iff_ne.mpr c26
       by_cases c32 : 0 ≤ x6_1
       rotate_left
       ·rw [if_neg c32] at H
        exact absurd H (by simp)
       rw [if_pos c32] at H
       have c32b0 : decide (0 ≤ x6_1) = true := decide_eq_true c32
       clear c32
       by_cases c33 : x6_1 < (t252.length : Int)
       rotate_left
       ·rw [if_neg c33] at H
        exact absurd H (by simp)
       rw [if_pos c33] at H
       have c33b0 : decide (x6_1 < (t252.length : Int)) = true := decide_eq_true c33
       clear c33
       by_cases c34 : x4_1.length < 1466015503701
       rotate_left
       ·rw [if_neg c34] at H
        exact absurd H (by simp)
       rw [if_pos c34] at H
       have LMc34 := qd.mk c34
       clear c34
       obtain ⟨y276, hy276⟩ : ∃ y_ : List (S112), y_ = (x4_1 ++ [(⟨(⟨(qbc t252 x6_1).f0, (qbc t252 x6_1).f1, (qbc t252 x6_1).f2, (qbc t252 x6_1).f3, (qbc t252 x6_1).f4⟩ : S40), t265, t267⟩ : S112)]) := ⟨_, rfl⟩
       replace H : (qy.l0 kj16 l0 y276 t252 (wrap64 (x6_1 + 1))) = some (r1, r2) := by first | (rw [hy276]; with_reducible exact H) | (have H2_ := (Option.bind_some _ _).symm.trans H; rw [hy276]; with_reducible exact H2_) | (have H2_ := (Option.bind_some _ _).symm.trans H; with_reducible exact H2_) | with_reducible exact H | (rw [hy276]; exact H) | exact H
       have Ny276 := qd.mk hy276
       clear hy276
       have H' := qd.mk H
       clear H
       have p275 : 0 ≤ (x6_1 : Int) := odt_
       have q275 : x6_1 < (t252.length : Int) := odt_
       obtain ⟨ad275, e275, hx275_0, hx275_1, hx275_2, hx275_3, hx275_4⟩ := qkm (Kd.qbr HO_5.out).2.2 x6_1 p275 q275
       cases e275
       replace p275 := eq_true p275
       replace q275 := eq_true q275
       go_wp2_with (first | ((with_reducible refine qdi (b := .append) (xs := #[.tmp 86, .tmp 94]) rfl ?_); at_builtin; refine Kd.qep k112 (w0 := w) w.heap.size rfl (.tmp 86) (.tmp 94) 32 112 (.agg #[(.string ⟨#[]⟩), (.string ⟨#[]⟩), (.string ⟨#[]⟩), (.string ⟨#[]⟩), (.string ⟨#[]⟩), (.int .i64 0), (.int .i64 0)]) 96 rfl Tryd.underlying32 qfu rfl (by decide) (by omega) u4 x4_1 (⟨(⟨(qbc t252 x6_1).f0, (qbc t252 x6_1).f1, (qbc t252 x6_1).f2, (qbc t252 x6_1).f3, (qbc t252 x6_1).f4⟩ : S40), t265, t267⟩ : S112) [.string ((qbc t252 x6_1).f0), .string ((qbc t252 x6_1).f1), .string ((qbc t252 x6_1).f2), .string ((qbc t252 x6_1).f3), .string ((qbc t252 x6_1).f4), .int .i64 t265, .int .i64 t267] (fun _ => True) (fun _ => False) rfl rfl ?aP (fun _ hk => hk.elim) ?aF ?aO ?aB ?aS ?aL ?_; (case aP => exact qfr _ _ _ (⟨(⟨(qbc t252 x6_1).f0, (qbc t252 x6_1).f1, (qbc t252 x6_1).f2, (qbc t252 x6_1).f3, (qbc t252 x6_1).f4⟩ : S40), t265, t267⟩ : S112)); (case aB => exact (bw_)); (case aF => exact (fun _ _ => trivial)); (case aO => exact (by (with_reducible repeat (first | apply Kd.R_alloc | apply Kd.qbi | apply Kd.qbl)); exact HO_4.out)); (case aS => exact (qcn (bw_))); (case aL => have := LMc34.out; omega); intro v277 w35 ho hb hg hat; rw [← Ny276.out] at ho; have n0_ := qd.mk (Kd.qfh (by (with_reducible repeat (first | apply Kd.R_alloc | apply Kd.qbi | apply Kd.qbl)); exact HO_5.out) (Kd.qdw (by (with_reducible repeat (first | apply Kd.R_alloc | apply Kd.qbi | apply Kd.qbl)); exact HO_4.out)) (by decide) hg); have n1_ := qd.mk (hb); have n2_ := qd.mk (ho); clear HO_5; clear HB; clear HO_4; have HO_5 := n0_; have HB := n1_; have HO278 := n2_; clear n0_ n1_ n2_; clear ho hb hg hat))
       repeat (go_quiet (first | ((with_reducible refine qdi (b := .append) (xs := #[.tmp 86, .tmp 94]) rfl ?_); at_builtin; refine Kd.qep k112 (w0 := w) w.heap.size rfl (.tmp 86) (.tmp 94) 32 112 (.agg #[(.string ⟨#[]⟩), (.string ⟨#[]⟩), (.string ⟨#[]⟩), (.string ⟨#[]⟩), (.string ⟨#[]⟩), (.int .i64 0), (.int .i64 0)]) 96 rfl Tryd.underlying32 qfu rfl (by decide) (by omega) u4 x4_1 (⟨(⟨(qbc t252 x6_1).f0, (qbc t252 x6_1).f1, (qbc t252 x6_1).f2, (qbc t252 x6_1).f3, (qbc t252 x6_1).f4⟩ : S40), t265, t267⟩ : S112) [.string ((qbc t252 x6_1).f0), .string ((qbc t252 x6_1).f1), .string ((qbc t252 x6_1).f2), .string ((qbc t252 x6_1).f3), .string ((qbc t252 x6_1).f4), .int .i64 t265, .int .i64 t267] (fun _ => True) (fun _ => False) rfl rfl ?aP (fun _ hk => hk.elim) ?aF ?aO ?aB ?aS ?aL ?_; (case aP => exact qfr _ _ _ (⟨(⟨(qbc t252 x6_1).f0, (qbc t252 x6_1).f1, (qbc t252 x6_1).f2, (qbc t252 x6_1).f3, (qbc t252 x6_1).f4⟩ : S40), t265, t267⟩ : S112)); (case aB => exact (bw_)); (case aF => exact (fun _ _ => trivial)); (case aO => exact (by (with_reducible repeat (first | apply Kd.R_alloc | apply Kd.qbi | apply Kd.qbl)); exact HO_4.out)); (case aS => exact (qcn (bw_))); (case aL => have := LMc34.out; omega); intro v277 w35 ho hb hg hat; rw [← Ny276.out] at ho; have n0_ := qd.mk (Kd.qfh (by (with_reducible repeat (first | apply Kd.R_alloc | apply Kd.qbi | apply Kd.qbl)); exact HO_5.out) (Kd.qdw (by (with_reducible repeat (first | apply Kd.R_alloc | apply Kd.qbi | apply Kd.qbl)); exact HO_4.out)) (by decide) hg); have n1_ := qd.mk (hb); have n2_ := qd.mk (ho); clear HO_5; clear HB; clear HO_4; have HO_5 := n0_; have HB := n1_; have HO278 := n2_; clear n0_ n1_ n2_; clear ho hb hg hat)); try go_wp2_with (first | ((with_reducible refine qdi (b := .append) (xs := #[.tmp 86, .tmp 94]) rfl ?_); at_builtin; refine Kd.qep k112 (w0 := w) w.heap.size rfl (.tmp 86) (.tmp 94) 32 112 (.agg #[(.string ⟨#[]⟩), (.string ⟨#[]⟩), (.string ⟨#[]⟩), (.string ⟨#[]⟩), (.string ⟨#[]⟩), (.int .i64 0), (.int .i64 0)]) 96 rfl Tryd.underlying32 qfu rfl (by decide) (by omega) u4 x4_1 (⟨(⟨(qbc t252 x6_1).f0, (qbc t252 x6_1).f1, (qbc t252 x6_1).f2, (qbc t252 x6_1).f3, (qbc t252 x6_1).f4⟩ : S40), t265, t267⟩ : S112) [.string ((qbc t252 x6_1).f0), .string ((qbc t252 x6_1).f1), .string ((qbc t252 x6_1).f2), .string ((qbc t252 x6_1).f3), .string ((qbc t252 x6_1).f4), .int .i64 t265, .int .i64 t267] (fun _ => True) (fun _ => False) rfl rfl ?aP (fun _ hk => hk.elim) ?aF ?aO ?aB ?aS ?aL ?_; (case aP => exact qfr _ _ _ (⟨(⟨(qbc t252 x6_1).f0, (qbc t252 x6_1).f1, (qbc t252 x6_1).f2, (qbc t252 x6_1).f3, (qbc t252 x6_1).f4⟩ : S40), t265, t267⟩ : S112)); (case aB => exact (bw_)); (case aF => exact (fun _ _ => trivial)); (case aO => exact (by (with_reducible repeat (first | apply Kd.R_alloc | apply Kd.qbi | apply Kd.qbl)); exact HO_4.out)); (case aS => exact (qcn (bw_))); (case aL => have := LMc34.out; omega); intro v277 w35 ho hb hg hat; rw [← Ny276.out] at ho; have n0_ := qd.mk (Kd.qfh (by (with_reducible repeat (first | apply Kd.R_alloc | apply Kd.qbi | apply Kd.qbl)); exact HO_5.out) (Kd.qdw (by (with_reducible repeat (first | apply Kd.R_alloc | apply Kd.qbi | apply Kd.qbl)); exact HO_4.out)) (by decide) hg); have n1_ := qd.mk (hb); have n2_ := qd.mk (ho); clear HO_5; clear HB; clear HO_4; have HO_5 := n0_; have HB := n1_; have HO278 := n2_; clear n0_ n1_ n2_; clear ho hb hg hat)))
       go_roundg kj16
       case measure => have := HK1.out; have := HK2.out; have := HJ16.out; omega
       case rel => exact ⟨(y276), (wrap64 (x6_1 + 1)), sm_, H', ⟨by have := HK1.out; have := HK2.out; have := HJ16.out; omega⟩, ⟨by (with_reducible repeat (first | apply Kd.R_alloc | apply Kd.qbi | apply Kd.qbl)); exact HO278.out⟩, ⟨by (with_reducible repeat (first | apply Kd.R_alloc | apply Kd.qbi | apply Kd.qbl)); exact HO_5.out⟩, ⟨bw_⟩⟩
      rw [if_pos c26] at H
      have c26b0 : (t265 == 0) = true := beq_iff_eq.mpr c26
      have c26b1 : (t265 != 0) = false := bne_eq_false_iff_eq.mpr c26
      clear c26
      by_cases c27 : t267 = 0
      ·rw [if_pos c27] at H
       have c27b0 : (t267 == 0) = true := beq_iff_eq.mpr c27
       have c27b1 : (t267 != 0) = false := bne_eq_false_iff_eq.mpr c27
       clear c27
       have H' := qd.mk H
       clear H
       go_wp2
       repeat (go_quiet (fail); try go_wp2)
       go_roundg kj16
       case measure => have := HK1.out; have := HK2.out; have := HJ16.out; omega
       case rel => exact ⟨(x4_1), (wrap64 (x6_1 + 1)), sm_, H', ⟨by have := HK1.out; have := HK2.out; have := HJ16.out; omega⟩, ⟨by (with_reducible repeat (first | apply Kd.R_alloc | apply Kd.qbi | apply Kd.qbl)); exact HO_4.out⟩, ⟨by (with_reducible repeat (first | apply Kd.R_alloc | apply Kd.qbi | apply Kd.qbl)); exact HO_5.out⟩, ⟨bw_⟩⟩
      rw [if_neg c27] at H
      have c27b0 : (t267 == 0) = false := beq_eq_false_iff_ne.mpr c27
      have c27b1 : (t267 != 0) = true := bne_iff_ne.mpr c27
      by_cases c28 : 0 ≤ x6_1
      rotate_left
      ·rw [if_neg c28] at H
       exact absurd H (by simp)
      rw [if_pos c28] at H
      have c28b0 : decide (0 ≤ x6_1) = true := decide_eq_true c28
      clear c28
      by_cases c29 : x6_1 < (t252.length : Int)
      rotate_left
      ·rw [if_neg c29] at H
       exact absurd H (by simp)
      rw [if_pos c29] at H
      have c29b0 : decide (x6_1 < (t252.length : Int)) = true := decide_eq_true c29
      clear c29
      by_cases c30 : x4_1.length < 1466015503701
      rotate_left
      ·rw [if_neg c30] at H
       exact absurd H (by simp)
      rw [if_pos c30] at H
      have LMc30 := qd.mk c30
      clear c30
      obtain ⟨y272, hy272⟩ : ∃ y_ : List (S112), y_ = (x4_1 ++ [(⟨(⟨(qbc t252 x6_1).f0, (qbc t252 x6_1).f1, (qbc t252 x6_1).f2, (qbc t252 x6_1).f3, (qbc t252 x6_1).f4⟩ : S40), t265, t267⟩ : S112)]) := ⟨_, rfl⟩
      replace H : (qy.l0 kj16 l0 y272 t252 (wrap64 (x6_1 + 1))) = some (r1, r2) := by first | (rw [hy272]; with_reducible exact H) | (have H2_ := (Option.bind_some _ _).symm.trans H; rw [hy272]; with_reducible exact H2_) | (have H2_ := (Option.bind_some _ _).symm.trans H; with_reducible exact H2_) | with_reducible exact H | (rw [hy272]; exact H) | exact H
      have Ny272 := qd.mk hy272
      clear hy272
      have H' := qd.mk H
      clear H
      have p271 : 0 ≤ (x6_1 : Int) := odt_
      have q271 : x6_1 < (t252.length : Int) := odt_
      obtain ⟨ad271, e271, hx271_0, hx271_1, hx271_2, hx271_3, hx271_4⟩ := qkm (Kd.qbr HO_5.out).2.2 x6_1 p271 q271
      cases e271
      replace p271 := eq_true p271
      replace q271 := eq_true q271
      go_wp2_with (first | ((with_reducible refine qdi (b := .append) (xs := #[.tmp 86, .tmp 94]) rfl ?_); at_builtin; refine Kd.qep k112 (w0 := w) w.heap.size rfl (.tmp 86) (.tmp 94) 32 112 (.agg #[(.string ⟨#[]⟩), (.string ⟨#[]⟩), (.string ⟨#[]⟩), (.string ⟨#[]⟩), (.string ⟨#[]⟩), (.int .i64 0), (.int .i64 0)]) 96 rfl Tryd.underlying32 qfu rfl (by decide) (by omega) u4 x4_1 (⟨(⟨(qbc t252 x6_1).f0, (qbc t252 x6_1).f1, (qbc t252 x6_1).f2, (qbc t252 x6_1).f3, (qbc t252 x6_1).f4⟩ : S40), t265, t267⟩ : S112) [.string ((qbc t252 x6_1).f0), .string ((qbc t252 x6_1).f1), .string ((qbc t252 x6_1).f2), .string ((qbc t252 x6_1).f3), .string ((qbc t252 x6_1).f4), .int .i64 t265, .int .i64 t267] (fun _ => True) (fun _ => False) rfl rfl ?aP (fun _ hk => hk.elim) ?aF ?aO ?aB ?aS ?aL ?_; (case aP => exact qfr _ _ _ (⟨(⟨(qbc t252 x6_1).f0, (qbc t252 x6_1).f1, (qbc t252 x6_1).f2, (qbc t252 x6_1).f3, (qbc t252 x6_1).f4⟩ : S40), t265, t267⟩ : S112)); (case aB => exact (bw_)); (case aF => exact (fun _ _ => trivial)); (case aO => exact (by (with_reducible repeat (first | apply Kd.R_alloc | apply Kd.qbi | apply Kd.qbl)); exact HO_4.out)); (case aS => exact (qcn (bw_))); (case aL => have := LMc30.out; omega); intro v273 w31 ho hb hg hat; rw [← Ny272.out] at ho; have n0_ := qd.mk (Kd.qfh (by (with_reducible repeat (first | apply Kd.R_alloc | apply Kd.qbi | apply Kd.qbl)); exact HO_5.out) (Kd.qdw (by (with_reducible repeat (first | apply Kd.R_alloc | apply Kd.qbi | apply Kd.qbl)); exact HO_4.out)) (by decide) hg); have n1_ := qd.mk (hb); have n2_ := qd.mk (ho); clear HO_5; clear HB; clear HO_4; have HO_5 := n0_; have HB := n1_; have HO274 := n2_; clear n0_ n1_ n2_; clear ho hb hg hat))
      repeat (go_quiet (first | ((with_reducible refine qdi (b := .append) (xs := #[.tmp 86, .tmp 94]) rfl ?_); at_builtin; refine Kd.qep k112 (w0 := w) w.heap.size rfl (.tmp 86) (.tmp 94) 32 112 (.agg #[(.string ⟨#[]⟩), (.string ⟨#[]⟩), (.string ⟨#[]⟩), (.string ⟨#[]⟩), (.string ⟨#[]⟩), (.int .i64 0), (.int .i64 0)]) 96 rfl Tryd.underlying32 qfu rfl (by decide) (by omega) u4 x4_1 (⟨(⟨(qbc t252 x6_1).f0, (qbc t252 x6_1).f1, (qbc t252 x6_1).f2, (qbc t252 x6_1).f3, (qbc t252 x6_1).f4⟩ : S40), t265, t267⟩ : S112) [.string ((qbc t252 x6_1).f0), .string ((qbc t252 x6_1).f1), .string ((qbc t252 x6_1).f2), .string ((qbc t252 x6_1).f3), .string ((qbc t252 x6_1).f4), .int .i64 t265, .int .i64 t267] (fun _ => True) (fun _ => False) rfl rfl ?aP (fun _ hk => hk.elim) ?aF ?aO ?aB ?aS ?aL ?_; (case aP => exact qfr _ _ _ (⟨(⟨(qbc t252 x6_1).f0, (qbc t252 x6_1).f1, (qbc t252 x6_1).f2, (qbc t252 x6_1).f3, (qbc t252 x6_1).f4⟩ : S40), t265, t267⟩ : S112)); (case aB => exact (bw_)); (case aF => exact (fun _ _ => trivial)); (case aO => exact (by (with_reducible repeat (first | apply Kd.R_alloc | apply Kd.qbi | apply Kd.qbl)); exact HO_4.out)); (case aS => exact (qcn (bw_))); (case aL => have := LMc30.out; omega); intro v273 w31 ho hb hg hat; rw [← Ny272.out] at ho; have n0_ := qd.mk (Kd.qfh (by (with_reducible repeat (first | apply Kd.R_alloc | apply Kd.qbi | apply Kd.qbl)); exact HO_5.out) (Kd.qdw (by (with_reducible repeat (first | apply Kd.R_alloc | apply Kd.qbi | apply Kd.qbl)); exact HO_4.out)) (by decide) hg); have n1_ := qd.mk (hb); have n2_ := qd.mk (ho); clear HO_5; clear HB; clear HO_4; have HO_5 := n0_; have HB := n1_; have HO274 := n2_; clear n0_ n1_ n2_; clear ho hb hg hat)); try go_wp2_with (first | ((with_reducible refine qdi (b := .append) (xs := #[.tmp 86, .tmp 94]) rfl ?_); at_builtin; refine Kd.qep k112 (w0 := w) w.heap.size rfl (.tmp 86) (.tmp 94) 32 112 (.agg #[(.string ⟨#[]⟩), (.string ⟨#[]⟩), (.string ⟨#[]⟩), (.string ⟨#[]⟩), (.string ⟨#[]⟩), (.int .i64 0), (.int .i64 0)]) 96 rfl Tryd.underlying32 qfu rfl (by decide) (by omega) u4 x4_1 (⟨(⟨(qbc t252 x6_1).f0, (qbc t252 x6_1).f1, (qbc t252 x6_1).f2, (qbc t252 x6_1).f3, (qbc t252 x6_1).f4⟩ : S40), t265, t267⟩ : S112) [.string ((qbc t252 x6_1).f0), .string ((qbc t252 x6_1).f1), .string ((qbc t252 x6_1).f2), .string ((qbc t252 x6_1).f3), .string ((qbc t252 x6_1).f4), .int .i64 t265, .int .i64 t267] (fun _ => True) (fun _ => False) rfl rfl ?aP (fun _ hk => hk.elim) ?aF ?aO ?aB ?aS ?aL ?_; (case aP => exact qfr _ _ _ (⟨(⟨(qbc t252 x6_1).f0, (qbc t252 x6_1).f1, (qbc t252 x6_1).f2, (qbc t252 x6_1).f3, (qbc t252 x6_1).f4⟩ : S40), t265, t267⟩ : S112)); (case aB => exact (bw_)); (case aF => exact (fun _ _ => trivial)); (case aO => exact (by (with_reducible repeat (first | apply Kd.R_alloc | apply Kd.qbi | apply Kd.qbl)); exact HO_4.out)); (case aS => exact (qcn (bw_))); (case aL => have := LMc30.out; omega); intro v273 w31 ho hb hg hat; rw [← Ny272.out] at ho; have n0_ := qd.mk (Kd.qfh (by (with_reducible repeat (first | apply Kd.R_alloc | apply Kd.qbi | apply Kd.qbl)); exact HO_5.out) (Kd.qdw (by (with_reducible repeat (first | apply Kd.R_alloc | apply Kd.qbi | apply Kd.qbl)); exact HO_4.out)) (by decide) hg); have n1_ := qd.mk (hb); have n2_ := qd.mk (ho); clear HO_5; clear HB; clear HO_4; have HO_5 := n0_; have HB := n1_; have HO274 := n2_; clear n0_ n1_ n2_; clear ho hb hg hat)))
      go_roundg kj16
      case measure => have := HK1.out; have := HK2.out; have := HJ16.out; omega
      case rel => exact ⟨(y272), (wrap64 (x6_1 + 1)), sm_, H', ⟨by have := HK1.out; have := HK2.out; have := HJ16.out; omega⟩, ⟨by (with_reducible repeat (first | apply Kd.R_alloc | apply Kd.qbi | apply Kd.qbl)); exact HO274.out⟩, ⟨by (with_reducible repeat (first | apply Kd.R_alloc | apply Kd.qbi | apply Kd.qbl)); exact HO_5.out⟩, ⟨bw_⟩⟩
   ·rw [if_neg c4] at H
    have c4b0 : decide (x6_1 < (t252.length : Int)) = false := decide_eq_false c4
    clear c4
    simp only [Option.some.injEq, Prod.mk.injEq] at H
    obtain ⟨rfl, rfl⟩ := H
    obtain ⟨Ao36, co36, eo36⟩ := Kd.qcp HO_5.out
    subst eo36
    go_wp2
    repeat (go_quiet (fail); try go_wp2)
    go_ret2
    exact ⟨_, ew_, by (with_reducible repeat (first | apply Kd.R_alloc | apply Kd.qbi | apply Kd.qbl)); exact HO_4.out, bw_⟩
end
end Go.Proofs.YtppcjoaghlecmaaDoor.P
namespace Go.Proofs.YtppcjoaghlecmaaDoor.Op
open Go.RowKit Go.Proofs.YtppcjoaghlecmaaDoorW.PrintWords Go.ChangeShapes Go.WideShapes Go.Deep
def FitL {α : Type} (f : α → Prop) (xs : List α) : Prop := xs.length ≤ reachBytes ∧ ∀ x ∈ xs, f x
def Opn (P : Program) (t : TypeId) {α : Type} (k : Kd α) (fit : α → Prop) : Prop :=
 ∀ {H : Type} {enc : TypeId × Value → H} {w : World} {fuel : Nat} {cs : List Value} {x : DataW H × List MemPlace}, DataW.trod enc P w 0 (fun _ => true) true fuel t cs = some x → (∀ n ∈ x.1.weights P t, n ≤ reachBytes) → ∃ y, k.K w y cs ∧ fit y
section
variable {P : Program}
theorem all_w {H : Type} {e : TypeId} {n : Nat} {d : DataW H} : ∀ {l : List (DataW H)}, d ∈ l → n ∈ d.weights P e → n ∈ DataW.weightsAll P e l
 | [], h, _ => by cases h
 | c :: r, h, hn => by
  simp only [DataW.weightsAll, List.mem_append]
  rcases List.mem_cons.1 h with rfl | h
  ·exact .inl hn
  ·exact .inr (all_w h hn)
theorem each_w {H : Type} {n : Nat} {d : DataW H} {t : TypeId} : ∀ {ts : List TypeId} {ds : List (DataW H)} {i : Nat}, ts[i]? = some t → ds[i]? = some d → n ∈ d.weights P t → n ∈ DataW.weightsEach P ts ds
 | [], _, i, h, _, _ => by simp at h
 | _ :: _, [], i, _, h, _ => by simp at h
 | t' :: ts, d' :: ds, 0, h1, h2, hn => by
  obtain rfl : t' = t := by simpa using h1
  obtain rfl : d' = d := by simpa using h2
  simp only [DataW.weightsEach, List.mem_append]
  exact .inl hn
 | t' :: ts, d' :: ds, i + 1, h1, h2, hn => by
  simp only [DataW.weightsEach, List.mem_append]
  exact .inr (each_w (i := i) (by simpa using h1) (by simpa using h2) hn)
theorem qge {H : Type} {t : TypeId} {fs : Array Field} {xs : List (DataW H × List MemPlace)} (ht : P.underlying t = some (.struct fs)) (hw : ∀ n ∈ (DataW.agg (xs.map (·.1))).weights P t, n ≤ reachBytes) {i : Nat} {f : Field} {y : DataW H × List MemPlace} (hf : fs[i]? = some f) (hy : xs[i]? = some y) : ∀ n ∈ y.1.weights P f.type, n ≤ reachBytes := by
 intro n hn
 refine hw n ?_
 simp only [DataW.weights, ht]
 refine each_w (i := i) (t := f.type) (d := y.1) ?_ ?_ hn
 ·rw [List.getElem?_map, Array.getElem?_toList, hf]; rfl
 ·rw [List.getElem?_map, hy]; rfl
theorem arg_w {H : Type} {ts : List TypeId} {ds : List (DataW H)} (h : (DataW.weightsEach P ts ds).all (· ≤ reachBytes) = true) (i : Nat) {t : TypeId} {d : DataW H} (h1 : ts[i]? = some t) (h2 : ds[i]? = some d) : ∀ n ∈ d.weights P t, n ≤ reachBytes := fun n hn => by
 exact of_decide_eq_true (List.all_eq_true.1 h n (each_w h1 h2 hn))
theorem qjd {t : TypeId} {k : IntKind} (ht : P.underlying t = some (.int k)) : Opn P t (Kd.int k) (fun n => (Lit.int k n).wf = true) := by
 intro H enc w fuel cs x h hw
 obtain ⟨n, rfl, _, hn⟩ := DataW.trod_int ht h
 exact ⟨n, rfl, hn⟩
theorem qfl {t : TypeId} (ht : P.underlying t = some .string) : Opn P t Kd.string (fun s => s.size ≤ reachBytes) := by
 intro H enc w fuel cs x h hw
 obtain ⟨s, rfl, hx, hs⟩ := DataW.trod_string ht h
 subst hx
 refine ⟨s, rfl, ?_⟩
 have := hw s.data.toList.length (by rw [DataW.weights]; exact List.mem_singleton_self _)
 rw [Array.length_toList] at this
 exact this
theorem opn_slice {t e : TypeId} {α : Type} {d : Kd α} {f : α → Prop} (ht : P.underlying t = some (.slice e)) (hC : P.cellsOf e = d.sz) (hbo : Nat.blt 0 (P.bytesOf e) = true) (he : Opn P e d f) : Opn P t (Kd.slice e d) (FitL f) := by
 intro H enc w fuel cs x h hw
 rcases open_slice ht h with ⟨rfl, _⟩ | ⟨a, len, cap, m, n, D, Pl, rfl, hb, hl, hm, hmm, hx, hi⟩
 ·exact ⟨[], ⟨none, 0, rfl, Nat.le_refl _, ⟨rfl, by simp, fun h => by simp at h⟩⟩, by simp, fun x hx => by simp at hx⟩
 ·have hmc : m = cap := by rw [hmm]; simp
  subst hx
  have hmem : ∀ k, k < len → ∀ n ∈ (D k).weights P e, n ≤ reachBytes := fun k hk n hn => by
   refine hw n ?_
   simp only [DataW.weights, ht]
   refine List.mem_cons_of_mem _ (List.mem_append_left _ (all_w (d := D k) (List.mem_map.2 ⟨k, List.mem_range.2 hk, rfl⟩) hn))
  have hlr : len ≤ reachBytes := by
   have h1 := hw _ (by simp only [DataW.weights, ht]; exact List.mem_cons_self ..)
   simp only [List.length_map, List.length_range] at h1
   have h2 : 0 < P.bytesOf e := by simpa using hbo
   have h3 : (len + (m - len)) * 1 ≤ (len + (m - len)) * P.bytesOf e := Nat.mul_le_mul_left _ h2
   omega
  have build : ∀ k, k ≤ len → ∃ ys : List α, ys.length = k ∧ (∀ y ∈ ys, f y) ∧ ∀ i y, ys[i]? = some y → ∃ c, c.length = d.sz ∧ d.K w y c ∧ ∀ j u, c[j]? = some u → w.cell? (a.add (i * d.sz + j)) = some u := by
   intro k
   induction k with
   | zero => exact fun _ => ⟨[], rfl, fun y hy => by simp at hy, fun i y hy => by simp at hy⟩
   | succ k ih =>
    intro hk
    obtain ⟨ys, hyl, hyf, hyc⟩ := ih (by omega)
    obtain ⟨cs', hc, ht'⟩ := hi k (by omega)
    obtain ⟨y, K, fy⟩ := he ht' (hmem k (by omega))
    rw [hC] at hc
    obtain ⟨_, hcl, hat⟩ := World.cells?_some hc
    refine ⟨ys ++ [y], by simp [hyl], fun z hz => ?_, fun i z hz => ?_⟩
    ·rcases List.mem_append.1 hz with hz | hz
     ·exact hyf z hz
     ·rw [List.mem_singleton.1 hz]; exact fy
    ·rcases Nat.lt_or_ge i ys.length with hlt | hge
     ·rw [List.getElem?_append_left hlt] at hz
      exact hyc i z hz
     ·have hil : i = ys.length := by
       have := (List.getElem?_eq_some_iff.1 hz).1
       simp at this; omega
      subst hil
      obtain rfl : y = z := by simpa using hz
      refine ⟨cs', hcl, K, fun j u hu => ?_⟩
      have hj : j < d.sz := by have := (List.getElem?_eq_some_iff.1 hu).1; omega
      rw [← Go.Deep.add_add, hyl, hat j hj, hu]
  obtain ⟨ys, hyl, hyf, hyc⟩ := build len (Nat.le_refl _)
  have hml : maxLen ≤ 9223372036854775807 := by unfold maxLen; omega
  exact ⟨ys, ⟨some a, cap, by rw [hyl], by omega, by rw [hyl]; exact ⟨hyl, by omega, fun _ => ⟨a, rfl, hyc⟩⟩⟩, by omega, hyf⟩
theorem Opn.last {α : Type} {k : Kd α} {w : World} {y : α} {cs : List Value} {o s : Nat} (h : k.K w y ((cs.drop o).take s)) (hl : cs.length ≤ o + s) : k.K w y (cs.drop o) := by
 rwa [List.take_of_length_le (by simp; omega)] at h
theorem Opn.cons {α β : Type} {a : Kd α} {b : Kd β} {w : World} {x : α} {y : β} {cs : List Value} {o s : Nat} (h : a.K w x ((cs.drop o).take s)) (k : b.K w y (cs.drop (o + s))) : (Kd.pair a b).K w (x, y) (cs.drop o) :=
 ⟨_, _, (by rw [← List.drop_drop]; exact (List.take_append_drop s (cs.drop o)).symm), h, k⟩
theorem Opn.zero {α : Type} {k : Kd α} {w : World} {y : α} {cs : List Value} (h : k.K w y (cs.drop 0)) : k.K w y cs := h
theorem opened_struct {H : Type} {enc : TypeId × Value → H} {w : World} {t : TypeId} {α : Type} {d : Kd α} {f : α → Prop} {cs : Array Value} {dd : DataW H} {ps : List MemPlace} (ho : Opn P t d f)
  (h : DataW.Trod enc P w 0 (fun _ => true) true t (.agg cs) dd ps) (hw : ∀ n ∈ dd.weights P t, n ≤ reachBytes) : ∃ y : α, d.K w y cs.toList ∧ f y := by
 obtain ⟨fuel, hf⟩ := h
 exact ho hf hw
end
end Go.Proofs.YtppcjoaghlecmaaDoor.Op
namespace Go.Proofs.YtppcjoaghlecmaaDoor.P
open Go.RowKit Go.Proofs.YtppcjoaghlecmaaDoorW.PrintWords Go.Proofs.YtppcjoaghlecmaaDoorW.PrintLast
open Go.Proofs.YtppcjoaghlecmaaDoor.Op
set_option linter.unusedVariables false
def fit213 (x : S213) : Prop := (fun s => s.size ≤ reachBytes) x.f0 ∧ (fun s => s.size ≤ reachBytes) x.f1
theorem opn213 : Opn Tryd.prog 213 k213 fit213 := by
 intro H enc w fuel cs x h hw
 obtain ⟨xs, n, _, hxe, hlen, hxl, hg⟩ := DataW.trod_struct Tryd.underlying213 h
 subst hxe
 have hlen : cs.length = 2 := hlen.trans (by kernel_rfl)
 have g0 := (hg 0 _ rfl).trans (List.getElem?_eq_getElem (show 0 < xs.length by rw [hxl]; decide))
 change DataW.trod _ _ _ _ _ _ _ 9 (List.take (Tryd.prog.cellsOf 9) (List.drop 0 cs)) = _ at g0
 rw [show Tryd.prog.cellsOf 9 = 1 by kernel_rfl] at g0
 obtain ⟨y0, K0, f0⟩ := (qfl Tryd.underlying9) g0 (qge Tryd.underlying213 hw (i := 0) rfl (List.getElem?_eq_getElem (show 0 < xs.length by rw [hxl]; decide)))
 have g1 := (hg 1 _ rfl).trans (List.getElem?_eq_getElem (show 1 < xs.length by rw [hxl]; decide))
 change DataW.trod _ _ _ _ _ _ _ 9 (List.take (Tryd.prog.cellsOf 9) (List.drop 1 cs)) = _ at g1
 rw [show Tryd.prog.cellsOf 9 = 1 by kernel_rfl] at g1
 obtain ⟨y1, K1, f1⟩ := (qfl Tryd.underlying9) g1 (qge Tryd.underlying213 hw (i := 1) rfl (List.getElem?_eq_getElem (show 1 < xs.length by rw [hxl]; decide)))
 exact ⟨⟨y0, y1⟩, (show (Kd.pair Kd.string Kd.string).K w (y0, y1) cs from Opn.zero (Opn.cons K0 (Opn.last K1 (by omega)))), ⟨f0, f1⟩⟩
def fit109 (x : S109) : Prop := (fun s => s.size ≤ reachBytes) x.f0 ∧ (fun s => s.size ≤ reachBytes) x.f1 ∧ (fun n => (Lit.int .i64 n).wf = true) x.f2 ∧ (fun n => (Lit.int .i64 n).wf = true) x.f3 ∧ (fun s => s.size ≤ reachBytes) x.f4 ∧ (fun s => s.size ≤ reachBytes) x.f5 ∧ (FitL fit213) x.f6
theorem opn109 : Opn Tryd.prog 109 k109 fit109 := by
 intro H enc w fuel cs x h hw
 obtain ⟨xs, n, _, hxe, hlen, hxl, hg⟩ := DataW.trod_struct Tryd.underlying109 h
 subst hxe
 have hlen : cs.length = 7 := hlen.trans (by kernel_rfl)
 have g0 := (hg 0 _ rfl).trans (List.getElem?_eq_getElem (show 0 < xs.length by rw [hxl]; decide))
 change DataW.trod _ _ _ _ _ _ _ 9 (List.take (Tryd.prog.cellsOf 9) (List.drop 0 cs)) = _ at g0
 rw [show Tryd.prog.cellsOf 9 = 1 by kernel_rfl] at g0
 obtain ⟨y0, K0, f0⟩ := (qfl Tryd.underlying9) g0 (qge Tryd.underlying109 hw (i := 0) rfl (List.getElem?_eq_getElem (show 0 < xs.length by rw [hxl]; decide)))
 have g1 := (hg 1 _ rfl).trans (List.getElem?_eq_getElem (show 1 < xs.length by rw [hxl]; decide))
 change DataW.trod _ _ _ _ _ _ _ 9 (List.take (Tryd.prog.cellsOf 9) (List.drop 1 cs)) = _ at g1
 rw [show Tryd.prog.cellsOf 9 = 1 by kernel_rfl] at g1
 obtain ⟨y1, K1, f1⟩ := (qfl Tryd.underlying9) g1 (qge Tryd.underlying109 hw (i := 1) rfl (List.getElem?_eq_getElem (show 1 < xs.length by rw [hxl]; decide)))
 have g2 := (hg 2 _ rfl).trans (List.getElem?_eq_getElem (show 2 < xs.length by rw [hxl]; decide))
 change DataW.trod _ _ _ _ _ _ _ 3 (List.take (Tryd.prog.cellsOf 3) (List.drop 2 cs)) = _ at g2
 rw [show Tryd.prog.cellsOf 3 = 1 by kernel_rfl] at g2
 obtain ⟨y2, K2, f2⟩ := (qjd Tryd.underlying3) g2 (qge Tryd.underlying109 hw (i := 2) rfl (List.getElem?_eq_getElem (show 2 < xs.length by rw [hxl]; decide)))
 have g3 := (hg 3 _ rfl).trans (List.getElem?_eq_getElem (show 3 < xs.length by rw [hxl]; decide))
 change DataW.trod _ _ _ _ _ _ _ 3 (List.take (Tryd.prog.cellsOf 3) (List.drop 3 cs)) = _ at g3
 rw [show Tryd.prog.cellsOf 3 = 1 by kernel_rfl] at g3
 obtain ⟨y3, K3, f3⟩ := (qjd Tryd.underlying3) g3 (qge Tryd.underlying109 hw (i := 3) rfl (List.getElem?_eq_getElem (show 3 < xs.length by rw [hxl]; decide)))
 have g4 := (hg 4 _ rfl).trans (List.getElem?_eq_getElem (show 4 < xs.length by rw [hxl]; decide))
 change DataW.trod _ _ _ _ _ _ _ 9 (List.take (Tryd.prog.cellsOf 9) (List.drop 4 cs)) = _ at g4
 rw [show Tryd.prog.cellsOf 9 = 1 by kernel_rfl] at g4
 obtain ⟨y4, K4, f4⟩ := (qfl Tryd.underlying9) g4 (qge Tryd.underlying109 hw (i := 4) rfl (List.getElem?_eq_getElem (show 4 < xs.length by rw [hxl]; decide)))
 have g5 := (hg 5 _ rfl).trans (List.getElem?_eq_getElem (show 5 < xs.length by rw [hxl]; decide))
 change DataW.trod _ _ _ _ _ _ _ 9 (List.take (Tryd.prog.cellsOf 9) (List.drop 5 cs)) = _ at g5
 rw [show Tryd.prog.cellsOf 9 = 1 by kernel_rfl] at g5
 obtain ⟨y5, K5, f5⟩ := (qfl Tryd.underlying9) g5 (qge Tryd.underlying109 hw (i := 5) rfl (List.getElem?_eq_getElem (show 5 < xs.length by rw [hxl]; decide)))
 have g6 := (hg 6 _ rfl).trans (List.getElem?_eq_getElem (show 6 < xs.length by rw [hxl]; decide))
 change DataW.trod _ _ _ _ _ _ _ 97 (List.take (Tryd.prog.cellsOf 97) (List.drop 6 cs)) = _ at g6
 rw [show Tryd.prog.cellsOf 97 = 1 by kernel_rfl] at g6
 obtain ⟨y6, K6, f6⟩ := (opn_slice Tryd.underlying97 (by kernel_rfl) (by kernel_rfl) opn213) g6 (qge Tryd.underlying109 hw (i := 6) rfl (List.getElem?_eq_getElem (show 6 < xs.length by rw [hxl]; decide)))
 exact ⟨⟨y0, y1, y2, y3, y4, y5, y6⟩, (show (Kd.pair Kd.string (Kd.pair Kd.string (Kd.pair (Kd.int .i64) (Kd.pair (Kd.int .i64) (Kd.pair Kd.string (Kd.pair Kd.string (Kd.slice 213 k213))))))).K w (y0, y1, y2, y3, y4, y5, y6) cs from Opn.zero (Opn.cons K0 (Opn.cons K1 (Opn.cons K2 (Opn.cons K3 (Opn.cons K4 (Opn.cons K5 (Opn.last K6 (by omega))))))))), ⟨f0, f1, f2, f3, f4, f5, f6⟩⟩
def fit29 (x : S29) : Prop := (fun n => (Lit.int .i64 n).wf = true) x.f0 ∧ (fun s => s.size ≤ reachBytes) x.f1 ∧ (fun n => (Lit.int .i64 n).wf = true) x.f2 ∧ (fun n => (Lit.int .i64 n).wf = true) x.f3 ∧ (fun n => (Lit.int .i64 n).wf = true) x.f4 ∧ (fun s => s.size ≤ reachBytes) x.f5 ∧ (fun s => s.size ≤ reachBytes) x.f6 ∧ (fun n => (Lit.int .i64 n).wf = true) x.f7 ∧ (FitL fit109) x.f8
theorem opn29 : Opn Tryd.prog 29 k29 fit29 := by
 intro H enc w fuel cs x h hw
 obtain ⟨xs, n, _, hxe, hlen, hxl, hg⟩ := DataW.trod_struct Tryd.underlying29 h
 subst hxe
 have hlen : cs.length = 9 := hlen.trans (by kernel_rfl)
 have g0 := (hg 0 _ rfl).trans (List.getElem?_eq_getElem (show 0 < xs.length by rw [hxl]; decide))
 change DataW.trod _ _ _ _ _ _ _ 3 (List.take (Tryd.prog.cellsOf 3) (List.drop 0 cs)) = _ at g0
 rw [show Tryd.prog.cellsOf 3 = 1 by kernel_rfl] at g0
 obtain ⟨y0, K0, f0⟩ := (qjd Tryd.underlying3) g0 (qge Tryd.underlying29 hw (i := 0) rfl (List.getElem?_eq_getElem (show 0 < xs.length by rw [hxl]; decide)))
 have g1 := (hg 1 _ rfl).trans (List.getElem?_eq_getElem (show 1 < xs.length by rw [hxl]; decide))
 change DataW.trod _ _ _ _ _ _ _ 9 (List.take (Tryd.prog.cellsOf 9) (List.drop 1 cs)) = _ at g1
 rw [show Tryd.prog.cellsOf 9 = 1 by kernel_rfl] at g1
 obtain ⟨y1, K1, f1⟩ := (qfl Tryd.underlying9) g1 (qge Tryd.underlying29 hw (i := 1) rfl (List.getElem?_eq_getElem (show 1 < xs.length by rw [hxl]; decide)))
 have g2 := (hg 2 _ rfl).trans (List.getElem?_eq_getElem (show 2 < xs.length by rw [hxl]; decide))
 change DataW.trod _ _ _ _ _ _ _ 3 (List.take (Tryd.prog.cellsOf 3) (List.drop 2 cs)) = _ at g2
 rw [show Tryd.prog.cellsOf 3 = 1 by kernel_rfl] at g2
 obtain ⟨y2, K2, f2⟩ := (qjd Tryd.underlying3) g2 (qge Tryd.underlying29 hw (i := 2) rfl (List.getElem?_eq_getElem (show 2 < xs.length by rw [hxl]; decide)))
 have g3 := (hg 3 _ rfl).trans (List.getElem?_eq_getElem (show 3 < xs.length by rw [hxl]; decide))
 change DataW.trod _ _ _ _ _ _ _ 3 (List.take (Tryd.prog.cellsOf 3) (List.drop 3 cs)) = _ at g3
 rw [show Tryd.prog.cellsOf 3 = 1 by kernel_rfl] at g3
 obtain ⟨y3, K3, f3⟩ := (qjd Tryd.underlying3) g3 (qge Tryd.underlying29 hw (i := 3) rfl (List.getElem?_eq_getElem (show 3 < xs.length by rw [hxl]; decide)))
 have g4 := (hg 4 _ rfl).trans (List.getElem?_eq_getElem (show 4 < xs.length by rw [hxl]; decide))
 change DataW.trod _ _ _ _ _ _ _ 3 (List.take (Tryd.prog.cellsOf 3) (List.drop 4 cs)) = _ at g4
 rw [show Tryd.prog.cellsOf 3 = 1 by kernel_rfl] at g4
 obtain ⟨y4, K4, f4⟩ := (qjd Tryd.underlying3) g4 (qge Tryd.underlying29 hw (i := 4) rfl (List.getElem?_eq_getElem (show 4 < xs.length by rw [hxl]; decide)))
 have g5 := (hg 5 _ rfl).trans (List.getElem?_eq_getElem (show 5 < xs.length by rw [hxl]; decide))
 change DataW.trod _ _ _ _ _ _ _ 9 (List.take (Tryd.prog.cellsOf 9) (List.drop 5 cs)) = _ at g5
 rw [show Tryd.prog.cellsOf 9 = 1 by kernel_rfl] at g5
 obtain ⟨y5, K5, f5⟩ := (qfl Tryd.underlying9) g5 (qge Tryd.underlying29 hw (i := 5) rfl (List.getElem?_eq_getElem (show 5 < xs.length by rw [hxl]; decide)))
 have g6 := (hg 6 _ rfl).trans (List.getElem?_eq_getElem (show 6 < xs.length by rw [hxl]; decide))
 change DataW.trod _ _ _ _ _ _ _ 9 (List.take (Tryd.prog.cellsOf 9) (List.drop 6 cs)) = _ at g6
 rw [show Tryd.prog.cellsOf 9 = 1 by kernel_rfl] at g6
 obtain ⟨y6, K6, f6⟩ := (qfl Tryd.underlying9) g6 (qge Tryd.underlying29 hw (i := 6) rfl (List.getElem?_eq_getElem (show 6 < xs.length by rw [hxl]; decide)))
 have g7 := (hg 7 _ rfl).trans (List.getElem?_eq_getElem (show 7 < xs.length by rw [hxl]; decide))
 change DataW.trod _ _ _ _ _ _ _ 3 (List.take (Tryd.prog.cellsOf 3) (List.drop 7 cs)) = _ at g7
 rw [show Tryd.prog.cellsOf 3 = 1 by kernel_rfl] at g7
 obtain ⟨y7, K7, f7⟩ := (qjd Tryd.underlying3) g7 (qge Tryd.underlying29 hw (i := 7) rfl (List.getElem?_eq_getElem (show 7 < xs.length by rw [hxl]; decide)))
 have g8 := (hg 8 _ rfl).trans (List.getElem?_eq_getElem (show 8 < xs.length by rw [hxl]; decide))
 change DataW.trod _ _ _ _ _ _ _ 27 (List.take (Tryd.prog.cellsOf 27) (List.drop 8 cs)) = _ at g8
 rw [show Tryd.prog.cellsOf 27 = 1 by kernel_rfl] at g8
 obtain ⟨y8, K8, f8⟩ := (opn_slice Tryd.underlying27 (by kernel_rfl) (by kernel_rfl) opn109) g8 (qge Tryd.underlying29 hw (i := 8) rfl (List.getElem?_eq_getElem (show 8 < xs.length by rw [hxl]; decide)))
 exact ⟨⟨y0, y1, y2, y3, y4, y5, y6, y7, y8⟩, (show (Kd.pair (Kd.int .i64) (Kd.pair Kd.string (Kd.pair (Kd.int .i64) (Kd.pair (Kd.int .i64) (Kd.pair (Kd.int .i64) (Kd.pair Kd.string (Kd.pair Kd.string (Kd.pair (Kd.int .i64) (Kd.slice 109 k109))))))))).K w (y0, y1, y2, y3, y4, y5, y6, y7, y8) cs from Opn.zero (Opn.cons K0 (Opn.cons K1 (Opn.cons K2 (Opn.cons K3 (Opn.cons K4 (Opn.cons K5 (Opn.cons K6 (Opn.cons K7 (Opn.last K8 (by omega))))))))))), ⟨f0, f1, f2, f3, f4, f5, f6, f7, f8⟩⟩
structure S69 where
 f0 : Int
 f1 : List (S94)
 f2 : List (S106)
structure S79 where
 f0 : ByteArray
 f1 : ByteArray
 f2 : ByteArray
 f3 : Int
 f4 : Int
end Go.Proofs.YtppcjoaghlecmaaDoor.P
namespace Go.Proofs.YtppcjoaghlecmaaDoor.P
open Go.RowKit Go.Sort Go.Proofs.YtppcjoaghlecmaaDoorW.PrintWords Go.Proofs.YtppcjoaghlecmaaDoorW.PrintLast Go.Proofs.YtppcjoaghlecmaaDoor.Op
set_option linter.unusedVariables false
set_option linter.unusedSimpArgs false
theorem w64 {n : Int} (h1 : -9223372036854775808 ≤ n) (h2 : n ≤ 9223372036854775807) : wrap64 n = n := by unfold wrap64; omega
theorem rd_at {l : List Int} {i : Nat} (h : i < l.length) : rd l (i : Int) = l[i] := by simp [rd, h]
theorem qkv {l : List S112} {i : Nat} (h : i < l.length) : qp l (i : Int) = l[i] := by simp [qp, h]
theorem qjz {l : List S40} {i : Nat} (h : i < l.length) : qbc l (i : Int) = l[i] := by simp [qbc, h]
theorem ba_beq (a b : ByteArray) : (a.toList == b.toList) = true ↔ a = b := by
 rw [beq_iff_eq]
 exact ⟨fun h => ByteArray.ext (Array.ext' (by rw [← ByteArray.toList_eq a, ← ByteArray.toList_eq b]; exact h)), fun h => by rw [h]⟩
theorem key_beq (x y : S40) : (x.f0.toList == y.f0.toList && (x.f1.toList == y.f1.toList && (x.f2.toList == y.f2.toList && (x.f3.toList == y.f3.toList && (x.f4.toList == y.f4.toList))))) = decide (cmpK x y = 0) := by
 rw [Bool.eq_iff_iff, decide_eq_true_iff]
 simp only [Bool.and_eq_true, ba_beq]
 constructor
 ·rintro ⟨h0, h1, h2, h3, h4⟩
  have e : x = y := by
   obtain ⟨a, b, c, d, e⟩ := x
   obtain ⟨a', b', c', d', e'⟩ := y
   rw [S40.mk.injEq]
   exact ⟨h0, h1, h2, h3, h4⟩
  rw [e]; exact qhq y
 ·intro h
  have e := qil h
  subst e
  exact ⟨rfl, rfl, rfl, rfl, rfl⟩
theorem i64_low32 (n : Int) : bits .and .i64 n 4294967295 = n % 4294967296 := by
 have h : (BitVec.ofInt 64 4294967295).toNat = 2 ^ 32 - 1 := by decide
 have key : (BitVec.ofInt 64 n &&& BitVec.ofInt 64 4294967295).toNat = (n % ((2 ^ 64 : Nat) : Int)).toNat % 2 ^ 32 := by
  rw [BitVec.toNat_and, BitVec.toNat_ofInt, h, Nat.and_two_pow_sub_one_eq_mod]
 show IntKind.i64.wrap ((BitVec.ofInt 64 n &&& BitVec.ofInt 64 4294967295).toNat : Nat) = n % 4294967296
 rw [key, IntKind.wrap_i64]
 omega
theorem rsum_l0 (l : List Int) (hl : l.length ≤ 1000000) (hok : ∀ x ∈ l, qdf x) : ∀ (n i : Nat) (a b : Int), l.length - i = n → i ≤ l.length → a * 4294967296 + b = (l.take i).sum → -(2147483648 * (i : Int)) ≤ a → a ≤ 2147483648 * (i : Int) → 0 ≤ b → b ≤ 4294967296 * (i : Int) → Ev (fun k => qbn.l0 k l a b (i : Int)) (if qdf l.sum then (l.sum, true) else (0, false)) := by
 intro n
 induction n with
 | zero =>
  intro i a b hn hi he h1 h2 h3 h4
  rw [List.take_of_length_le (by omega)] at he
  have w1 : wrap64 (a + b / 4294967296) = a + b / 4294967296 := w64 (by omega) (by omega)
  refine Ev.step (fun k => qbn.l0.eq_2 _ _ _ _ k) ?_
  simp only [if_neg (show ¬ ((i : Int) < (l.length : Int)) by omega), w1, i64_low32]
  by_cases c1 : a + b / 4294967296 < -2147483648
  ·simp only [if_pos c1, if_neg (show ¬ qdf l.sum by unfold qdf; omega)]
   exact Ev.now _
  ·simp only [if_neg c1]
   by_cases c2 : a + b / 4294967296 > 2147483647
   ·simp only [if_pos c2, if_neg (show ¬ qdf l.sum by unfold qdf; omega)]
    exact Ev.now _
   ·simp only [if_neg c2, if_pos (show qdf l.sum by unfold qdf; omega)]
    have w2 : wrap64 (wrap64 ((a + b / 4294967296) * 4294967296) + b % 4294967296) = l.sum := by
     unfold wrap64
     omega
    rw [w2]
    exact Ev.now _
 | succ n ih =>
  intro i a b hn hi he h1 h2 h3 h4
  have hil : i < l.length := by omega
  have hv := hok _ (List.getElem_mem hil)
  unfold qdf at hv
  have hw : wrap64 ((i : Int) + 1) = ((i + 1 : Nat) : Int) := by rw [w64 (by omega) (by omega)]; omega
  have w1 : wrap64 (a + l[i] / 4294967296) = a + l[i] / 4294967296 := w64 (by omega) (by omega)
  have w2 : wrap64 (b + l[i] % 4294967296) = b + l[i] % 4294967296 := w64 (by omega) (by omega)
  refine Ev.step (fun k => qbn.l0.eq_2 _ _ _ _ k) ?_
  simp only [if_pos (show ((i : Int) < (l.length : Int)) by omega), if_pos (show (0 : Int) ≤ (i : Int) by omega), hw, rd_at hil, i64_low32, w1, w2]
  refine ih (i + 1) _ _ (by omega) (by omega) ?_ (by push_cast; omega) (by push_cast; omega) (by omega) (by push_cast; omega)
  have ht : l.take (i + 1) = l.take i ++ [l[i]] := by rw [List.take_add_one, List.getElem?_eq_getElem hil]; rfl
  have e : (l.take (i + 1)).sum = (l.take i).sum + l[i] := by rw [ht, List.sum_append, List.sum_cons, List.sum_nil, Int.add_zero]
  rw [e]
  omega
theorem rsum_ev (l : List Int) (hl : l.length ≤ 1000000) (hok : ∀ x ∈ l, qdf x) : Ev (fun k => qbn.f k l) (if qdf l.sum then (l.sum, true) else (0, false)) :=
 rsum_l0 l hl hok _ 0 0 0 rfl (Nat.zero_le _) (by simp) (by simp) (by simp) (by simp) (by simp)
theorem fits_pure (n : Int) : qbw.f n = some (fitB n) := by
 unfold qbw.f fitB
 by_cases h : n ≥ -1000000000000000
 ·rw [if_pos h, decide_eq_true (show -1000000000000000 ≤ n from h)]; rfl
 ·rw [if_neg h, decide_eq_false (show ¬ -1000000000000000 ≤ n from h)]; rfl
end Go.Proofs.YtppcjoaghlecmaaDoor.P
namespace Go.Proofs.YtppcjoaghlecmaaDoor.P
open Go.RowKit Go.Proofs.YtppcjoaghlecmaaDoorW.PrintWords Go.Proofs.YtppcjoaghlecmaaDoorW.PrintLast
theorem refc (a b : ByteArray) : qcq.f a b = some (cmpB a b) := by
 unfold qcq.f
 rw [cmpB_less]
 by_cases h1 : Op.bytesLess a.toList b.toList = true
 ·rw [if_pos h1, if_pos h1]
 ·rw [if_neg h1, if_neg h1]
  by_cases h2 : Op.bytesLess b.toList a.toList = true
  ·rw [if_pos h2, if_pos h2]
  ·rw [if_neg h2, if_neg h2]
theorem refCmp_pure (x y : S40) (k : Nat) : qca.f (k + 6) x.f0 x.f1 x.f2 x.f3 x.f4 y.f0 y.f1 y.f2 y.f3 y.f4 = some (cmpK x y) := by
 rw [cmpK_eq]
 unfold qca.f
 simp only [qca.l0, refc, Option.bind_some, rdOf, List.length_cons, List.length_nil]
 have w : ∀ i : Int, 0 ≤ i → i ≤ 5 → wrap64 (i + 1) = i + 1 := fun i h1 h2 => by unfold wrap64; omega
 by_cases h0 : cmpB x.f0 y.f0 = 0 <;> by_cases h1 : cmpB x.f1 y.f1 = 0 <;> by_cases h2 : cmpB x.f2 y.f2 = 0 <;> by_cases h3 : cmpB x.f3 y.f3 = 0 <;> by_cases h4 : cmpB x.f4 y.f4 = 0 <;> simp [h0, h1, h2, h3, h4, wrap64]
end Go.Proofs.YtppcjoaghlecmaaDoor.P
namespace Go.Proofs.YtppcjoaghlecmaaDoor.P
open Go.RowKit Go.Sort Go.Proofs.YtppcjoaghlecmaaDoorW.PrintWords Go.Proofs.YtppcjoaghlecmaaDoorW.PrintLast
set_option linter.unusedVariables false
set_option linter.unusedSimpArgs false
theorem insK_at (key : S40) : ∀ (out : List S40) (q : Nat), SS out → q ≤ out.length → (∀ j (h : j < out.length), q ≤ j → 0 < cmpK out[j] key) → (∀ h : q - 1 < out.length, 0 < q → cmpK out[q - 1] key ≤ 0) →
  insK key out = if 0 < q ∧ cmpK (qbc out ((q - 1 : Nat) : Int)) key = 0 then out else out.take q ++ key :: out.drop q
 | [], q, _, hq, _, _ => by
  have : q = 0 := by simpa using hq
  subst this
  simp [insK]
 | h :: t, 0, hs, hq, h1, _ => by
  have h0 := h1 0 (by simp) (Nat.le_refl _)
  simp only [List.getElem_cons_zero] at h0
  have := qic.sw h key
  unfold insK
  rw [if_pos (show cmpK key h < 0 by omega), if_neg (by omega)]
  rfl
 | h :: t, q + 1, hs, hq, h1, h2 => by
  have hs' := List.pairwise_cons.1 hs
  have hle : cmpK h key ≤ 0 := by
   have h3 := h2 (by simp at hq ⊢; omega) (by omega)
   cases q with
   | zero => simpa using h3
   | succ q =>
    have hq2 : q < t.length := by simp at hq; omega
    have e : (h :: t)[q + 1 + 1 - 1]'(by simp; omega) = t[q] := rfl
    rw [e] at h3
    have := qic.lt_le (hs'.1 t[q] (List.getElem_mem hq2)) h3
    omega
  have hsw := qic.sw h key
  unfold insK
  rw [if_neg (show ¬ cmpK key h < 0 by omega)]
  have ih := insK_at key t q hs'.2 (by simp at hq; omega) (fun j hj hqj => by
   have := h1 (j + 1) (by simp; omega) (by omega)
   simpa using this) (fun hj hq0 => by
   have := h2 (by simp; omega) (by omega)
   obtain ⟨p, rfl⟩ : ∃ p, q = p + 1 := ⟨q - 1, by omega⟩
   simpa using this)
  cases q with
  | zero =>
   have e : qbc (h :: t) ((0 + 1 - 1 : Nat) : Int) = h := rfl
   rw [e]
   by_cases hz : cmpK h key = 0
   ·rw [if_pos (show cmpK key h = 0 by omega), if_pos ⟨by omega, hz⟩]
   ·rw [if_neg (show ¬ cmpK key h = 0 by omega), if_neg (fun c => hz c.2), ih, if_neg (fun c => by omega)]
    rfl
  | succ q =>
   have hq2 : q < t.length := by simp at hq; omega
   have hlt : cmpK h key < 0 := by
    have h3 := h2 (by simp; omega) (by omega)
    have e : (h :: t)[q + 1 + 1 - 1]'(by simp; omega) = t[q] := rfl
    rw [e] at h3
    exact qic.lt_le (hs'.1 t[q] (List.getElem_mem hq2)) h3
   have e : qbc (h :: t) ((q + 1 + 1 - 1 : Nat) : Int) = qbc t ((q + 1 - 1 : Nat) : Int) := by
    show qbc (h :: t) ((q + 1 : Nat) : Int) = qbc t (q : Int)
    rw [qjz (show q + 1 < (h :: t).length by simp; omega), qjz hq2]
    rfl
   rw [if_neg (show ¬ cmpK key h = 0 by omega), ih, e]
   by_cases hz : cmpK (qbc t ((q + 1 - 1 : Nat) : Int)) key = 0
   ·rw [if_pos ⟨by omega, hz⟩, if_pos ⟨by omega, hz⟩]
   ·rw [if_neg (fun c => hz c.2), if_neg (fun c => hz c.2)]
    rfl
theorem mk32 (x : S40) : (⟨x.f0, x.f1, x.f2, x.f3, x.f4⟩ : S40) = x := rfl
theorem keys_l2 (l : List S112) (out : List S40) (i q : Nat) (r : List S40) (hi : i < l.length) (hl : l.length ≤ 1000000) (ho : out.length ≤ 1000000) (hq : q ≤ out.length)
  (hr : Ev (fun k => qg.l0 k l (out.take q ++ l[i].f0 :: out.drop q) ((i + 1 : Nat) : Int)) r) :
  ∀ (n j : Nat) (z : S40), j - q = n → q ≤ j → j ≤ out.length → Ev (fun k => qg.l2 k l (out.take j ++ z :: out.drop j) (i : Int) (q : Int) (j : Int)) r := by
 have hw1 : wrap64 ((i : Int) + 1) = ((i + 1 : Nat) : Int) := by rw [w64 (by omega) (by omega)]; omega
 intro n
 induction n with
 | zero =>
  intro j z hn hqj hj
  obtain rfl : q = j := by omega
  have hlen : (out.take q ++ z :: out.drop q).length = out.length + 1 := by simp; omega
  have hset : (out.take q ++ z :: out.drop q).set q l[i].f0 = out.take q ++ l[i].f0 :: out.drop q := by
   rw [List.set_append_right _ _ (by rw [List.length_take]; omega), List.length_take, Nat.min_eq_left hq, Nat.sub_self]
   rfl
  refine Ev.step (fun k => qg.l2.eq_2 _ _ _ _ _ k) ?_
  simp only [if_neg (show ¬ ((q : Int) > (q : Int)) by omega), if_pos (show (0 : Int) ≤ (i : Int) by omega), if_pos (show (i : Int) < (l.length : Int) by omega), if_pos (show (0 : Int) ≤ (q : Int) by omega), hlen, if_pos (show (q : Int) < ((out.length + 1 : Nat) : Int) by omega), Int.toNat_natCast, hw1, qkv hi, mk32, hset]
  exact hr
 | succ n ih =>
  intro j z hn hqj hj
  have hlen : (out.take j ++ z :: out.drop j).length = out.length + 1 := by simp; omega
  have hwj : wrap64 ((j : Int) - 1) = ((j - 1 : Nat) : Int) := by rw [w64 (by omega) (by omega)]; omega
  have hj1 : j - 1 < out.length := by omega
  have hrd : qbc (out.take j ++ z :: out.drop j) ((j - 1 : Nat) : Int) = out[j - 1] := by
   rw [qjz (by rw [hlen]; omega), List.getElem_append_left (by rw [List.length_take]; omega), List.getElem_take]
  have ht : out.take j = out.take (j - 1) ++ [out[j - 1]] := by
   obtain ⟨p, rfl⟩ : ∃ p, j = p + 1 := ⟨j - 1, by omega⟩
   rw [List.take_add_one, List.getElem?_eq_getElem (by omega)]
   rfl
  have hd : out.drop (j - 1) = out[j - 1] :: out.drop j := by
   rw [List.drop_eq_getElem_cons hj1, show j - 1 + 1 = j by omega]
  have hset : (out.take j ++ z :: out.drop j).set j out[j - 1] = out.take (j - 1) ++ out[j - 1] :: out.drop (j - 1) := by
   rw [List.set_append_right _ _ (by rw [List.length_take]; omega), List.length_take, Nat.min_eq_left hj, Nat.sub_self, hd, ht, List.append_assoc]
   rfl
  refine Ev.step (fun k => qg.l2.eq_2 _ _ _ _ _ k) ?_
  simp only [if_pos (show ((j : Int) > (q : Int)) by omega), hwj, hlen, if_pos (show (0 : Int) ≤ ((j - 1 : Nat) : Int) by omega), if_pos (show ((j - 1 : Nat) : Int) < ((out.length + 1 : Nat) : Int) by omega), if_pos (show (0 : Int) ≤ (j : Int) by omega), if_pos (show (j : Int) < ((out.length + 1 : Nat) : Int) by omega), Int.toNat_natCast, hrd, mk32, hset]
  exact ih (j - 1) _ (by omega) (by omega) (by omega)
theorem keys_j2 (l : List S112) (out : List S40) (i q : Nat) (r : List S40) (hi : i < l.length) (hl : l.length ≤ 1000000) (ho : out.length ≤ 1000000) (hq : q ≤ out.length) (hs : SS out)
  (h1 : ∀ j (h : j < out.length), q ≤ j → 0 < cmpK out[j] l[i].f0) (h2 : ∀ h : q - 1 < out.length, 0 < q → cmpK out[q - 1] l[i].f0 ≤ 0)
  (hr : Ev (fun k => qg.l0 k l (insK l[i].f0 out) ((i + 1 : Nat) : Int)) r) :
  Ev (fun k => qg.j2 k l out (i : Int) (q : Int)) r := by
 have hw1 : wrap64 ((i : Int) + 1) = ((i + 1 : Nat) : Int) := by rw [w64 (by omega) (by omega)]; omega
 rw [insK_at l[i].f0 out q hs hq h1 h2] at hr
 have new : ¬ (0 < q ∧ cmpK (qbc out ((q - 1 : Nat) : Int)) l[i].f0 = 0) → Ev (fun k => qg.j3 k l out (i : Int) (q : Int) false) r := by
  intro hn
  rw [if_neg hn] at hr
  refine Ev.step (fun k => qg.j3.eq_2 _ _ _ _ _ k) ?_
  simp only [Bool.false_eq_true, if_false, if_pos (show out.length < 1759218604441 by omega), Option.bind_some]
  have hwl : wrap64 (((out ++ [(⟨(⟨#[]⟩ : ByteArray), (⟨#[]⟩ : ByteArray), (⟨#[]⟩ : ByteArray), (⟨#[]⟩ : ByteArray), (⟨#[]⟩ : ByteArray)⟩ : S40)]).length : Int) - 1) = (out.length : Int) := by
   rw [w64 (by simp <;> omega) (by simp <;> omega)]; simp <;> omega
  simp only [hwl]
  have h0 := keys_l2 l out i q r hi hl ho hq hr _ out.length ⟨(⟨#[]⟩ : ByteArray), (⟨#[]⟩ : ByteArray), (⟨#[]⟩ : ByteArray), (⟨#[]⟩ : ByteArray), (⟨#[]⟩ : ByteArray)⟩ rfl hq (Nat.le_refl _)
  rw [List.take_length, List.drop_length] at h0
  exact h0
 refine Ev.step (fun k => qg.j2.eq_2 _ _ _ _ k) ?_
 by_cases hq0 : 0 < q
 ·have hwq : wrap64 ((q : Int) - 1) = ((q - 1 : Nat) : Int) := by rw [w64 (by omega) (by omega)]; omega
  simp only [if_pos (show (q : Int) > 0 by omega), hwq, if_pos (show (0 : Int) ≤ ((q - 1 : Nat) : Int) by omega), if_pos (show ((q - 1 : Nat) : Int) < (out.length : Int) by omega), if_pos (show (0 : Int) ≤ (i : Int) by omega), if_pos (show (i : Int) < (l.length : Int) by omega), key_beq, qkv hi]
  by_cases hz : cmpK (qbc out ((q - 1 : Nat) : Int)) l[i].f0 = 0
  ·rw [if_pos ⟨hq0, hz⟩] at hr
   simp only [hz, decide_true]
   refine Ev.step (fun k => qg.j3.eq_2 _ _ _ _ _ k) ?_
   simp only [if_true, hw1]
   exact hr
  ·simp only [hz, decide_false]
   exact new (fun c => hz c.2)
 ·simp only [if_neg (show ¬ (q : Int) > 0 by omega)]
  exact new (fun c => hq0 c.1)
theorem keys_l1 (l : List S112) (out : List S40) (i : Nat) (r : List S40) (hi : i < l.length) (hl : l.length ≤ 1000000) (ho : out.length ≤ 1000000) (hs : SS out)
  (hr : Ev (fun k => qg.l0 k l (insK l[i].f0 out) ((i + 1 : Nat) : Int)) r) :
  ∀ (q : Nat), q ≤ out.length → (∀ j (h : j < out.length), q ≤ j → 0 < cmpK out[j] l[i].f0) → Ev (fun k => qg.l1 k l out (i : Int) (q : Int)) r := by
 intro q
 induction q with
 | zero =>
  intro hq h1
  refine Ev.step (fun k => qg.l1.eq_2 _ _ _ _ k) ?_
  simp only [if_neg (show ¬ ((0 : Nat) : Int) > 0 by omega)]
  exact keys_j2 l out i 0 r hi hl ho hq hs h1 (fun _ h => absurd h (by omega)) hr
 | succ q ih =>
  intro hq h1
  have hwq : wrap64 (((q + 1 : Nat) : Int) - 1) = (q : Int) := by rw [w64 (by omega) (by omega)]; omega
  refine Ev.step (fun k => qg.l1.eq_2 _ _ _ _ k) ?_
  simp only [if_pos (show ((q + 1 : Nat) : Int) > 0 by omega), hwq, if_pos (show (0 : Int) ≤ (q : Int) by omega), if_pos (show (q : Int) < (out.length : Int) by omega), if_pos (show (0 : Int) ≤ (i : Int) by omega), if_pos (show (i : Int) < (l.length : Int) by omega), qkv hi, qjz (show q < out.length by omega)]
  have hc : Ev (fun k => qca.f k out[q].f0 out[q].f1 out[q].f2 out[q].f3 out[q].f4 l[i].f0.f0 l[i].f0.f1 l[i].f0.f2 l[i].f0.f3 l[i].f0.f4) (cmpK out[q] l[i].f0) :=
   ⟨6, fun k hk => by obtain ⟨m, rfl⟩ : ∃ m, k = m + 6 := ⟨k - 6, by omega⟩; exact refCmp_pure _ _ m⟩
  refine Ev.bind hc ?_
  by_cases hz : cmpK out[q] l[i].f0 > 0
  ·simp only [if_pos hz]
   refine ih (by omega) (fun j hj hqj => ?_)
   rcases Nat.eq_or_lt_of_le hqj with h | h
   ·subst h; exact hz
   ·exact h1 j hj h
  ·simp only [if_neg hz]
   exact keys_j2 l out i (q + 1) r hi hl ho hq hs h1 (fun h _ => by
    show cmpK out[q] l[i].f0 ≤ 0
    omega) hr
theorem keysK_len (l : List S112) : (qfe l).length ≤ l.length := by
 induction l with
 | nil => exact Nat.le_refl _
 | cons c r ih =>
  have h : ∀ (k : S40) (ks : List S40), (insK k ks).length ≤ ks.length + 1 := by
   intro k ks
   induction ks with
   | nil => exact Nat.le_refl _
   | cons a b ih =>
    unfold insK
    by_cases h1 : cmpK k a < 0
    ·rw [if_pos h1]; simp
    ·rw [if_neg h1]
     by_cases h2 : cmpK k a = 0
     ·rw [if_pos h2]; simp
     ·rw [if_neg h2]; simp only [List.length_cons]; omega
  have := h c.f0 (qfe r)
  unfold qfe
  simp only [List.length_cons]
  omega
theorem keys_l0 (l : List S112) (hl : l.length ≤ 1000000) : ∀ (n i : Nat), l.length - i = n → i ≤ l.length → Ev (fun k => qg.l0 k l (qfe (l.take i)) (i : Int)) (qfe l) := by
 intro n
 induction n with
 | zero =>
  intro i hn hi
  refine Ev.step (fun k => qg.l0.eq_2 _ _ _ k) ?_
  rw [List.take_of_length_le (by omega)]
  simp only [if_neg (show ¬ ((i : Int) < (l.length : Int)) by omega)]
  exact Ev.now _
 | succ n ih =>
  intro i hn hi
  have hil : i < l.length := by omega
  have hk := keysK_len (l.take i)
  rw [List.length_take] at hk
  refine Ev.step (fun k => qg.l0.eq_2 _ _ _ k) ?_
  simp only [if_pos (show ((i : Int) < (l.length : Int)) by omega)]
  refine keys_l1 l (qfe (l.take i)) i _ hil hl (by omega) (qir _) ?_ _ (Nat.le_refl _) (fun j hj h => absurd hj (by omega))
  have e : insK l[i].f0 (qfe (l.take i)) = qfe (l.take (i + 1)) := by
   rw [List.take_add_one, List.getElem?_eq_getElem hil]
   exact (qnd (show (l.take i ++ [l[i]]).Perm (l[i] :: l.take i) from List.perm_append_comm)).symm
  rw [e]
  exact ih (i + 1) (by omega) (by omega)
theorem keys_ev (l : List S112) (hl : l.length ≤ 1000000) : Ev (fun k => qg.f k l) (qfe l) :=
 keys_l0 l hl _ 0 rfl (Nat.zero_le _)
theorem of_l1 (l : List S112) (ks : List S40) (out : List S112) (i : Nat) (r : List S112 × Int) (hi : i < ks.length) (hk : ks.length ≤ 1000000) (hok : OkS l) (ho : out.length ≤ 1000000)
  (hr1 : (fitB (sumA l ks[i]) && fitB (sumB l ks[i])) = false → r = ([], 4))
  (hr2 : (fitB (sumA l ks[i]) && fitB (sumB l ks[i])) = true → Ev (fun k => qy.l0 k l (if sumA l ks[i] ≠ 0 ∨ sumB l ks[i] ≠ 0 then out ++ [⟨ks[i], sumA l ks[i], sumB l ks[i]⟩] else out) ks ((i + 1 : Nat) : Int)) r) :
  ∀ (n j : Nat), l.length - j = n → j ≤ l.length → Ev (fun k => qy.l1 k l out ks (i : Int) (amts ((l.take j).filter (eqK ks[i]))) (bass ((l.take j).filter (eqK ks[i]))) (j : Int)) r := by
 have hl := hok.1
 have hwi : wrap64 ((i : Int) + 1) = ((i + 1 : Nat) : Int) := by rw [w64 (by omega) (by omega)]; omega
 have len : ∀ j, ((l.take j).filter (eqK ks[i])).length ≤ 1000000 := fun j => by
  have h1 := List.length_filter_le (eqK ks[i]) (l.take j)
  rw [List.length_take] at h1
  omega
 have bad : r = ([], 4) → ∀ x y, Ev (fun k => qy.j2 k l out ks (i : Int) x y true) r := by
  rintro rfl x y
  refine Ev.step (fun k => qy.j2.eq_2 _ _ _ _ _ _ _ k) ?_
  simp only [if_true]
  exact Ev.now _
 intro n
 induction n with
 | zero =>
  intro j hn hj
  refine Ev.step (fun k => qy.l1.eq_2 _ _ _ _ _ _ _ k) ?_
  rw [List.take_of_length_le (by omega)]
  simp only [if_neg (show ¬ ((j : Int) < (l.length : Int)) by omega)]
  have hla : (l.filter (eqK ks[i])).length ≤ 1000000 := Nat.le_trans (List.length_filter_le _ _) hl
  refine Ev.bind (rsum_ev (amts (l.filter (eqK ks[i]))) (by unfold amts; rw [List.length_map]; exact hla) (fun x hx => by
   obtain ⟨c, hc, rfl⟩ := List.mem_map.1 hx
   exact (hok.2 c (List.mem_filter.1 hc).1).1)) ?_
  refine Ev.bind (rsum_ev (bass (l.filter (eqK ks[i]))) (by unfold bass; rw [List.length_map]; exact hla) (fun x hx => by
   obtain ⟨c, hc, rfl⟩ := List.mem_map.1 hx
   exact (hok.2 c (List.mem_filter.1 hc).1).2)) ?_
  change (fitB (amts (l.filter (eqK ks[i]))).sum && fitB (bass (l.filter (eqK ks[i]))).sum) = false → _ at hr1
  change (fitB (amts (l.filter (eqK ks[i]))).sum && fitB (bass (l.filter (eqK ks[i]))).sum) = true → Ev (fun k => qy.l0 k l (if (amts (l.filter (eqK ks[i]))).sum ≠ 0 ∨ (bass (l.filter (eqK ks[i]))).sum ≠ 0 then out ++ [⟨ks[i], (amts (l.filter (eqK ks[i]))).sum, (bass (l.filter (eqK ks[i]))).sum⟩] else out) ks ((i + 1 : Nat) : Int)) r at hr2
  generalize (amts (l.filter (eqK ks[i]))).sum = A at hr1 hr2 ⊢
  generalize (bass (l.filter (eqK ks[i]))).sum = B at hr1 hr2 ⊢
  have nf : ∀ {n : Int}, ¬ qdf n → fitB n = false := fun {n} h => by
   cases hf : fitB n with
   | false => rfl
   | true => exact absurd (fit_i64 hf) h
  by_cases ha : qdf A
  ·by_cases hb : qdf B
   ·simp only [if_pos ha, if_pos hb, if_true, fits_pure, Option.bind_some]
    cases hfa : fitB A with
    | false =>
     simp only [Bool.false_eq_true, if_false]
     exact bad (hr1 (by rw [hfa]; rfl)) _ _
    | true =>
     cases hfb : fitB B with
     | false =>
      simp only [if_true, Bool.not_false]
      exact bad (hr1 (by rw [hfb, Bool.and_false])) _ _
     | true =>
      have hr := hr2 (by rw [hfa, hfb]; rfl)
      simp only [if_true, Bool.not_true]
      refine Ev.step (fun k => qy.j2.eq_2 _ _ _ _ _ _ _ k) ?_
      simp only [Bool.false_eq_true, if_false, hwi, if_pos (show (0 : Int) ≤ (i : Int) by omega), if_pos (show (i : Int) < (ks.length : Int) by omega), if_pos (show out.length < 1466015503701 by omega), qjz hi, mk32]
      by_cases ca : A = 0
      ·by_cases cb : B = 0
       ·simp only [if_pos ca, if_pos cb]
        rw [if_neg (by omega)] at hr
        exact hr
       ·simp only [if_pos ca, if_neg cb]
        rw [if_pos (by omega)] at hr
        exact hr
      ·simp only [if_neg ca]
       rw [if_pos (by omega)] at hr
       exact hr
   ·simp only [if_pos ha, if_neg hb, if_true, Bool.false_eq_true, if_false]
    exact bad (hr1 (by rw [nf hb, Bool.and_false])) _ _
  ·simp only [if_neg ha, Bool.false_eq_true, if_false]
   exact bad (hr1 (by rw [nf ha, Bool.false_and])) _ _
 | succ n ih =>
  intro j hn hj
  have hjl : j < l.length := by omega
  have hwj : wrap64 ((j : Int) + 1) = ((j + 1 : Nat) : Int) := by rw [w64 (by omega) (by omega)]; omega
  have ht : l.take (j + 1) = l.take j ++ [l[j]] := by rw [List.take_add_one, List.getElem?_eq_getElem hjl]; rfl
  have la := len j
  refine Ev.step (fun k => qy.l1.eq_2 _ _ _ _ _ _ _ k) ?_
  simp only [if_pos (show ((j : Int) < (l.length : Int)) by omega), if_pos (show (0 : Int) ≤ (j : Int) by omega), if_pos (show (0 : Int) ≤ (i : Int) by omega), if_pos (show (i : Int) < (ks.length : Int) by omega), key_beq, qkv hjl, qjz hi, hwj, decide_eq_true_eq, if_pos (show (amts ((l.take j).filter (eqK ks[i]))).length < 17592186044416 by unfold amts; rw [List.length_map]; omega), if_pos (show (bass ((l.take j).filter (eqK ks[i]))).length < 17592186044416 by unfold bass; rw [List.length_map]; omega)]
  have hsw := qic.sw l[j].f0 ks[i]
  have ih := ih (j + 1) (by omega) (by omega)
  rw [ht, List.filter_append] at ih
  by_cases hz : cmpK l[j].f0 ks[i] = 0
  ·have he : eqK ks[i] l[j] = true := by unfold eqK; exact decide_eq_true (by omega)
   simp only [if_pos hz]
   rw [List.filter_cons, if_pos he, List.filter_nil] at ih
   unfold amts bass at ih ⊢
   rw [List.map_append, List.map_append] at ih
   exact ih
  ·have he : ¬ eqK ks[i] l[j] = true := by unfold eqK; rw [decide_eq_true_iff]; omega
   simp only [if_neg hz]
   rw [List.filter_cons, if_neg he, List.filter_nil, List.append_nil] at ih
   exact ih
theorem refof_l0 (l : List S112) (ks : List S40) (hk : ks.length ≤ 1000000) (hok : OkS l) : ∀ (n i : Nat) (out : List S112), ks.length - i = n → i ≤ ks.length → out.length ≤ i → Ev (fun k => qy.l0 k l out ks (i : Int)) (if (qgb l (ks.drop i) out).1 = true then ((qgb l (ks.drop i) out).2, 0) else ([], 4)) := by
 intro n
 induction n with
 | zero =>
  intro i out hn hi ho
  refine Ev.step (fun k => qy.l0.eq_2 _ _ _ _ k) ?_
  rw [List.drop_of_length_le (by omega)]
  simp only [if_neg (show ¬ ((i : Int) < (ks.length : Int)) by omega), qgb, if_true]
  exact Ev.now _
 | succ n ih =>
  intro i out hn hi ho
  have hil : i < ks.length := by omega
  refine Ev.step (fun k => qy.l0.eq_2 _ _ _ _ k) ?_
  simp only [if_pos (show ((i : Int) < (ks.length : Int)) by omega)]
  rw [List.drop_eq_getElem_cons hil]
  unfold qgb
  refine of_l1 l ks out i _ hil hk hok (by omega) (fun h => ?_) (fun h => ?_) _ 0 rfl (Nat.zero_le _)
  ·rw [if_neg (by rw [h]; simp)]
  ·rw [if_pos h]
   refine ih (i + 1) _ (by omega) (by omega) ?_
   by_cases c : sumA l ks[i] ≠ 0 ∨ sumB l ks[i] ≠ 0
   ·rw [if_pos c, List.length_append]
    simp only [List.length_cons, List.length_nil]
    omega
   ·rw [if_neg c]; omega
theorem refof_ev (l : List S112) (h : OkS l) : Ev (fun k => qy.f k l) (ofK l) := by
 unfold qy.f
 refine Ev.bind (keys_ev l h.1) ?_
 have hk := keysK_len l
 have hl := h.1
 exact refof_l0 l (qfe l) (by omega) h _ 0 [] rfl (Nat.zero_le _) (Nat.le_refl _)
end Go.Proofs.YtppcjoaghlecmaaDoor.P
namespace Go.Proofs.YtppcjoaghlecmaaDoor.P
open Go.RowKit Go.Proofs.YtppcjoaghlecmaaDoorW.PrintWords Go.Proofs.YtppcjoaghlecmaaDoorW.PrintLast Go.Proofs.YtppcjoaghlecmaaDoorW.PrintMore
attribute [local go_sem] qfa qey qft qfs qej qei qez qex
set_option linter.unusedVariables false
set_option linter.unusedSimpArgs false
def qdz.f (k : Nat) (a0 : ByteArray) (a1_0 : ByteArray) (a1_1 : ByteArray) (a1_2 : Int) (a1_3 : Int) (a1_4 : ByteArray) (a1_5 : ByteArray) (l1_6 : List (S213)) : Option (ByteArray × ByteArray × ByteArray × ByteArray × ByteArray) := (qby.f k l1_6).bind fun bt286 => (some (a0, a1_0, a1_1, a1_4, bt286.1))
set_option maxHeartbeats 8000000 in
set_option maxRecDepth 100000 in
theorem qdz.calls (k : Nat) (a0 : ByteArray) (a1_0 : ByteArray) (a1_1 : ByteArray) (a1_2 : Int) (a1_3 : Int) (a1_4 : ByteArray) (a1_5 : ByteArray) (A1_6 : Option Addr) (c1_6 : Nat) (l1_6 : List (S213)) (r1 : ByteArray) (r2 : ByteArray) (r3 : ByteArray) (r4 : ByteArray) (r5 : ByteArray) (w : World) (hr1_6 : Kd.C k213 w A1_6 l1_6.length l1_6) (hc1_6 : l1_6.length ≤ c1_6) (h : qdz.f k a0 a1_0 a1_1 a1_2 a1_3 a1_4 a1_5 l1_6 = some (r1, r2, r3, r4, r5)) :
  Calls Tryd.prog 105 #[.string a0, .agg #[.string a1_0, .string a1_1, .int .i64 a1_2, .int .i64 a1_3, .string a1_4, .string a1_5, .slice A1_6 l1_6.length c1_6]] w fun e w' => e = .returned (.agg #[.string r1, .string r2, .string r3, .string r4, .string r5]) ∧ Below w.heap.size w w' := by
 have hu109 := Tryd.underlying109
 have hu40 := Tryd.underlying40
 have HR1_6 := qd.mk hr1_6
 have HC1_6 := qd.mk hc1_6
 clear hr1_6 hc1_6
 have HB := qd.mk (Below.refl w.heap.size w)
 have H : ((qby.f k l1_6).bind fun bt286 => (some (a0, a1_0, a1_1, a1_4, bt286.1))) = some (r1, r2, r3, r4, r5) := h
 clear h
 replace H := Option.bind_eq_some_iff.mp H
 obtain ⟨⟨t286, t287⟩, A30, H⟩ := H
 replace H : (some (a0, a1_0, a1_1, a1_4, t286)) = some (r1, r2, r3, r4, r5) := H
 have A3 := qd.mk A30
 clear A30
 simp only [Option.some.injEq, Prod.mk.injEq] at H
 obtain ⟨rfl, rfl, rfl, rfl, rfl⟩ := H
 go_enter Tryd.func105, Tryd.ntmps105
 go_wp2_with (first | ((with_reducible refine qce (N := 3) rfl ?_); refine qcc ?hg (N := 3) ?hd (cs := #[.string a1_0, .string a1_1, .int .i64 a1_2, .int .i64 a1_3, .string a1_4, .string a1_5, .slice A1_6 l1_6.length c1_6]) (t := 109) ?hr ?_; (case hd => rfl); (case hg => rfl); (case hr => first | (go_simp; done) | (go_simp; rfl)); intro gb284 hg w4 hbox hb; have n0_ := qd.mk (qbd (bw_) hb); have n1_ := qd.mk (hbox); have n2_ := qd.mk (gw_ (w := w) hg); have n3_ := qd.mk (gw_ (w := w) hg); clear HB; have HB := n0_; have BK284 := n1_; have GW284 := n2_; have GE284 := n3_; clear n0_ n1_ n2_ n3_; clear hb hbox hg) | ((with_reducible refine qce (N := 4) rfl ?_); refine qcc ?hg (N := 4) ?hd (cs := #[.string (⟨#[]⟩ : ByteArray), .string (⟨#[]⟩ : ByteArray), .string (⟨#[]⟩ : ByteArray), .string (⟨#[]⟩ : ByteArray), .string (⟨#[]⟩ : ByteArray)]) (t := 40) ?hr ?_; (case hd => rfl); (case hg => rfl); (case hr => first | (go_simp; done) | (go_simp; rfl)); intro gb285 hg w5 hbox hb; have n0_ := qd.mk (bb_ BK284 hb); have n1_ := qd.mk (qbd (bwx_) hb); have n2_ := qd.mk (hbox); have n3_ := qd.mk (gw_ (w := w) hg); have n4_ := qd.mk (gw_ (w := w) hg); have n5_ := qd.mk ((by rw [hg]; exact Nat.ne_of_lt (bl_ BK284) : gb284 ≠ gb285)); have n6_ := qd.mk ((by rw [hg]; exact Nat.ne_of_gt (bl_ BK284) : gb285 ≠ gb284)); clear BK284; clear HB; have BK284 := n0_; have HB := n1_; have BK285 := n2_; have GW285 := n3_; have GE285 := n4_; have NB284_285 := n5_; have NB285_284 := n6_; clear n0_ n1_ n2_ n3_ n4_ n5_ n6_; clear hb hbox hg; have hnb6 := NB284_285.out; have hnc6 := NB285_284.out; obtain ⟨cz7_0, cz7_1, cz7_2, cz7_3, cz7_4, cz7_5, cz7_6⟩ := bc7_ (w := w5) BK284.out; obtain ⟨fz7_0, fz7_1, fz7_2, fz7_3, fz7_4, fz7_5, fz7_6⟩ := bf7_ BK284.out) | ((with_reducible refine qbg (f := 146) rfl ?_); refine qcm (some 10) rfl rfl Tryd.func146 (by kernel_rfl) rfl #[.slice A1_6 l1_6.length c1_6] rfl ml_ ?_; (with_reducible refine (qby.calls k _ _ l1_6 t286 t287 _ ?side1 ?side2 A3.out).mono ?_); (case side1 => repeat (first | exact (Kd.qcd HR1_6.out HB.out) | (with_reducible refine Kd.qco ?_ _) | (with_reducible refine Kd.qcs ?_ _) | (with_reducible refine Kd.qdk ?_))); (case side2 => exact HC1_6.out); rintro e w8 ⟨rfl, hb⟩; refine ⟨_, rfl, ?_⟩; have n0_ := qd.mk (bb_ BK284 hb); have n1_ := qd.mk (bb_ BK285 hb); have n2_ := qd.mk (qbd (bwx_) hb); clear BK284; clear BK285; clear HB; have BK284 := n0_; have BK285 := n1_; have HB := n2_; clear n0_ n1_ n2_; (try clear hb); (try clear hb2); (try clear hk); (try clear hi); obtain ⟨cz9_0, cz9_1, cz9_2, cz9_3, cz9_4, cz9_5, cz9_6⟩ := bc7_ (w := w8) BK284.out; obtain ⟨fz9_0, fz9_1, fz9_2, fz9_3, fz9_4, fz9_5, fz9_6⟩ := bf7_ BK284.out; obtain ⟨cz10_0, cz10_1, cz10_2, cz10_3, cz10_4⟩ := bc5_ (w := w8) BK285.out; obtain ⟨fz10_0, fz10_1, fz10_2, fz10_3, fz10_4⟩ := bf5_ BK285.out))
 refine bodyPost_ret (results_cell_row rfl _ _ gb285 40 #[.string a0, .string a1_0, .string a1_1, .string a1_4, .string t286] (0, 0) _ rfl (by (with_reducible repeat (first | refine qw ?_ _ | refine qz ?_ | refine qm ?_ _)); refine qck (cs := #[.string a0, .string a1_0, .string a1_1, .string a1_4, .string (⟨#[]⟩ : ByteArray)]) ?_ 4 _ rfl; (with_reducible repeat (first | refine qw ?_ _ | refine qz ?_ | refine qm ?_ _)); refine qck (cs := #[.string a0, .string a1_0, .string a1_1, .string (⟨#[]⟩ : ByteArray), .string (⟨#[]⟩ : ByteArray)]) ?_ 3 _ rfl; (with_reducible repeat (first | refine qw ?_ _ | refine qz ?_ | refine qm ?_ _)); refine qck (cs := #[.string a0, .string a1_0, .string (⟨#[]⟩ : ByteArray), .string (⟨#[]⟩ : ByteArray), .string (⟨#[]⟩ : ByteArray)]) ?_ 2 _ rfl; (with_reducible repeat (first | refine qw ?_ _ | refine qz ?_ | refine qm ?_ _)); refine qck (cs := #[.string a0, .string (⟨#[]⟩ : ByteArray), .string (⟨#[]⟩ : ByteArray), .string (⟨#[]⟩ : ByteArray), .string (⟨#[]⟩ : ByteArray)]) ?_ 1 _ rfl; (with_reducible repeat (first | refine qw ?_ _ | refine qz ?_ | refine qm ?_ _)); refine qck (cs := #[.string (⟨#[]⟩ : ByteArray), .string (⟨#[]⟩ : ByteArray), .string (⟨#[]⟩ : ByteArray), .string (⟨#[]⟩ : ByteArray), .string (⟨#[]⟩ : ByteArray)]) ?_ 0 _ rfl; (with_reducible repeat (first | refine qw ?_ _ | refine qz ?_ | refine qm ?_ _)); exact BK285.out) Tryd.underlying40 rfl (by kernel_rfl)) rfl ?_
 exact ⟨ew_, bwx_⟩
def qbk.l0 : Nat → List (S112) → Int → Int → ByteArray → Int → Int → Int → ByteArray → ByteArray → Int → List (S109) → Option ((List (S112)))
 | 0, _, _, _, _, _, _, _, _, _, _, _ => none
 | k + 1, x3, x4, x289000, x289001, x289002, x289003, x289004, x289005, x289006, x289007, x289008 => if x4 < (x289008.length : Int) then (if 0 ≤ x4 then ((qdz.f k x289001 ((ql x289008 x4).f0) ((ql x289008 x4).f1) ((ql x289008 x4).f2) ((ql x289008 x4).f3) ((ql x289008 x4).f4) ((ql x289008 x4).f5) ((ql x289008 x4).f6)).bind fun bt293 => (if x3.length < 1466015503701 then (qbk.l0 k (x3 ++ [(⟨(⟨bt293.1, bt293.2.1, bt293.2.2.1, bt293.2.2.2.1, bt293.2.2.2.2⟩ : S40), (ql x289008 x4).f2, (ql x289008 x4).f3⟩ : S112)]) (wrap64 (x4 + 1)) x289000 x289001 x289002 x289003 x289004 x289005 x289006 x289007 x289008) else (none))) else (none)) else (some x3)
def qbk.f (k : Nat) (a0_0 : Int) (a0_1 : ByteArray) (a0_2 : Int) (a0_3 : Int) (a0_4 : Int) (a0_5 : ByteArray) (a0_6 : ByteArray) (a0_7 : Int) (l0_8 : List (S109)) : Option ((List (S112))) := qbk.l0 k (([] : List (S112))) 0 a0_0 a0_1 a0_2 a0_3 a0_4 a0_5 a0_6 a0_7 l0_8
def qbk.T5 : Bool × List (List Nat × List Nat) := (true, [([], []), ([], []), ([1], [1]), ([], []), ([3], [3]), ([], []), ([4, 5], [4, 5]), ([6], [6]), ([2, 7], [2, 7]), ([], []), ([9], [9]), ([], []), ([10, 11], [10, 11]), ([12], [12]), ([13], [13]), ([], []), ([15], [15]), ([], []), ([16, 17], [16, 17]), ([18], [18]), ([19], [19]), ([8, 14, 20], [8, 14, 20]), ([21], [21]), ([0, 22, 8], [0, 22]), ([23, 23, 0, 1, 2, 3, 4, 5, 6, 7, 8, 9, 10, 11, 12, 13, 14, 15, 16, 17, 18, 19, 20, 21, 22, 23], [0, 23])])
def qbk.B5 : List Nat := [0, 0, 2, 0, 8, 0, 56, 120, 254, 0, 512, 0, 3584, 7680, 15872, 0, 32768, 0, 229376, 491520, 1015808, 2097150, 4194302, 8388607, 16777215]
theorem qbk.tab5 : rtab .any (opsOf Tryd.f55 5) = qbk.T5 := by kernel_rfl
theorem qbk.bits5 : qhf qbk.T5.2 qbk.B5 = true := by kernel_rfl
set_option maxHeartbeats 8000000 in
set_option maxRecDepth 100000 in
theorem qbk.calls (k : Nat) (a0_0 : Int) (a0_1 : ByteArray) (a0_2 : Int) (a0_3 : Int) (a0_4 : Int) (a0_5 : ByteArray) (a0_6 : ByteArray) (a0_7 : Int) (A0_8 : Option Addr) (c0_8 : Nat) (l0_8 : List (S109)) (r : List (S112)) (w : World) (hr0_8 : Kd.C k109 w A0_8 l0_8.length l0_8) (hc0_8 : l0_8.length ≤ c0_8) (h : qbk.f k a0_0 a0_1 a0_2 a0_3 a0_4 a0_5 a0_6 a0_7 l0_8 = some r) :
  Calls Tryd.prog 55 #[.agg #[.int .i64 a0_0, .string a0_1, .int .i64 a0_2, .int .i64 a0_3, .int .i64 a0_4, .string a0_5, .string a0_6, .int .i64 a0_7, .slice A0_8 l0_8.length c0_8]] w fun e w' => ∃ v0_ : Value, e = .returned (v0_) ∧ Kd.R k112 112 w' w.heap.size (fun _ => True) v0_ r ∧ Below w.heap.size w w' := by
 have hu29 := Tryd.underlying29
 have hu109 := Tryd.underlying109
 have hu112 := Tryd.underlying112
 have HR0_8 := qd.mk hr0_8
 have HC0_8 := qd.mk hc0_8
 clear hr0_8 hc0_8
 have HB := qd.mk (Below.refl w.heap.size w)
 have H : (qbk.l0 k (([] : List (S112))) 0 a0_0 a0_1 a0_2 a0_3 a0_4 a0_5 a0_6 a0_7 l0_8) = some r := h
 clear h
 obtain ⟨y289, hy289⟩ : ∃ y_ : List (S112), y_ = (([] : List (S112))) := ⟨_, rfl⟩
 replace H : (qbk.l0 k y289 0 a0_0 a0_1 a0_2 a0_3 a0_4 a0_5 a0_6 a0_7 l0_8) = some r := by first | (rw [hy289]; with_reducible exact H) | (have H2_ := (Option.bind_some _ _).symm.trans H; rw [hy289]; with_reducible exact H2_) | (have H2_ := (Option.bind_some _ _).symm.trans H; with_reducible exact H2_) | with_reducible exact H | (rw [hy289]; exact H) | exact H
 have Ny289 := qd.mk hy289
 clear hy289
 have H' := qd.mk H
 clear H
 go_enter Tryd.func55, Tryd.ntmps55
 go_wp2_with (first | ((with_reducible refine qce (N := 1) rfl ?_); refine qcc ?hg (N := 1) ?hd (cs := #[.int .i64 a0_0, .string a0_1, .int .i64 a0_2, .int .i64 a0_3, .int .i64 a0_4, .string a0_5, .string a0_6, .int .i64 a0_7, .slice A0_8 l0_8.length c0_8]) (t := 29) ?hr ?_; (case hd => rfl); (case hg => rfl); (case hr => first | (go_simp; done) | (go_simp; rfl)); intro gb288 hg w2 hbox hb; have n0_ := qd.mk (qbd (bw_) hb); have n1_ := qd.mk (hbox); have n2_ := qd.mk (gw_ (w := w) hg); have n3_ := qd.mk (gw_ (w := w) hg); clear HB; have HB := n0_; have BK288 := n1_; have GW288 := n2_; have GE288 := n3_; clear n0_ n1_ n2_ n3_; clear hb hbox hg) | ((with_reducible refine qce (N := 5) rfl ?_); refine Kd.R_lit k112 _ 112 ?hg (N := 5) ?hd (xs := ([] : List (S112))) (inner := []) (ok := fun _ => True) (okp := fun _ => True) ?hr ?hp (fun _ hk => hk) trivial (Below.refl _ _) (Nat.le_refl _) (by simp) ?_; (case hd => rfl); (case hg => rfl); (case hr => first | (go_simp; done) | (go_simp; rfl)); (case hp => exact (Reps.none _ _)); intro v290 w3 ho4 hb hg_ hnew_; clear hg_ hnew_; (first | rw [← Ny289.out] at ho4 | (simp only [Int.reduceToNat] at ho4; rw [← Ny289.out] at ho4)); have n0_ := qd.mk (Kd.qel ho4 (qcn (bwx_))); have n1_ := qd.mk (bb_ BK288 hb); have n2_ := qd.mk (qbd (bwx_) hb); clear BK288; clear HB; have HO291 := n0_; have BK288 := n1_; have HB := n2_; clear n0_ n1_ n2_; clear hb ho4))
 go_loopg [3, 4] k (fun kq v3 v4 w' => ∃ (x3_1 : List (S112)) (x4_1 : Int), v4 = .int .i64 x4_1 ∧ qd (qbk.l0 kq x3_1 x4_1 a0_0 a0_1 a0_2 a0_3 a0_4 a0_5 a0_6 a0_7 l0_8 = some r) ∧ qd (kq ≤ k) ∧ qd (Kd.R k112 112 w' w.heap.size (fun _ => True) v3 x3_1) ∧ qd (w'.heap[gb288]? = some (.cells #[.int .i64 a0_0, .string a0_1, .int .i64 a0_2, .int .i64 a0_3, .int .i64 a0_4, .string a0_5, .string a0_6, .int .i64 a0_7, (.slice A0_8 l0_8.length c0_8)] 29 (0, 0))) ∧ qd (Below w.heap.size w w'))
 case atStart => exact ⟨(y289), (0), sm_, H', ⟨Nat.le_refl _⟩, ⟨by (with_reducible repeat (first | apply Kd.R_alloc | apply Kd.qbi | apply Kd.qbl)); exact HO291.out⟩, ⟨by (with_reducible repeat (first | refine qw ?_ _ | refine qz ?_ | refine qm ?_ _)); exact BK288.out⟩, ⟨bwx_⟩⟩
 case round =>
  clear H'
  try clear p2
  obtain ⟨x3_1, x4_1, rfl, HA, HK1, HO_3, BK288, HB⟩ := hrel
  cases gk with
  | zero => exact absurd HA.out (by simp [qbk.l0])
  | succ k1 =>
   have H := HA.out
   clear HA
   simp only [qbk.l0] at H
   by_cases c5 : x4_1 < (l0_8.length : Int)
   ·rw [if_pos c5] at H
    have c5b0 : decide (x4_1 < (l0_8.length : Int)) = true := decide_eq_true c5
    clear c5
    by_cases c6 : 0 ≤ x4_1
    rotate_left
    ·rw [if_neg c6] at H
     exact absurd H (by simp)
    rw [if_pos c6] at H
    have c6b0 : decide (0 ≤ x4_1) = true := decide_eq_true c6
    clear c6
    replace H := Option.bind_eq_some_iff.mp H
    obtain ⟨⟨t293, t294, t295, t296, t297⟩, A70, H⟩ := H
    try dsimp only at H
    have A7 := qd.mk A70
    clear A70
    by_cases c8 : x3_1.length < 1466015503701
    rotate_left
    ·rw [if_neg c8] at H
     exact absurd H (by simp)
    rw [if_pos c8] at H
    have LMc8 := qd.mk c8
    clear c8
    obtain ⟨y300, hy300⟩ : ∃ y_ : List (S112), y_ = (x3_1 ++ [(⟨(⟨t293, t294, t295, t296, t297⟩ : S40), (ql l0_8 x4_1).f2, (ql l0_8 x4_1).f3⟩ : S112)]) := ⟨_, rfl⟩
    replace H : (qbk.l0 k1 y300 (wrap64 (x4_1 + 1)) a0_0 a0_1 a0_2 a0_3 a0_4 a0_5 a0_6 a0_7 l0_8) = some r := by first | (rw [hy300]; with_reducible exact H) | (have H2_ := (Option.bind_some _ _).symm.trans H; rw [hy300]; with_reducible exact H2_) | (have H2_ := (Option.bind_some _ _).symm.trans H; with_reducible exact H2_) | with_reducible exact H | (rw [hy300]; exact H) | exact H
    have Ny300 := qd.mk hy300
    clear hy300
    have H' := qd.mk H
    clear H
    obtain ⟨cz9_0, cz9_1, cz9_2, cz9_3, cz9_4, cz9_5, cz9_6, cz9_7, cz9_8⟩ := bc9_ (w := wr) BK288.out
    obtain ⟨fz9_0, fz9_1, fz9_2, fz9_3, fz9_4, fz9_5, fz9_6, fz9_7, fz9_8⟩ := bf9_ BK288.out
    try go_wp2
    have n0_ := qd.mk (Kd.qbl HO_3.out)
    have n1_ := qd.mk (qz BK288.out)
    have n2_ := qd.mk (qcv HB.out)
    clear HO_3
    clear BK288
    clear HB
    have HO_3 := n0_
    have BK288 := n1_
    have HB := n2_
    clear n0_ n1_ n2_
    have p292 : 0 ≤ (x4_1 : Int) := odt_
    have q292 : x4_1 < (l0_8.length : Int) := odt_
    obtain ⟨ad292, A292_6, c292_6, e292, hx292_0, hx292_1, hx292_2, hx292_3, hx292_4, hx292_5, hx292_6, hl292_6, hi292_6⟩ := qff HR0_8.out x4_1 p292 q292
    have hw292_6 := hx292_6
    have hw292_5 := hx292_5
    have hw292_4 := hx292_4
    have hw292_3 := hx292_3
    have hw292_2 := hx292_2
    have hw292_1 := hx292_1
    have hw292_0 := hx292_0
    cases e292
    replace hx292_0 := bcl_ HB hx292_0
    replace hx292_1 := bcl_ HB hx292_1
    replace hx292_2 := bcl_ HB hx292_2
    replace hx292_3 := bcl_ HB hx292_3
    replace hx292_4 := bcl_ HB hx292_4
    replace hx292_5 := bcl_ HB hx292_5
    replace hx292_6 := bcl_ HB hx292_6
    have HR292_6 := qd.mk hi292_6
    have HC292_6 := qd.mk hl292_6
    clear hi292_6 hl292_6
    replace p292 := eq_true p292
    replace q292 := eq_true q292
    have p298 : 0 ≤ (x4_1 : Int) := odt_
    have q298 : x4_1 < (l0_8.length : Int) := odt_
    obtain ⟨ad298, A298_6, c298_6, e298, hx298_0, hx298_1, hx298_2, hx298_3, hx298_4, hx298_5, hx298_6, hl298_6, hi298_6⟩ := qff HR0_8.out x4_1 p298 q298
    have hw298_6 := hx298_6
    have hw298_5 := hx298_5
    have hw298_4 := hx298_4
    have hw298_3 := hx298_3
    have hw298_2 := hx298_2
    have hw298_1 := hx298_1
    have hw298_0 := hx298_0
    obtain rfl : ad292 = ad298 := (by injection e298)
    replace hx298_0 := bcl_ HB hx298_0
    replace hx298_1 := bcl_ HB hx298_1
    replace hx298_2 := bcl_ HB hx298_2
    replace hx298_3 := bcl_ HB hx298_3
    replace hx298_4 := bcl_ HB hx298_4
    replace hx298_5 := bcl_ HB hx298_5
    replace hx298_6 := bcl_ HB hx298_6
    have HR298_6 := qd.mk hi298_6
    have HC298_6 := qd.mk hl298_6
    clear hi298_6 hl298_6
    replace p298 := eq_true p298
    replace q298 := eq_true q298
    have ea_ := Option.some.inj (hx292_6.symm.trans hx298_6)
    injection ea_ with ea_ en_ ec_
    subst ea_
    subst ec_
    clear en_
    have p299 : 0 ≤ (x4_1 : Int) := odt_
    have q299 : x4_1 < (l0_8.length : Int) := odt_
    obtain ⟨ad299, A299_6, c299_6, e299, hx299_0, hx299_1, hx299_2, hx299_3, hx299_4, hx299_5, hx299_6, hl299_6, hi299_6⟩ := qff HR0_8.out x4_1 p299 q299
    have hw299_6 := hx299_6
    have hw299_5 := hx299_5
    have hw299_4 := hx299_4
    have hw299_3 := hx299_3
    have hw299_2 := hx299_2
    have hw299_1 := hx299_1
    have hw299_0 := hx299_0
    obtain rfl : ad292 = ad299 := (by injection e299)
    replace hx299_0 := bcl_ HB hx299_0
    replace hx299_1 := bcl_ HB hx299_1
    replace hx299_2 := bcl_ HB hx299_2
    replace hx299_3 := bcl_ HB hx299_3
    replace hx299_4 := bcl_ HB hx299_4
    replace hx299_5 := bcl_ HB hx299_5
    replace hx299_6 := bcl_ HB hx299_6
    have HR299_6 := qd.mk hi299_6
    have HC299_6 := qd.mk hl299_6
    clear hi299_6 hl299_6
    replace p299 := eq_true p299
    replace q299 := eq_true q299
    have ea_ := Option.some.inj (hx292_6.symm.trans hx299_6)
    injection ea_ with ea_ en_ ec_
    subst ea_
    subst ec_
    clear en_
    refine qgz (n := 25) (S := fun w' => w'.cell? ⟨gb288, 0, none⟩ = some (.int .i64 a0_0) ∧ w'.cell? ⟨gb288, 1, none⟩ = some (.string a0_1) ∧ w'.cell? ⟨gb288, 2, none⟩ = some (.int .i64 a0_2) ∧ w'.cell? ⟨gb288, 3, none⟩ = some (.int .i64 a0_3) ∧ w'.cell? ⟨gb288, 4, none⟩ = some (.int .i64 a0_4) ∧ w'.cell? ⟨gb288, 5, none⟩ = some (.string a0_5) ∧ w'.cell? ⟨gb288, 6, none⟩ = some (.string a0_6) ∧ w'.cell? ⟨gb288, 7, none⟩ = some (.int .i64 a0_7) ∧ w'.cell? ⟨gb288, 8, none⟩ = some (.slice (some ad292) l0_8.length c0_8) ∧ w'.cell? (ad292.add ((x4_1).toNat * 7)) = some (.string ((ql l0_8 x4_1).f0)) ∧ w'.cell? ⟨(ad292.add ((x4_1).toNat * 7)).block, (ad292.add ((x4_1).toNat * 7)).off + 1, none⟩ = some (.string ((ql l0_8 x4_1).f1)) ∧ w'.cell? ⟨(ad292.add ((x4_1).toNat * 7)).block, (ad292.add ((x4_1).toNat * 7)).off + 2, none⟩ = some (.int .i64 ((ql l0_8 x4_1).f2)) ∧ w'.cell? ⟨(ad292.add ((x4_1).toNat * 7)).block, (ad292.add ((x4_1).toNat * 7)).off + 3, none⟩ = some (.int .i64 ((ql l0_8 x4_1).f3)) ∧ w'.cell? ⟨(ad292.add ((x4_1).toNat * 7)).block, (ad292.add ((x4_1).toNat * 7)).off + 4, none⟩ = some (.string ((ql l0_8 x4_1).f4)) ∧ w'.cell? ⟨(ad292.add ((x4_1).toNat * 7)).block, (ad292.add ((x4_1).toNat * 7)).off + 5, none⟩ = some (.string ((ql l0_8 x4_1).f5)) ∧ w'.cell? ⟨(ad292.add ((x4_1).toNat * 7)).block, (ad292.add ((x4_1).toNat * 7)).off + 6, none⟩ = some (.slice A292_6 ((ql l0_8 x4_1).f6).length c292_6) ∧ w'.cell? (ad292.add ((x4_1).toNat * 7)) = some (.string ((ql l0_8 x4_1).f0)) ∧ w'.cell? ⟨(ad292.add ((x4_1).toNat * 7)).block, (ad292.add ((x4_1).toNat * 7)).off + 1, none⟩ = some (.string ((ql l0_8 x4_1).f1)) ∧ w'.cell? ⟨(ad292.add ((x4_1).toNat * 7)).block, (ad292.add ((x4_1).toNat * 7)).off + 2, none⟩ = some (.int .i64 ((ql l0_8 x4_1).f2)) ∧ w'.cell? ⟨(ad292.add ((x4_1).toNat * 7)).block, (ad292.add ((x4_1).toNat * 7)).off + 3, none⟩ = some (.int .i64 ((ql l0_8 x4_1).f3)) ∧ w'.cell? ⟨(ad292.add ((x4_1).toNat * 7)).block, (ad292.add ((x4_1).toNat * 7)).off + 4, none⟩ = some (.string ((ql l0_8 x4_1).f4)) ∧ w'.cell? ⟨(ad292.add ((x4_1).toNat * 7)).block, (ad292.add ((x4_1).toNat * 7)).off + 5, none⟩ = some (.string ((ql l0_8 x4_1).f5)) ∧ w'.cell? ⟨(ad292.add ((x4_1).toNat * 7)).block, (ad292.add ((x4_1).toNat * 7)).off + 6, none⟩ = some (.slice A292_6 ((ql l0_8 x4_1).f6).length c292_6) ∧ w'.cell? (ad292.add ((x4_1).toNat * 7)) = some (.string ((ql l0_8 x4_1).f0)) ∧ w'.cell? ⟨(ad292.add ((x4_1).toNat * 7)).block, (ad292.add ((x4_1).toNat * 7)).off + 1, none⟩ = some (.string ((ql l0_8 x4_1).f1)) ∧ w'.cell? ⟨(ad292.add ((x4_1).toNat * 7)).block, (ad292.add ((x4_1).toNat * 7)).off + 2, none⟩ = some (.int .i64 ((ql l0_8 x4_1).f2)) ∧ w'.cell? ⟨(ad292.add ((x4_1).toNat * 7)).block, (ad292.add ((x4_1).toNat * 7)).off + 3, none⟩ = some (.int .i64 ((ql l0_8 x4_1).f3)) ∧ w'.cell? ⟨(ad292.add ((x4_1).toNat * 7)).block, (ad292.add ((x4_1).toNat * 7)).off + 4, none⟩ = some (.string ((ql l0_8 x4_1).f4)) ∧ w'.cell? ⟨(ad292.add ((x4_1).toNat * 7)).block, (ad292.add ((x4_1).toNat * 7)).off + 5, none⟩ = some (.string ((ql l0_8 x4_1).f5)) ∧ w'.cell? ⟨(ad292.add ((x4_1).toNat * 7)).block, (ad292.add ((x4_1).toNat * 7)).off + 6, none⟩ = some (.slice A292_6 ((ql l0_8 x4_1).f6).length c292_6)) (ds := []) #[false, false, false, false, false, false, false, false, false, false, false, false, false, false, false, false, false, false, false, false, false, false, false, false, false] (by kernel_rfl) rfl rfl ⟨(qj BK288.out 0).trans rfl, (qj BK288.out 1).trans rfl, (qj BK288.out 2).trans rfl, (qj BK288.out 3).trans rfl, (qj BK288.out 4).trans rfl, (qj BK288.out 5).trans rfl, (qj BK288.out 6).trans rfl, (qj BK288.out 7).trans rfl, (qj BK288.out 8).trans rfl, (bcl_ HB hw292_0), (bcl_ HB hw292_1), (bcl_ HB hw292_2), (bcl_ HB hw292_3), (bcl_ HB hw292_4), (bcl_ HB hw292_5), (bcl_ HB hw292_6), (bcl_ HB hw298_0), (bcl_ HB hw298_1), (bcl_ HB hw298_2), (bcl_ HB hw298_3), (bcl_ HB hw298_4), (bcl_ HB hw298_5), (bcl_ HB hw298_6), (bcl_ HB hw299_0), (bcl_ HB hw299_1), (bcl_ HB hw299_2), (bcl_ HB hw299_3), (bcl_ HB hw299_4), (bcl_ HB hw299_5), (bcl_ HB hw299_6)⟩ (fun hHeld => ?_); refine qem qbk.tab5 qbk.bits5 (fun HT_ HW_ => ?_)
    generalize wr.drew = w10 at HO_3 BK288 HB HR292_6 HR298_6 HR299_6 hx292_0 hx292_1 hx292_2 hx292_3 hx292_4 hx292_5 hx292_6 hx298_0 hx298_1 hx298_2 hx298_3 hx298_4 hx298_5 hx298_6 hx299_0 hx299_1 hx299_2 hx299_3 hx299_4 hx299_5 hx299_6 hHeld ⊢
    refine pu_ 0 (some 13) (btz 25 1) HT_ ?_
    refine pu_ 1 (some 14) (btz 25 3) HT_ ?_
    refine pu_ 3 (some 16) (btz 25 11) HT_ ?_
    refine pu_ 5 (some 18) (btz 25 43) HT_ ?_
    refine pu_ 9 (some 22) (btz 25 555) HT_ ?_
    refine pu_ 11 (some 24) (btz 25 2603) HT_ ?_
    refine pu_ 15 (some 28) (btz 25 35371) HT_ ?_
    refine pu_ 17 (some 30) (btz 25 166443) HT_ ?_
    refine ta_ 2 (some 15) (btz 25 166447) HT_ HW_ hHeld rfl rfl (by rintro w' ⟨s0, s1, s2, s3, s4, s5, s6, s7, s8, s9, s10, s11, s12, s13, s14, s15, s16, s17, s18, s19, s20, s21, s22, s23, s24, s25, s26, s27, s28, s29⟩; go_simp; with_reducible rfl) ?_
    refine ta_ 4 (some 17) (btz 25 166463) HT_ HW_ hHeld rfl rfl (by rintro w' ⟨s0, s1, s2, s3, s4, s5, s6, s7, s8, s9, s10, s11, s12, s13, s14, s15, s16, s17, s18, s19, s20, s21, s22, s23, s24, s25, s26, s27, s28, s29⟩; go_simp; with_reducible rfl) ?_
    refine pu_ 6 (some 19) (btz 25 166527) HT_ ?_
    refine ta_ 7 (some 20) (btz 25 166655) HT_ HW_ hHeld rfl rfl (by rintro w' ⟨s0, s1, s2, s3, s4, s5, s6, s7, s8, s9, s10, s11, s12, s13, s14, s15, s16, s17, s18, s19, s20, s21, s22, s23, s24, s25, s26, s27, s28, s29⟩; go_simp; with_reducible rfl) ?_
    refine ta_ 10 (some 23) (btz 25 167679) HT_ HW_ hHeld rfl rfl (by rintro w' ⟨s0, s1, s2, s3, s4, s5, s6, s7, s8, s9, s10, s11, s12, s13, s14, s15, s16, s17, s18, s19, s20, s21, s22, s23, s24, s25, s26, s27, s28, s29⟩; go_simp; with_reducible rfl) ?_
    refine pu_ 12 (some 25) (btz 25 171775) HT_ ?_
    refine pu_ 13 (some 26) (btz 25 179967) HT_ ?_
    refine ta_ 14 (some 27) (btz 25 196351) HT_ HW_ hHeld rfl rfl (by rintro w' ⟨s0, s1, s2, s3, s4, s5, s6, s7, s8, s9, s10, s11, s12, s13, s14, s15, s16, s17, s18, s19, s20, s21, s22, s23, s24, s25, s26, s27, s28, s29⟩; go_simp; with_reducible rfl) ?_
    refine ta_ 16 (some 29) (btz 25 261887) HT_ HW_ hHeld rfl rfl (by rintro w' ⟨s0, s1, s2, s3, s4, s5, s6, s7, s8, s9, s10, s11, s12, s13, s14, s15, s16, s17, s18, s19, s20, s21, s22, s23, s24, s25, s26, s27, s28, s29⟩; go_simp; with_reducible rfl) ?_
    refine pu_ 18 (some 31) (btz 25 524031) HT_ ?_
    refine pu_ 19 (some 32) (btz 25 1048319) HT_ ?_
    refine ta_ 20 (some 33) (btz 25 2096895) HT_ HW_ hHeld rfl rfl (by rintro w' ⟨s0, s1, s2, s3, s4, s5, s6, s7, s8, s9, s10, s11, s12, s13, s14, s15, s16, s17, s18, s19, s20, s21, s22, s23, s24, s25, s26, s27, s28, s29⟩; go_simp; with_reducible rfl) ?_
    refine one_ (i := 8) (N := some 21) #[true, true, true, true, true, true, true, true, true, true, true, true, true, true, true, true, true, true, true, true, true, false, false, false, false] rfl rfl (qhj HT_.out (by kernel_rfl)) (by decide) (fun K hK => ?_)
    refine qlw Tryd.func105 (by kernel_rfl) rfl #[.string a0_1, .agg #[.string ((ql l0_8 x4_1).f0), .string ((ql l0_8 x4_1).f1), .int .i64 ((ql l0_8 x4_1).f2), .int .i64 ((ql l0_8 x4_1).f3), .string ((ql l0_8 x4_1).f4), .string ((ql l0_8 x4_1).f5), .slice A292_6 ((ql l0_8 x4_1).f6).length c292_6]] (by rfl) rfl rfl ml_ ?_
    with_reducible refine (qdz.calls k1 a0_1 ((ql l0_8 x4_1).f0) ((ql l0_8 x4_1).f1) ((ql l0_8 x4_1).f2) ((ql l0_8 x4_1).f3) ((ql l0_8 x4_1).f4) ((ql l0_8 x4_1).f5) _ _ ((ql l0_8 x4_1).f6) t293 t294 t295 t296 t297 _ ?side1 ?side2 A7.out).mono ?_
    (case side1 => repeat (first | exact (Kd.qcd HR292_6.out HB.out) | (with_reducible refine Kd.qco ?_ _) | (with_reducible refine Kd.qcs ?_ _) | (with_reducible refine Kd.qdk ?_)))
    (case side2 => exact HC292_6.out)
    rintro e w11 ⟨rfl, hb⟩
    refine ⟨_, rfl, ?_⟩
    have n0_ := qd.mk (Kd.qee (by (with_reducible repeat (first | apply Kd.R_alloc | apply Kd.qbi | apply Kd.qbl)); exact HO_3.out) hb)
    have n1_ := qd.mk (bb_ BK288 hb)
    have n2_ := qd.mk (qbd (bwx_) hb)
    clear HO_3
    clear BK288
    clear HB
    have HO_3 := n0_
    have BK288 := n1_
    have HB := n2_
    clear n0_ n1_ n2_
    (try clear hb)
    (try clear hb2)
    (try clear hk)
    (try clear hi)
    refine hK.out _ _ ⟨(qj BK288.out 0).trans rfl, (qj BK288.out 1).trans rfl, (qj BK288.out 2).trans rfl, (qj BK288.out 3).trans rfl, (qj BK288.out 4).trans rfl, (qj BK288.out 5).trans rfl, (qj BK288.out 6).trans rfl, (qj BK288.out 7).trans rfl, (qj BK288.out 8).trans rfl, (bcl_ HB hw292_0), (bcl_ HB hw292_1), (bcl_ HB hw292_2), (bcl_ HB hw292_3), (bcl_ HB hw292_4), (bcl_ HB hw292_5), (bcl_ HB hw292_6), (bcl_ HB hw298_0), (bcl_ HB hw298_1), (bcl_ HB hw298_2), (bcl_ HB hw298_3), (bcl_ HB hw298_4), (bcl_ HB hw298_5), (bcl_ HB hw298_6), (bcl_ HB hw299_0), (bcl_ HB hw299_1), (bcl_ HB hw299_2), (bcl_ HB hw299_3), (bcl_ HB hw299_4), (bcl_ HB hw299_5), (bcl_ HB hw299_6)⟩ (fun hHeld => ?_)
    clear hK K
    refine qka (a' := ?_) ?_ ?_
    rotate_left
    ·show Act.put _ (some 21) _ = _
     simp only [Act.put, List.setIfInBounds_toArray, List.set_cons_zero, List.set_cons_succ, qes, qfj]
     rfl
    refine pu_ 21 (some 34) (btz 25 4194303) HT_ ?_
    refine one_ (i := 22) (N := some 35) #[true, true, true, true, true, true, true, true, true, true, true, true, true, true, true, true, true, true, true, true, true, true, true, false, false] rfl rfl (qhj HT_.out (by kernel_rfl)) (by decide) (fun K hK => ?_)
    refine value_ (w1 := ?_) (v := ?_) (by rfl) rfl ?_ ?_
    rotate_left 2
    ·go_simp
     constructor
     ·rfl
     ·rfl
    refine hK.out _ _ ⟨(qj (qm BK288.out _) 0).trans rfl, (qj (qm BK288.out _) 1).trans rfl, (qj (qm BK288.out _) 2).trans rfl, (qj (qm BK288.out _) 3).trans rfl, (qj (qm BK288.out _) 4).trans rfl, (qj (qm BK288.out _) 5).trans rfl, (qj (qm BK288.out _) 6).trans rfl, (qj (qm BK288.out _) 7).trans rfl, (qj (qm BK288.out _) 8).trans rfl, (World.cell?_alloc_lt _ _ _ (World.block_lt_of_cell? _ _ ((bcl_ HB hw292_0)))).trans ((bcl_ HB hw292_0)), (World.cell?_alloc_lt _ _ _ (World.block_lt_of_cell? _ _ ((bcl_ HB hw292_1)))).trans ((bcl_ HB hw292_1)), (World.cell?_alloc_lt _ _ _ (World.block_lt_of_cell? _ _ ((bcl_ HB hw292_2)))).trans ((bcl_ HB hw292_2)), (World.cell?_alloc_lt _ _ _ (World.block_lt_of_cell? _ _ ((bcl_ HB hw292_3)))).trans ((bcl_ HB hw292_3)), (World.cell?_alloc_lt _ _ _ (World.block_lt_of_cell? _ _ ((bcl_ HB hw292_4)))).trans ((bcl_ HB hw292_4)), (World.cell?_alloc_lt _ _ _ (World.block_lt_of_cell? _ _ ((bcl_ HB hw292_5)))).trans ((bcl_ HB hw292_5)), (World.cell?_alloc_lt _ _ _ (World.block_lt_of_cell? _ _ ((bcl_ HB hw292_6)))).trans ((bcl_ HB hw292_6)), (World.cell?_alloc_lt _ _ _ (World.block_lt_of_cell? _ _ ((bcl_ HB hw298_0)))).trans ((bcl_ HB hw298_0)), (World.cell?_alloc_lt _ _ _ (World.block_lt_of_cell? _ _ ((bcl_ HB hw298_1)))).trans ((bcl_ HB hw298_1)), (World.cell?_alloc_lt _ _ _ (World.block_lt_of_cell? _ _ ((bcl_ HB hw298_2)))).trans ((bcl_ HB hw298_2)), (World.cell?_alloc_lt _ _ _ (World.block_lt_of_cell? _ _ ((bcl_ HB hw298_3)))).trans ((bcl_ HB hw298_3)), (World.cell?_alloc_lt _ _ _ (World.block_lt_of_cell? _ _ ((bcl_ HB hw298_4)))).trans ((bcl_ HB hw298_4)), (World.cell?_alloc_lt _ _ _ (World.block_lt_of_cell? _ _ ((bcl_ HB hw298_5)))).trans ((bcl_ HB hw298_5)), (World.cell?_alloc_lt _ _ _ (World.block_lt_of_cell? _ _ ((bcl_ HB hw298_6)))).trans ((bcl_ HB hw298_6)), (World.cell?_alloc_lt _ _ _ (World.block_lt_of_cell? _ _ ((bcl_ HB hw299_0)))).trans ((bcl_ HB hw299_0)), (World.cell?_alloc_lt _ _ _ (World.block_lt_of_cell? _ _ ((bcl_ HB hw299_1)))).trans ((bcl_ HB hw299_1)), (World.cell?_alloc_lt _ _ _ (World.block_lt_of_cell? _ _ ((bcl_ HB hw299_2)))).trans ((bcl_ HB hw299_2)), (World.cell?_alloc_lt _ _ _ (World.block_lt_of_cell? _ _ ((bcl_ HB hw299_3)))).trans ((bcl_ HB hw299_3)), (World.cell?_alloc_lt _ _ _ (World.block_lt_of_cell? _ _ ((bcl_ HB hw299_4)))).trans ((bcl_ HB hw299_4)), (World.cell?_alloc_lt _ _ _ (World.block_lt_of_cell? _ _ ((bcl_ HB hw299_5)))).trans ((bcl_ HB hw299_5)), (World.cell?_alloc_lt _ _ _ (World.block_lt_of_cell? _ _ ((bcl_ HB hw299_6)))).trans ((bcl_ HB hw299_6))⟩ (fun hHeld => ?_)
    clear hK K
    refine qka (a' := ?_) ?_ ?_
    rotate_left
    ·show Act.put _ (some 35) _ = _
     simp only [Act.put, List.setIfInBounds_toArray, List.set_cons_zero, List.set_cons_succ, qes, qfj]
     rfl
    refine one_ (i := 23) (N := some 36) #[true, true, true, true, true, true, true, true, true, true, true, true, true, true, true, true, true, true, true, true, true, true, true, true, false] rfl rfl (qhj HT_.out (by kernel_rfl)) (by decide) (fun K hK => ?_)
    refine Kd.qeo k112 (w0 := w) w.heap.size (by rfl) (.tmp 13) (.tmp 35) 32 112 (.agg #[(.string ⟨#[]⟩), (.string ⟨#[]⟩), (.string ⟨#[]⟩), (.string ⟨#[]⟩), (.string ⟨#[]⟩), (.int .i64 0), (.int .i64 0)]) 96 rfl Tryd.underlying32 qfu rfl (by decide) (by omega) u3 x3_1 (⟨(⟨t293, t294, t295, t296, t297⟩ : S40), (ql l0_8 x4_1).f2, (ql l0_8 x4_1).f3⟩ : S112) [.string t293, .string t294, .string t295, .string t296, .string t297, .int .i64 ((ql l0_8 x4_1).f2), .int .i64 ((ql l0_8 x4_1).f3)] (fun _ => True) (fun _ => False) rfl rfl ?aP (fun _ hk => hk.elim) ?aF ?aO ?aB ?aS ?aL ?_
    (case aP => exact qfr _ _ _ (⟨(⟨t293, t294, t295, t296, t297⟩ : S40), (ql l0_8 x4_1).f2, (ql l0_8 x4_1).f3⟩ : S112))
    (case aB => exact (bwx_))
    (case aF => exact (fun _ _ => trivial))
    (case aO => exact (by (with_reducible repeat (first | apply Kd.R_alloc | apply Kd.qbi | apply Kd.qbl)); exact HO_3.out))
    (case aS => exact (qcn (bwx_)))
    (case aL => have := LMc8.out; omega)
    intro v301 w12 ho hb hg hat
    rw [← Ny300.out] at ho
    have n0_ := qd.mk (qet (g := gb288) (o := .cells #[.int .i64 a0_0, .string a0_1, .int .i64 a0_2, .int .i64 a0_3, .int .i64 a0_4, .string a0_5, .string a0_6, .int .i64 a0_7, .slice (some ad292) l0_8.length c0_8] 29 (0, 0)) (by (with_reducible repeat (first | refine qw ?_ _ | refine qz ?_ | refine qm ?_ _)); exact BK288.out) hg (Kd.R_ne HO_3.out BK288.out (by decide)))
    have n1_ := qd.mk (hb)
    have n2_ := qd.mk (ho)
    clear BK288
    clear HB
    clear HO_3
    have BK288 := n0_
    have HB := n1_
    have HO302 := n2_
    clear n0_ n1_ n2_
    clear ho hb hg hat
    refine hK.out _ _ ⟨(qj BK288.out 0).trans rfl, (qj BK288.out 1).trans rfl, (qj BK288.out 2).trans rfl, (qj BK288.out 3).trans rfl, (qj BK288.out 4).trans rfl, (qj BK288.out 5).trans rfl, (qj BK288.out 6).trans rfl, (qj BK288.out 7).trans rfl, (qj BK288.out 8).trans rfl, (bcl_ HB hw292_0), (bcl_ HB hw292_1), (bcl_ HB hw292_2), (bcl_ HB hw292_3), (bcl_ HB hw292_4), (bcl_ HB hw292_5), (bcl_ HB hw292_6), (bcl_ HB hw298_0), (bcl_ HB hw298_1), (bcl_ HB hw298_2), (bcl_ HB hw298_3), (bcl_ HB hw298_4), (bcl_ HB hw298_5), (bcl_ HB hw298_6), (bcl_ HB hw299_0), (bcl_ HB hw299_1), (bcl_ HB hw299_2), (bcl_ HB hw299_3), (bcl_ HB hw299_4), (bcl_ HB hw299_5), (bcl_ HB hw299_6)⟩ (fun hHeld => ?_)
    clear hK K
    refine qka (a' := ?_) ?_ ?_
    rotate_left
    ·show Act.put _ (some 36) _ = _
     simp only [Act.put, List.setIfInBounds_toArray, List.set_cons_zero, List.set_cons_succ, qes, qfj]
     rfl
    refine pu_ 24 (some 3) (btz 25 33554431) HT_ ?_
    refine qjw (qga HT_.out (by kernel_rfl)) ?_
    try go_wp2
    go_roundg k1
    case measure => have := HK1.out; omega
    case rel => exact ⟨(y300), (wrap64 (x4_1 + 1)), sm_, H', ⟨by have := HK1.out; omega⟩, ⟨by (with_reducible repeat (first | apply Kd.R_alloc | apply Kd.qbi | apply Kd.qbl)); exact HO302.out⟩, ⟨by (with_reducible repeat (first | refine qw ?_ _ | refine qz ?_ | refine qm ?_ _)); exact BK288.out⟩, ⟨bwx_⟩⟩
   ·rw [if_neg c5] at H
    have c5b0 : decide (x4_1 < (l0_8.length : Int)) = false := decide_eq_false c5
    clear c5
    obtain rfl := Option.some.inj H
    obtain ⟨cz13_0, cz13_1, cz13_2, cz13_3, cz13_4, cz13_5, cz13_6, cz13_7, cz13_8⟩ := bc9_ (w := wr) BK288.out
    obtain ⟨fz13_0, fz13_1, fz13_2, fz13_3, fz13_4, fz13_5, fz13_6, fz13_7, fz13_8⟩ := bf9_ BK288.out
    go_wp2
    go_ret
    exact ⟨_, ew_, by (with_reducible repeat (first | apply Kd.R_alloc | apply Kd.qbi | apply Kd.qbl)); exact HO_3.out, bwx_⟩
end Go.Proofs.YtppcjoaghlecmaaDoor.P
namespace Go.Proofs.YtppcjoaghlecmaaDoor.P
open Go.RowKit Go.Proofs.YtppcjoaghlecmaaDoorW.PrintWords Go.Proofs.YtppcjoaghlecmaaDoorW.PrintLast Go.Proofs.YtppcjoaghlecmaaDoorW.PrintMore
set_option linter.unusedVariables false
set_option linter.unusedSimpArgs false
theorem ofCur_take (l : List S109) (s : ByteArray) {i : Nat} (h : i < l.length) : qfx (l.take (i + 1)) s = qfx (l.take i) s ++ (if (l[i]).f1 = s then [l[i]] else []) := by
 rw [List.take_add_one, List.getElem?_eq_getElem h]
 exact qiv _ _ _
theorem len_ofCur (l : List S109) (s : ByteArray) : (qfx l s).length ≤ l.length := List.length_filter_le _ _
theorem qld : ∀ (l : List Int), (∀ x ∈ l, -1000000000000 ≤ x ∧ x ≤ 1000000000000) → -(1000000000000 * (l.length : Int)) ≤ l.sum ∧ l.sum ≤ 1000000000000 * (l.length : Int)
 | [], _ => by simp
 | x :: r, h => by
  have h1 := h x (by simp)
  have h2 := qld r (fun y hy => h y (by simp [hy]))
  simp only [List.sum_cons, List.length_cons]
  omega
theorem ba_iff (a b : ByteArray) : a.toList = b.toList ↔ a = b := by
 constructor
 ·intro h
  have := (ba_beq a b).1 (by simp [h])
  exact this
 ·rintro rfl; rfl
def sumsB (l : List S109) (s : ByteArray) : Int × Int × Bool := (((qfx l s).map S109.f2).sum, ((qfx l s).map S109.f3).sum, true)
theorem line_bnd {y : S109} (h : qhn y = 0) : (-1000000000000 ≤ y.f2 ∧ y.f2 ≤ 1000000000000) ∧ -1000000000000 ≤ y.f3 ∧ y.f3 ≤ 1000000000000 := by
 obtain ⟨_, _, _, h2, h3, _⟩ := line_ok h
 unfold ws at h2 h3
 rw [decide_eq_true_eq] at h2 h3
 omega
theorem sums_l0 (l : List S109) (s : ByteArray) (hl : l.length ≤ 100) (h : ∀ y ∈ l, qhn y = 0) : ∀ (n i : Nat), l.length - i = n → i ≤ l.length → Ev (fun k => qbs.l0 k l s ((qfx (l.take i) s).map S109.f2) ((qfx (l.take i) s).map S109.f3) (i : Int)) (sumsB l s) := by
 intro n
 induction n with
 | zero =>
  intro i hn hi
  obtain rfl : i = l.length := by omega
  refine Ev.step (fun k => qbs.l0.eq_2 _ _ _ _ _ k) ?_
  simp only [if_neg (show ¬ ((l.length : Int) < (l.length : Int)) by omega), List.take_length]
  have hle := len_ofCur l s
  have hm : ∀ y ∈ qfx l s, qhn y = 0 := fun y hy => h y (List.mem_filter.1 hy).1
  have hA : ∀ x ∈ (qfx l s).map S109.f2, -1000000000000 ≤ x ∧ x ≤ 1000000000000 := fun x hx => by
   obtain ⟨y, hy, rfl⟩ := List.mem_map.1 hx
   exact (line_bnd (hm y hy)).1
  have hB : ∀ x ∈ (qfx l s).map S109.f3, -1000000000000 ≤ x ∧ x ≤ 1000000000000 := fun x hx => by
   obtain ⟨y, hy, rfl⟩ := List.mem_map.1 hx
   exact (line_bnd (hm y hy)).2
  have sA := qld _ hA
  have sB := qld _ hB
  rw [List.length_map] at sA sB
  have iA : qdf ((qfx l s).map S109.f2).sum := by unfold qdf; omega
  have iB : qdf ((qfx l s).map S109.f3).sum := by unfold qdf; omega
  have eA := rsum_ev ((qfx l s).map S109.f2) (by rw [List.length_map]; omega) (fun x hx => by have := hA x hx; unfold qdf; omega)
  have eB := rsum_ev ((qfx l s).map S109.f3) (by rw [List.length_map]; omega) (fun x hx => by have := hB x hx; unfold qdf; omega)
  rw [if_pos iA] at eA
  rw [if_pos iB] at eB
  refine Ev.bind eA (Ev.bind eB ?_)
  exact Ev.now _
 | succ n ih =>
  intro i hn hi
  have hil : i < l.length := by omega
  refine Ev.step (fun k => qbs.l0.eq_2 _ _ _ _ _ k) ?_
  have hw : wrap64 ((i : Int) + 1) = ((i + 1 : Nat) : Int) := by rw [w64t (by omega) (by omega)]; omega
  have hi' := ih (i + 1) (by omega) (by omega)
  have hle := len_ofCur (l.take i) s
  rw [List.length_take] at hle
  rw [ofCur_take l s hil] at hi'
  simp only [if_pos (show ((i : Int) < (l.length : Int)) by omega), if_pos (show (0 : Int) ≤ (i : Int) by omega), hw, rd109 hil]
  by_cases hs : (l[i]).f1 = s
  ·rw [if_pos hs] at hi'
   simp only [List.map_append, List.map_cons, List.map_nil] at hi'
   simp only [if_pos ((ba_iff _ _).2 hs), List.length_map, if_pos (show (qfx (l.take i) s).length < 17592186044416 by omega)]
   exact hi'
  ·rw [if_neg hs, List.append_nil] at hi'
   have hs' : ¬ (l[i]).f1.toList = s.toList := fun e => hs ((ba_iff _ _).1 e)
   simp only [if_neg hs']
   exact hi'
theorem sums_ev (l : List S109) (s : ByteArray) (hl : l.length ≤ 100) (h : ∀ y ∈ l, qhn y = 0) : Ev (fun k => qbs.f k l s) (sumsB l s) := sums_l0 l s hl h _ 0 rfl (Nat.zero_le _)
def okS1 (l : List S109) (s : ByteArray) : Bool := decide (((qfx l s).map S109.f2).sum = 0 ∧ ((qfx l s).map S109.f3).sum = 0)
theorem rbal_l0 (l : List S109) (hl : l.length ≤ 100) (h : ∀ y ∈ l, qhn y = 0) (c : List ByteArray) (hc : c.length ≤ 100) : ∀ (n i : Nat), c.length - i = n → i ≤ c.length → Ev (fun k => qbo.l0 k l c (i : Int)) ((c.drop i).all (okS1 l)) := by
 intro n
 induction n with
 | zero =>
  intro i hn hi
  obtain rfl : i = c.length := by omega
  refine Ev.step (fun k => qbo.l0.eq_2 _ _ _ k) ?_
  simp only [if_neg (show ¬ ((c.length : Int) < (c.length : Int)) by omega), List.drop_length, List.all_nil]
  exact Ev.now _
 | succ n ih =>
  intro i hn hi
  have hil : i < c.length := by omega
  refine Ev.step (fun k => qbo.l0.eq_2 _ _ _ k) ?_
  have hw : wrap64 ((i : Int) + 1) = ((i + 1 : Nat) : Int) := by rw [w64t (by omega) (by omega)]; omega
  have hr : rdOf ByteArray.empty c (i : Int) = c[i] := by simp [rdOf, hil]
  have hi' := ih (i + 1) (by omega) (by omega)
  simp only [if_pos (show ((i : Int) < (c.length : Int)) by omega), if_pos (show (0 : Int) ≤ (i : Int) by omega), hw, hr]
  refine Ev.bind (sums_ev l c[i] hl h) ?_
  rw [List.drop_eq_getElem_cons hil, List.all_cons]
  unfold sumsB okS1
  generalize (List.map S109.f2 (qfx l c[i])).sum = a
  generalize (List.map S109.f3 (qfx l c[i])).sum = b
  by_cases h1 : a = 0
  ·by_cases h2 : b = 0
   ·simp only [if_true, if_pos h1, if_pos h2]
    rw [decide_eq_true ⟨h1, h2⟩, Bool.true_and]
    exact hi'
   ·simp only [if_true, if_pos h1, if_neg h2]
    rw [decide_eq_false (fun e => h2 e.2), Bool.false_and]
    exact Ev.now _
  ·simp only [if_true, if_neg h1]
   rw [decide_eq_false (fun e => h1 e.1), Bool.false_and]
   exact Ev.now _
theorem rbal_ev (l : List S109) (hl : l.length ≤ 100) (h : ∀ y ∈ l, qhn y = 0) : Ev (fun k => qbo.f k l) (balB l) := by
 unfold qbo.f qdc.f
 simp only [if_pos (show l.length ≤ 1000000 by omega), Option.bind_some]
 have := rbal_l0 l hl h (curK l) (by have := curK_len l; omega) _ 0 rfl (Nat.zero_le _)
 have e : (curK l).all (okS1 l) = balB l := by
  rw [balB_eq, Bool.eq_iff_iff, List.all_eq_true, List.all_eq_true]
  constructor
  ·intro h1 x hx
   exact h1 x.f1 ((curK_mem x.f1 l).2 ⟨x, hx, rfl⟩)
  ·intro h1 c hc
   obtain ⟨x, hx, rfl⟩ := (curK_mem c l).1 hc
   exact h1 x hx
 rw [List.drop_zero, e] at this
 exact this
theorem rchk_l0 (x : S29) (hx : qgo x) (hl : x.f8.length ≤ 100) : ∀ (n i : Nat), x.f8.length - i = n → i ≤ x.f8.length → (∀ y ∈ x.f8.take i, qhn y = 0) → Ev (fun k => qbx.l0 k (i : Int) x.f0 x.f1 x.f2 x.f3 x.f4 x.f5 x.f6 x.f7 x.f8) (match qhm i (x.f8.drop i) with | some e => e | none => if balB x.f8 = true then (-1, 0) else (-1, 15)) := by
 intro n
 induction n with
 | zero =>
  intro i hn hi hz
  obtain rfl : i = x.f8.length := by omega
  refine Ev.step (fun k => qbx.l0.eq_2 _ _ _ _ _ _ _ _ _ _ k) ?_
  rw [List.take_length] at hz
  simp only [if_neg (show ¬ ((x.f8.length : Int) < (x.f8.length : Int)) by omega), List.drop_length, qhm]
  refine Ev.bind (rbal_ev x.f8 hl hz) ?_
  cases balB x.f8 <;> exact Ev.now _
 | succ n ih =>
  intro i hn hi hz
  have hil : i < x.f8.length := by omega
  refine Ev.step (fun k => qbx.l0.eq_2 _ _ _ _ _ _ _ _ _ _ k) ?_
  have hw : wrap64 ((i : Int) + 1) = ((i + 1 : Nat) : Int) := by rw [w64t (by omega) (by omega)]; omega
  simp only [if_pos (show ((i : Int) < (x.f8.length : Int)) by omega), if_pos (show (0 : Int) ≤ (i : Int) by omega), hw, rd109 hil]
  refine Ev.bind (rline_ev x.f8[i] (hx.ln _ (List.getElem_mem _))) ?_
  rw [List.drop_eq_getElem_cons hil]
  unfold qhm
  by_cases h0 : qhn x.f8[i] = 0
  ·simp only [if_pos h0]
   refine ih (i + 1) (by omega) (by omega) (fun y hy => ?_)
   rw [List.take_add_one, List.getElem?_eq_getElem hil] at hy
   rcases List.mem_append.1 hy with hy | hy
   ·exact hz y hy
   ·simp at hy
    subst hy
    exact h0
  ·simp only [if_neg h0]
   exact Ev.now _
theorem rchk_ev (x : S29) (hx : qgo x) : Ev (fun k => qbx.f k x.f0 x.f1 x.f2 x.f3 x.f4 x.f5 x.f6 x.f7 x.f8) (chkE x) := by
 unfold qbx.f chkE
 refine Ev.bind (rhead_ev x hx) ?_
 by_cases h : qko x = 0
 ·simp only [if_pos h]
  exact rchk_l0 x hx (qhx h).2.1 _ 0 rfl (Nat.zero_le _) (fun y hy => by simp at hy)
 ·simp only [if_neg h]
  exact Ev.now _
def keyL (e : ByteArray) (y : S109) : S40 := ⟨e, y.f0, y.f1, y.f4, (textL y.f6).1⟩
def cellL (e : ByteArray) (y : S109) : S112 := ⟨keyL e y, y.f2, y.f3⟩
def rawL (x : S29) : List S112 := x.f8.map (cellL x.f1)
theorem raw_l0 (x : S29) (hl : x.f8.length ≤ 1000000) : ∀ (n i : Nat), x.f8.length - i = n → i ≤ x.f8.length → Ev (fun k => qds.l0 k ((x.f8.take i).map (cellL x.f1)) x.f8 (x.f8.length : Int) (i : Int) x.f0 x.f1 x.f2 x.f3 x.f4 x.f5 x.f6 x.f7 x.f8) (rawL x) := by
 intro n
 induction n with
 | zero =>
  intro i hn hi
  obtain rfl : i = x.f8.length := by omega
  refine Ev.step (fun k => qds.l0.eq_2 _ _ _ _ _ _ _ _ _ _ _ _ _ k) ?_
  simp only [if_neg (show ¬ ((x.f8.length : Int) < (x.f8.length : Int)) by omega), List.take_length]
  exact Ev.now _
 | succ n ih =>
  intro i hn hi
  have hil : i < x.f8.length := by omega
  refine Ev.step (fun k => qds.l0.eq_2 _ _ _ _ _ _ _ _ _ _ _ _ _ k) ?_
  have hw : wrap64 ((i : Int) + 1) = ((i + 1 : Nat) : Int) := by rw [w64t (by omega) (by omega)]; omega
  simp only [if_pos (show ((i : Int) < (x.f8.length : Int)) by omega), if_pos (show (0 : Int) ≤ (i : Int) by omega), hw, rd109 hil]
  refine Ev.bind (Text_ev _) ?_
  have hi' := ih (i + 1) (by omega) (by omega)
  rw [List.take_add_one, List.getElem?_eq_getElem hil] at hi'
  simp only [List.map_append, Option.toList_some, List.map_cons, List.map_nil] at hi'
  simp only [List.length_map, List.length_take, if_pos (show min i x.f8.length < 1466015503701 by omega)]
  exact hi'
theorem raw_ev (x : S29) (hl : x.f8.length ≤ 1000000) : Ev (fun k => qds.f k x.f0 x.f1 x.f2 x.f3 x.f4 x.f5 x.f6 x.f7 x.f8) (rawL x) := by
 unfold qds.f
 simp only [if_pos hl]
 exact raw_l0 x hl _ 0 rfl (Nat.zero_le _)
theorem key_ev (e : ByteArray) (y : S109) (hy : qke y) : Ev (fun k => qdz.f k e y.f0 y.f1 y.f2 y.f3 y.f4 y.f5 y.f6) ((keyL e y).f0, (keyL e y).f1, (keyL e y).f2, (keyL e y).f3, (keyL e y).f4) := by
 unfold qdz.f
 exact Ev.bind (refText_ev y.f6 hy.tl hy.ts) (Ev.now _)
theorem lines_l0 (x : S29) (hx : qgo x) (hl : x.f8.length ≤ 1000000) : ∀ (n i : Nat), x.f8.length - i = n → i ≤ x.f8.length → Ev (fun k => qbk.l0 k ((x.f8.take i).map (cellL x.f1)) (i : Int) x.f0 x.f1 x.f2 x.f3 x.f4 x.f5 x.f6 x.f7 x.f8) (rawL x) := by
 intro n
 induction n with
 | zero =>
  intro i hn hi
  obtain rfl : i = x.f8.length := by omega
  refine Ev.step (fun k => qbk.l0.eq_2 _ _ _ _ _ _ _ _ _ _ _ k) ?_
  simp only [if_neg (show ¬ ((x.f8.length : Int) < (x.f8.length : Int)) by omega), List.take_length]
  exact Ev.now _
 | succ n ih =>
  intro i hn hi
  have hil : i < x.f8.length := by omega
  refine Ev.step (fun k => qbk.l0.eq_2 _ _ _ _ _ _ _ _ _ _ _ k) ?_
  have hw : wrap64 ((i : Int) + 1) = ((i + 1 : Nat) : Int) := by rw [w64t (by omega) (by omega)]; omega
  simp only [if_pos (show ((i : Int) < (x.f8.length : Int)) by omega), if_pos (show (0 : Int) ≤ (i : Int) by omega), hw, rd109 hil]
  refine Ev.bind (key_ev x.f1 x.f8[i] (hx.ln _ (List.getElem_mem _))) ?_
  have hi' := ih (i + 1) (by omega) (by omega)
  rw [List.take_add_one, List.getElem?_eq_getElem hil] at hi'
  simp only [List.map_append, Option.toList_some, List.map_cons, List.map_nil] at hi'
  simp only [List.length_map, List.length_take, if_pos (show min i x.f8.length < 1466015503701 by omega)]
  exact hi'
theorem lines_ev (x : S29) (hx : qgo x) (hl : x.f8.length ≤ 1000000) : Ev (fun k => qbk.f k x.f0 x.f1 x.f2 x.f3 x.f4 x.f5 x.f6 x.f7 x.f8) (rawL x) := by
 unfold qbk.f
 exact lines_l0 x hx hl _ 0 rfl (Nat.zero_le _)
theorem qhh {x : S29} (h : (chkE x).2 = 0) : qko x = 0 ∧ (∀ y ∈ x.f8, qhn y = 0) ∧ balB x.f8 = true ∧ chkE x = (-1, 0) := by
 have h' := h
 unfold chkE at h'
 by_cases h0 : qko x = 0
 ·rw [if_pos h0] at h'
  cases hL : qhm 0 x.f8 with
  | some e =>
   rw [hL] at h'
   exfalso
   have aux : ∀ (l : List S109) (i : Nat) (e : Int × Int), qhm i l = some e → e.2 ≠ 0 := by
    intro l
    induction l with
    | nil => intro i e he; cases he
    | cons z r ih =>
     intro i e he
     unfold qhm at he
     split at he
     ·exact ih _ _ he
     ·rename_i hz
      cases he
      exact hz
   exact aux _ _ _ hL h'
  | none =>
   rw [hL] at h'
   by_cases hb : balB x.f8 = true
   ·refine ⟨h0, qls hL, hb, ?_⟩
    unfold chkE
    rw [if_pos h0, hL]
    exact if_pos hb
   ·exfalso
    have : (if balB x.f8 = true then ((-1, 0) : Int × Int) else (-1, 15)).2 = 0 := h'
    rw [if_neg hb] at this
    exact absurd this (by decide)
 ·rw [if_neg h0] at h'
  exact absurd h' h0
end Go.Proofs.YtppcjoaghlecmaaDoor.P
namespace Go.Proofs.YtppcjoaghlecmaaDoor.P
open Go.RowKit Go.Sort Go.Proofs.YtppcjoaghlecmaaDoorW.PrintWords Go.Proofs.YtppcjoaghlecmaaDoorW.PrintLast Go.Proofs.YtppcjoaghlecmaaDoorW.PrintMore Go.Maps Go.ChangeShapes Go.WideShapes Go.WideMaps
set_option linter.unusedVariables false
set_option linter.unusedSimpArgs false
structure Pst where
 h : S29
 C : List S112
 v : Value
def hdV (x : S29) (l : Value) : Value := .agg #[.int .i64 x.f0, .string x.f1, .int .i64 x.f2, .int .i64 x.f3, .int .i64 x.f4, .string x.f5, .string x.f6, .int .i64 x.f7, l]
def pstV (x : S29) (v : Value) : Value := .agg #[.int .i64 x.f0, .string x.f1, .int .i64 x.f2, .int .i64 x.f3, .int .i64 x.f4, .string x.f5, .string x.f6, .int .i64 x.f7, .slice none 0 0, v]
def z118V : Value := pstV z29 (.slice none 0 0)
def valL (L : List Pst) (j : Int) : Value := if j < 1 then z118V else match L[(j - 1).toNat]? with | some c => pstV c.h c.v | none => z118V
theorem zero118 (w : World) : (zeroValue 118).run Tryd.prog w = .ok z118V w := by kernel_rfl
theorem qjv : Keyed Tryd.prog 3 := int_keyed Tryd.underlying3
theorem keyI {j : Int} (h : qdf j) : keyOf Tryd.prog 3 (.int .i64 j) = some (.int .i64 j) := keyOf_int_mk Tryd.underlying3 (by
 have h2 : IntKind.i64.min = -9223372036854775808 := by decide
 unfold qdf at h
 simp [Lit.wf, h2]
 omega)
theorem int_ne {a b : Int} (h : a ≠ b) : Lit.int IntKind.i64 a ≠ Lit.int IntKind.i64 b := by
 intro h'
 simp only [Lit.int.injEq] at h'
 exact h h'.2
structure Led (w : World) (base p m : Nat) (L : List Pst) : Prop where
 blk : w.heap[p]? = some (.cells #[.map (some m)] 121 (0, 0))
 map : ∃ D : DataW Value, w.ownsMap Tryd.prog 3 vR m L.length D ∧ Maps.size D = L.length ∧ (∀ j : Int, qdf j → D.atKey (.int .i64 j) (.held z118V) = .held (valL L j)) ∧ ∀ j : Int, qdf j → Maps.has D (.int .i64 j) = decide (1 ≤ j ∧ j ≤ L.length)
 row : ∀ c ∈ L, Kd.R k112 112 w base (fun _ => True) c.v c.C
 lowp : base ≤ p
 lowm : base ≤ m
section
variable {w w' : World} {base p m : Nat} {L : List Pst}
theorem Led.ltm (h : Led w base p m L) : m < w.heap.size := by
 obtain ⟨D, ⟨es, clock, h1, h2⟩, _⟩ := h.map
 exact (Array.getElem?_eq_some_iff.1 h1).1
theorem Led.ltp (h : Led w base p m L) : p < w.heap.size := qen h.blk
theorem Led.ne (h : Led w base p m L) : p ≠ m := by
 rintro rfl
 obtain ⟨D, ⟨es, clock, h1, h2⟩, _⟩ := h.map
 rw [h.blk] at h1; cases h1
theorem Led.below (h : Led w base p m L) (hb : Below w.heap.size w w') : Led w' base p m L := by
 obtain ⟨D, ⟨es, clock, h1, h2⟩, hD⟩ := h.map
 exact ⟨(hb.block p h.ltp).trans h.blk, ⟨D, ⟨es, clock, (hb.block m h.ltm).trans h1, h2⟩, hD⟩, fun c hc => Kd.qee (h.row c hc) hb, h.lowp, h.lowm⟩
theorem Led.len (h : Led w base p m L) (ty : TypeId) : (Builtin.len_ #[119] ty #[.map (some m)]).run Tryd.prog w = .ok (.int .i64 L.length) w := by
 obtain ⟨D, ho, hs, _⟩ := h.map
 rw [← hs]
 exact ho.len Tryd.underlying119 ty
theorem Led.look (h : Led w base p m L) {j : Int} (hj : qdf j) : (Instr.lookup 119 (.map (some m)) (.int .i64 j) false).run Tryd.prog w = .ok (valL L j) w := by
 obtain ⟨D, ho, _, hD, _⟩ := h.map
 obtain ⟨v, ps, hrun, hv⟩ := ho.lookup qjv Tryd.underlying119 (zero118 w) (zd := .held z118V) (zp := []) rfl (keyI hj)
 rw [hrun]
 simp only [vR, Option.some.injEq, Prod.mk.injEq] at hv
 rw [hD j hj] at hv
 simp only [DataW.held.injEq] at hv
 rw [hv.1]
theorem valL_at {c : Pst} {i : Nat} (h : L[i]? = some c) : valL L ((i : Int) + 1) = pstV c.h c.v := by
 unfold valL
 rw [if_neg (by omega), show ((i : Int) + 1 - 1).toNat = i from by omega, h]
theorem valL_snoc {c : Pst} (j : Int) : valL (L ++ [c]) j = if j = (L.length : Int) + 1 then pstV c.h c.v else valL L j := by
 unfold valL
 by_cases h1 : j < 1
 ·rw [if_pos h1, if_pos h1, if_neg (by omega)]
 rw [if_neg h1, if_neg h1]
 by_cases e : j = (L.length : Int) + 1
 ·rw [if_pos e, show (j - 1).toNat = L.length from by omega]
  simp
 rw [if_neg e]
 by_cases h2 : (j - 1).toNat < L.length
 ·rw [List.getElem?_append_left h2]
 rw [List.getElem?_eq_none (l := L) (by omega), List.getElem?_eq_none (by simp; omega)]
theorem Led.put (h : Led w base p m L) {c : Pst} (hL : L.length < 1000000) (hc : Kd.R k112 112 w base (fun _ => True) c.v c.C) :
  ∃ w', (Instr.mapUpdate 119 (.map (some m)) (.int .i64 ((L.length : Int) + 1)) (pstV c.h c.v)).run Tryd.prog w = .ok () w' ∧ Led w' base p m (L ++ [c]) ∧ w.grownBy w' (some m) := by
 obtain ⟨D, ho, hs, hD, hh⟩ := h.map
 have hM := World.ownsMap.isMap ho
 have hT := World.ownsMap.tidy ho qjv
 have hj : qdf ((L.length : Int) + 1) := by unfold qdf; omega
 obtain ⟨w', hrun, ho', hg⟩ := ho.update qjv Tryd.underlying119 (by unfold maxLen; omega) (val := pstV c.h c.v) (d := .held (pstV c.h c.v)) (ps := []) (keyI hj) rfl
 have hblk : ∀ k, k < w.heap.size → k ≠ m → w'.heap[k]? = w.heap[k]? := fun k hk hne => hg.block k hk (fun e => hne (Option.some.inj e))
 have hrow : ∀ d : Pst, Kd.R k112 112 w base (fun _ => True) d.v d.C → Kd.R k112 112 w' base (fun _ => True) d.v d.C := fun d hd => by
  have h1 := Kd.qdq (Kd.qkf rfl hd) (ok' := fun k => d.v.ownBlock = some k) (fun k hk => hk.symm)
  have h2 := Kd.qgv h1 (w1 := w') (fun k hk hlt => by
   obtain ⟨cs, hcs⟩ := Kd.qdw hd k hk
   refine hblk k hlt (fun e => ?_)
   subst e
   obtain ⟨es, cl, h1, _⟩ := ho
   rw [hcs] at h1; cases h1)
  exact Kd.qdq h2 (fun _ _ => trivial)
 refine ⟨w', hrun, ⟨(hblk p h.ltp h.ne).trans h.blk, ⟨_, by rw [List.length_append]; exact ho', ?_, fun t ht => ?_, fun t ht => ?_⟩, fun d hd => ?_, h.lowp, h.lowm⟩, hg⟩
 ·rw [size_put hT, hh _ hj, hs]
  rw [if_neg (by simp; omega)]
  simp
 ·rw [valL_snoc]
  by_cases e : t = (L.length : Int) + 1
  ·subst e
   rw [atKey_put_same hM (qjv.key (keyI hj)), if_pos rfl]
  rw [atKey_put_other (int_ne e), if_neg e, hD t ht]
 ·by_cases e : t = (L.length : Int) + 1
  ·subst e
   rw [has_put_same hM (qjv.key (keyI hj))]
   simp
   omega
  rw [has_put_other (int_ne e), hh t ht]
  simp only [List.length_append, List.length_cons, List.length_nil]
  rw [decide_eq_decide]
  omega
 ·rcases List.mem_append.1 hd with hd | hd
  ·exact hrow d (h.row d hd)
  ·rw [List.mem_singleton] at hd
   subst hd
   exact hrow d hc
theorem Led.made (w : World) : Led ((w.alloc (.map #[] 0)).alloc (.cells #[.map (some w.heap.size)] 121 (0, 0))) w.heap.size (w.heap.size + 1) w.heap.size [] := by
 have h1 : (w.alloc (.map #[] 0)).heap.size = w.heap.size + 1 := by simp
 refine ⟨by rw [← h1]; exact qdr _ _, ⟨.map [], ?_, rfl, (fun j hj => ?_), (fun j hj => ?_)⟩, (fun c hc => by cases hc), Nat.le_succ _, Nat.le_refl _⟩
 ·obtain ⟨es, clock, h2, h3⟩ := World.ownsMap_made w Tryd.prog 3 vR
  exact ⟨es, clock, ((qbj (Below.refl _ _) _).block w.heap.size (by rw [h1]; omega)).trans h2, h3⟩
 ·unfold valL
  by_cases h1 : j < 1
  ·rw [if_pos h1]; rfl
  rw [if_neg h1]; rfl
 ·have : (decide (1 ≤ j ∧ j ≤ (([] : List Pst).length : Int))) = false := decide_eq_false (by simp; omega)
  rw [this]; rfl
end
end Go.Proofs.YtppcjoaghlecmaaDoor.P
namespace Go.Proofs.YtppcjoaghlecmaaDoor.P
open Go.RowKit Go.Proofs.YtppcjoaghlecmaaDoorW.PrintWords Go.Proofs.YtppcjoaghlecmaaDoorW.PrintLast Go.Proofs.YtppcjoaghlecmaaDoorW.PrintMore
set_option linter.unusedVariables false
set_option linter.unusedSimpArgs false
def ahead (E : List S29) (x : S29) : Bool := match E.getLast? with | some y => decide (x.f2 < y.f2) | none => false
def postC (E : List S29) (x : S29) : Int :=
 if (chkE x).2 ≠ 0 then (chkE x).2 else if x.f0 ≠ (E.length : Int) + 1 ∨ ahead E x = true then 17 else if E.length ≥ 4000 then 9 else 0
def qjb (E : List S29) (x : S29) : List S29 := if postC E x = 0 then E ++ [x] else E
def LedE (w : World) (base p m : Nat) (E : List S29) : Prop := ∃ L, Led w base p m L ∧ L.map Pst.h = E ∧ ∀ c ∈ L, c.C = rawL c.h
theorem LedE.below {w w' : World} {base p m : Nat} {E : List S29} (h : LedE w base p m E) (hb : Below w.heap.size w w') : LedE w' base p m E := by
 obtain ⟨L, h1, h2, h3⟩ := h
 exact ⟨L, h1.below hb, h2, h3⟩
theorem LedE.lowm {w : World} {base p m : Nat} {E : List S29} (h : LedE w base p m E) : base ≤ m := by
 obtain ⟨L, h1, _⟩ := h
 exact h1.lowm
end Go.Proofs.YtppcjoaghlecmaaDoor.P
namespace Go.Proofs.YtppcjoaghlecmaaDoor.P
open Go.RowKit Go.Sort Go.Proofs.YtppcjoaghlecmaaDoorW.PrintWords Go.Proofs.YtppcjoaghlecmaaDoorW.PrintLast Go.Proofs.YtppcjoaghlecmaaDoorW.PrintMore Go.Maps Go.ChangeShapes Go.WideShapes Go.WideMaps
set_option linter.unusedVariables false
set_option linter.unusedSimpArgs false
theorem lnew_calls (w : World) : Calls Tryd.prog 22 #[] w fun e w' => ∃ p m, e = .returned (.pointer (some ⟨p, 0, none⟩)) ∧ Led w' w.heap.size p m [] ∧ Below w.heap.size w w' := by
 have hmm := @run_makeMap Tryd.prog
 go_enter Tryd.func22, Tryd.ntmps22
 go_wp2
 go_ret
 exact ⟨_, _, rfl, Led.made w, qbj (qbj (Below.refl _ _) _) _⟩
theorem llen_calls {w : World} {base p m : Nat} {L : List Pst} (h : Led w base p m L) : Calls Tryd.prog 23 #[.pointer (some ⟨p, 0, none⟩)] w fun e w' => e = .returned (.int .i64 L.length) ∧ Below w.heap.size w w' := by
 have hl := h.len 3
 have hc := (qj h.blk 0).trans rfl
 go_enter Tryd.func23, Tryd.ntmps23
 go_wp2
 go_ret
 exact ⟨rfl, Below.refl _ _⟩
abbrev enV (x : S29) (A : Option Addr) (c : Nat) : Value := .agg #[.int .i64 x.f0, .string x.f1, .int .i64 x.f2, .int .i64 x.f3, .int .i64 x.f4, .string x.f5, .string x.f6, .int .i64 x.f7, .slice A x.f8.length c]
set_option maxHeartbeats 4000000 in
set_option maxRecDepth 100000 in
theorem post_bad {p : Nat} (x : S29) (A : Option Addr) (c : Nat) (w : World) (hC : Kd.C k109 w A x.f8.length x.f8) (hc : x.f8.length ≤ c) (hT : Tab w) (hf : FitE x) (hne : (chkE x).2 ≠ 0) :
  Calls Tryd.prog 20 #[.pointer (some ⟨p, 0, none⟩), enV x A c] w fun e w' => e = .returned (.int .i64 (chkE x).2) ∧ Below w.heap.size w w' := by
 obtain ⟨k, hk⟩ := (qmc x hf).rounds
 obtain ⟨at_, er, he⟩ : ∃ a e, chkE x = (a, e) := ⟨_, _, rfl⟩
 rw [he] at hk hne
 rw [he]
 have d1 : decide (er = 0) = false := decide_eq_false hne
 have HC := qd.mk hC
 have HT := qd.mk hT
 have HK := qd.mk hk
 have HL := qd.mk hc
 have HB1 := qd.mk (qbj (Below.refl w.heap.size w) (.cells #[.int .i64 x.f0, .string x.f1, .int .i64 x.f2, .int .i64 x.f3, .int .i64 x.f4, .string x.f5, .string x.f6, .int .i64 x.f7, .slice A x.f8.length c] 29))
 clear hC hT hk he hc
 go_enter Tryd.func20, Tryd.ntmps20
 go_wp2_with (first | (go_at_call 47; refine (qda.calls k x.f0 x.f1 x.f2 x.f3 x.f4 x.f5 x.f6 x.f7 A c x.f8 at_ er _ (Kd.qcd HC.out HB1.out) HL.out HK.out (HT.out.below HB1.out)).mono ?_; rintro e w2 ⟨rfl, hb⟩))
 go_ret
 exact ⟨rfl, qch HB1.out HB1.out.size hb⟩
set_option maxHeartbeats 4000000 in
set_option maxRecDepth 100000 in
theorem post_order {base p m : Nat} {E : List S29} (x : S29) (A : Option Addr) (c : Nat) (w : World) (hL : LedE w base p m E) (hC : Kd.C k109 w A x.f8.length x.f8) (hc : x.f8.length ≤ c) (hT : Tab w) (hf : FitE x) (hchk : (chkE x).2 = 0) (hlen : E.length ≤ 100000) (ho : x.f0 ≠ (E.length : Int) + 1) :
  Calls Tryd.prog 20 #[.pointer (some ⟨p, 0, none⟩), enV x A c] w fun e w' => e = .returned (.int .i64 17) ∧ Below w.heap.size w w' := by
 obtain ⟨k, hk⟩ := (qmc x hf).rounds
 rw [(qhh hchk).2.2.2] at hk
 have HC := qd.mk hC
 have HT := qd.mk hT
 have HK := qd.mk hk
 have HLC := qd.mk hc
 have HB1 := qd.mk (qbj (Below.refl w.heap.size w) (.cells #[.int .i64 x.f0, .string x.f1, .int .i64 x.f2, .int .i64 x.f3, .int .i64 x.f4, .string x.f5, .string x.f6, .int .i64 x.f7, .slice A x.f8.length c] 29))
 have HBX := qd.mk (qdr w (.cells #[.int .i64 x.f0, .string x.f1, .int .i64 x.f2, .int .i64 x.f3, .int .i64 x.f4, .string x.f5, .string x.f6, .int .i64 x.f7, .slice A x.f8.length c] 29))
 obtain ⟨L, hLed, hE, hraw⟩ := hL
 have hLn : E.length = L.length := by rw [← hE, List.length_map]
 rw [hLn] at ho hlen
 have HLED := qd.mk (hLed.below HB1.out)
 have HHL := qd.mk hlen
 clear hC hT hk hc hLed hE hraw hchk hLn
 have hp := (qj HLED.out.blk 0).trans rfl
 have hw1 : wrap64 ((L.length : Int) + 1) = (L.length : Int) + 1 := by unfold wrap64; omega
 have d1 : (x.f0 != (L.length : Int) + 1) = true := by simpa using ho
 go_enter Tryd.func20, Tryd.ntmps20
 go_upto_region 7 with (first | (go_at_call 47; refine (qda.calls k x.f0 x.f1 x.f2 x.f3 x.f4 x.f5 x.f6 x.f7 A c x.f8 (-1) 0 _ (Kd.qcd HC.out HB1.out) HLC.out HK.out (HT.out.below HB1.out)).mono ?_; rintro e w2 ⟨rfl, hb⟩; have HLED2 := qd.mk (HLED.out.below hb); have hln := HLED2.out.len 3; have hp2 : w2.cell? ⟨p, 0, none⟩ = some (.map (some m)) := (qj HLED2.out.blk 0).trans rfl; have hb2 := qcg HBX.out hb; have a0 : w2.cell? ⟨w.heap.size, 0, none⟩ = some (.int .i64 x.f0) := (qj hb2 0).trans rfl; have a2 : w2.cell? ⟨w.heap.size, 2, none⟩ = some (.int .i64 x.f2) := (qj hb2 2).trans rfl; clear hb2 hp))
 have HB2 := qd.mk (qch HB1.out HB1.out.size hb)
 clear hb
 go_big_quiet (fail)
 go_wp2
 go_ret
 exact ⟨rfl, qbm HB2.out nq⟩
set_option maxHeartbeats 4000000 in
set_option maxRecDepth 100000 in
theorem post_order2 {base p m : Nat} {E : List S29} (x y : S29) (A : Option Addr) (c : Nat) (w : World) (hL : LedE w base p m E) (hC : Kd.C k109 w A x.f8.length x.f8) (hc : x.f8.length ≤ c) (hT : Tab w) (hf : FitE x) (hchk : (chkE x).2 = 0) (hlen : E.length ≤ 100000) (ho : x.f0 = (E.length : Int) + 1) (hy : E.getLast? = some y) (hxy : x.f2 < y.f2) :
  Calls Tryd.prog 20 #[.pointer (some ⟨p, 0, none⟩), enV x A c] w fun e w' => e = .returned (.int .i64 17) ∧ Below w.heap.size w w' := by
 obtain ⟨k, hk⟩ := (qmc x hf).rounds
 rw [(qhh hchk).2.2.2] at hk
 have HC := qd.mk hC
 have HT := qd.mk hT
 have HK := qd.mk hk
 have HLC := qd.mk hc
 have HB1 := qd.mk (qbj (Below.refl w.heap.size w) (.cells #[.int .i64 x.f0, .string x.f1, .int .i64 x.f2, .int .i64 x.f3, .int .i64 x.f4, .string x.f5, .string x.f6, .int .i64 x.f7, .slice A x.f8.length c] 29))
 have HBX := qd.mk (qdr w (.cells #[.int .i64 x.f0, .string x.f1, .int .i64 x.f2, .int .i64 x.f3, .int .i64 x.f4, .string x.f5, .string x.f6, .int .i64 x.f7, .slice A x.f8.length c] 29))
 obtain ⟨L, hLed, hE, hraw⟩ := hL
 have hLn : E.length = L.length := by rw [← hE, List.length_map]
 rw [hLn] at ho hlen
 have hcl : ∃ d, L[L.length - 1]? = some d ∧ d.h = y ∧ 0 < L.length := by
  rw [← hE, List.getLast?_map, List.getLast?_eq_getElem?] at hy
  obtain ⟨d, hd, rfl⟩ := Option.map_eq_some_iff.1 hy
  exact ⟨d, hd, rfl, by have := (List.getElem?_eq_some_iff.1 hd).1; omega⟩
 obtain ⟨d, hd, rfl, h0⟩ := hcl
 obtain ⟨Ad, cd, hdv⟩ := Kd.qcp (hLed.row d (List.mem_of_getElem? hd))
 have hval : valL L (L.length : Int) = pstV d.h (.slice Ad d.C.length cd) := by
  have := valL_at hd
  rw [show ((L.length - 1 : Nat) : Int) + 1 = (L.length : Int) from by omega, hdv] at this
  exact this
 unfold pstV at hval
 have HLED := qd.mk (hLed.below HB1.out)
 have HHL := qd.mk hlen
 have HVAL := qd.mk hval
 have HI := qd.mk (show qdf (L.length : Int) from by unfold qdf; omega)
 have hfa : ∀ w, (Instr.field 118 (.agg #[.int .i64 d.h.f0, .string d.h.f1, .int .i64 d.h.f2, .int .i64 d.h.f3, .int .i64 d.h.f4, .string d.h.f5, .string d.h.f6, .int .i64 d.h.f7, .slice none 0 0, .slice Ad d.C.length cd]) 0).run Tryd.prog w = .ok (.agg #[.int .i64 d.h.f0, .string d.h.f1, .int .i64 d.h.f2, .int .i64 d.h.f3, .int .i64 d.h.f4, .string d.h.f5, .string d.h.f6, .int .i64 d.h.f7, .slice none 0 0]) w := fun w => by kernel_rfl
 have hfb : ∀ w, (Instr.field 29 (.agg #[.int .i64 d.h.f0, .string d.h.f1, .int .i64 d.h.f2, .int .i64 d.h.f3, .int .i64 d.h.f4, .string d.h.f5, .string d.h.f6, .int .i64 d.h.f7, .slice none 0 0]) 2).run Tryd.prog w = .ok (.int .i64 d.h.f2) w := fun w => by kernel_rfl
 have d1 : (x.f0 != (L.length : Int) + 1) = false := by simpa using ho
 have d2 : decide ((0 : Int) < (L.length : Int)) = true := decide_eq_true (by omega)
 have d2' : decide (0 < L.length) = true := decide_eq_true h0
 have d3 : decide (x.f2 < d.h.f2) = true := decide_eq_true hxy
 clear hC hT hk hc hLed hE hraw hchk hLn hd hdv hval hy hxy hlen ho
 have hp := (qj HLED.out.blk 0).trans rfl
 have hw1 : wrap64 ((L.length : Int) + 1) = (L.length : Int) + 1 := by have := HHL.out; unfold wrap64; omega
 go_enter Tryd.func20, Tryd.ntmps20
 go_upto_region 7 with (first | (go_at_call 47; refine (qda.calls k x.f0 x.f1 x.f2 x.f3 x.f4 x.f5 x.f6 x.f7 A c x.f8 (-1) 0 _ (Kd.qcd HC.out HB1.out) HLC.out HK.out (HT.out.below HB1.out)).mono ?_; rintro e w2 ⟨rfl, hb⟩; have HLED2 := qd.mk (HLED.out.below hb); have hln := HLED2.out.len 3; have hp2 : w2.cell? ⟨p, 0, none⟩ = some (.map (some m)) := (qj HLED2.out.blk 0).trans rfl; have hb2 := qcg HBX.out hb; have a0 : w2.cell? ⟨w.heap.size, 0, none⟩ = some (.int .i64 x.f0) := (qj hb2 0).trans rfl; have a2 : w2.cell? ⟨w.heap.size, 2, none⟩ = some (.int .i64 x.f2) := (qj hb2 2).trans rfl; clear hb2 hp))
 have HB2 := qd.mk (qch HB1.out HB1.out.size hb)
 clear hb
 have hlk : ∀ n, (Instr.lookup 119 (.map (some m)) (.int .i64 (L.length : Int)) false).run Tryd.prog (w2.drewN n) = .ok _ (w2.drewN n) := fun n => ((HLED2.out.below (qbm (Below.refl _ w2) n)).look HI.out).trans (by rw [HVAL.out])
 go_big_quiet (fail)
 go_wp2
 go_ret
 exact ⟨rfl, qbm HB2.out nq⟩
set_option maxHeartbeats 4000000 in
set_option maxRecDepth 100000 in
theorem post_many {base p m : Nat} {E : List S29} (x y : S29) (A : Option Addr) (c : Nat) (w : World) (hL : LedE w base p m E) (hC : Kd.C k109 w A x.f8.length x.f8) (hc : x.f8.length ≤ c) (hT : Tab w) (hf : FitE x) (hchk : (chkE x).2 = 0) (hlen : E.length ≤ 100000) (ho : x.f0 = (E.length : Int) + 1) (hy : E.getLast? = some y) (hxy : ¬ x.f2 < y.f2) (h4 : 4000 ≤ E.length) :
  Calls Tryd.prog 20 #[.pointer (some ⟨p, 0, none⟩), enV x A c] w fun e w' => e = .returned (.int .i64 9) ∧ Below w.heap.size w w' := by
 obtain ⟨k, hk⟩ := (qmc x hf).rounds
 rw [(qhh hchk).2.2.2] at hk
 have HC := qd.mk hC
 have HT := qd.mk hT
 have HK := qd.mk hk
 have HLC := qd.mk hc
 have HB1 := qd.mk (qbj (Below.refl w.heap.size w) (.cells #[.int .i64 x.f0, .string x.f1, .int .i64 x.f2, .int .i64 x.f3, .int .i64 x.f4, .string x.f5, .string x.f6, .int .i64 x.f7, .slice A x.f8.length c] 29))
 have HBX := qd.mk (qdr w (.cells #[.int .i64 x.f0, .string x.f1, .int .i64 x.f2, .int .i64 x.f3, .int .i64 x.f4, .string x.f5, .string x.f6, .int .i64 x.f7, .slice A x.f8.length c] 29))
 obtain ⟨L, hLed, hE, hraw⟩ := hL
 have hLn : E.length = L.length := by rw [← hE, List.length_map]
 rw [hLn] at ho hlen h4
 have hcl : ∃ d, L[L.length - 1]? = some d ∧ d.h = y ∧ 0 < L.length := by
  rw [← hE, List.getLast?_map, List.getLast?_eq_getElem?] at hy
  obtain ⟨d, hd, rfl⟩ := Option.map_eq_some_iff.1 hy
  exact ⟨d, hd, rfl, by have := (List.getElem?_eq_some_iff.1 hd).1; omega⟩
 obtain ⟨d, hd, rfl, h0⟩ := hcl
 obtain ⟨Ad, cd, hdv⟩ := Kd.qcp (hLed.row d (List.mem_of_getElem? hd))
 have hval : valL L (L.length : Int) = pstV d.h (.slice Ad d.C.length cd) := by
  have := valL_at hd
  rw [show ((L.length - 1 : Nat) : Int) + 1 = (L.length : Int) from by omega, hdv] at this
  exact this
 unfold pstV at hval
 have HLED := qd.mk (hLed.below HB1.out)
 have HHL := qd.mk hlen
 have HVAL := qd.mk hval
 have HI := qd.mk (show qdf (L.length : Int) from by unfold qdf; omega)
 have hfa : ∀ w, (Instr.field 118 (.agg #[.int .i64 d.h.f0, .string d.h.f1, .int .i64 d.h.f2, .int .i64 d.h.f3, .int .i64 d.h.f4, .string d.h.f5, .string d.h.f6, .int .i64 d.h.f7, .slice none 0 0, .slice Ad d.C.length cd]) 0).run Tryd.prog w = .ok (.agg #[.int .i64 d.h.f0, .string d.h.f1, .int .i64 d.h.f2, .int .i64 d.h.f3, .int .i64 d.h.f4, .string d.h.f5, .string d.h.f6, .int .i64 d.h.f7, .slice none 0 0]) w := fun w => by kernel_rfl
 have hfb : ∀ w, (Instr.field 29 (.agg #[.int .i64 d.h.f0, .string d.h.f1, .int .i64 d.h.f2, .int .i64 d.h.f3, .int .i64 d.h.f4, .string d.h.f5, .string d.h.f6, .int .i64 d.h.f7, .slice none 0 0]) 2).run Tryd.prog w = .ok (.int .i64 d.h.f2) w := fun w => by kernel_rfl
 have d1 : (x.f0 != (L.length : Int) + 1) = false := by simpa using ho
 have d2 : decide ((0 : Int) < (L.length : Int)) = true := decide_eq_true (by omega)
 have d2' : decide (0 < L.length) = true := decide_eq_true h0
 have d3 : decide (x.f2 < d.h.f2) = false := decide_eq_false hxy
 have d4 : decide ((4000 : Int) ≤ (L.length : Int)) = true := decide_eq_true (by omega)
 have d4' : decide (4000 ≤ L.length) = true := decide_eq_true h4
 clear hC hT hk hc hLed hE hraw hchk hLn hd hdv hval hy hxy hlen ho h4
 have hp := (qj HLED.out.blk 0).trans rfl
 have hw1 : wrap64 ((L.length : Int) + 1) = (L.length : Int) + 1 := by have := HHL.out; unfold wrap64; omega
 go_enter Tryd.func20, Tryd.ntmps20
 go_upto_region 7 with (first | (go_at_call 47; refine (qda.calls k x.f0 x.f1 x.f2 x.f3 x.f4 x.f5 x.f6 x.f7 A c x.f8 (-1) 0 _ (Kd.qcd HC.out HB1.out) HLC.out HK.out (HT.out.below HB1.out)).mono ?_; rintro e w2 ⟨rfl, hb⟩; have HLED2 := qd.mk (HLED.out.below hb); have hln := HLED2.out.len 3; have hp2 : w2.cell? ⟨p, 0, none⟩ = some (.map (some m)) := (qj HLED2.out.blk 0).trans rfl; have hb2 := qcg HBX.out hb; have a0 : w2.cell? ⟨w.heap.size, 0, none⟩ = some (.int .i64 x.f0) := (qj hb2 0).trans rfl; have a2 : w2.cell? ⟨w.heap.size, 2, none⟩ = some (.int .i64 x.f2) := (qj hb2 2).trans rfl; clear hb2 hp))
 have HB2 := qd.mk (qch HB1.out HB1.out.size hb)
 clear hb
 have hlk : ∀ n, (Instr.lookup 119 (.map (some m)) (.int .i64 (L.length : Int)) false).run Tryd.prog (w2.drewN n) = .ok _ (w2.drewN n) := fun n => ((HLED2.out.below (qbm (Below.refl _ w2) n)).look HI.out).trans (by rw [HVAL.out])
 go_big_quiet (fail)
 go_wp2
 go_ret
 exact ⟨rfl, qbm HB2.out nq⟩
theorem qhr {w : World} {g0 c : Nat} {A : Option Addr} {x : S29} (h : w.heap[g0]? = some (.cells #[.int .i64 x.f0, .string x.f1, .int .i64 x.f2, .int .i64 x.f3, .int .i64 x.f4, .string x.f5, .string x.f6, .int .i64 x.f7, .slice A x.f8.length c] 29 (0, 0))) : ∀ w', Below w.heap.size w w' → w'.cell? ⟨g0, 0, none⟩ = some (.int .i64 x.f0) ∧ w'.cell? ⟨g0, 1, none⟩ = some (.string x.f1) ∧ w'.cell? ⟨g0, 2, none⟩ = some (.int .i64 x.f2) ∧ w'.cell? ⟨g0, 3, none⟩ = some (.int .i64 x.f3) ∧ w'.cell? ⟨g0, 4, none⟩ = some (.int .i64 x.f4) ∧ w'.cell? ⟨g0, 5, none⟩ = some (.string x.f5) ∧ w'.cell? ⟨g0, 6, none⟩ = some (.string x.f6) ∧ w'.cell? ⟨g0, 7, none⟩ = some (.int .i64 x.f7) ∧ w'.cell? ⟨g0, 8, none⟩ = some (.slice A x.f8.length c) := fun w' hb =>
 have hb2 := qcg h hb
 ⟨(qj hb2 0).trans rfl, (qj hb2 1).trans rfl, (qj hb2 2).trans rfl, (qj hb2 3).trans rfl, (qj hb2 4).trans rfl, (qj hb2 5).trans rfl, (qj hb2 6).trans rfl, (qj hb2 7).trans rfl, (qj hb2 8).trans rfl⟩
theorem raw_kept {w w3 : World} (x : S29) (A : Option Addr) (c : Nat) (hl : x.f8.length ≤ 100) (hC : Kd.C k109 w A x.f8.length x.f8) (hc : x.f8.length ≤ c) (h3 : Below w.heap.size w w3) : ∀ w', Below w3.heap.size w3 w' → Calls Tryd.prog 51 #[.agg #[.int .i64 x.f0, .string x.f1, .int .i64 x.f2, .int .i64 x.f3, .int .i64 x.f4, .string x.f5, .string x.f6, .int .i64 x.f7, .slice A x.f8.length c]] w' fun e w5 => ∃ v : Value, e = .returned v ∧ Kd.R k112 112 w5 w3.heap.size (fun _ => True) v (rawL x) ∧ Below w3.heap.size w3 w5 ∧ Below w'.heap.size w' w5 := fun w' hb => by
 obtain ⟨k, hk⟩ := (raw_ev x (by omega)).rounds
 refine (qds.calls k x.f0 x.f1 x.f2 x.f3 x.f4 x.f5 x.f6 x.f7 A c x.f8 (rawL x) w' (Kd.qcd (Kd.qcd hC h3) hb) hc hk).mono ?_
 rintro e w5 ⟨v, rfl, hr, hb5⟩
 exact ⟨v, rfl, Kd.qel hr hb.size, qch hb hb.size hb5, hb5⟩
theorem row118 {w : World} {b g i : Nat} {v u : Value} {l : List S112} {cs : Array Value} (h : Kd.R k112 112 w b (fun _ => True) v l) (hg : w.heap[g]? = some (.cells cs 118 (0, 0))) : Kd.R k112 112 (w.setCell ⟨g, i, none⟩ u) b (fun _ => True) v l := by
 have h1 := Kd.qdq (Kd.qkf rfl h) (ok' := fun k => v.ownBlock = some k) (fun k hk => hk.symm)
 have h2 := Kd.qgv h1 (w1 := w.setCell ⟨g, i, none⟩ u) (fun k hk hlt => by
  obtain ⟨cs', hcs⟩ := Kd.qdw h k hk
  refine Below.heap_setCell _ _ _ _ (fun e => ?_)
  have e' : k = g := e
  rw [e', hg] at hcs
  cases hcs)
 exact Kd.qdq h2 (fun _ _ => trivial)
structure qmt (w3 w : World) (g : Nat) (cs : Array Value) (v : Value) (l : List S112) : Prop where
 blk : w.heap[g]? = some (.cells cs 118 (0, 0))
 row : Kd.R k112 112 w w3.heap.size (fun _ => True) v l
 bel : Below w3.heap.size w3 w
 low : w3.heap.size ≤ g
theorem qmt.set {w3 w : World} {g : Nat} {cs cs' : Array Value} {v : Value} {l : List S112} (h : qmt w3 w g cs v l) (i : Nat) (u : Value) (hc : cs.setIfInBounds i u = cs') : qmt w3 (w.setCell ⟨g, i, none⟩ u) g cs' v l :=
 ⟨qck h.blk i u hc, row118 h.row h.blk, h.bel.setCell (p := ⟨g, i, none⟩) h.low u, h.low⟩
theorem kp_new {w3 w5 : World} {x : S29} {A : Option Addr} {c : Nat} {v : Value} {l : List S112} (hr : Kd.R k112 112 w5 w3.heap.size (fun _ => True) v l) (hb : Below w3.heap.size w3 w5) : qmt w3 (w5.alloc (.cells #[.int .i64 x.f0, .string x.f1, .int .i64 x.f2, .int .i64 x.f3, .int .i64 x.f4, .string x.f5, .string x.f6, .int .i64 x.f7, .slice A x.f8.length c, v] 118)) w5.heap.size #[.int .i64 x.f0, .string x.f1, .int .i64 x.f2, .int .i64 x.f3, .int .i64 x.f4, .string x.f5, .string x.f6, .int .i64 x.f7, .slice A x.f8.length c, v] v l :=
 ⟨qdr _ _, Kd.qee hr (qbj (Below.refl _ _) _), qbj hb _, hb.size⟩
theorem kp_ten {w3 w5 : World} {x : S29} {A : Option Addr} {c g : Nat} {v : Value} {l : List S112} (hz : w5.heap[g]? = some (.cells #[.int .i64 0, .string ⟨#[]⟩, .int .i64 0, .int .i64 0, .int .i64 0, .string ⟨#[]⟩, .string ⟨#[]⟩, .int .i64 0, .slice none 0 0, .slice none 0 0] 118 (0, 0))) (hr : Kd.R k112 112 w5 w3.heap.size (fun _ => True) v l) (hb : Below w3.heap.size w3 w5) (hg : w3.heap.size ≤ g) :
  qmt w3 ((((((((((w5.setCell ⟨g, 0, none⟩ (.int .i64 x.f0)).setCell ⟨g, 1, none⟩ (.string x.f1)).setCell ⟨g, 2, none⟩ (.int .i64 x.f2)).setCell ⟨g, 3, none⟩ (.int .i64 x.f3)).setCell ⟨g, 4, none⟩ (.int .i64 x.f4)).setCell ⟨g, 5, none⟩ (.string x.f5)).setCell ⟨g, 6, none⟩ (.string x.f6)).setCell ⟨g, 7, none⟩ (.int .i64 x.f7)).setCell ⟨g, 8, none⟩ (.slice A x.f8.length c)).setCell ⟨g, 9, none⟩ v) g #[.int .i64 x.f0, .string x.f1, .int .i64 x.f2, .int .i64 x.f3, .int .i64 x.f4, .string x.f5, .string x.f6, .int .i64 x.f7, .slice A x.f8.length c, v] v l := by
 have h0 := qmt.mk hz hr hb hg
 have h1 := h0.set (cs' := #[(.int .i64 x.f0), (.string ⟨#[]⟩), (.int .i64 0), (.int .i64 0), (.int .i64 0), (.string ⟨#[]⟩), (.string ⟨#[]⟩), (.int .i64 0), (.slice none 0 0), (.slice none 0 0)]) 0 (.int .i64 x.f0) rfl
 have h2 := h1.set (cs' := #[(.int .i64 x.f0), (.string x.f1), (.int .i64 0), (.int .i64 0), (.int .i64 0), (.string ⟨#[]⟩), (.string ⟨#[]⟩), (.int .i64 0), (.slice none 0 0), (.slice none 0 0)]) 1 (.string x.f1) rfl
 have h3 := h2.set (cs' := #[(.int .i64 x.f0), (.string x.f1), (.int .i64 x.f2), (.int .i64 0), (.int .i64 0), (.string ⟨#[]⟩), (.string ⟨#[]⟩), (.int .i64 0), (.slice none 0 0), (.slice none 0 0)]) 2 (.int .i64 x.f2) rfl
 have h4 := h3.set (cs' := #[(.int .i64 x.f0), (.string x.f1), (.int .i64 x.f2), (.int .i64 x.f3), (.int .i64 0), (.string ⟨#[]⟩), (.string ⟨#[]⟩), (.int .i64 0), (.slice none 0 0), (.slice none 0 0)]) 3 (.int .i64 x.f3) rfl
 have h5 := h4.set (cs' := #[(.int .i64 x.f0), (.string x.f1), (.int .i64 x.f2), (.int .i64 x.f3), (.int .i64 x.f4), (.string ⟨#[]⟩), (.string ⟨#[]⟩), (.int .i64 0), (.slice none 0 0), (.slice none 0 0)]) 4 (.int .i64 x.f4) rfl
 have h6 := h5.set (cs' := #[(.int .i64 x.f0), (.string x.f1), (.int .i64 x.f2), (.int .i64 x.f3), (.int .i64 x.f4), (.string x.f5), (.string ⟨#[]⟩), (.int .i64 0), (.slice none 0 0), (.slice none 0 0)]) 5 (.string x.f5) rfl
 have h7 := h6.set (cs' := #[(.int .i64 x.f0), (.string x.f1), (.int .i64 x.f2), (.int .i64 x.f3), (.int .i64 x.f4), (.string x.f5), (.string x.f6), (.int .i64 0), (.slice none 0 0), (.slice none 0 0)]) 6 (.string x.f6) rfl
 have h8 := h7.set (cs' := #[(.int .i64 x.f0), (.string x.f1), (.int .i64 x.f2), (.int .i64 x.f3), (.int .i64 x.f4), (.string x.f5), (.string x.f6), (.int .i64 x.f7), (.slice none 0 0), (.slice none 0 0)]) 7 (.int .i64 x.f7) rfl
 have h9 := h8.set (cs' := #[(.int .i64 x.f0), (.string x.f1), (.int .i64 x.f2), (.int .i64 x.f3), (.int .i64 x.f4), (.string x.f5), (.string x.f6), (.int .i64 x.f7), (.slice A x.f8.length c), (.slice none 0 0)]) 8 (.slice A x.f8.length c) rfl
 have h10 := h9.set (cs' := #[(.int .i64 x.f0), (.string x.f1), (.int .i64 x.f2), (.int .i64 x.f3), (.int .i64 x.f4), (.string x.f5), (.string x.f6), (.int .i64 x.f7), (.slice A x.f8.length c), v]) 9 v rfl
 exact h10
set_option maxHeartbeats 4000000 in
set_option maxRecDepth 100000 in
theorem post_putn {base p m : Nat} {E : List S29} (x y : S29) (A : Option Addr) (c : Nat) (w : World) (hL : LedE w base p m E) (hC : Kd.C k109 w A x.f8.length x.f8) (hc : x.f8.length ≤ c) (hT : Tab w) (hf : FitE x) (hchk : (chkE x).2 = 0) (hlen : E.length ≤ 100000) (ho : x.f0 = (E.length : Int) + 1) (hy : E.getLast? = some y) (hxy : ¬ x.f2 < y.f2) (h4 : ¬ 4000 ≤ E.length) :
  Calls Tryd.prog 20 #[.pointer (some ⟨p, 0, none⟩), enV x A c] w fun e w' => e = .returned (.int .i64 0) ∧ LedE w' base p m (E ++ [x]) ∧ But (fun k => k = m) w w' := by
 obtain ⟨k, hk⟩ := (qmc x hf).rounds
 rw [(qhh hchk).2.2.2] at hk
 have HC := qd.mk hC
 have HT := qd.mk hT
 have HK := qd.mk hk
 have HLC := qd.mk hc
 have HB1 := qd.mk (qbj (Below.refl w.heap.size w) (.cells #[.int .i64 x.f0, .string x.f1, .int .i64 x.f2, .int .i64 x.f3, .int .i64 x.f4, .string x.f5, .string x.f6, .int .i64 x.f7, .slice A x.f8.length c] 29))
 have HBX := qd.mk (qdr w (.cells #[.int .i64 x.f0, .string x.f1, .int .i64 x.f2, .int .i64 x.f3, .int .i64 x.f4, .string x.f5, .string x.f6, .int .i64 x.f7, .slice A x.f8.length c] 29))
 obtain ⟨L, hLed, hE, hraw⟩ := hL
 have hLn : E.length = L.length := by rw [← hE, List.length_map]
 rw [hLn] at ho hlen h4
 have hcl : ∃ d, L[L.length - 1]? = some d ∧ d.h = y ∧ 0 < L.length := by
  rw [← hE, List.getLast?_map, List.getLast?_eq_getElem?] at hy
  obtain ⟨d, hd, rfl⟩ := Option.map_eq_some_iff.1 hy
  exact ⟨d, hd, rfl, by have := (List.getElem?_eq_some_iff.1 hd).1; omega⟩
 obtain ⟨d, hd, rfl, h0⟩ := hcl
 obtain ⟨Ad, cd, hdv⟩ := Kd.qcp (hLed.row d (List.mem_of_getElem? hd))
 have hval : valL L (L.length : Int) = pstV d.h (.slice Ad d.C.length cd) := by
  have := valL_at hd
  rw [show ((L.length - 1 : Nat) : Int) + 1 = (L.length : Int) from by omega, hdv] at this
  exact this
 unfold pstV at hval
 have HLED := qd.mk (hLed.below HB1.out)
 have HHL := qd.mk hlen
 have HVAL := qd.mk hval
 have HI := qd.mk (show qdf (L.length : Int) from by unfold qdf; omega)
 have hfa : ∀ w, (Instr.field 118 (.agg #[.int .i64 d.h.f0, .string d.h.f1, .int .i64 d.h.f2, .int .i64 d.h.f3, .int .i64 d.h.f4, .string d.h.f5, .string d.h.f6, .int .i64 d.h.f7, .slice none 0 0, .slice Ad d.C.length cd]) 0).run Tryd.prog w = .ok (.agg #[.int .i64 d.h.f0, .string d.h.f1, .int .i64 d.h.f2, .int .i64 d.h.f3, .int .i64 d.h.f4, .string d.h.f5, .string d.h.f6, .int .i64 d.h.f7, .slice none 0 0]) w := fun w => by kernel_rfl
 have hfb : ∀ w, (Instr.field 29 (.agg #[.int .i64 d.h.f0, .string d.h.f1, .int .i64 d.h.f2, .int .i64 d.h.f3, .int .i64 d.h.f4, .string d.h.f5, .string d.h.f6, .int .i64 d.h.f7, .slice none 0 0]) 2).run Tryd.prog w = .ok (.int .i64 d.h.f2) w := fun w => by kernel_rfl
 have hl100 := (qhx (qhh hchk).1).2.1
 have HO := qd.mk ho
 have H4 := qd.mk h4
 have HD := qd.mk hE
 have HRW := qd.mk hraw
 have d1 : (x.f0 != (L.length : Int) + 1) = false := by simpa using ho
 have d2 : decide ((0 : Int) < (L.length : Int)) = true := decide_eq_true (by omega)
 have d2' : decide (0 < L.length) = true := decide_eq_true h0
 have d3 : decide (x.f2 < d.h.f2) = false := decide_eq_false hxy
 have d4 : decide ((4000 : Int) ≤ (L.length : Int)) = false := decide_eq_false (by omega)
 have d4' : decide (4000 ≤ L.length) = false := decide_eq_false h4
 clear hC hT hk hc hLed hE hraw hchk hLn hd hdv hval hy hxy hlen ho h4
 have hp := (qj HLED.out.blk 0).trans rfl
 have hw1 : wrap64 ((L.length : Int) + 1) = (L.length : Int) + 1 := by have := HHL.out; unfold wrap64; omega
 go_enter Tryd.func20, Tryd.ntmps20
 go_upto_region 7 with (first | (go_at_call 47; refine (qda.calls k x.f0 x.f1 x.f2 x.f3 x.f4 x.f5 x.f6 x.f7 A c x.f8 (-1) 0 _ (Kd.qcd HC.out HB1.out) HLC.out HK.out (HT.out.below HB1.out)).mono ?_; rintro e w2 ⟨rfl, hb⟩; have HLED2 := qd.mk (HLED.out.below hb); have hln := HLED2.out.len 3; have hp2 : w2.cell? ⟨p, 0, none⟩ = some (.map (some m)) := (qj HLED2.out.blk 0).trans rfl; have hb2 := qcg HBX.out hb; have HBX2 := qd.mk hb2; have a0 : w2.cell? ⟨w.heap.size, 0, none⟩ = some (.int .i64 x.f0) := (qj hb2 0).trans rfl; have a2 : w2.cell? ⟨w.heap.size, 2, none⟩ = some (.int .i64 x.f2) := (qj hb2 2).trans rfl; clear hb2 hp))
 have HB2 := qd.mk (qch HB1.out HB1.out.size hb)
 clear hb
 have hlk : ∀ n, (Instr.lookup 119 (.map (some m)) (.int .i64 (L.length : Int)) false).run Tryd.prog (w2.drewN n) = .ok _ (w2.drewN n) := fun n => ((HLED2.out.below (qbm (Below.refl _ w2) n)).look HI.out).trans (by rw [HVAL.out])
 go_big_quiet (fail)
 go_upto_region 11 with (fail)
 refine qdg (P := fun x => Code.wp _ _ _ _ x) _ ?_
 intro w3 hw3
 have HLED3 := qd.mk (show Led w3 base p m L from hw3 ▸ HLED2.out.below (qbm (Below.refl _ w2) nq))
 have HB3 := qd.mk (show Below w.heap.size w w3 from hw3 ▸ qbm HB2.out nq)
 obtain ⟨g0, hg0⟩ : ∃ g0, w.heap.size = g0 := ⟨_, rfl⟩
 have HG0 := qd.mk hg0
 have hbx3 : w3.heap[g0]? = some (.cells #[.int .i64 x.f0, .string x.f1, .int .i64 x.f2, .int .i64 x.f3, .int .i64 x.f4, .string x.f5, .string x.f6, .int .i64 x.f7, .slice A x.f8.length c] 29 (0, 0)) := by
  rw [hw3, ← hg0]
  exact qw HBX2.out nq
 try rw [hg0]
 have HBX3 := qd.mk hbx3
 have HQS := qd.mk (qhr hbx3)
 obtain ⟨r0, r1, r2, r3, r4, r5, r6, r7, r8⟩ := HQS.out w3 (Below.refl _ _)
 have HRC := qd.mk (raw_kept (w := w) x A c hl100 HC.out HLC.out HB3.out)
 clear hw3 hg0 hbx3 a0 a2 hlk hp2
 obtain ⟨q0, q1, q2, q3, q4, q5, q6, q7, q8⟩ := HQS.out ((w3.alloc (.cells #[.int .i64 0, .string ⟨#[]⟩, .int .i64 0, .int .i64 0, .int .i64 0, .string ⟨#[]⟩, .string ⟨#[]⟩, .int .i64 0, .slice none 0 0, .slice none 0 0] 118)).drew) (qdl (qbj (Below.refl _ _) _))
 go_cut [8, 48, 49, 50, 51] (fun v8 _ _ _ _ wc => ∃ (g : Nat) (A5 : Option Addr) (c5 : Nat), v8 = .pointer (some ⟨g, 0, none⟩) ∧ qd (qmt w3 wc g #[.int .i64 x.f0, .string x.f1, .int .i64 x.f2, .int .i64 x.f3, .int .i64 x.f4, .string x.f5, .string x.f6, .int .i64 x.f7, .slice A x.f8.length c, .slice A5 (rawL x).length c5] (.slice A5 (rawL x).length c5) (rawL x)))
 case first =>
  go_region_law (first | (go_simp; go_at_call 51; (with_reducible refine (HRC.out _ ?hbl).mono ?_); (case hbl => repeat (first | (with_reducible exact Below.refl _ _) | apply qdl | refine qbj ?_ _)); rintro e_ w5 ⟨v5, rfl, hr5, hb5, hb6⟩; obtain ⟨A5, c5, rfl⟩ := Kd.qcp hr5; have HR5 := qd.mk hr5; have HB5 := qd.mk hb5; have HB6 := qd.mk hb6; obtain ⟨s0, s1, s2, s3, s4, s5, s6, s7, s8⟩ := HQS.out w5 hb5; obtain ⟨t0, t1, t2, t3, t4, t5, t6, t7, t8⟩ := HQS.out (w5.alloc (.cells #[.int .i64 0, .string ⟨#[]⟩, .int .i64 0, .int .i64 0, .int .i64 0, .string ⟨#[]⟩, .string ⟨#[]⟩, .int .i64 0, .slice none 0 0, .slice none 0 0] 118)) (qbj hb5 _); try (have hbz : w5.heap[w3.heap.size]? = some (.cells #[.int .i64 0, .string ⟨#[]⟩, .int .i64 0, .int .i64 0, .int .i64 0, .string ⟨#[]⟩, .string ⟨#[]⟩, .int .i64 0, .slice none 0 0, .slice none 0 0] 118 (0, 0)) := qcg (by first | exact qdr _ _ | exact qz (qdr _ _)) hb6; have z0 : w5.cell? ⟨w3.heap.size, 0, none⟩ = some (.int .i64 0) := (qj hbz 0).trans rfl; have f0 := qbq hbz 0; have z1 : w5.cell? ⟨w3.heap.size, 1, none⟩ = some (.string ⟨#[]⟩) := (qj hbz 1).trans rfl; have f1 := qbq hbz 1; have z2 : w5.cell? ⟨w3.heap.size, 2, none⟩ = some (.int .i64 0) := (qj hbz 2).trans rfl; have f2 := qbq hbz 2; have z3 : w5.cell? ⟨w3.heap.size, 3, none⟩ = some (.int .i64 0) := (qj hbz 3).trans rfl; have f3 := qbq hbz 3; have z4 : w5.cell? ⟨w3.heap.size, 4, none⟩ = some (.int .i64 0) := (qj hbz 4).trans rfl; have f4 := qbq hbz 4; have z5 : w5.cell? ⟨w3.heap.size, 5, none⟩ = some (.string ⟨#[]⟩) := (qj hbz 5).trans rfl; have f5 := qbq hbz 5; have z6 : w5.cell? ⟨w3.heap.size, 6, none⟩ = some (.string ⟨#[]⟩) := (qj hbz 6).trans rfl; have f6 := qbq hbz 6; have z7 : w5.cell? ⟨w3.heap.size, 7, none⟩ = some (.int .i64 0) := (qj hbz 7).trans rfl; have f7 := qbq hbz 7; have z8 : w5.cell? ⟨w3.heap.size, 8, none⟩ = some (.slice none 0 0) := (qj hbz 8).trans rfl; have f8 := qbq hbz 8; have z9 : w5.cell? ⟨w3.heap.size, 9, none⟩ = some (.slice none 0 0) := (qj hbz 9).trans rfl; have f9 := qbq hbz 9; have HBZ := qd.mk hbz; clear hbz); clear hr5 hb5 hb6))
  all_goals
   go_wp2_with fail
   go_meet
  all_goals
   case rel =>
    first
    | (with_reducible exact ⟨w3.heap.size, A5, c5, rfl, ⟨kp_ten HBZ.out HR5.out HB5.out (Nat.le_refl _)⟩⟩)
    | exact ⟨w5.heap.size, A5, c5, rfl, ⟨kp_new HR5.out HB5.out⟩⟩
 obtain ⟨g, A5, c5, rfl, HKP⟩ := hcut
 have c8 : wc.cell? ⟨g, 8, none⟩ = some (.slice A x.f8.length c) := (qj HKP.out.blk 8).trans rfl
 have f8 := qbq HKP.out.blk 8
 go_upto_region 13 with (fail)
 refine qdg (P := fun x => Code.wp _ _ _ _ x) _ ?_
 intro w6 hw6
 have HK6 := qd.mk (show qmt w3 w6 g #[.int .i64 x.f0, .string x.f1, .int .i64 x.f2, .int .i64 x.f3, .int .i64 x.f4, .string x.f5, .string x.f6, .int .i64 x.f7, .slice none 0 0, .slice A5 (rawL x).length c5] (.slice A5 (rawL x).length c5) (rawL x) from hw6 ▸ HKP.out.set 8 _ rfl)
 clear hw6 HKP c8 f8
 have hrow : Kd.R k112 112 w6 base (fun _ => True) (.slice A5 (rawL x).length c5) (rawL x) := Kd.qel HK6.out.row (by have := HLED3.out.ltm; have := HLED3.out.lowm; omega)
 have HLED6 := qd.mk ((HLED3.out.below HK6.out.bel).below (qdl (Below.refl _ w6)))
 obtain ⟨w7, hup, hLed7, hg7⟩ := HLED6.out.put (c := ⟨x, rawL x, .slice A5 (rawL x).length c5⟩) (by have := HHL.out; omega) (Kd.qee hrow (qdl (Below.refl _ w6)))
 have HL7 := qd.mk hLed7
 have HG7 := qd.mk hg7
 clear hLed7 hg7 hrow
 unfold pstV at hup
 rw [← HO.out] at hup
 obtain ⟨q0, q1, q2, q3, q4, q5, q6, q7, q8⟩ := HQS.out w6 HK6.out.bel
 clear q1 q2 q3 q4 q5 q6 q7 q8
 have e0 : w6.cell? ⟨g, 0, none⟩ = some (.int .i64 x.f0) := (qj HK6.out.blk 0).trans rfl
 have e1 : w6.cell? ⟨g, 1, none⟩ = some (.string x.f1) := (qj HK6.out.blk 1).trans rfl
 have e2 : w6.cell? ⟨g, 2, none⟩ = some (.int .i64 x.f2) := (qj HK6.out.blk 2).trans rfl
 have e3 : w6.cell? ⟨g, 3, none⟩ = some (.int .i64 x.f3) := (qj HK6.out.blk 3).trans rfl
 have e4 : w6.cell? ⟨g, 4, none⟩ = some (.int .i64 x.f4) := (qj HK6.out.blk 4).trans rfl
 have e5 : w6.cell? ⟨g, 5, none⟩ = some (.string x.f5) := (qj HK6.out.blk 5).trans rfl
 have e6 : w6.cell? ⟨g, 6, none⟩ = some (.string x.f6) := (qj HK6.out.blk 6).trans rfl
 have e7 : w6.cell? ⟨g, 7, none⟩ = some (.int .i64 x.f7) := (qj HK6.out.blk 7).trans rfl
 have e8 : w6.cell? ⟨g, 8, none⟩ = some (.slice none 0 0) := (qj HK6.out.blk 8).trans rfl
 have e9 : w6.cell? ⟨g, 9, none⟩ = some (.slice A5 (rawL x).length c5) := (qj HK6.out.blk 9).trans rfl
 have ep : w6.cell? ⟨p, 0, none⟩ = some (.map (some m)) := (qj HLED6.out.blk 0).trans rfl
 go_still_tail 7, (by kernel_rfl)
 change wpList _ _ _ _ _ w6.drew
 go_wp2
 go_ret
 refine ⟨rfl, ⟨_, HL7.out, ?_, fun d' hd' => ?_⟩, ?_⟩
 ·rw [List.map_append, HD.out]
  rfl
 ·rcases List.mem_append.1 hd' with hd' | hd'
  ·exact HRW.out d' hd'
  ·rw [List.mem_singleton] at hd'
   subst hd'
   rfl
 ·have hb6 : Below w.heap.size w w6.drew := qdl (qch HB3.out HB3.out.size HK6.out.bel)
  exact (But.of_below hb6 _).trans (But.qiu HG7.out (fun k hk => (Option.some.inj hk).symm))
set_option maxHeartbeats 4000000 in
set_option maxRecDepth 100000 in
theorem post_put0 {base p m : Nat} {E : List S29} (x : S29) (A : Option Addr) (c : Nat) (w : World) (hL : LedE w base p m E) (hC : Kd.C k109 w A x.f8.length x.f8) (hc : x.f8.length ≤ c) (hT : Tab w) (hf : FitE x) (hchk : (chkE x).2 = 0) (hlen : E.length ≤ 100000) (ho : x.f0 = (E.length : Int) + 1) (h00 : E.length = 0) :
  Calls Tryd.prog 20 #[.pointer (some ⟨p, 0, none⟩), enV x A c] w fun e w' => e = .returned (.int .i64 0) ∧ LedE w' base p m (E ++ [x]) ∧ But (fun k => k = m) w w' := by
 obtain ⟨k, hk⟩ := (qmc x hf).rounds
 rw [(qhh hchk).2.2.2] at hk
 have HC := qd.mk hC
 have HT := qd.mk hT
 have HK := qd.mk hk
 have HLC := qd.mk hc
 have HB1 := qd.mk (qbj (Below.refl w.heap.size w) (.cells #[.int .i64 x.f0, .string x.f1, .int .i64 x.f2, .int .i64 x.f3, .int .i64 x.f4, .string x.f5, .string x.f6, .int .i64 x.f7, .slice A x.f8.length c] 29))
 have HBX := qd.mk (qdr w (.cells #[.int .i64 x.f0, .string x.f1, .int .i64 x.f2, .int .i64 x.f3, .int .i64 x.f4, .string x.f5, .string x.f6, .int .i64 x.f7, .slice A x.f8.length c] 29))
 obtain ⟨L, hLed, hE, hraw⟩ := hL
 have hLn : E.length = L.length := by rw [← hE, List.length_map]
 rw [hLn] at ho hlen h00
 have HLED := qd.mk (hLed.below HB1.out)
 have HHL := qd.mk hlen
 have HI := qd.mk (show qdf (L.length : Int) from by unfold qdf; omega)
 have hl100 := (qhx (qhh hchk).1).2.1
 have HO := qd.mk ho
 have H00 := qd.mk h00
 have HD := qd.mk hE
 have HRW := qd.mk hraw
 have d1 : (x.f0 != (L.length : Int) + 1) = false := by simpa using ho
 have d2 : decide ((0 : Int) < (L.length : Int)) = false := decide_eq_false (by omega)
 have d2' : decide (0 < L.length) = false := decide_eq_false (by omega)
 have d4 : decide ((4000 : Int) ≤ (L.length : Int)) = false := decide_eq_false (by omega)
 have d4' : decide (4000 ≤ L.length) = false := decide_eq_false (by omega)
 clear hC hT hk hc hLed hE hraw hchk hLn hlen ho h00
 have hp := (qj HLED.out.blk 0).trans rfl
 have hw1 : wrap64 ((L.length : Int) + 1) = (L.length : Int) + 1 := by have := HHL.out; unfold wrap64; omega
 go_enter Tryd.func20, Tryd.ntmps20
 go_upto_region 7 with (first | (go_at_call 47; refine (qda.calls k x.f0 x.f1 x.f2 x.f3 x.f4 x.f5 x.f6 x.f7 A c x.f8 (-1) 0 _ (Kd.qcd HC.out HB1.out) HLC.out HK.out (HT.out.below HB1.out)).mono ?_; rintro e w2 ⟨rfl, hb⟩; have HLED2 := qd.mk (HLED.out.below hb); have hln := HLED2.out.len 3; have hp2 : w2.cell? ⟨p, 0, none⟩ = some (.map (some m)) := (qj HLED2.out.blk 0).trans rfl; have hb2 := qcg HBX.out hb; have HBX2 := qd.mk hb2; have a0 : w2.cell? ⟨w.heap.size, 0, none⟩ = some (.int .i64 x.f0) := (qj hb2 0).trans rfl; have a2 : w2.cell? ⟨w.heap.size, 2, none⟩ = some (.int .i64 x.f2) := (qj hb2 2).trans rfl; clear hb2 hp))
 have HB2 := qd.mk (qch HB1.out HB1.out.size hb)
 clear hb
 go_big_quiet (fail)
 go_upto_region 11 with (fail)
 refine qdg (P := fun x => Code.wp _ _ _ _ x) _ ?_
 intro w3 hw3
 have HLED3 := qd.mk (show Led w3 base p m L from hw3 ▸ HLED2.out.below (qbm (Below.refl _ w2) nq))
 have HB3 := qd.mk (show Below w.heap.size w w3 from hw3 ▸ qbm HB2.out nq)
 obtain ⟨g0, hg0⟩ : ∃ g0, w.heap.size = g0 := ⟨_, rfl⟩
 have HG0 := qd.mk hg0
 have hbx3 : w3.heap[g0]? = some (.cells #[.int .i64 x.f0, .string x.f1, .int .i64 x.f2, .int .i64 x.f3, .int .i64 x.f4, .string x.f5, .string x.f6, .int .i64 x.f7, .slice A x.f8.length c] 29 (0, 0)) := by
  rw [hw3, ← hg0]
  exact qw HBX2.out nq
 try rw [hg0]
 have HBX3 := qd.mk hbx3
 have HQS := qd.mk (qhr hbx3)
 obtain ⟨r0, r1, r2, r3, r4, r5, r6, r7, r8⟩ := HQS.out w3 (Below.refl _ _)
 have HRC := qd.mk (raw_kept (w := w) x A c hl100 HC.out HLC.out HB3.out)
 clear hw3 hg0 hbx3 a0 a2 hp2
 obtain ⟨q0, q1, q2, q3, q4, q5, q6, q7, q8⟩ := HQS.out ((w3.alloc (.cells #[.int .i64 0, .string ⟨#[]⟩, .int .i64 0, .int .i64 0, .int .i64 0, .string ⟨#[]⟩, .string ⟨#[]⟩, .int .i64 0, .slice none 0 0, .slice none 0 0] 118)).drew) (qdl (qbj (Below.refl _ _) _))
 go_cut [8, 48, 49, 50, 51] (fun v8 _ _ _ _ wc => ∃ (g : Nat) (A5 : Option Addr) (c5 : Nat), v8 = .pointer (some ⟨g, 0, none⟩) ∧ qd (qmt w3 wc g #[.int .i64 x.f0, .string x.f1, .int .i64 x.f2, .int .i64 x.f3, .int .i64 x.f4, .string x.f5, .string x.f6, .int .i64 x.f7, .slice A x.f8.length c, .slice A5 (rawL x).length c5] (.slice A5 (rawL x).length c5) (rawL x)))
 case first =>
  go_region_law (first | (go_simp; go_at_call 51; (with_reducible refine (HRC.out _ ?hbl).mono ?_); (case hbl => repeat (first | (with_reducible exact Below.refl _ _) | apply qdl | refine qbj ?_ _)); rintro e_ w5 ⟨v5, rfl, hr5, hb5, hb6⟩; obtain ⟨A5, c5, rfl⟩ := Kd.qcp hr5; have HR5 := qd.mk hr5; have HB5 := qd.mk hb5; have HB6 := qd.mk hb6; obtain ⟨s0, s1, s2, s3, s4, s5, s6, s7, s8⟩ := HQS.out w5 hb5; obtain ⟨t0, t1, t2, t3, t4, t5, t6, t7, t8⟩ := HQS.out (w5.alloc (.cells #[.int .i64 0, .string ⟨#[]⟩, .int .i64 0, .int .i64 0, .int .i64 0, .string ⟨#[]⟩, .string ⟨#[]⟩, .int .i64 0, .slice none 0 0, .slice none 0 0] 118)) (qbj hb5 _); try (have hbz : w5.heap[w3.heap.size]? = some (.cells #[.int .i64 0, .string ⟨#[]⟩, .int .i64 0, .int .i64 0, .int .i64 0, .string ⟨#[]⟩, .string ⟨#[]⟩, .int .i64 0, .slice none 0 0, .slice none 0 0] 118 (0, 0)) := qcg (by first | exact qdr _ _ | exact qz (qdr _ _)) hb6; have z0 : w5.cell? ⟨w3.heap.size, 0, none⟩ = some (.int .i64 0) := (qj hbz 0).trans rfl; have f0 := qbq hbz 0; have z1 : w5.cell? ⟨w3.heap.size, 1, none⟩ = some (.string ⟨#[]⟩) := (qj hbz 1).trans rfl; have f1 := qbq hbz 1; have z2 : w5.cell? ⟨w3.heap.size, 2, none⟩ = some (.int .i64 0) := (qj hbz 2).trans rfl; have f2 := qbq hbz 2; have z3 : w5.cell? ⟨w3.heap.size, 3, none⟩ = some (.int .i64 0) := (qj hbz 3).trans rfl; have f3 := qbq hbz 3; have z4 : w5.cell? ⟨w3.heap.size, 4, none⟩ = some (.int .i64 0) := (qj hbz 4).trans rfl; have f4 := qbq hbz 4; have z5 : w5.cell? ⟨w3.heap.size, 5, none⟩ = some (.string ⟨#[]⟩) := (qj hbz 5).trans rfl; have f5 := qbq hbz 5; have z6 : w5.cell? ⟨w3.heap.size, 6, none⟩ = some (.string ⟨#[]⟩) := (qj hbz 6).trans rfl; have f6 := qbq hbz 6; have z7 : w5.cell? ⟨w3.heap.size, 7, none⟩ = some (.int .i64 0) := (qj hbz 7).trans rfl; have f7 := qbq hbz 7; have z8 : w5.cell? ⟨w3.heap.size, 8, none⟩ = some (.slice none 0 0) := (qj hbz 8).trans rfl; have f8 := qbq hbz 8; have z9 : w5.cell? ⟨w3.heap.size, 9, none⟩ = some (.slice none 0 0) := (qj hbz 9).trans rfl; have f9 := qbq hbz 9; have HBZ := qd.mk hbz; clear hbz); clear hr5 hb5 hb6))
  all_goals
   go_wp2_with fail
   go_meet
  all_goals
   case rel =>
    first
    | (with_reducible exact ⟨w3.heap.size, A5, c5, rfl, ⟨kp_ten HBZ.out HR5.out HB5.out (Nat.le_refl _)⟩⟩)
    | exact ⟨w5.heap.size, A5, c5, rfl, ⟨kp_new HR5.out HB5.out⟩⟩
 obtain ⟨g, A5, c5, rfl, HKP⟩ := hcut
 have c8 : wc.cell? ⟨g, 8, none⟩ = some (.slice A x.f8.length c) := (qj HKP.out.blk 8).trans rfl
 have f8 := qbq HKP.out.blk 8
 go_upto_region 13 with (fail)
 refine qdg (P := fun x => Code.wp _ _ _ _ x) _ ?_
 intro w6 hw6
 have HK6 := qd.mk (show qmt w3 w6 g #[.int .i64 x.f0, .string x.f1, .int .i64 x.f2, .int .i64 x.f3, .int .i64 x.f4, .string x.f5, .string x.f6, .int .i64 x.f7, .slice none 0 0, .slice A5 (rawL x).length c5] (.slice A5 (rawL x).length c5) (rawL x) from hw6 ▸ HKP.out.set 8 _ rfl)
 clear hw6 HKP c8 f8
 have hrow : Kd.R k112 112 w6 base (fun _ => True) (.slice A5 (rawL x).length c5) (rawL x) := Kd.qel HK6.out.row (by have := HLED3.out.ltm; have := HLED3.out.lowm; omega)
 have HLED6 := qd.mk ((HLED3.out.below HK6.out.bel).below (qdl (Below.refl _ w6)))
 obtain ⟨w7, hup, hLed7, hg7⟩ := HLED6.out.put (c := ⟨x, rawL x, .slice A5 (rawL x).length c5⟩) (by have := HHL.out; omega) (Kd.qee hrow (qdl (Below.refl _ w6)))
 have HL7 := qd.mk hLed7
 have HG7 := qd.mk hg7
 clear hLed7 hg7 hrow
 unfold pstV at hup
 rw [← HO.out] at hup
 obtain ⟨q0, q1, q2, q3, q4, q5, q6, q7, q8⟩ := HQS.out w6 HK6.out.bel
 clear q1 q2 q3 q4 q5 q6 q7 q8
 have e0 : w6.cell? ⟨g, 0, none⟩ = some (.int .i64 x.f0) := (qj HK6.out.blk 0).trans rfl
 have e1 : w6.cell? ⟨g, 1, none⟩ = some (.string x.f1) := (qj HK6.out.blk 1).trans rfl
 have e2 : w6.cell? ⟨g, 2, none⟩ = some (.int .i64 x.f2) := (qj HK6.out.blk 2).trans rfl
 have e3 : w6.cell? ⟨g, 3, none⟩ = some (.int .i64 x.f3) := (qj HK6.out.blk 3).trans rfl
 have e4 : w6.cell? ⟨g, 4, none⟩ = some (.int .i64 x.f4) := (qj HK6.out.blk 4).trans rfl
 have e5 : w6.cell? ⟨g, 5, none⟩ = some (.string x.f5) := (qj HK6.out.blk 5).trans rfl
 have e6 : w6.cell? ⟨g, 6, none⟩ = some (.string x.f6) := (qj HK6.out.blk 6).trans rfl
 have e7 : w6.cell? ⟨g, 7, none⟩ = some (.int .i64 x.f7) := (qj HK6.out.blk 7).trans rfl
 have e8 : w6.cell? ⟨g, 8, none⟩ = some (.slice none 0 0) := (qj HK6.out.blk 8).trans rfl
 have e9 : w6.cell? ⟨g, 9, none⟩ = some (.slice A5 (rawL x).length c5) := (qj HK6.out.blk 9).trans rfl
 have ep : w6.cell? ⟨p, 0, none⟩ = some (.map (some m)) := (qj HLED6.out.blk 0).trans rfl
 go_still_tail 7, (by kernel_rfl)
 change wpList _ _ _ _ _ w6.drew
 go_wp2
 go_ret
 refine ⟨rfl, ⟨_, HL7.out, ?_, fun d' hd' => ?_⟩, ?_⟩
 ·rw [List.map_append, HD.out]
  rfl
 ·rcases List.mem_append.1 hd' with hd' | hd'
  ·exact HRW.out d' hd'
  ·rw [List.mem_singleton] at hd'
   subst hd'
   rfl
 ·have hb6 : Below w.heap.size w w6.drew := qdl (qch HB3.out HB3.out.size HK6.out.bel)
  exact (But.of_below hb6 _).trans (But.qiu HG7.out (fun k hk => (Option.some.inj hk).symm))
def qmh (w : World) (base p m : Nat) (E : List S29) (x : S29) (e : Ending) (w' : World) : Prop := e = .returned (.int .i64 (postC E x)) ∧ LedE w' base p m (qjb E x) ∧ But (fun k => k = m) w w'
theorem qmh.same {w w' : World} {base p m : Nat} {E : List S29} {x : S29} {e : Ending} {r : Int} (hL : LedE w base p m E) (hr : postC E x = r) (h0 : r ≠ 0) (he : e = .returned (.int .i64 r)) (hb : Below w.heap.size w w') : qmh w base p m E x e w' := by
 refine ⟨by rw [hr]; exact he, ?_, But.of_below hb _⟩
 unfold qjb
 rw [if_neg (by rw [hr]; exact h0)]
 exact hL.below hb
theorem qmh.more {w w' : World} {base p m : Nat} {E : List S29} {x : S29} {e : Ending} (hr : postC E x = 0) (he : e = .returned (.int .i64 0)) (hL : LedE w' base p m (E ++ [x])) (hb : But (fun k => k = m) w w') : qmh w base p m E x e w' := by
 refine ⟨by rw [hr]; exact he, ?_, hb⟩
 unfold qjb
 rw [if_pos hr]
 exact hL
theorem post_calls {base p m : Nat} {E : List S29} (x : S29) (A : Option Addr) (c : Nat) (w : World) (hL : LedE w base p m E) (hC : Kd.C k109 w A x.f8.length x.f8) (hc : x.f8.length ≤ c) (hT : Tab w) (hf : FitE x) (hlen : E.length ≤ 100000) :
  Calls Tryd.prog 20 #[.pointer (some ⟨p, 0, none⟩), enV x A c] w fun e w' => qmh w base p m E x e w' := by
 by_cases h1 : (chkE x).2 = 0
 rotate_left
 ·have hpc : postC E x = (chkE x).2 := by
   unfold postC
   rw [if_pos h1]
  refine (post_bad x A c w hC hc hT hf h1).mono ?_
  rintro e w' ⟨he, hb⟩
  exact qmh.same hL hpc h1 he hb
 by_cases h2 : x.f0 = (E.length : Int) + 1
 rotate_left
 ·have hpc : postC E x = 17 := by
   unfold postC
   rw [if_neg (by omega), if_pos (.inl h2)]
  refine (post_order x A c w hL hC hc hT hf h1 hlen h2).mono ?_
  rintro e w' ⟨he, hb⟩
  exact qmh.same hL hpc (by decide) he hb
 cases hy : E.getLast? with
 | none =>
  have h00 : E.length = 0 := by
   rw [List.getLast?_eq_none_iff] at hy
   rw [hy]; rfl
  have hpc : postC E x = 0 := by
   unfold postC ahead
   rw [hy, if_neg (by omega), if_neg (by simp [h2]), if_neg (by omega)]
  refine (post_put0 x A c w hL hC hc hT hf h1 hlen h2 h00).mono ?_
  rintro e w' ⟨he, h3, h4⟩
  exact qmh.more hpc he h3 h4
 | some y =>
  by_cases h3 : x.f2 < y.f2
  ·have hpc : postC E x = 17 := by
    unfold postC ahead
    rw [hy, if_neg (by omega), if_pos (.inr (by simp [h3]))]
   refine (post_order2 x y A c w hL hC hc hT hf h1 hlen h2 hy h3).mono ?_
   rintro e w' ⟨he, hb⟩
   exact qmh.same hL hpc (by decide) he hb
  by_cases h4 : 4000 ≤ E.length
  ·have hpc : postC E x = 9 := by
    unfold postC ahead
    rw [hy, if_neg (by omega), if_neg (by simp [h2, h3]), if_pos h4]
   refine (post_many x y A c w hL hC hc hT hf h1 hlen h2 hy h3 h4).mono ?_
   rintro e w' ⟨he, hb⟩
   exact qmh.same hL hpc (by decide) he hb
  have hpc : postC E x = 0 := by
   unfold postC ahead
   rw [hy, if_neg (by omega), if_neg (by simp [h2, h3]), if_neg (by omega)]
  refine (post_putn x y A c w hL hC hc hT hf h1 hlen h2 hy h3 h4).mono ?_
  rintro e w' ⟨he, h5, h6⟩
  exact qmh.more hpc he h5 h6
end Go.Proofs.YtppcjoaghlecmaaDoor.P
namespace Go.Proofs.YtppcjoaghlecmaaDoor.P
open Go.RowKit Go.Sort Go.Proofs.YtppcjoaghlecmaaDoorW.PrintWords Go.Proofs.YtppcjoaghlecmaaDoorW.PrintLast Go.Proofs.YtppcjoaghlecmaaDoorW.PrintMore Go.Maps Go.ChangeShapes Go.WideShapes Go.WideMaps Go.Shelf
set_option linter.unusedVariables false
set_option linter.unusedSimpArgs false
section
structure Qy where
 e : ByteArray
 a : Int
 z : Int
 b : Int
def qyV (q : Qy) : Value := .agg #[.string q.e, .int .i64 q.a, .int .i64 q.z, .int .i64 q.b]
def qyO (q : Qy) : Obj := .cells #[.string q.e, .int .i64 q.a, .int .i64 q.z, .int .i64 q.b] 24 (0, 0)
def selB (q : Qy) (x : S29) : Bool := (q.e.toList == [] || q.e.toList == x.f1.toList) && decide (q.a ≤ x.f3) && decide (x.f3 ≤ q.z) && decide (x.f2 ≤ q.b)
attribute [local go_sem] Oper.semAt_some
set_option maxHeartbeats 1000000 in
theorem selector_in (F : Fence) (n : Nat) (h56 : F.fn 56) (hro : F.round = none) (q : Qy) (w : World) :
  CallsIn F n Tryd.prog 56 #[qyV q] w fun e w' => e = .returned (.func (.func 106) #[] #[.pointer (some ⟨w.heap.size, 0, none⟩)]) ∧ w' = w.alloc (qyO q) := by
 unfold qyV qyO
 refine callsIn_of_wp Tryd.func56 rfl h56 ?_ hro
 simp only [Tryd.ntmps56, List.size_toArray, List.length_cons, List.length_nil, Nat.reduceAdd, Nat.reduceSub, Array.replicate_succ, Array.replicate_zero, List.push_toArray, List.append_toArray, List.nil_append, List.cons_append]
 gi_wp2
 go_ret
 exact ⟨rfl, rfl⟩
set_option maxHeartbeats 4000000 in
theorem selects_in (F : Fence) (n : Nat) (h106 : F.fn 106) (hro : F.round = none) (q : Qy) (x : S29) (l : Value) (g : Nat) (w : World) (hg : w.heap[g]? = some (qyO q)) :
  CallsIn F n Tryd.prog 106 #[hdV x l, .pointer (some ⟨g, 0, none⟩)] w fun e w' => e = .returned (.bool (selB q x)) ∧ w' = w.alloc (.cells #[.int .i64 x.f0, .string x.f1, .int .i64 x.f2, .int .i64 x.f3, .int .i64 x.f4, .string x.f5, .string x.f6, .int .i64 x.f7, l] 29) := by
 unfold hdV
 unfold qyO at hg
 have hg1 := qm hg (.cells #[.int .i64 x.f0, .string x.f1, .int .i64 x.f2, .int .i64 x.f3, .int .i64 x.f4, .string x.f5, .string x.f6, .int .i64 x.f7, l] 29)
 have c0 := (qj hg1 0).trans rfl
 have c1 := (qj hg1 1).trans rfl
 have c2 := (qj hg1 2).trans rfl
 have c3 := (qj hg1 3).trans rfl
 clear hg hg1
 unfold selB
 refine callsIn_of_wp Tryd.func106 rfl h106 ?_ hro
 simp only [Tryd.ntmps106, List.size_toArray, List.length_cons, List.length_nil, Nat.reduceAdd, Nat.reduceSub, Array.replicate_succ, Array.replicate_zero, List.push_toArray, List.append_toArray, List.nil_append, List.cons_append]
 cases e1 : (q.e.toList == []) <;> cases e2 : (q.e.toList == x.f1.toList) <;> cases e3 : decide (q.a ≤ x.f3) <;> cases e4 : decide (x.f3 ≤ q.z) <;> cases e5 : decide (x.f2 ≤ q.b)
 all_goals (gi_wp2)
 all_goals (go_ret; exact ⟨rfl, rfl⟩)
theorem llen_in_nil (F : Fence) (n : Nat) (h23 : F.fn 23) (hro : F.round = none) (w : World) : CallsIn F n Tryd.prog 23 #[.pointer none] w fun e w' => e = .returned (.int .i64 0) ∧ w' = w := by
 refine callsIn_of_wp Tryd.func23 rfl h23 ?_ hro
 simp only [Tryd.ntmps23, List.size_toArray, List.length_cons, List.length_nil, Nat.reduceAdd, Nat.reduceSub, Array.replicate_succ, Array.replicate_zero, List.push_toArray, List.append_toArray, List.nil_append, List.cons_append]
 gi_wp2
 go_ret
 exact ⟨rfl, rfl⟩
theorem llen_in (F : Fence) (n : Nat) (h23 : F.fn 23) (hro : F.round = none) {w : World} {base p m : Nat} {L : List Pst} (h : Led w base p m L) : CallsIn F n Tryd.prog 23 #[.pointer (some ⟨p, 0, none⟩)] w fun e w' => e = .returned (.int .i64 L.length) ∧ w' = w := by
 have hl := h.len 3
 have hc := (qj h.blk 0).trans rfl
 refine callsIn_of_wp Tryd.func23 rfl h23 ?_ hro
 simp only [Tryd.ntmps23, List.size_toArray, List.length_cons, List.length_nil, Nat.reduceAdd, Nat.reduceSub, Array.replicate_succ, Array.replicate_zero, List.push_toArray, List.append_toArray, List.nil_append, List.cons_append]
 gi_wp2
 go_ret
 exact ⟨rfl, rfl⟩
end
section
theorem qhb (P : Program) (w : World) (a : Addr) (m : Mode) (f : Fn) (x y : Array Value) : (store a (.func f x y) m).run P w = stored P w a (.func f x y) m := run_store P w a _ m rfl
attribute [local go_sem] Oper.semAt_some qhb
set_option maxHeartbeats 1000000 in
theorem qlg (F : Fence) (n : Nat) (h50 : F.fn 50) (h56 : F.fn 56) (hro : F.round = none) (hn : 1 ≤ n) (v : Option Addr) (q : Qy) (w : World) :
  CallsIn F n Tryd.prog 50 #[.pointer v, qyV q] w fun e w' => e = .returned (.func (.func 97) #[] #[.pointer (some ⟨w.heap.size, 0, none⟩), .pointer (some ⟨w.heap.size + 3, 0, none⟩)]) ∧
   w'.heap[w.heap.size]? = some (.cells #[.pointer v] 30 (0, 0)) ∧ w'.heap[w.heap.size + 2]? = some (qyO q) ∧ w'.heap[w.heap.size + 3]? = some (.cells #[.func (.func 106) #[] #[.pointer (some ⟨w.heap.size + 2, 0, none⟩)]] 49 (0, 0)) ∧
   Below w.heap.size w w' ∧ w'.heap.size = w.heap.size + 4 := by
 have hs := selector_in F (n - 1) h56 hro q
 unfold qyV at hs ⊢
 refine callsIn_of_wp Tryd.func50 rfl h50 ?_ hro
 simp only [Tryd.ntmps50, List.size_toArray, List.length_cons, List.length_nil, Nat.reduceAdd, Nat.reduceSub, Array.replicate_succ, Array.replicate_zero, List.push_toArray, List.append_toArray, List.nil_append, List.cons_append]
 gi_wp2_with (gi_at_call 56; refine (hs _).mono ?_; rintro e w3 ⟨rfl, hw3⟩; have HK := qd.mk hw3; clear hw3)
 go_ret
 have hw3 := HK.out
 have hz : w3.heap.size = w.heap.size + 3 := by rw [hw3]; simp
 have b0 : w3.heap[w.heap.size]? = some (.cells #[.pointer v] 30 (0, 0)) := by
  rw [hw3]
  exact qm (qm (qdr w (.cells #[.pointer v] 30)) _) _
 have b2 : w3.heap[w.heap.size + 2]? = some (qyO q) := by
  have e : (((w.alloc (.cells #[.pointer v] 30)).alloc (qyO q))).heap.size = w.heap.size + 2 := by simp
  rw [hw3, ← e]
  exact qdr _ _
 have hB : Below w.heap.size w w3 := by
  rw [hw3]
  exact qbj (qbj (qbj (Below.refl _ _) _) _) _
 refine ⟨by simp [hz], ?_, ?_, ?_, ?_, ?_⟩
 ·exact qm b0 _
 ·exact qm b2 _
 ·rw [← hz]
  exact qdr _ _
 ·exact qbj hB _
 ·rw [World.size_alloc, hz]
end
section
attribute [local go_sem] Oper.semAt_some qhb
def LedO (w : World) (base : Nat) (g : Option Addr) (L : List Pst) : Prop := (g = none ∧ L = []) ∨ ∃ p m, g = some ⟨p, 0, none⟩ ∧ Led w base p m L
theorem LedO.below {w w' : World} {base : Nat} {g : Option Addr} {L : List Pst} (h : LedO w base g L) (hb : Below w.heap.size w w') : LedO w' base g L := by
 rcases h with h | ⟨p, m, e, h⟩
 ·exact .inl h
 ·exact .inr ⟨p, m, e, h.below hb⟩
theorem LedO.len {w : World} {base : Nat} {g : Option Addr} {L : List Pst} (h : LedO w base g L) (F : Fence) (n : Nat) (h23 : F.fn 23) (hro : F.round = none) : CallsIn F n Tryd.prog 23 #[.pointer g] w fun e w' => e = .returned (.int .i64 L.length) ∧ w' = w := by
 rcases h with ⟨rfl, rfl⟩ | ⟨p, m, rfl, h⟩
 ·exact llen_in_nil F n h23 hro w
 ·exact llen_in F n h23 hro h
def qkg (n₀ Bg Bf Bq : Nat) (W W' : World) : Prop := Below n₀ W W' ∧ W'.heap[Bg]? = W.heap[Bg]? ∧ W'.heap[Bf]? = W.heap[Bf]? ∧ W'.heap[Bq]? = W.heap[Bq]?
theorem qkg.refl (n₀ Bg Bf Bq : Nat) (W : World) : qkg n₀ Bg Bf Bq W W := ⟨Below.refl _ _, rfl, rfl, rfl⟩
theorem qkg.t {n₀ Bg Bf Bq : Nat} {A B C : World} (h : qkg n₀ Bg Bf Bq A B) (k : qkg n₀ Bg Bf Bq B C) : qkg n₀ Bg Bf Bq A C := ⟨h.1.trans k.1, k.2.1.trans h.2.1, k.2.2.1.trans h.2.2.1, k.2.2.2.trans h.2.2.2⟩
def qec (q : Qy) (c : Pst) : Bool := selB q c.h
def pstO (c : Pst) : Obj := .cells #[.int .i64 c.h.f0, .string c.h.f1, .int .i64 c.h.f2, .int .i64 c.h.f3, .int .i64 c.h.f4, .string c.h.f5, .string c.h.f6, .int .i64 c.h.f7, .slice none 0 0, c.v] 118 (0, 0)
set_option maxRecDepth 100000 in
set_option maxHeartbeats 4000000 in
theorem sel_iter_in (F : Fence) (n : Nat) (h97 : F.fn 97) (h23 : F.fn 23) (h106 : F.fn 106) (hro : F.round = none) (hn : 2 ≤ n) (l Bg Bf Bq base : Nat) (q : Qy) (g : Option Addr) {α : Type} (val : α → Pst) (T : List α) (L : List Pst) (hT : T.map val = L) (hlen : L.length ≤ 1000000) (w : World) (hL : LedO w base g L) (J Jx : List α → World → Prop)
  (hY : ∀ pre x W, J pre W → pre.length < L.length → YieldAt F (n - 1) Tryd.prog l #[pstV (val x).h (val x).v] W fun e W' =>
   (e = .returned (.bool true) ∧ J (pre ++ [x]) W' ∧ qkg w.heap.size Bg Bf Bq W W') ∨ (e = .returned (.bool false) ∧ Jx (pre ++ [x]) W'))
  (W : World) (hJ : AbidesFrom W.heap.size J) (hB : Below w.heap.size w W) (hlg : Bg < W.heap.size) (hlf : Bf < W.heap.size) (hlq : Bq < W.heap.size)
  (hBg : Boxed W Bg 30 (.pointer g)) (hBf : Boxed W Bf 49 (.func (.func 106) #[] #[.pointer (some ⟨Bq, 0, none⟩)])) (hBq : W.heap[Bq]? = some (qyO q)) (h0 : J [] W) :
  CallsIn F n Tryd.prog 97 #[.func (.yield l) #[] #[], .pointer (some ⟨Bg, 0, none⟩), .pointer (some ⟨Bf, 0, none⟩)] W fun e W' => (∃ v, e = .returned v) ∧
   ((∃ ys, ys = T.filter (fun x => qec q (val x)) ∧ J ys W') ∨ (∃ pre, True ∧ Jx pre W')) := by
 have h1 : 1 ≤ n := by omega
 have hTl : T.length = L.length := by rw [← hT, List.length_map]
 refine callsIn_of_wp Tryd.func97 rfl h97 ?_ hro
 simp only [Tryd.ntmps97, List.size_toArray, List.length_cons, List.length_nil, Nat.reduceAdd, Nat.reduceSub, Array.replicate_succ, Array.replicate_zero, List.push_toArray, List.append_toArray, List.nil_append, List.cons_append]
 gi_wp2
 gi_loopw [4] (fun i wr => ∃ k : Nat, k ≤ L.length ∧ i = .int .i64 ((k : Int) + 1) ∧ J ((T.take k).filter (fun x => qec q (val x))) wr ∧ AbidesFrom W.heap.size J ∧ qkg w.heap.size Bg Bf Bq W wr)
  (fun i _ => L.length + 1 - (intOf i).toNat)
 case atStart => exact ⟨0, Nat.zero_le _, rfl, by simpa using h0, hJ, qkg.refl _ _ _ _ _⟩
 obtain ⟨k, hk, rfl, hJs, hJA, hK⟩ := hrel
 have bG : Boxed wr Bg 30 (.pointer g) := hK.2.1.trans hBg
 have cG := bG.cell
 have hLw := hL.below (hB.trans hK.1)
 have hln := hLw.len F (n - 1) h23 hro
 by_cases hlt : k < L.length
 rotate_left
 ·obtain rfl : k = L.length := by omega
  have d1 : decide ((L.length : Int) + 1 ≤ (L.length : Int)) = false := decide_eq_false (by omega)
  gi_wp2_with (gi_at_call 23; refine hln.mono ?_; rintro e w' ⟨rfl, rfl⟩)
  go_end0
  exact ⟨⟨_, rfl⟩, .inl ⟨_, rfl, by rw [← hTl, List.take_length] at hJs; exact hJs⟩⟩
 obtain ⟨x0, hx0⟩ : ∃ x0, T[k]? = some x0 := ⟨_, List.getElem?_eq_getElem (by omega)⟩
 obtain ⟨c, hcx⟩ : ∃ c, val x0 = c := ⟨_, rfl⟩
 have hc : L[k]? = some c := by rw [← hT, List.getElem?_map, hx0, ← hcx]; rfl
 rcases hL with ⟨_, hnil⟩ | ⟨p, m, rfl, hled⟩
 ·rw [hnil] at hlt; exact absurd hlt (by simp)
 have hw := hled.below (hB.trans hK.1)
 obtain ⟨A, cp, hv⟩ := Kd.qcp (hw.row c (List.mem_of_getElem? hc))
 have hlk := hw.look (j := (k : Int) + 1) (by unfold qdf; omega)
 rw [valL_at hc, hv] at hlk
 unfold pstV at hlk
 have cP := (qj hw.blk 0).trans rfl
 have d1 : decide ((k : Int) + 1 ≤ (L.length : Int)) = true := decide_eq_true (by omega)
 have d2 : decide (k + 1 ≤ L.length) = true := decide_eq_true (by omega)
 have d3 : decide (k < L.length) = true := decide_eq_true hlt
 have bF : Boxed wr Bf 49 (.func (.func 106) #[] #[.pointer (some ⟨Bq, 0, none⟩)]) := hK.2.2.1.trans hBf
 have bQ : wr.heap[Bq]? = some (qyO q) := hK.2.2.2.trans hBq
 have hpo : pstO c = .cells #[.int .i64 c.h.f0, .string c.h.f1, .int .i64 c.h.f2, .int .i64 c.h.f3, .int .i64 c.h.f4, .string c.h.f5, .string c.h.f6, .int .i64 c.h.f7, .slice none 0 0, .slice A c.C.length cp] 118 (0, 0) := by unfold pstO; rw [hv]
 obtain ⟨Wa, hWa⟩ : ∃ Wa, wr.alloc (.cells #[.int .i64 c.h.f0, .string c.h.f1, .int .i64 c.h.f2, .int .i64 c.h.f3, .int .i64 c.h.f4, .string c.h.f5, .string c.h.f6, .int .i64 c.h.f7, .slice none 0 0, .slice A c.C.length cp] 118) = Wa := ⟨_, rfl⟩
 have hg : wr.grownBy Wa none := by rw [← hWa]; exact World.grownBy_alloc wr _ none
 have bFa : Boxed Wa Bf 49 (.func (.func 106) #[] #[.pointer (some ⟨Bq, 0, none⟩)]) := by rw [← hWa]; exact bF.alloc _
 have bQa : Wa.heap[Bq]? = some (qyO q) := by rw [← hWa]; exact qm bQ _
 have bTa : Wa.heap[wr.heap.size]? = some (.cells #[.int .i64 c.h.f0, .string c.h.f1, .int .i64 c.h.f2, .int .i64 c.h.f3, .int .i64 c.h.f4, .string c.h.f5, .string c.h.f6, .int .i64 c.h.f7, .slice none 0 0, .slice A c.C.length cp] 118 (0, 0)) := by rw [← hWa]; exact World.alloc_heap_new wr _
 have cF := bFa.cell
 have hs := selects_in F (n - 1) h106 hro q c.h (.slice none 0 0) Bq Wa bQa
 unfold hdV at hs
 obtain ⟨Wb, hWb⟩ : ∃ Wb, Wa.alloc (.cells #[.int .i64 c.h.f0, .string c.h.f1, .int .i64 c.h.f2, .int .i64 c.h.f3, .int .i64 c.h.f4, .string c.h.f5, .string c.h.f6, .int .i64 c.h.f7, .slice none 0 0] 29) = Wb := ⟨_, rfl⟩
 rw [hWb] at hs
 have hgb : Wa.grownBy Wb none := by rw [← hWb]; exact World.grownBy_alloc Wa _ none
 have bTb : Wb.heap[wr.heap.size]? = some (.cells #[.int .i64 c.h.f0, .string c.h.f1, .int .i64 c.h.f2, .int .i64 c.h.f3, .int .i64 c.h.f4, .string c.h.f5, .string c.h.f6, .int .i64 c.h.f7, .slice none 0 0, .slice A c.C.length cp] 118 (0, 0)) := by rw [← hWb]; exact qm bTa _
 have a0 := (qj bTa 0).trans rfl
 have a1 := (qj bTa 1).trans rfl
 have a2 := (qj bTa 2).trans rfl
 have a3 := (qj bTa 3).trans rfl
 have a4 := (qj bTa 4).trans rfl
 have a5 := (qj bTa 5).trans rfl
 have a6 := (qj bTa 6).trans rfl
 have a7 := (qj bTa 7).trans rfl
 have a8 := (qj bTa 8).trans rfl
 have b0 := (qj bTb 0).trans rfl
 have b1 := (qj bTb 1).trans rfl
 have b2 := (qj bTb 2).trans rfl
 have b3 := (qj bTb 3).trans rfl
 have b4 := (qj bTb 4).trans rfl
 have b5 := (qj bTb 5).trans rfl
 have b6 := (qj bTb 6).trans rfl
 have b7 := (qj bTb 7).trans rfl
 have b8 := (qj bTb 8).trans rfl
 have b9 := (qj bTb 9).trans rfl
 have hJb : J ((T.take k).filter (fun x => qec q (val x))) Wb := hJA _ _ _ none (hJA _ _ _ none hJs hg (fun r e => by cases e)) hgb (fun r e => by cases e)
 have hsz : wr.heap.size < Wa.heap.size := by rw [← hWa]; simp
 have hKb : qkg w.heap.size Bg Bf Bq wr Wb :=
  ⟨((Below.refl w.heap.size wr).grown hg (by have := (hB.trans hK.1).size; omega) (fun k e => by cases e)).grown hgb (by have := (hB.trans hK.1).size; omega) (fun k e => by cases e),
   (hgb.block Bg (by have := bG.lt; omega) (by simp)).trans (hg.block Bg bG.lt (by simp)), (hgb.block Bf (by have := bF.lt; omega) (by simp)).trans (hg.block Bf bF.lt (by simp)), (hgb.block Bq (by have := qen bQ; omega) (by simp)).trans (hg.block Bq (qen bQ) (by simp))⟩
 have hlf : ((T.take k).filter (fun x => qec q (val x))).length < L.length := by
  have := List.length_filter_le (fun x => qec q (val x)) (T.take k)
  rw [List.length_take] at this
  omega
 have htk : T.take (k + 1) = T.take k ++ [x0] := by
  rw [List.take_add_one, hx0]; rfl
 cases hq : selB q c.h
 ·have hf : (T.take (k + 1)).filter (fun x => qec q (val x)) = (T.take k).filter (fun x => qec q (val x)) := by
   rw [htk, List.filter_append]; simp [qec, hcx, hq]
  rw [hq] at hs
  clear bTa bTb hgb hg bF bQ bFa bQa hw hpo
  gi_wp2_with (first | (gi_at_call 23; refine hln.mono ?_; rintro e w' ⟨rfl, rfl⟩) | (gi_at_call 106; refine hs.mono ?_; rintro e w' ⟨rfl, rfl⟩))
  refine ⟨fun f hf' => (by cases hf'), ?_⟩
  gi_wp2
  go_roundw
  case rel => exact ⟨k + 1, by omega, by simp, by rw [hf]; exact hJb, hJA, hK.t hKb⟩
  case measure => simp [intOf]; omega
 ·have hf : (T.take (k + 1)).filter (fun x => qec q (val x)) = (T.take k).filter (fun x => qec q (val x)) ++ [x0] := by
   rw [htk, List.filter_append]; simp [qec, hcx, hq]
  rw [hq] at hs
  obtain ⟨fn, tmps, assign, body, hy, hR⟩ := hY _ x0 _ hJb hlf
  rw [hcx] at hy
  unfold pstV at hy
  rw [hv] at hy
  clear bTa bTb hgb hg bF bQ bFa bQa hw hpo
  gi_wp2_with (first | (gi_at_call 23; refine hln.mono ?_; rintro e w' ⟨rfl, rfl⟩) | (gi_at_call 106; refine hs.mono ?_; rintro e w' ⟨rfl, rfl⟩))
  refine hR.mono ?_
  rintro e W3 (⟨rfl, hJ3, hk3⟩ | ⟨rfl, hJx3⟩)
  ·gi_wp2
   go_roundw
   case rel => exact ⟨k + 1, by omega, by simp, by rw [hf]; exact hJ3, hJA, (hK.t hKb).t hk3⟩
   case measure => simp [intOf]; omega
  ·gi_wp2
   refine bodyPost_ret (results_none rfl _ _ _) rfl ?_
   exact ⟨⟨_, rfl⟩, .inr ⟨_, trivial, hJx3⟩⟩
theorem sel_stops (F : Fence) (n : Nat) (h97 : F.fn 97) (h23 : F.fn 23) (h106 : F.fn 106) (hro : F.round = none) (hn : 2 ≤ n) (Bg Bf Bq base : Nat) (q : Qy) (g : Option Addr) {α : Type} (val : α → Pst) (T : List α) (L : List Pst) (hT : T.map val = L) (hlen : L.length ≤ 1000000) (w0 : World) (hL : LedO w0 base g L) (w : World) (hB : Below w0.heap.size w0 w)
  (hBg : Boxed w Bg 30 (.pointer g)) (hBf : Boxed w Bf 49 (.func (.func 106) #[] #[.pointer (some ⟨Bq, 0, none⟩)])) (hBq : w.heap[Bq]? = some (qyO q)) :
  SeqStopsK F n Tryd.prog 97 #[.pointer (some ⟨Bg, 0, none⟩), .pointer (some ⟨Bf, 0, none⟩)] (fun x : α => #[pstV (val x).h (val x).v]) (qkg w0.heap.size Bg Bf Bq) (fun ys => ys = T.filter (fun x => qec q (val x))) (fun _ => True) L.length w := fun l J Jx W hW hJ _ hY h0 => by
 have hBg' : Boxed W Bg 30 (.pointer g) := (hW.block Bg hBg.lt).trans hBg
 have hBf' : Boxed W Bf 49 (.func (.func 106) #[] #[.pointer (some ⟨Bq, 0, none⟩)]) := (hW.block Bf hBf.lt).trans hBf
 have hBq' : W.heap[Bq]? = some (qyO q) := (hW.block Bq (qen hBq)).trans hBq
 exact sel_iter_in F n h97 h23 h106 hro hn l Bg Bf Bq base q g val T L hT hlen w0 hL J Jx hY W hJ (hB.trans (hW.mono hB.size)) hBg'.lt hBf'.lt (qen hBq') hBg' hBf' hBq' h0
end
end Go.Proofs.YtppcjoaghlecmaaDoor.P
namespace Go.Proofs.YtppcjoaghlecmaaDoor.P
open Go.RowKit Go.Sort Go.Proofs.YtppcjoaghlecmaaDoorW.PrintWords Go.Proofs.YtppcjoaghlecmaaDoorW.PrintLast Go.Proofs.YtppcjoaghlecmaaDoorW.PrintMore
set_option linter.unusedVariables false
set_option linter.unusedSimpArgs false
def cellC (x : S112) : List Value := [.string x.f0.f0, .string x.f0.f1, .string x.f0.f2, .string x.f0.f3, .string x.f0.f4, .int .i64 x.f1, .int .i64 x.f2]
def qfz : List S112 → List Value
 | [] => []
 | x :: r => cellC x ++ qfz r
theorem qij (l : List S112) : (qfz l).length = l.length * 7 := by
 induction l with
 | nil => rfl
 | cons x r ih => simp only [qfz, List.length_append, List.length_cons, ih]; simp [cellC]; omega
theorem flatC_app (a b : List S112) : qfz (a ++ b) = qfz a ++ qfz b := by
 induction a with
 | nil => rfl
 | cons x r ih => simp [qfz, ih]
theorem flatC_one (l : List S112) : ∀ u ∈ qfz l, u.oneCell' = true := by
 induction l with
 | nil => simp [qfz]
 | cons x r ih =>
  intro u hu
  simp only [qfz, List.mem_append] at hu
  rcases hu with hu | hu
  ·simp only [cellC, List.mem_cons, List.not_mem_nil, or_false] at hu
   rcases hu with rfl | rfl | rfl | rfl | rfl | rfl | rfl <;> rfl
  ·exact ih u hu
theorem qnl : ∀ (l : List S112) (j : Nat), (qfz l).drop (j * 7) = qfz (l.drop j)
 | l, 0 => by simp
 | [], j + 1 => by simp [qfz]
 | x :: r, j + 1 => by
  rw [List.drop_succ_cons, ← qnl r j]
  simp only [qfz]
  rw [List.drop_append, show (cellC x).length = 7 from rfl, List.drop_eq_nil_of_le (by simp [cellC]; omega), show (j + 1) * 7 - 7 = j * 7 from by omega]
  simp
theorem reps_flatC (w : World) (base : Nat) (ok : Nat → Prop) (l : List S112) : Reps (k112.M w base ok) 7 l (qfz l) := by
 refine ⟨qij l, fun j p hj => ?_⟩
 have hlt : j < l.length := (List.getElem?_eq_some_iff.1 hj).1
 have hp : l[j] = p := (List.getElem?_eq_some_iff.1 hj).2
 rw [← Nat.mul_comm 7 j, Nat.mul_comm 7 j, qnl, List.drop_eq_getElem_cons hlt, hp]
 simp only [qfz]
 rw [List.take_append, show (cellC p).length = 7 from rfl, List.take_of_length_le (by simp [cellC])]
 simp
 exact qfr w base ok p
theorem R_flatC {w : World} {base n : Nat} {v : Value} {l : List S112} (hn : l.length = n) (h : w.ownsRow base 112 7 v n (qfz l)) : Kd.R k112 112 w base (fun _ => True) v l := by
 subst hn
 exact ⟨fun _ _ => trivial, qfz l, h, reps_flatC w base _ l⟩
theorem flatC_get : ∀ (l : List S112) (i t : Nat) (h : i < l.length), t < 7 → (qfz l)[i * 7 + t]? = (cellC l[i])[t]?
 | [], i, t, h, _ => by simp at h
 | x :: r, 0, t, h, ht => by
  simp only [qfz]
  rw [List.getElem?_append_left (by simp [cellC]; omega)]
  simp
 | x :: r, i + 1, t, h, ht => by
  simp only [qfz]
  rw [List.getElem?_append_right (by simp [cellC]; omega), show (i + 1) * 7 + t - (cellC x).length = i * 7 + t from by simp [cellC]; omega, flatC_get r i t (by simpa using h) ht]
  simp
theorem flat_src {w : World} {A : Option Addr} {l : List S112} (h : Kd.C k112 w A l.length l) : l = [] ∨ ∃ ad, A = some ad ∧ ∀ j u, (qfz l)[j]? = some u → w.cell? (ad.add j) = some u := by
 by_cases e : l = []
 ·exact .inl e
 have h0 : 0 < l.length := List.length_pos_iff.2 e
 obtain ⟨ad, c, hA, _⟩ := Kd.C_get h z112 0 (by omega) (by omega)
 refine .inr ⟨ad, hA, fun j u hj => ?_⟩
 have hj2 : j < l.length * 7 := by
  rw [← qij]
  exact (List.getElem?_eq_some_iff.1 hj).1
 have hi : j / 7 < l.length := by omega
 obtain ⟨ad2, c2, hA2, _, hK, hc⟩ := Kd.C_get h z112 ((j / 7 : Nat) : Int) (by omega) (by omega)
 rw [hA] at hA2
 obtain rfl := Option.some.inj hA2
 have hc' : ∀ t u, c2[t]? = some u → w.cell? (ad.add (((j / 7 : Nat) : Int).toNat * 7 + t)) = some u := hc
 obtain rfl := qih hK
 have hg := flatC_get l (j / 7) (j % 7) hi (by omega)
 rw [show j / 7 * 7 + j % 7 = j from by omega, hj] at hg
 have hx : l.getD ((j / 7 : Nat) : Int).toNat z112 = l[j / 7] := by rw [Int.toNat_natCast, List.getD_eq_getElem?_getD, List.getElem?_eq_getElem hi]; rfl
 have := hc' (j % 7) u (by rw [hx]; exact hg.symm)
 rw [Int.toNat_natCast, show j / 7 * 7 + j % 7 = j from by omega] at this
 exact this
end Go.Proofs.YtppcjoaghlecmaaDoor.P
namespace Go.Proofs.YtppcjoaghlecmaaDoor.P
open Go.RowKit Go.Sort Go.Proofs.YtppcjoaghlecmaaDoorW.PrintWords Go.Proofs.YtppcjoaghlecmaaDoorW.PrintLast Go.Proofs.YtppcjoaghlecmaaDoorW.PrintMore Go.Maps Go.ChangeShapes Go.WideShapes Go.WideMaps Go.Shelf
set_option linter.unusedVariables false
set_option linter.unusedSimpArgs false
section
attribute [local go_sem] Oper.semAt_some qhb
theorem qjc {β : Type} (B k : Nat) (cs : Array Value) (t : TypeId) : OwnFrom B (fun (_ : β) W => W.heap[k]? = some (.cells cs t (0, 0))) := by
 rintro _ W W' row h hg hr
 refine (hg.block k (Array.getElem?_eq_some_iff.1 h).1 ?_).trans h
 intro e
 obtain ⟨_, o, ho, hc⟩ := hr k e.symm
 rw [h] at ho; cases ho; cases hc
def AxS (ts : Nat → Array Value → Prop) (x : Pst) (a' : Act) (W : World) : Prop := ∃ B, ts B a'.tmps ∧ a'.defers = [] ∧ W.heap[B]? = some (pstO x)
theorem qlq (ts : Nat → Array Value → Prop) (B : Nat) (x : Pst) (a' : Act) : OwnFrom B (fun (_ : Unit) W => AxS ts x a' W) := by
 rintro _ W W' row ⟨b, h1, h2, h3⟩ hg hr
 refine ⟨b, h1, h2, (hg.block b (Array.getElem?_eq_some_iff.1 h3).1 ?_).trans h3⟩
 intro e
 obtain ⟨_, o, ho, hc⟩ := hr b e.symm
 rw [h3] at ho; cases ho; cases hc
theorem appended0 {W w1 : World} {n₀ B : Nat} {t e : TypeId} {size : Nat} {v v' : Value} {k m : Nat} {xs ys : List Value}
  (hv : Boxed W B t v) (hte : t ≠ e) (hrow : W.ownsRow n₀ e size v k xs) (hn₀ : n₀ ≤ W.heap.size) (hB : n₀ ≤ B)
  (hown' : w1.ownsRow n₀ e size v' m ys) (hgrow : W.grownBy w1 v.ownBlock) :
  Boxed w1 B t v ∧ Boxed (w1.setCell ⟨B, 0, none⟩ v') B t v' ∧ (w1.setCell ⟨B, 0, none⟩ v').ownsRow n₀ e size v' m ys ∧ KeepsOthers W (w1.setCell ⟨B, 0, none⟩ v') ∧ Below n₀ W (w1.setCell ⟨B, 0, none⟩ v') := by
 have hv1 : Boxed w1 B t v := hv.kept hgrow (hv.not_row hte hrow)
 refine ⟨hv1, hv1.set v', hown'.kept (grownBy_setCell' w1 B v') (.inr (hv1.not_row hte hown').symm), ?_, ?_⟩
 ·refine (KeepsOthers.of_grownBy hgrow fun j o ej hj => ?_).trans (KeepsOthers.setCell _ _ _)
  rcases hrow.2 with ⟨rfl, _⟩ | ⟨g, cap, cur, rfl, _, hgb, _⟩
  ·simp [Value.ownBlock] at ej
  ·obtain rfl : g = j := by simpa [Value.ownBlock] using ej
   rw [hgb] at hj; cases hj; rfl
 ·refine ((Below.refl n₀ W).grown hgrow hn₀ fun j ej => ?_).setCell (p := ⟨B, 0, none⟩) hB v'
  rcases hrow.2 with ⟨rfl, _⟩ | ⟨g, cap, cur, rfl, hb, _, _⟩
  ·simp [Value.ownBlock] at ej
  ·obtain rfl : g = j := by simpa [Value.ownBlock] using ej
   exact hb
def totS {L : List Pst} (pre : List {c // c ∈ L}) : List S112 := (pre.map (fun x => x.1.C)).flatten
theorem totS_app {L : List Pst} (pre : List {c // c ∈ L}) (x : {c // c ∈ L}) : totS (pre ++ [x]) = totS pre ++ x.1.C := by simp [totS]
theorem totS_len {L : List Pst} (hC : ∀ c ∈ L, c.C.length ≤ 1000) : ∀ pre : List {c // c ∈ L}, (totS pre).length ≤ pre.length * 1000
 | [] => by simp [totS]
 | x :: r => by
  have := totS_len hC r
  have h2 := hC x.1 x.2
  simp only [totS, List.map_cons, List.flatten_cons, List.length_append, List.length_cons] at this ⊢
  omega
theorem totS_filter {L : List Pst} (q : Qy) : totS (L.attach.filter (fun x => qec q x.1)) = ((L.filter (qec q)).map Pst.C).flatten := by
 have h : (L.attach.filter (fun x => qec q x.1)).map (fun x => x.1) = L.filter (qec q) := by
  have := (List.filter_map (p := qec q) (f := fun x : {c // c ∈ L} => x.1) (l := L.attach)).symm
  rw [List.attach_map_subtype_val] at this
  exact this
 unfold totS
 rw [← h, List.map_map]
 rfl
set_option maxRecDepth 100000 in
set_option maxHeartbeats 4000000 in
theorem lsheet_in (g : Option Addr) (q : Qy) (base : Nat) (L : List Pst) (w : World) (hL : LedO w base g L) (h1000 : L.length ≤ 1000) (hC : ∀ c ∈ L, c.C.length ≤ 1000) (hne : ∀ c ∈ L, c.C ≠ []) (all : List S112) (hall : all = ((L.filter (qec q)).map Pst.C).flatten) (hok : OkS all) :
  CallsIn Fence.wide 4 Tryd.prog 19 #[.pointer g, qyV q] w fun e w' => ∃ v, e = .returned (.tuple #[v, .int .i64 (ofK all).2]) ∧ Kd.R k112 112 w' w.heap.size (fun _ => True) v (ofK all).1 ∧ Below w.heap.size w w' := by
 obtain ⟨F, hF⟩ : ∃ F, F = Fence.wide := ⟨_, rfl⟩
 rw [← hF]
 have h19 : F.fn 19 := by rw [hF]; trivial
 have h50 : F.fn 50 := by rw [hF]; trivial
 have h56 : F.fn 56 := by rw [hF]; trivial
 have h97 : F.fn 97 := by rw [hF]; trivial
 have h23 : F.fn 23 := by rw [hF]; trivial
 have h106 : F.fn 106 := by rw [hF]; trivial
 have h31 : F.fn 31 := by rw [hF]; trivial
 have hro : F.round = none := by rw [hF]; rfl
 have hof : ∀ (A0 : Option Addr) (c0 : Nat) (W : World), Kd.C k112 W A0 all.length all → all.length ≤ c0 → CallsIn F 3 Tryd.prog 31 #[.slice A0 all.length c0] W fun e w' => ∃ v0_ : Value, e = .returned (.tuple #[v0_, .int .i64 (ofK all).2]) ∧ Kd.R k112 112 w' W.heap.size (fun _ => True) v0_ (ofK all).1 ∧ Below W.heap.size W w' := by
  intro A0 c0 W h1 h2
  rw [hF]
  exact callsIn_wide.2 (qgg.calls A0 c0 all (ofK all).1 (ofK all).2 W h1 h2 (by unfold qgg.f; rw [if_pos hok]))
 clear hF
 have hse := qlg F 3 h50 h56 hro (by omega) g q
 unfold qyV at hse ⊢
 obtain ⟨i0, hi, hz0, hz1, hz2⟩ := info_parts qfu
 refine callsIn_of_wp_marks Tryd.func19 rfl h19 ?_ hro
 simp only [Tryd.ntmps19, List.size_toArray, List.length_cons, List.length_nil, Nat.reduceAdd, Nat.reduceSub, Array.replicate_succ, Array.replicate_zero, List.push_toArray, List.append_toArray, List.nil_append, List.cons_append]
 gi_wp2_with (gi_at_call 50; refine (hse _).mono ?_; rintro e W4 ⟨rfl, k0, k2, k3, kB, ks⟩)
 simp only [World.size_alloc] at k0 k2 k3 kB ks
 have hsl : ∀ c ∈ L, ∃ A cp, c.v = .slice (some A) c.C.length cp ∧ A.block < w.heap.size ∧ ∀ j u, (qfz c.C)[j]? = some u → w.cell? (A.add j) = some u := by
  intro c hc
  rcases hL with ⟨_, rfl⟩ | ⟨p, m, _, hled⟩
  ·cases hc
  obtain ⟨A, cp, hv, _, hr⟩ := Kd.qhi (hled.row c hc)
  rcases flat_src hr with h | ⟨ad, rfl, h⟩
  ·exact absurd h (hne c hc)
  ·refine ⟨ad, cp, hv, ?_, h⟩
   have h0 : 0 < (qfz c.C).length := by
    rw [qij]
    have := List.length_pos_iff.2 (hne c hc)
    omega
   have := World.block_lt_of_cell? w _ (h 0 _ (List.getElem?_eq_getElem h0))
   rw [add_block] at this
   exact this
 have bN : Boxed W4 (w.heap.size + 1 + 1) 30 (.pointer g) := k0
 have bF : Boxed W4 (w.heap.size + 1 + 1 + 3) 49 (.func (.func 106) #[] #[.pointer (some ⟨w.heap.size + 1 + 1 + 2, 0, none⟩)]) := k3
 have bD : Boxed W4 (w.heap.size + 1) 32 (.slice none 0 0) := (kB.block (w.heap.size + 1) (by omega)).trans (by have := qdr (w.alloc (qyO q)) (.cells #[.slice none 0 0] 32); rw [World.size_alloc] at this; exact this)
 have hB0 : Below w.heap.size w W4 := ((((Below.refl _ w).alloc (Nat.le_refl _) _).alloc (by simp) _)).trans (kB.mono (by omega))
 refine wpIn_rangeFunc_ownH (α := {c // c ∈ L}) hro (by omega) (gf := 97) (lb := #[.pointer (some ⟨w.heap.size + 1 + 1, 0, none⟩), .pointer (some ⟨w.heap.size + 1 + 1 + 3, 0, none⟩)]) rfl h97 (enters_of Tryd.func97 (by kernel_rfl) rfl)
  (sel_stops F 3 h97 h23 h106 hro (by omega) (w.heap.size + 1 + 1) (w.heap.size + 1 + 1 + 3) (w.heap.size + 1 + 1 + 2) base q g (fun x : {c // c ∈ L} => x.1) L.attach L (List.attach_map_subtype_val L) (by omega) w hL W4 hB0 bN bF k2)
  qkg.t (fun W b o o' hb h hcl hwk => ⟨belowK_b (w := W4) (by omega) W b o o' hb h hcl hwk, World.putObj_heap_other (by omega), World.putObj_heap_other (by omega), World.putObj_heap_other (by omega)⟩)
  (Below.refl _ _) (fun _ => rfl)
  (fun pre W => (∃ v, Boxed W (w.heap.size + 1) 32 v ∧ W.ownsRow w.heap.size 112 7 v (totS pre).length (qfz (totS pre)) ∧ True) ∧ (((Boxed W (w.heap.size + 1 + 1) 30 (.pointer g) ∧ Boxed W (w.heap.size + 1 + 1 + 3) 49 (.func (.func 106) #[] #[.pointer (some ⟨w.heap.size + 1 + 1 + 2, 0, none⟩)])) ∧ W.heap[w.heap.size + 1 + 1 + 2]? = some (qyO q)) ∧ Below w.heap.size w W))
  (fun _ _ _ => False)
  (OwnFrom.and (Own.from (holdsRow_own w.heap.size (w.heap.size + 1) 32 112 7 (fun pre : List {c // c ∈ L} => (totS pre).length) (fun pre => qfz (totS pre)) (fun _ _ => True)) _) (OwnFrom.and (OwnFrom.and (OwnFrom.and (Own.from (boxed_own _ _ (fun _ => .pointer g)) _) (Own.from (boxed_own _ _ (fun _ => (.func (.func 106) #[] #[.pointer (some ⟨w.heap.size + 1 + 1 + 2, 0, none⟩)]))) _)) (qjc _ _ _ _)) (ownFrom_below (Nat.le_refl _) (by omega))))
  (fun _ _ _ _ _ hs _ _ => hs)
  ⟨⟨_, bD, World.ownsRow_nil _ _ _ _, trivial⟩, ⟨⟨bN, bF⟩, k2⟩, hB0⟩
  (fun x => AxS (fun B ts => ∃ u, ts = #[.pointer g, .agg #[.string q.e, .int .i64 q.a, .int .i64 q.z, .int .i64 q.b], undef, .pointer (some ⟨w.heap.size, 0, none⟩), .slice none 0 0, .int .i64 0, .pointer (some ⟨w.heap.size + 1, 0, none⟩), .pointer (some ⟨B, 0, none⟩), .pointer g, .agg #[.string q.e, .int .i64 q.a, .int .i64 q.z, .int .i64 q.b], .func (.func 97) #[] #[.pointer (some ⟨w.heap.size + 1 + 1, 0, none⟩), .pointer (some ⟨w.heap.size + 1 + 1 + 3, 0, none⟩)], u, undef, undef, undef, undef, undef, undef, undef, undef]) x.1)
  (fun x a' => qlq _ _ x.1 a') ?assign ?body ?done ?stop
 case assign =>
  rintro b pre ⟨x, hx⟩ W K ⟨⟨v, hv, hrow, _⟩, ⟨⟨bn, bf⟩, bq⟩, hB⟩ hK
  obtain ⟨A, cp, hxv, _, _⟩ := hsl x hx
  simp only [pstV, hxv]
  gi_wp2
  have hpo : pstO x = .cells #[.int .i64 x.h.f0, .string x.h.f1, .int .i64 x.h.f2, .int .i64 x.h.f3, .int .i64 x.h.f4, .string x.h.f5, .string x.h.f6, .int .i64 x.h.f7, .slice none 0 0, .slice (some A) x.C.length cp] 118 (0, 0) := by unfold pstO; rw [hxv]
  have hg := World.grownBy_alloc W (pstO x) none
  rw [hpo] at hg
  have hlq : w.heap.size + 1 + 1 + 2 < W.heap.size := qen bq
  exact hK _ _ ((KeepsOthers.alloc W _).from _) ⟨(Below.refl _ W).alloc hB.size _, hg.block _ bn.lt (by simp), hg.block _ bf.lt (by simp), hg.block _ hlq (by simp)⟩
   ⟨⟨v, hv.alloc _, hrow.alloc _, trivial⟩, ⟨⟨bn.alloc _, bf.alloc _⟩, qm bq _⟩, hB.alloc hB.size _⟩ ⟨W.heap.size, ⟨_, rfl⟩, rfl, by rw [hpo]; exact World.alloc_heap_new W _⟩
 case body =>
  rintro b pre ⟨x, hx⟩ ⟨tm, df⟩ W hb _ ⟨⟨v, hv, hrow, _⟩, ⟨⟨bn, bf⟩, bq⟩, hB⟩ ⟨B, ⟨u, hts⟩, hdf, hbx⟩ hlt
  obtain rfl : tm = _ := hts
  obtain rfl : df = [] := hdf
  obtain ⟨A, cp, hxv, hAb, hsrc⟩ := hsl x hx
  have hpo : pstO x = .cells #[.int .i64 x.h.f0, .string x.h.f1, .int .i64 x.h.f2, .int .i64 x.h.f3, .int .i64 x.h.f4, .string x.h.f5, .string x.h.f6, .int .i64 x.h.f7, .slice none 0 0, .slice (some A) x.C.length cp] 118 (0, 0) := by unfold pstO; rw [hxv]
  rw [hpo] at hbx
  have c9 := (qj hbx 9).trans rfl
  have hc' := hv.cell
  have htot := totS_len hC pre
  have hxl := hC x hx
  have hW := hB.size
  have hsr : ∀ j u, (qfz x.C)[j]? = some u → W.cell? (A.add j) = some u := fun j u hj => (hB.cell (p := A.add j) (by rw [add_block]; exact hAb)).trans (hsrc j u hj)
  gi_wp2_with (gi_at_builtin; refine wpListIn_append_own _ rfl _ _ 32 rfl w.heap.size 112 i0 (.agg #[.string ⟨#[]⟩, .string ⟨#[]⟩, .string ⟨#[]⟩, .string ⟨#[]⟩, .string ⟨#[]⟩, .int .i64 0, .int .i64 0]) 7 96 Tryd.underlying32 hi hz0 hz1 hz2 rfl (by decide) _ _ _ rfl hrow A x.C.length cp (qfz x.C) rfl (qij _) hsr (flatC_one _) (by unfold maxLen; omega) (by omega) hW ?_; intro v' w1 hown' hgrow _; obtain ⟨A', n', cap', rfl⟩ : ∃ A' n' cap', v' = .slice A' n' cap' := (by rcases hown'.2 with ⟨rfl, _⟩ | ⟨g_, cap_, cur_, rfl, _⟩ <;> exact ⟨_, _, _, rfl⟩); obtain ⟨hv1, hv2, hr2, hk2, hb2⟩ := appended0 hv (by decide) hrow hW (by omega) hown' hgrow; have hc1 := hv1.cell; have hf1 := hv1.frozen; have bn1 := bn.kept hgrow (bn.not_row (by decide) hrow); have bf1 := bf.kept hgrow (bf.not_row (by decide) hrow))
  have bq1 : w1.heap[w.heap.size + 1 + 1 + 2]? = some (qyO q) := by
   refine (hgrow.block _ (qen bq) (fun e => ?_)).trans bq
   rcases hrow.2 with ⟨rfl, _⟩ | ⟨g_, cap_, cur_, rfl, _, hgb, _⟩
   ·cases e
   ·have e2 : g_ = w.heap.size + 1 + 1 + 2 := Option.some.inj (show some g_ = some (w.heap.size + 1 + 1 + 2) from e.symm)
    rw [e2, bq] at hgb
    cases hgb
  have bn2 : Boxed (w1.setCell ⟨w.heap.size + 1, 0, none⟩ (.slice A' n' cap')) (w.heap.size + 1 + 1) 30 (.pointer g) := (Below.heap_setCell w1 ⟨w.heap.size + 1, 0, none⟩ _ (w.heap.size + 1 + 1) (by simp)).trans bn1
  have bf2 : Boxed (w1.setCell ⟨w.heap.size + 1, 0, none⟩ (.slice A' n' cap')) (w.heap.size + 1 + 1 + 3) 49 (.func (.func 106) #[] #[.pointer (some ⟨w.heap.size + 1 + 1 + 2, 0, none⟩)]) := (Below.heap_setCell w1 ⟨w.heap.size + 1, 0, none⟩ _ (w.heap.size + 1 + 1 + 3) (by simp)).trans bf1
  have bq2 : (w1.setCell ⟨w.heap.size + 1, 0, none⟩ (.slice A' n' cap')).heap[w.heap.size + 1 + 1 + 2]? = some (qyO q) := (Below.heap_setCell w1 ⟨w.heap.size + 1, 0, none⟩ _ (w.heap.size + 1 + 1 + 2) (by simp)).trans bq1
  exact ⟨hk2.from _, ⟨hb2, bn2.trans bn.symm, bf2.trans bf.symm, bq2.trans bq.symm⟩, ⟨_, hv2, by rw [totS_app, List.length_append, flatC_app]; exact hr2, trivial⟩, ⟨⟨bn2, bf2⟩, bq2⟩, hB.trans hb2⟩
 case done =>
  rintro D ys W hD rfl ⟨⟨v, hv, hrow, _⟩, _, hB⟩ hK
  rw [totS_filter, ← hall] at hrow
  obtain ⟨A', cap', rfl, hcp, hcr⟩ := Kd.qhi (R_flatC rfl hrow)
  have hc' := hv.cell
  have hf' := hv.frozen
  have hof' := hof A' cap' W hcr hcp
  clear hof hse hsl hi hz0 hz1 hz2 hall hok hL hC hne k0 k2 k3 bN bF bD
  obtain ⟨R, hR⟩ : ∃ R, ofK all = R := ⟨_, rfl⟩
  rw [hR] at hof'
  have HRR := qd.mk hR
  obtain ⟨n, hn⟩ : ∃ n, all.length = n := ⟨_, rfl⟩
  rw [hn] at hof' hc'
  clear hrow hcp hcr hv hR hn
  gi_wp2_with (gi_at_call 31; refine hof'.mono ?_; rintro e W5 ⟨v5, rfl, hR5, hB5⟩)
  have hK' := (hB5.block D (Array.getElem?_eq_some_iff.1 hK).1).trans hK
  refine ⟨by simp, .inl ⟨_, _, rfl, run_takeDeferred hK', ?_⟩⟩
  have hBD := belowK_b (w := w) (Nat.le_refl _) W5 D _ (.deferred none) (by omega) hK' rfl rfl
  refine ⟨.tuple #[v5, .int .i64 R.2], ?_, v5, by rw [HRR.out], ?_, (hB.trans (hB5.mono hB.size)).trans hBD⟩
  ·simp [results, Tryd.f19, go_sem]
  ·rw [HRR.out]
   have h1 : Kd.R k112 112 W5 w.heap.size (fun _ => True) v5 R.1 := by first | exact Kd.qel hR5 hB.size | exact Kd.qel hB.size hR5
   have h2 := Kd.qdq (Kd.qkf rfl h1) (ok' := fun k => v5.ownBlock = some k) (fun k hk => hk.symm)
   refine Kd.qdq (Kd.qgv h2 (fun k hk hlt => ?_)) (fun _ _ => trivial)
   obtain ⟨cs, hcs⟩ := Kd.qdw h1 k hk
   refine World.putObj_heap_other (fun e => ?_)
   subst e
   rw [hcs] at hK'
   cases hK'
 case stop =>
  rintro D c pre W _ _ h _
  exact h.elim
end
section
attribute [local go_sem] Oper.semAt_some qhb
def keV (y : S40) : Value := .agg #[.string y.f0, .string y.f1, .string y.f2, .string y.f3, .string y.f4]
def keO (y : S40) : Obj := .cells #[.string y.f0, .string y.f1, .string y.f2, .string y.f3, .string y.f4] 40 (0, 0)
def hasM (key : S40) (c : Pst) : Bool := c.C.any (fun y => qhl key y.f0)
def nosS {L : List Pst} (key : S40) (pre : List {c // c ∈ L}) : List Int := (pre.filter (fun x => hasM key x.1)).map (fun x => x.1.h.f0)
theorem nosS_len {L : List Pst} (key : S40) (pre : List {c // c ∈ L}) : (nosS key pre).length ≤ pre.length := by
 unfold nosS
 rw [List.length_map]
 exact List.length_filter_le _ _
theorem nosS_yes {L : List Pst} {key : S40} (pre : List {c // c ∈ L}) (x : {c // c ∈ L}) (h : hasM key x.1 = true) : nosS key (pre ++ [x]) = nosS key pre ++ [x.1.h.f0] := by
 unfold nosS
 rw [List.filter_append]; simp [h]
theorem nosS_no {L : List Pst} {key : S40} (pre : List {c // c ∈ L}) (x : {c // c ∈ L}) (h : hasM key x.1 = false) : nosS key (pre ++ [x]) = nosS key pre := by
 unfold nosS
 rw [List.filter_append]; simp [h]
def findK (L : List Pst) (q : Qy) (key : S40) : List Int := ((L.filter (qec q)).filter (hasM key)).map (fun c => c.h.f0)
theorem nosS_filter {L : List Pst} (q : Qy) (key : S40) : nosS key (L.attach.filter (fun x => qec q x.1)) = findK L q key := by
 have h : (L.attach.filter (fun x => qec q x.1)).map (fun x => x.1) = L.filter (qec q) := by
  have := (List.filter_map (p := qec q) (f := fun x : {c // c ∈ L} => x.1) (l := L.attach)).symm
  rw [List.attach_map_subtype_val] at this
  exact this
 unfold nosS findK
 rw [← h, List.filter_map, List.map_map]
 rfl
theorem qlt {W W' : World} (h : Below W.heap.size W W') : KeepsOthers W W' := ⟨h.size, fun k o hk _ => (h.block k (Array.getElem?_eq_some_iff.1 hk).1).trans hk⟩
theorem ne_row {W : World} {n₀ k n : Nat} {v : Value} {xs : List Value} {cs : Array Value} {t e : TypeId} {size : Nat} (hrow : W.ownsRow n₀ e size v n xs) (h : W.heap[k]? = some (.cells cs t (0, 0))) (ht : t ≠ e) : v.ownBlock ≠ some k := by
 intro he
 rcases hrow.2 with ⟨rfl, _⟩ | ⟨g_, cap_, cur_, rfl, _, hgb, _⟩
 ·cases he
 ·have e2 : g_ = k := Option.some.inj (show some g_ = some k from he)
  rw [e2, h] at hgb
  cases hgb
  exact ht rfl
theorem one_new (W : World) (z : Value) (t : TypeId) : ∀ j u, [z][j]? = some u → (W.alloc (.cells #[z] t)).cell? (Addr.add ⟨W.heap.size, 0, none⟩ j) = some u := by
 intro j u h
 have hj : j = 0 := by
  have := (List.getElem?_eq_some_iff.1 h).1
  simpa using this
 subst hj
 obtain rfl : z = u := by simpa using h
 exact (qj (qdr W (.cells #[z] t)) 0).trans rfl
set_option maxRecDepth 100000 in
set_option maxHeartbeats 4000000 in
theorem lfind_in (g : Option Addr) (q : Qy) (key : S40) (base : Nat) (L : List Pst) (w : World) (hL : LedO w base g L) (h1000 : L.length ≤ 1000) (hC : ∀ c ∈ L, c.C.length ≤ 1000) (hne : ∀ c ∈ L, c.C ≠ []) :
  CallsIn Fence.wide 4 Tryd.prog 24 #[.pointer g, qyV q, keV key] w fun e w' => ∃ v, e = .returned v ∧ Kd.R (Kd.int .i64) 3 w' w.heap.size (fun _ => True) v (findK L q key) ∧ Below w.heap.size w w' := by
 obtain ⟨F, hF⟩ : ∃ F, F = Fence.wide := ⟨_, rfl⟩
 rw [← hF]
 have h24 : F.fn 24 := by rw [hF]; trivial
 have h50 : F.fn 50 := by rw [hF]; trivial
 have h56 : F.fn 56 := by rw [hF]; trivial
 have h97 : F.fn 97 := by rw [hF]; trivial
 have h23 : F.fn 23 := by rw [hF]; trivial
 have h106 : F.fn 106 := by rw [hF]; trivial
 have h52 : F.fn 52 := by rw [hF]; trivial
 have hro : F.round = none := by rw [hF]; rfl
 have hmt : ∀ (n : Nat) (y : S40) (W : World), CallsIn F n Tryd.prog 52 #[.agg #[.string key.f0, .string key.f1, .string key.f2, .string key.f3, .string key.f4], .agg #[.string y.f0, .string y.f1, .string y.f2, .string y.f3, .string y.f4]] W fun e w' => e = .returned (.bool (qhl key y)) ∧ Below W.heap.size W w' := by
  intro n y W
  rw [hF]
  exact callsIn_wide.2 (qja.calls key.f0 key.f1 key.f2 key.f3 key.f4 y.f0 y.f1 y.f2 y.f3 y.f4 (qhl key y) W rfl)
 clear hF
 have hse := qlg F 3 h50 h56 hro (by omega) g q
 unfold qyV at hse ⊢
 unfold keV
 obtain ⟨i0, hi, hz0, hz1, hz2⟩ := info_parts info3
 refine callsIn_of_wp_marks Tryd.func24 rfl h24 ?_ hro
 simp only [Tryd.ntmps24, List.size_toArray, List.length_cons, List.length_nil, Nat.reduceAdd, Nat.reduceSub, Array.replicate_succ, Array.replicate_zero, List.push_toArray, List.append_toArray, List.nil_append, List.cons_append]
 gi_wp2_with (gi_at_call 50; refine (hse _).mono ?_; rintro e W4 ⟨rfl, k0, k2, k3, kB, ks⟩)
 simp only [World.size_alloc] at k0 k2 k3 kB ks
 have hsl : ∀ c ∈ L, ∃ A cp, c.v = .slice (some A) c.C.length cp ∧ A.block < w.heap.size ∧ Kd.C k112 w (some A) c.C.length c.C := by
  intro c hc
  rcases hL with ⟨_, rfl⟩ | ⟨p, m, _, hled⟩
  ·cases hc
  obtain ⟨A, cp, hv, _, hr⟩ := Kd.qhi (hled.row c hc)
  rcases flat_src hr with h | ⟨ad, rfl, h⟩
  ·exact absurd h (hne c hc)
  ·refine ⟨ad, cp, hv, ?_, hr⟩
   have h0 : 0 < (qfz c.C).length := by
    rw [qij]
    have := List.length_pos_iff.2 (hne c hc)
    omega
   have := World.block_lt_of_cell? w _ (h 0 _ (List.getElem?_eq_getElem h0))
   rw [add_block] at this
   exact this
 have bN : Boxed W4 (w.heap.size + 1 + 1 + 1) 30 (.pointer g) := k0
 have bF : Boxed W4 (w.heap.size + 1 + 1 + 1 + 3) 49 (.func (.func 106) #[] #[.pointer (some ⟨w.heap.size + 1 + 1 + 1 + 2, 0, none⟩)]) := k3
 have bD : Boxed W4 (w.heap.size + 1 + 1) 43 (.slice none 0 0) := (kB.block (w.heap.size + 1 + 1) (by omega)).trans (by have := qdr ((w.alloc (qyO q)).alloc (keO key)) (.cells #[.slice none 0 0] 43); rw [World.size_alloc, World.size_alloc] at this; exact this)
 have bP : W4.heap[w.heap.size + 1]? = some (keO key) := (kB.block (w.heap.size + 1) (by omega)).trans (by have := qdr (w.alloc (qyO q)) (keO key); rw [World.size_alloc] at this; exact qm this _)
 have hB0 : Below w.heap.size w W4 := (((((Below.refl _ w).alloc (Nat.le_refl _) _).alloc (by simp) _)).alloc (by simp; omega) _).trans (kB.mono (by omega))
 refine wpIn_rangeFunc_ownH (α := {c // c ∈ L}) hro (by omega) (gf := 97) (lb := #[.pointer (some ⟨w.heap.size + 1 + 1 + 1, 0, none⟩), .pointer (some ⟨w.heap.size + 1 + 1 + 1 + 3, 0, none⟩)]) rfl h97 (enters_of Tryd.func97 (by kernel_rfl) rfl)
  (sel_stops F 3 h97 h23 h106 hro (by omega) (w.heap.size + 1 + 1 + 1) (w.heap.size + 1 + 1 + 1 + 3) (w.heap.size + 1 + 1 + 1 + 2) base q g (fun x : {c // c ∈ L} => x.1) L.attach L (List.attach_map_subtype_val L) (by omega) w hL W4 hB0 bN bF k2)
  qkg.t (fun W b o o' hb h hcl hwk => ⟨belowK_b (w := W4) (by omega) W b o o' hb h hcl hwk, World.putObj_heap_other (by omega), World.putObj_heap_other (by omega), World.putObj_heap_other (by omega)⟩)
  (Below.refl _ _) (fun _ => rfl)
  (fun pre W => (∃ v, Boxed W (w.heap.size + 1 + 1) 43 v ∧ W.ownsRow w.heap.size 3 1 v (nosS key pre).length (nums .i64 (nosS key pre)) ∧ True) ∧ ((((Boxed W (w.heap.size + 1 + 1 + 1) 30 (.pointer g) ∧ Boxed W (w.heap.size + 1 + 1 + 1 + 3) 49 (.func (.func 106) #[] #[.pointer (some ⟨w.heap.size + 1 + 1 + 1 + 2, 0, none⟩)])) ∧ W.heap[w.heap.size + 1 + 1 + 1 + 2]? = some (qyO q)) ∧ W.heap[w.heap.size + 1]? = some (keO key)) ∧ Below w.heap.size w W))
  (fun _ _ _ => False)
  (OwnFrom.and (Own.from (holdsRow_own w.heap.size (w.heap.size + 1 + 1) 43 3 1 (fun pre : List {c // c ∈ L} => (nosS key pre).length) (fun pre => nums .i64 (nosS key pre)) (fun _ _ => True)) _) (OwnFrom.and (OwnFrom.and (OwnFrom.and (OwnFrom.and (Own.from (boxed_own _ _ (fun _ => .pointer g)) _) (Own.from (boxed_own _ _ (fun _ => (.func (.func 106) #[] #[.pointer (some ⟨w.heap.size + 1 + 1 + 1 + 2, 0, none⟩)]))) _)) (qjc _ _ _ _)) (qjc _ _ _ _)) (ownFrom_below (Nat.le_refl _) (by omega))))
  (fun _ _ _ _ _ hs _ _ => hs)
  ⟨⟨_, bD, World.ownsRow_nil _ _ _ _, trivial⟩, ⟨⟨⟨bN, bF⟩, k2⟩, bP⟩, hB0⟩
  (fun x => AxS (fun B ts => ∃ u, ts = #[.pointer g, .agg #[.string q.e, .int .i64 q.a, .int .i64 q.z, .int .i64 q.b], .agg #[.string key.f0, .string key.f1, .string key.f2, .string key.f3, .string key.f4], undef, .pointer (some ⟨w.heap.size, 0, none⟩), .pointer (some ⟨w.heap.size + 1, 0, none⟩), .pointer (some ⟨w.heap.size + 1 + 1, 0, none⟩), .pointer (some ⟨B, 0, none⟩), undef, undef, .pointer g, .agg #[.string q.e, .int .i64 q.a, .int .i64 q.z, .int .i64 q.b], .func (.func 97) #[] #[.pointer (some ⟨w.heap.size + 1 + 1 + 1, 0, none⟩), .pointer (some ⟨w.heap.size + 1 + 1 + 1 + 3, 0, none⟩)], u, undef, undef, undef, undef, undef, undef, undef, undef, undef, undef, undef, undef, undef, undef, undef, undef, undef, undef, undef]) x.1)
  (fun x a' => qlq _ _ x.1 a') ?assign ?body ?done ?stop
 case assign =>
  rintro b pre ⟨x, hx⟩ W K ⟨⟨v, hv, hrow, _⟩, ⟨⟨⟨bn, bf⟩, bq⟩, bp⟩, hB⟩ hK
  obtain ⟨A, cp, hxv, _, _⟩ := hsl x hx
  simp only [pstV, hxv]
  gi_wp2
  have hpo : pstO x = .cells #[.int .i64 x.h.f0, .string x.h.f1, .int .i64 x.h.f2, .int .i64 x.h.f3, .int .i64 x.h.f4, .string x.h.f5, .string x.h.f6, .int .i64 x.h.f7, .slice none 0 0, .slice (some A) x.C.length cp] 118 (0, 0) := by unfold pstO; rw [hxv]
  have hg := World.grownBy_alloc W (pstO x) none
  rw [hpo] at hg
  have hlq : w.heap.size + 1 + 1 + 1 + 2 < W.heap.size := qen bq
  exact hK _ _ ((KeepsOthers.alloc W _).from _) ⟨(Below.refl _ W).alloc hB.size _, hg.block _ bn.lt (by simp), hg.block _ bf.lt (by simp), hg.block _ hlq (by simp)⟩
   ⟨⟨v, hv.alloc _, hrow.alloc _, trivial⟩, ⟨⟨⟨bn.alloc _, bf.alloc _⟩, qm bq _⟩, qm bp _⟩, hB.alloc hB.size _⟩ ⟨W.heap.size, ⟨_, rfl⟩, rfl, by rw [hpo]; exact World.alloc_heap_new W _⟩
 case body =>
  rintro b pre ⟨x, hx⟩ ⟨tm, df⟩ W hb _ ⟨⟨v, hv, hrow, _⟩, ⟨⟨⟨bn, bf⟩, bq⟩, bp⟩, hB⟩ ⟨B, ⟨u, hts⟩, hdf, hbx⟩ hlt
  obtain rfl : tm = _ := hts
  obtain rfl : df = [] := hdf
  obtain ⟨A, cp, hxv, hAb, hsrc⟩ := hsl x hx
  have hpo : pstO x = .cells #[.int .i64 x.h.f0, .string x.h.f1, .int .i64 x.h.f2, .int .i64 x.h.f3, .int .i64 x.h.f4, .string x.h.f5, .string x.h.f6, .int .i64 x.h.f7, .slice none 0 0, .slice (some A) x.C.length cp] 118 (0, 0) := by unfold pstO; rw [hxv]
  rw [hpo] at hbx
  have c9 : W.cell? ⟨B, 9, none⟩ = some (.slice (some A) x.C.length cp) := (qj hbx 9).trans rfl
  have hxl := hC x hx
  gi_wp2
  gi_loopw [17] (fun i wr => ∃ k : Nat, k ≤ x.C.length ∧ i = .int .i64 (k : Int) ∧ qd (∀ j : Nat, j < k → qhl key (qp x.C (j : Int)).f0 = false) ∧ qd (Below W.heap.size W wr))
   (fun i _ => x.C.length - (intOf i).toNat)
  case atStart => exact ⟨0, Nat.zero_le _, rfl, ⟨fun j hj => absurd hj (Nat.not_lt_zero j)⟩, ⟨Below.refl _ _⟩⟩
  obtain ⟨k, hk, rfl, hno, hW⟩ := hrel
  rename World => wr
  by_cases hlt2 : k < x.C.length
  rotate_left
  ·obtain rfl : k = x.C.length := by omega
   have d1 : decide ((x.C.length : Int) < (x.C.length : Int)) = false := decide_eq_false (by omega)
   have hnom : hasM key x = false := by
    unfold hasM
    rw [List.any_eq_false]
    intro y hy
    obtain ⟨j, hj, rfl⟩ := List.mem_iff_getElem.1 hy
    have : qp x.C (j : Int) = x.C[j] := by simp [qp, hj]
    rw [← this, hno.out j hj]
    decide
   gi_wp2
   have hWb := hW.out
   exact ⟨(qlt hWb).from _, ⟨hWb.mono hB.size, (qcg bn hWb).trans bn.symm, (qcg bf hWb).trans bf.symm, (qcg bq hWb).trans bq.symm⟩, ⟨_, qcg hv hWb, by rw [nosS_no pre ⟨x, hx⟩ hnom]; exact qfv hrow hWb, trivial⟩, ⟨⟨⟨qcg bn hWb, qcg bf hWb⟩, qcg bq hWb⟩, qcg bp hWb⟩, hB.trans (hWb.mono hB.size)⟩
  have d1 : decide ((k : Int) < (x.C.length : Int)) = true := decide_eq_true (by omega)
  have d2 : decide (k < x.C.length) = true := decide_eq_true hlt2
  have p0 : (0 : Int) ≤ (k : Int) := by omega
  have p1 : (k : Int) < (x.C.length : Int) := by omega
  obtain ⟨ad, e, q0, q1, q2, q3, q4, q5, q6⟩ := qek (Kd.qcd (Kd.qcd hsrc hB) hW.out) (k : Int) p0 p1
  cases e
  rw [Int.toNat_natCast] at q0 q1 q2 q3 q4 q5 q6
  obtain ⟨y, hy⟩ : ∃ y, qp x.C (k : Int) = y := ⟨_, rfl⟩
  rw [hy] at q0 q1 q2 q3 q4 q5 q6
  have HY := qd.mk hy
  clear hy
  obtain ⟨Wa, hWa⟩ : ∃ Wa, wr.alloc (.cells #[.string y.f0.f0, .string y.f0.f1, .string y.f0.f2, .string y.f0.f3, .string y.f0.f4, .int .i64 y.f1, .int .i64 y.f2] 112) = Wa := ⟨_, rfl⟩
  have hBa : Below W.heap.size W Wa := by rw [← hWa]; exact qbj hW.out _
  have hBy : Wa.heap[wr.heap.size]? = some (.cells #[.string y.f0.f0, .string y.f0.f1, .string y.f0.f2, .string y.f0.f3, .string y.f0.f4, .int .i64 y.f1, .int .i64 y.f2] 112 (0, 0)) := by rw [← hWa]; exact qdr wr _
  have y0 : Wa.cell? ⟨wr.heap.size, 0, none⟩ = some (.string y.f0.f0) := (qj hBy 0).trans rfl
  have y1 : Wa.cell? ⟨wr.heap.size, 1, none⟩ = some (.string y.f0.f1) := (qj hBy 1).trans rfl
  have y2 : Wa.cell? ⟨wr.heap.size, 2, none⟩ = some (.string y.f0.f2) := (qj hBy 2).trans rfl
  have y3 : Wa.cell? ⟨wr.heap.size, 3, none⟩ = some (.string y.f0.f3) := (qj hBy 3).trans rfl
  have y4 : Wa.cell? ⟨wr.heap.size, 4, none⟩ = some (.string y.f0.f4) := (qj hBy 4).trans rfl
  have hBp := qcg bp hBa
  have t0 : Wa.cell? ⟨w.heap.size + 1, 0, none⟩ = some (.string key.f0) := (qj hBp 0).trans rfl
  have t1 : Wa.cell? ⟨w.heap.size + 1, 1, none⟩ = some (.string key.f1) := (qj hBp 1).trans rfl
  have t2 : Wa.cell? ⟨w.heap.size + 1, 2, none⟩ = some (.string key.f2) := (qj hBp 2).trans rfl
  have t3 : Wa.cell? ⟨w.heap.size + 1, 3, none⟩ = some (.string key.f3) := (qj hBp 3).trans rfl
  have t4 : Wa.cell? ⟨w.heap.size + 1, 4, none⟩ = some (.string key.f4) := (qj hBp 4).trans rfl
  have HBA := qd.mk hBa
  clear hBy hBp hBa
  cases hm : qhl key y.f0
  ·have hmy := hmt (4 - 1 - 1 - 1) y.f0 Wa
   rw [hm] at hmy
   have HM := qd.mk hm
   clear hm
   gi_wp2_with (gi_at_call 52; refine ((hmt _ y.f0 Wa).inRound b).mono ?_; rw [HM.out]; rintro e w2 ⟨rfl, hb2⟩; have HB2 := qd.mk (qch HBA.out HBA.out.size hb2); clear hb2)
   go_roundw
   case rel => exact ⟨k + 1, by omega, by simp, ⟨fun j hj => by
    by_cases e : j = k
    ·rw [e, HY.out]; exact HM.out
    exact hno.out j (by omega)⟩, HB2⟩
   case measure => simp [intOf]; omega
  ·have HM := qd.mk hm
   clear hm
   gi_wp2_with (first | (gi_at_call 52; refine ((hmt _ y.f0 Wa).inRound b).mono ?_; rw [HM.out]; rintro e w2 ⟨rfl, hb2⟩; have HB2 := qd.mk (qch HBA.out HBA.out.size hb2); have hx2 := qcg hbx HB2.out; have z0 : w2.cell? ⟨B, 0, none⟩ = some (.int .i64 x.h.f0) := (qj hx2 0).trans rfl; have hv2 : Boxed w2 (w.heap.size + 1 + 1) 43 v := qcg hv HB2.out; have hvc := hv2.cell; have hr2 := (qfv hrow HB2.out).alloc (.cells #[.int .i64 x.h.f0] 3); have hW2 : w.heap.size ≤ (w2.alloc (.cells #[.int .i64 x.h.f0] 3)).heap.size := Nat.le_trans hB.size (Nat.le_trans HB2.out.size (by simp)); have HR2 := qd.mk hr2; have HW2 := qd.mk hW2; have HV2 := qd.mk (hv2.alloc (.cells #[.int .i64 x.h.f0] 3)); clear hx2 hb2 hr2 hW2 hv2) | (gi_at_builtin; refine wpListIn_append_own _ rfl _ _ 43 rfl w.heap.size 3 i0 (.int .i64 0) 1 8 Tryd.underlying43 hi hz0 hz1 hz2 rfl (by decide) _ _ _ rfl HR2.out ⟨w2.heap.size, 0, none⟩ 1 1 [.int .i64 x.h.f0] rfl rfl (one_new w2 _ 3) (by simp [Value.oneCell']) (by have := nosS_len key pre; unfold maxLen; omega) (by have := nosS_len key pre; omega) HW2.out ?_; intro v' w1 hown' hgrow _; obtain ⟨A', n', cap', rfl⟩ : ∃ A' n' cap', v' = .slice A' n' cap' := (by rcases hown'.2 with ⟨rfl, _⟩ | ⟨g_, cap_, cur_, rfl, _⟩ <;> exact ⟨_, _, _, rfl⟩); obtain ⟨hv1, hv3, hr3, hk3, hb3⟩ := appended0 HV2.out (by decide) HR2.out HW2.out (by omega) hown' hgrow; have hc1 := hv1.cell; have hf1 := hv1.frozen; have HG := qd.mk hgrow; have HV3 := qd.mk hv3; have HR3 := qd.mk hr3; have HK3 := qd.mk hk3; have HB3 := qd.mk hb3; clear hgrow hv3 hr3 hk3 hb3 hown'))
   have hbA : Below W.heap.size W (w2.alloc (.cells #[.int .i64 x.h.f0] 3)) := qbj HB2.out _
   have kp : ∀ (k : Nat) (o : Obj) (cs : Array Value) (t : TypeId), o = .cells cs t (0, 0) → t ≠ 3 → k ≠ w.heap.size + 1 + 1 → W.heap[k]? = some o → (w1.setCell ⟨w.heap.size + 1 + 1, 0, none⟩ (.slice A' n' cap')).heap[k]? = some o := by
    intro k o cs t ho ht hk h
    have h1 := qcg h hbA
    have h1' := h1
    rw [ho] at h1'
    have h2 := (HG.out.block k (qen h1) (fun e => ne_row HR2.out h1' ht e.symm)).trans h1
    exact (Below.heap_setCell w1 ⟨w.heap.size + 1 + 1, 0, none⟩ _ k hk).trans h2
   have bn3 := kp _ _ _ _ rfl (by decide) (by omega) bn
   have bf3 := kp _ _ _ _ rfl (by decide) (by omega) bf
   have bq3 := kp _ _ _ _ (show qyO q = _ from rfl) (by decide) (by omega) bq
   have bp3 := kp _ _ _ _ (show keO key = _ from rfl) (by decide) (by omega) bp
   have hfin : Below w.heap.size W (w1.setCell ⟨w.heap.size + 1 + 1, 0, none⟩ (.slice A' n' cap')) := (hbA.mono hB.size).trans HB3.out
   have hyes : hasM key x = true := by
    unfold hasM
    rw [List.any_eq_true]
    refine ⟨x.C[k], List.getElem_mem _, ?_⟩
    have : qp x.C (k : Int) = x.C[k] := by simp [qp, hlt2]
    rw [← this, HY.out]
    exact HM.out
   exact ⟨((qlt hbA).trans HK3.out).from _, ⟨hfin, bn3.trans bn.symm, bf3.trans bf.symm, bq3.trans bq.symm⟩, ⟨_, HV3.out, by rw [nosS_yes pre ⟨x, hx⟩ hyes, List.length_append]; unfold nums; rw [List.map_append]; exact HR3.out, trivial⟩, ⟨⟨⟨bn3, bf3⟩, bq3⟩, bp3⟩, hB.trans hfin⟩
 case done =>
  rintro D ys W hD rfl ⟨⟨v, hv, hrow, _⟩, _, hB⟩ hK
  rw [nosS_filter] at hrow
  have hc' := hv.cell
  have hf' := hv.frozen
  obtain ⟨A', n', cap', rfl⟩ : ∃ A' n' cap', v = .slice A' n' cap' := by
   rcases hrow.2 with ⟨rfl, _⟩ | ⟨g, cap, cur, rfl, _⟩ <;> exact ⟨_, _, _, rfl⟩
  clear hmt hse hsl hi hz0 hz1 hz2 hL hC hne k0 k2 k3 bN bF bD bP
  gi_wp2
  have hK' := (KeepsOthers.setCell W ⟨w.heap.size + 1 + 1, 0, none⟩ (.slice A' n' cap')).same D _ hK rfl
  refine ⟨by simp, .inl ⟨_, _, rfl, run_takeDeferred hK', ?_⟩⟩
  have hc5 := cell_kept (World.cell?_setCell_same' W ⟨w.heap.size + 1 + 1, 0, none⟩ (.slice A' n' cap') (by rw [hc']; rfl)) (grownBy_putObj' _ D (.deferred none)) (fun r e => by cases e; exact ⟨_, hK', rfl⟩)
  have h5 := hrow.kept (grownBy_setCell' W (w.heap.size + 1 + 1) (.slice A' n' cap')) (.inr (hv.not_row (by decide) hrow).symm)
  have h6 := ownsRow_putObj h5 (.deferred none) hK' rfl
  refine ⟨.slice A' n' cap', ?_, .slice A' n' cap', rfl, Kd.qky h6 (fun _ _ => trivial), (hB.setCell (p := ⟨w.heap.size + 1 + 1, 0, none⟩) (by simp; omega) _).trans (belowK_b (w := w) (Nat.le_refl _) _ D _ _ (by omega) hK' rfl rfl)⟩
  simp [results, Tryd.f24, go_sem, hc5]
 case stop =>
  rintro D c pre W _ _ h _
  exact h.elim
end
end Go.Proofs.YtppcjoaghlecmaaDoor.P
namespace Go.Proofs.YtppcjoaghlecmaaDoor.P
open Go.RowKit Go.Sort Go.Proofs.YtppcjoaghlecmaaDoorW.PrintWords Go.Proofs.YtppcjoaghlecmaaDoorW.PrintLast
set_option linter.unusedVariables false
set_option linter.unusedSimpArgs false
def psA (P : S40 → Bool) (l : List S112) : Int := (amts (l.filter (fun c => P c.f0))).sum
def psB (P : S40 → Bool) (l : List S112) : Int := (bass (l.filter (fun c => P c.f0))).sum
theorem psA_cons (P : S40 → Bool) (c : S112) (r : List S112) : psA P (c :: r) = (if P c.f0 = true then c.f1 else 0) + psA P r := by
 unfold psA
 by_cases h : P c.f0 = true
 ·rw [List.filter_cons_of_pos (by exact h), if_pos h]; rfl
 ·rw [List.filter_cons_of_neg (by exact h), if_neg h, Int.zero_add]
theorem psB_cons (P : S40 → Bool) (c : S112) (r : List S112) : psB P (c :: r) = (if P c.f0 = true then c.f2 else 0) + psB P r := by
 unfold psB
 by_cases h : P c.f0 = true
 ·rw [List.filter_cons_of_pos (by exact h), if_pos h]; rfl
 ·rw [List.filter_cons_of_neg (by exact h), if_neg h, Int.zero_add]
def isK (k : S40) (x : S40) : Bool := decide (cmpK k x = 0)
theorem isK_iff {k x : S40} : isK k x = true ↔ k = x := by
 unfold isK
 rw [decide_eq_true_iff]
 exact ⟨qil, fun h => by rw [h]; exact qhq x⟩
theorem sumA_ps (l : List S112) (k : S40) : sumA l k = psA (isK k) l := rfl
theorem sumB_ps (l : List S112) (k : S40) : sumB l k = psB (isK k) l := rfl
theorem psA_zero {P : S40 → Bool} : ∀ {l : List S112}, (∀ c ∈ l, P c.f0 = false) → psA P l = 0
 | [], _ => rfl
 | c :: r, h => by rw [psA_cons, if_neg (by rw [h c (by simp)]; decide), psA_zero (fun x hx => h x (by simp [hx]))]; rfl
theorem psB_zero {P : S40 → Bool} : ∀ {l : List S112}, (∀ c ∈ l, P c.f0 = false) → psB P l = 0
 | [], _ => rfl
 | c :: r, h => by rw [psB_cons, if_neg (by rw [h c (by simp)]; decide), psB_zero (fun x hx => h x (by simp [hx]))]; rfl
theorem sumA_none {l : List S112} {k : S40} (h : k ∉ qfe l) : sumA l k = 0 := by
 rw [sumA_ps]
 refine psA_zero (fun c hc => ?_)
 rw [Bool.eq_false_iff]
 intro e
 exact h ((qfy k l).2 ⟨c, hc, (isK_iff.1 e).symm⟩)
theorem sumB_none {l : List S112} {k : S40} (h : k ∉ qfe l) : sumB l k = 0 := by
 rw [sumB_ps]
 refine psB_zero (fun c hc => ?_)
 rw [Bool.eq_false_iff]
 intro e
 exact h ((qfy k l).2 ⟨c, hc, (isK_iff.1 e).symm⟩)
def cellOf (l : List S112) (k : S40) : S112 := ⟨k, sumA l k, sumB l k⟩
def nzC (c : S112) : Bool := decide (c.f1 ≠ 0 ∨ c.f2 ≠ 0)
def fitK (l : List S112) (k : S40) : Bool := fitB (sumA l k) && fitB (sumB l k)
theorem cells_1 (l : List S112) : ∀ (ks : List S40) (out : List S112), (qgb l ks out).1 = ks.all (fitK l)
 | [], out => rfl
 | k :: t, out => by
  unfold qgb
  rw [List.all_cons]
  rw [show (fitB (sumA l k) && fitB (sumB l k)) = fitK l k from rfl]
  cases h : fitK l k with
  | true => rw [if_pos rfl, Bool.true_and]; exact cells_1 l t _
  | false => rw [if_neg (by decide), Bool.false_and]
theorem cells_2 (l : List S112) : ∀ (ks : List S40) (out : List S112), ks.all (fitK l) = true → (qgb l ks out).2 = out ++ (ks.map (cellOf l)).filter nzC
 | [], out, _ => by simp [qgb]
 | k :: t, out, h => by
  rw [List.all_cons, Bool.and_eq_true] at h
  unfold qgb
  have h1 : (fitB (sumA l k) && fitB (sumB l k)) = true := h.1
  rw [if_pos h1, cells_2 l t _ h.2, List.map_cons]
  by_cases c : sumA l k ≠ 0 ∨ sumB l k ≠ 0
  ·rw [if_pos c, List.filter_cons_of_pos (by exact decide_eq_true c), List.append_assoc]
   rfl
  ·rw [if_neg c, List.filter_cons_of_neg (by unfold nzC; rw [decide_eq_true_iff]; exact c)]
theorem ofK_eq (l : List S112) : ofK l = if (qfe l).all (fitK l) = true then (((qfe l).map (cellOf l)).filter nzC, 0) else ([], 4) := by
 unfold ofK
 rw [cells_1]
 by_cases h : (qfe l).all (fitK l) = true
 ·rw [if_pos h, if_pos h, cells_2 l _ _ h, List.nil_append]
 ·rw [if_neg h, if_neg h]
theorem fit_all (l : List S112) : (qfe l).all (fitK l) = true ↔ ∀ k, fitK l k = true := by
 rw [List.all_eq_true]
 constructor
 ·intro h k
  by_cases hk : k ∈ qfe l
  ·exact h k hk
  ·unfold fitK
   rw [sumA_none hk, sumB_none hk]
   decide
 ·exact fun h k _ => h k
theorem ofK_code (l : List S112) : (ofK l).2 = 0 ∨ ofK l = ([], 4) := by
 rw [ofK_eq]
 by_cases h : (qfe l).all (fitK l) = true
 ·rw [if_pos h]; exact .inl rfl
 ·rw [if_neg h]; exact .inr rfl
theorem ofK_fit {l : List S112} (h : (ofK l).2 = 0) : ∀ k, fitK l k = true := by
 rw [ofK_eq] at h
 by_cases hf : (qfe l).all (fitK l) = true
 ·exact (fit_all l).1 hf
 ·rw [if_neg hf] at h; cases h
theorem ofK_ok {l : List S112} (h : ∀ k, fitK l k = true) : ofK l = (((qfe l).map (cellOf l)).filter nzC, 0) := by
 rw [ofK_eq, if_pos ((fit_all l).2 h)]
theorem insK_len (k : S40) : ∀ (ks : List S40), (insK k ks).length ≤ ks.length + 1
 | [] => Nat.le_refl _
 | a :: b => by
  have ih := insK_len k b
  unfold insK
  by_cases h1 : cmpK k a < 0
  ·rw [if_pos h1]; simp
  ·rw [if_neg h1]
   by_cases h2 : cmpK k a = 0
   ·rw [if_pos h2]; simp
   ·rw [if_neg h2]; simp only [List.length_cons]; omega
theorem keysK_le : ∀ (l : List S112), (qfe l).length ≤ l.length
 | [] => Nat.le_refl _
 | c :: r => by
  have := insK_len c.f0 (qfe r)
  have := keysK_le r
  unfold qfe
  simp only [List.length_cons]
  omega
theorem ofK_le (l : List S112) : (ofK l).1.length ≤ l.length := by
 rcases ofK_code l with h | h
 ·rw [ofK_ok (ofK_fit h)]
  refine Nat.le_trans (List.length_filter_le _ _) ?_
  rw [List.length_map]
  exact keysK_le l
 ·rw [h]; exact Nat.zero_le _
theorem ofK_len {l : List S112} (h : OkS l) : (ofK l).1.length ≤ 1000000 := Nat.le_trans (ofK_le l) h.1
end Go.Proofs.YtppcjoaghlecmaaDoor.P
