/- Texts of mine and of the print, joined. -/
import Derived.Test.YtppcjoaghlecmaaDoorRa
import Derived.Test.YtppcjoaghlecmaaDoorRd
import Derived.Test.YtppcjoaghlecmaaDoorRb
import Derived.Test.YtppcjoaghlecmaaDoorRc
import Derived.Laws.Strings
import Derived.Deep.Slices
import Derived.ChangeArms
import Derived.ChangeSame
import Derived.WideShapes
set_option linter.unusedVariables false
set_option linter.unusedSimpArgs false
set_option maxHeartbeats 16000000
set_option maxRecDepth 100000
open Go.RowKit Go.Proofs.YtppcjoaghlecmaaDoorW.PrintWords Go.Proofs.YtppcjoaghlecmaaDoorW.PrintLast Go.Proofs.YtppcjoaghlecmaaDoorW.PrintMore
namespace Go.Proofs.YtppcjoaghlecmaaDoor.P
theorem hw1 (i : Nat) (h : i < 9223372036854775807) : wrap64 ((i : Int) + 1) = ((i + 1 : Nat) : Int) := by unfold wrap64; omega
theorem lge {α : Type} {l : List α} {i : Nat} (h : i < l.length) : l[i]? = some l[i] := List.getElem?_eq_getElem h
theorem obm {α β : Type} {x : Option α} {f : α → Option β} {b : β} (h : x.bind f = some b) : ∃ a, x = some a ∧ f a = some b := Option.bind_eq_some_iff.mp h
section
attribute [local go_sem] qfp qfn qgk qgj qex qew qfo qfm
section
attribute [local go_sem high] eqA40
mutual
def qba.l0 : Nat → List (S112) → List (S112) → List (S40) → Int → Option ((List (S112)) × Int)
 | 0, _, _, _, _ => none
 | k + 1, x0, x4, x5, x6 => if x6 < (x5.length : Int) then (qba.l1 k x0 x4 x5 x6 ([] : List Int) ([] : List Int) 0) else (some (x4, 0))
def qba.l1 : Nat → List (S112) → List (S112) → List (S40) → Int → List Int → List Int → Int → Option ((List (S112)) × Int)
 | 0, _, _, _, _, _, _, _ => none
 | k + 1, x0, x4, x5, x6, x7, x8, x9 => if x9 < (x0.length : Int) then (if 0 ≤ x9 then (if 0 ≤ x6 then (if x6 < (x5.length : Int) then (if ((((qx x0 x9).f0.f0).toList) == (((qbd x5 x6).f0).toList) && ((((qx x0 x9).f0.f1).toList) == (((qbd x5 x6).f1).toList) && ((((qx x0 x9).f0.f2).toList) == (((qbd x5 x6).f2).toList) && ((((qx x0 x9).f0.f3).toList) == (((qbd x5 x6).f3).toList) && ((((qx x0 x9).f0.f4).toList) == (((qbd x5 x6).f4).toList)))))) = true then (if x7.length < 17592186044416 then (if x8.length < 17592186044416 then (qba.l1 k x0 x4 x5 x6 (x7 ++ [(qx x0 x9).f1]) (x8 ++ [(qx x0 x9).f2]) (wrap64 (x9 + 1))) else (none)) else (none)) else (qba.l1 k x0 x4 x5 x6 x7 x8 (wrap64 (x9 + 1)))) else (none)) else (none)) else (none)) else ((qbp.f k x7).bind fun bt265 => ((qbp.f k x8).bind fun bt267 => (if bt265.2 = true then (if bt267.2 = true then ((qcb.f bt265.1).bind fun t269 => (if t269 = true then ((qcb.f bt267.1).bind fun t270 => (qba.j2 k x0 x4 x5 x6 bt265.1 bt267.1 (!t270))) else (qba.j2 k x0 x4 x5 x6 bt265.1 bt267.1 true))) else (qba.j2 k x0 x4 x5 x6 bt265.1 bt267.1 true)) else (qba.j2 k x0 x4 x5 x6 bt265.1 bt267.1 true))))
def qba.j2 : Nat → List (S112) → List (S112) → List (S40) → Int → Int → Int → Bool → Option ((List (S112)) × Int)
 | 0, _, _, _, _, _, _, _ => none
 | k + 1, x0, x4, x5, x6, x10, x12, x79 => if x79 = true then (some (([] : List (S112)), 4)) else (if x10 = 0 then (if x12 = 0 then (qba.l0 k x0 x4 x5 (wrap64 (x6 + 1))) else (if 0 ≤ x6 then (if x6 < (x5.length : Int) then (if x4.length < 1466015503701 then (qba.l0 k x0 (x4 ++ [(⟨(⟨(qbd x5 x6).f0, (qbd x5 x6).f1, (qbd x5 x6).f2, (qbd x5 x6).f3, (qbd x5 x6).f4⟩ : S40), x10, x12⟩ : S112)]) x5 (wrap64 (x6 + 1))) else (none)) else (none)) else (none))) else (if 0 ≤ x6 then (if x6 < (x5.length : Int) then (if x4.length < 1466015503701 then (qba.l0 k x0 (x4 ++ [(⟨(⟨(qbd x5 x6).f0, (qbd x5 x6).f1, (qbd x5 x6).f2, (qbd x5 x6).f3, (qbd x5 x6).f4⟩ : S40), x10, x12⟩ : S112)]) x5 (wrap64 (x6 + 1))) else (none)) else (none)) else (none)))
end
def qba.f (k : Nat) (l0 : List (S112)) : Option ((List (S112)) × Int) := (qj.f k l0).bind fun t252 => (qba.l0 k l0 ([] : List (S112)) t252 0)
theorem qba.calls (k : Nat) (A0 : Option Addr) (c0 : Nat) (l0 : List (S112)) (r1 : List (S112)) (r2 : Int) (w : World) (hr0 : Kd.C k112 w A0 l0.length l0) (hc0 : l0.length ≤ c0) (h : qba.f k l0 = some (r1, r2)) :
  Calls Tryd.prog 54 #[.slice A0 l0.length c0] w fun e w' => ∃ v0_ : Value, e = .returned (.tuple #[v0_, .int .i64 r2]) ∧ Kd.R k112 112 w' w.heap.size (fun _ => True) v0_ r1 ∧ Below w.heap.size w w' := by
 have hu40 := Tryd.underlying40
 have hu112 := Tryd.underlying112
 have HR0 := qd.mk hr0
 have HC0 := qd.mk hc0
 clear hr0 hc0
 have HB := qd.mk (Below.refl w.heap.size w)
 have H : ((qj.f k l0).bind fun t252 => (qba.l0 k l0 ([] : List (S112)) t252 0)) = some (r1, r2) := h
 clear h
 replace H := obm H
 obtain ⟨t252, A20, H⟩ := H
 replace H : (qba.l0 k l0 ([] : List (S112)) t252 0) = some (r1, r2) := H
 have A2 := qd.mk A20
 clear A20
 have H' := qd.mk H
 clear H
 go_enter Tryd.func54, Tryd.ntmps54
 go_wp2_with (first | (go_at_call 103; (with_reducible refine (qj.calls k _ _ l0 t252 _ ?side1 ?side2 A2.out).mono ?_); (case side1 => repeat (first | exact HR0.out | (with_reducible refine Kd.qck ?_ _) | (with_reducible refine Kd.qcf ?_ _) | (with_reducible refine Kd.qcz ?_))); (case side2 => exact HC0.out); rintro e w3 ⟨v253, rfl, ho0, hb⟩; have n0_ := qd.mk (Kd.qec ho0 (qcm (bw_))); have n1_ := qd.mk (qw (bw_) hb); clear HB; have HO254 := n0_; have HB := n1_; clear n0_ n1_; (try clear hb); (try clear hb2); (try clear hk); (try clear hi); (try clear ho0)))
 repeat (go_quiet (first | (go_at_call 103; (with_reducible refine (qj.calls k _ _ l0 t252 _ ?side1 ?side2 A2.out).mono ?_); (case side1 => repeat (first | exact HR0.out | (with_reducible refine Kd.qck ?_ _) | (with_reducible refine Kd.qcf ?_ _) | (with_reducible refine Kd.qcz ?_))); (case side2 => exact HC0.out); rintro e w3 ⟨v253, rfl, ho0, hb⟩; have n0_ := qd.mk (Kd.qec ho0 (qcm (bw_))); have n1_ := qd.mk (qw (bw_) hb); clear HB; have HO254 := n0_; have HB := n1_; clear n0_ n1_; (try clear hb); (try clear hb2); (try clear hk); (try clear hi); (try clear ho0))); try go_wp2_with (first | (go_at_call 103; (with_reducible refine (qj.calls k _ _ l0 t252 _ ?side1 ?side2 A2.out).mono ?_); (case side1 => repeat (first | exact HR0.out | (with_reducible refine Kd.qck ?_ _) | (with_reducible refine Kd.qcf ?_ _) | (with_reducible refine Kd.qcz ?_))); (case side2 => exact HC0.out); rintro e w3 ⟨v253, rfl, ho0, hb⟩; have n0_ := qd.mk (Kd.qec ho0 (qcm (bw_))); have n1_ := qd.mk (qw (bw_) hb); clear HB; have HO254 := n0_; have HB := n1_; clear n0_ n1_; (try clear hb); (try clear hb2); (try clear hk); (try clear hi); (try clear ho0))))
 go_loopg [4, 6] k (fun kq v4 v6 w' => ∃ (x4_1 : List (S112)) (x6_1 : Int), v6 = .int .i64 x6_1 ∧ qd (qba.l0 kq l0 x4_1 t252 x6_1 = some (r1, r2)) ∧ qd (kq ≤ k) ∧ qd (Kd.R k112 112 w' w.heap.size (fun _ => True) v4 x4_1) ∧ qd (Kd.R k40 40 w' w.heap.size (fun _ => True) v253 t252) ∧ qd (Below w.heap.size w w'))
 case atStart => exact ⟨(([] : List (S112))), (0), sm_, H', ⟨Nat.le_refl _⟩, ⟨by first | exact Kd.qhz _ _ _ _ _ | exact Kd.N_nil _ _ _ _ _ | exact Kd.V_nil _ _ _ _ _ | exact Kd.Q_nil _ _ _ _ _ | exact Kd.S_nil _ _ _ _ _⟩, ⟨by (with_reducible repeat (first | apply Kd.R_alloc | apply Kd.qbj | apply Kd.qbl)); exact HO254.out⟩, ⟨bw_⟩⟩
 case round =>
  clear H'
  try clear p2
  obtain ⟨x4_1, x6_1, rfl, HA, HK1, HO_4, HO_5, HB⟩ := hrel
  cases gk with
  | zero => exact absurd HA.out (by simp [qba.l0])
  | succ k1 =>
   have H := HA.out
   clear HA
   simp only [qba.l0] at H
   by_cases c4 : x6_1 < (t252.length : Int)
   ·rw [if_pos c4] at H
    have c4b0 : decide (x6_1 < (t252.length : Int)) = true := decide_eq_true c4
    clear c4
    have H' := qd.mk H
    clear H
    obtain ⟨Ao5, co5, eo5⟩ := Kd.qct HO_5.out
    subst eo5
    go_wp2
    repeat (go_quiet (fail); try go_wp2)
    go_loopg [7, 8, 9] k1 (fun kq v7 v8 v9 w' => ∃ (x7_2 : List Int) (x8_2 : List Int) (x9_2 : Int), v9 = .int .i64 x9_2 ∧ qd (qba.l1 kq l0 x4_1 t252 x6_1 x7_2 x8_2 x9_2 = some (r1, r2)) ∧ qd (kq ≤ k1) ∧ qd (Kd.R k112 112 w' w.heap.size (fun _ => True) u4 x4_1) ∧ qd (Kd.R k40 40 w' w.heap.size (fun _ => True) (.slice Ao5 t252.length co5) t252) ∧ qd (Kd.R (Kd.int .i64) 3 w' w.heap.size (fun k_ => some k_ ≠ (v8 : Value).ownBlock) v7 x7_2) ∧ qd (Kd.R (Kd.int .i64) 3 w' w.heap.size (fun k_ => some k_ ≠ (v7 : Value).ownBlock) v8 x8_2) ∧ qd (Below w.heap.size w w'))
    case atStart => exact ⟨(([] : List Int)), (([] : List Int)), (0), sm_, H', ⟨Nat.le_refl _⟩, ⟨by (with_reducible repeat (first | apply Kd.R_alloc | apply Kd.qbj | apply Kd.qbl)); exact HO_4.out⟩, ⟨by (with_reducible repeat (first | apply Kd.R_alloc | apply Kd.qbj | apply Kd.qbl)); exact HO_5.out⟩, ⟨by first | exact Kd.qhz _ _ _ _ _ | exact Kd.N_nil _ _ _ _ _ | exact Kd.V_nil _ _ _ _ _ | exact Kd.Q_nil _ _ _ _ _ | exact Kd.S_nil _ _ _ _ _⟩, ⟨by first | exact Kd.qhz _ _ _ _ _ | exact Kd.N_nil _ _ _ _ _ | exact Kd.V_nil _ _ _ _ _ | exact Kd.Q_nil _ _ _ _ _ | exact Kd.S_nil _ _ _ _ _⟩, ⟨bw_⟩⟩
    clear H'
    try clear p2
    try clear c4
    try clear c4b0
    try clear c5
    try clear p2
    obtain ⟨x7_2, x8_2, x9_2, rfl, HA, HK2, HO_4, HO_5, HO_7, HO_8, HB⟩ := hrel
    cases gk with
    | zero => exact absurd HA.out (by simp [qba.l1])
    | succ k2 =>
     have H := HA.out
     clear HA
     simp only [qba.l1] at H
     by_cases c6 : x9_2 < (l0.length : Int)
     ·rw [if_pos c6] at H
      have c6b0 : decide (x9_2 < (l0.length : Int)) = true := decide_eq_true c6
      clear c6
      by_cases c7 : 0 ≤ x9_2
      rotate_left
      ·rw [if_neg c7] at H
       exact absurd H (by simp)
      rw [if_pos c7] at H
      have c7b0 : decide (0 ≤ x9_2) = true := decide_eq_true c7
      clear c7
      by_cases c8 : 0 ≤ x6_1
      rotate_left
      ·rw [if_neg c8] at H
       exact absurd H (by simp)
      rw [if_pos c8] at H
      have c8b0 : decide (0 ≤ x6_1) = true := decide_eq_true c8
      clear c8
      by_cases c9 : x6_1 < (t252.length : Int)
      rotate_left
      ·rw [if_neg c9] at H
       exact absurd H (by simp)
      rw [if_pos c9] at H
      have c9b0 : decide (x6_1 < (t252.length : Int)) = true := decide_eq_true c9
      clear c9
      by_cases c10 : ((((qx l0 x9_2).f0.f0).toList) == (((qbd t252 x6_1).f0).toList) && ((((qx l0 x9_2).f0.f1).toList) == (((qbd t252 x6_1).f1).toList) && ((((qx l0 x9_2).f0.f2).toList) == (((qbd t252 x6_1).f2).toList) && ((((qx l0 x9_2).f0.f3).toList) == (((qbd t252 x6_1).f3).toList) && ((((qx l0 x9_2).f0.f4).toList) == (((qbd t252 x6_1).f4).toList)))))) = true
      rotate_left
      ·rw [if_neg c10] at H
       have c10b0 : ((((qx l0 x9_2).f0.f0).toList) == (((qbd t252 x6_1).f0).toList) && ((((qx l0 x9_2).f0.f1).toList) == (((qbd t252 x6_1).f1).toList) && ((((qx l0 x9_2).f0.f2).toList) == (((qbd t252 x6_1).f2).toList) && ((((qx l0 x9_2).f0.f3).toList) == (((qbd t252 x6_1).f3).toList) && ((((qx l0 x9_2).f0.f4).toList) == (((qbd t252 x6_1).f4).toList)))))) = false := by simpa using c10
       (try (have c10b1 : decide ((((qx l0 x9_2).f0.f0).toList) = (((qbd t252 x6_1).f0).toList) && ((((qx l0 x9_2).f0.f1).toList) == (((qbd t252 x6_1).f1).toList) && ((((qx l0 x9_2).f0.f2).toList) == (((qbd t252 x6_1).f2).toList) && ((((qx l0 x9_2).f0.f3).toList) == (((qbd t252 x6_1).f3).toList) && ((((qx l0 x9_2).f0.f4).toList) == (((qbd t252 x6_1).f4).toList)))))) = false := by simpa using c10))
       (try (have c10b2 : ((((qx l0 x9_2).f0.f0).toList) == (((qbd t252 x6_1).f0).toList) && ((((qx l0 x9_2).f0.f1).toList) == (((qbd t252 x6_1).f1).toList) && ((((qx l0 x9_2).f0.f2).toList) == (((qbd t252 x6_1).f2).toList) && ((((qx l0 x9_2).f0.f3).toList) == (((qbd t252 x6_1).f3).toList) && ((((qx l0 x9_2).f0.f4).toList) == (((qbd t252 x6_1).f4).toList)))))) = false := by simpa using c10))
       (try (have c10b3 : ¬ ((((qx l0 x9_2).f0.f0).toList) = (((qbd t252 x6_1).f0).toList) && ((((qx l0 x9_2).f0.f1).toList) == (((qbd t252 x6_1).f1).toList) && ((((qx l0 x9_2).f0.f2).toList) == (((qbd t252 x6_1).f2).toList) && ((((qx l0 x9_2).f0.f3).toList) == (((qbd t252 x6_1).f3).toList) && ((((qx l0 x9_2).f0.f4).toList) == (((qbd t252 x6_1).f4).toList)))))) := by simpa using c10))
       clear c10
       have H' := qd.mk H
       clear H
       have p255 : 0 ≤ (x9_2 : Int) := odt_
       have q255 : x9_2 < (l0.length : Int) := odt_
       obtain ⟨ad255, e255, hx255_0, hx255_1, hx255_2, hx255_3, hx255_4, hx255_5, hx255_6⟩ := qep HR0.out x9_2 p255 q255
       cases e255
       replace hx255_0 := bcl_ HB hx255_0
       replace hx255_1 := bcl_ HB hx255_1
       replace hx255_2 := bcl_ HB hx255_2
       replace hx255_3 := bcl_ HB hx255_3
       replace hx255_4 := bcl_ HB hx255_4
       replace hx255_5 := bcl_ HB hx255_5
       replace hx255_6 := bcl_ HB hx255_6
       replace p255 := eq_true p255
       replace q255 := eq_true q255
       have p256 : 0 ≤ (x6_1 : Int) := odt_
       have q256 : x6_1 < (t252.length : Int) := odt_
       obtain ⟨ad256, e256, hx256_0, hx256_1, hx256_2, hx256_3, hx256_4⟩ := qkv (Kd.qbt HO_5.out).2.2 x6_1 p256 q256
       cases e256
       replace p256 := eq_true p256
       replace q256 := eq_true q256
       go_wp2
       repeat (go_quiet (fail); try go_wp2)
       go_roundg k2
       case measure => have := HK1.out; have := HK2.out; omega
       case rel => exact ⟨(x7_2), (x8_2), (wrap64 (x9_2 + 1)), sm_, H', ⟨by have := HK1.out; have := HK2.out; omega⟩, ⟨by (with_reducible repeat (first | apply Kd.R_alloc | apply Kd.qbj | apply Kd.qbl)); exact HO_4.out⟩, ⟨by (with_reducible repeat (first | apply Kd.R_alloc | apply Kd.qbj | apply Kd.qbl)); exact HO_5.out⟩, ⟨by (with_reducible repeat (first | apply Kd.R_alloc | apply Kd.qbj | apply Kd.qbl)); exact HO_7.out⟩, ⟨by (with_reducible repeat (first | apply Kd.R_alloc | apply Kd.qbj | apply Kd.qbl)); exact HO_8.out⟩, ⟨bw_⟩⟩
      rw [if_pos c10] at H
      have c10b0 : ((((qx l0 x9_2).f0.f0).toList) == (((qbd t252 x6_1).f0).toList) && ((((qx l0 x9_2).f0.f1).toList) == (((qbd t252 x6_1).f1).toList) && ((((qx l0 x9_2).f0.f2).toList) == (((qbd t252 x6_1).f2).toList) && ((((qx l0 x9_2).f0.f3).toList) == (((qbd t252 x6_1).f3).toList) && ((((qx l0 x9_2).f0.f4).toList) == (((qbd t252 x6_1).f4).toList)))))) = true := c10
      (try (have c10b1 : decide ((((qx l0 x9_2).f0.f0).toList) = (((qbd t252 x6_1).f0).toList) && ((((qx l0 x9_2).f0.f1).toList) == (((qbd t252 x6_1).f1).toList) && ((((qx l0 x9_2).f0.f2).toList) == (((qbd t252 x6_1).f2).toList) && ((((qx l0 x9_2).f0.f3).toList) == (((qbd t252 x6_1).f3).toList) && ((((qx l0 x9_2).f0.f4).toList) == (((qbd t252 x6_1).f4).toList)))))) = true := by simpa using c10))
      (try (have c10b2 : ((((qx l0 x9_2).f0.f0).toList) == (((qbd t252 x6_1).f0).toList) && ((((qx l0 x9_2).f0.f1).toList) == (((qbd t252 x6_1).f1).toList) && ((((qx l0 x9_2).f0.f2).toList) == (((qbd t252 x6_1).f2).toList) && ((((qx l0 x9_2).f0.f3).toList) == (((qbd t252 x6_1).f3).toList) && ((((qx l0 x9_2).f0.f4).toList) == (((qbd t252 x6_1).f4).toList)))))) = true := by simpa using c10))
      clear c10
      by_cases c11 : x7_2.length < 17592186044416
      rotate_left
      ·rw [if_neg c11] at H
       exact absurd H (by simp)
      rw [if_pos c11] at H
      have LMc11 := qd.mk c11
      clear c11
      obtain ⟨y258, hy258⟩ : ∃ y_ : List Int, y_ = (x7_2 ++ [(qx l0 x9_2).f1]) := ⟨_, rfl⟩
      replace H : (if x8_2.length < 17592186044416 then (qba.l1 k2 l0 x4_1 t252 x6_1 y258 (x8_2 ++ [(qx l0 x9_2).f2]) (wrap64 (x9_2 + 1))) else (none)) = some (r1, r2) := by first | (rw [hy258]; with_reducible exact H) | (have H2_ := (Option.bind_some _ _).symm.trans H; rw [hy258]; with_reducible exact H2_) | (have H2_ := (Option.bind_some _ _).symm.trans H; with_reducible exact H2_) | with_reducible exact H | (rw [hy258]; exact H) | exact H
      have Ny258 := qd.mk hy258
      clear hy258
      by_cases c12 : x8_2.length < 17592186044416
      rotate_left
      ·rw [if_neg c12] at H
       exact absurd H (by simp)
      rw [if_pos c12] at H
      have LMc12 := qd.mk c12
      clear c12
      obtain ⟨y262, hy262⟩ : ∃ y_ : List Int, y_ = (x8_2 ++ [(qx l0 x9_2).f2]) := ⟨_, rfl⟩
      replace H : (qba.l1 k2 l0 x4_1 t252 x6_1 y258 y262 (wrap64 (x9_2 + 1))) = some (r1, r2) := by first | (rw [hy262]; with_reducible exact H) | (have H2_ := (Option.bind_some _ _).symm.trans H; rw [hy262]; with_reducible exact H2_) | (have H2_ := (Option.bind_some _ _).symm.trans H; with_reducible exact H2_) | with_reducible exact H | (rw [hy262]; exact H) | exact H
      have Ny262 := qd.mk hy262
      clear hy262
      have H' := qd.mk H
      clear H
      have p255 : 0 ≤ (x9_2 : Int) := odt_
      have q255 : x9_2 < (l0.length : Int) := odt_
      obtain ⟨ad255, e255, hx255_0, hx255_1, hx255_2, hx255_3, hx255_4, hx255_5, hx255_6⟩ := qep HR0.out x9_2 p255 q255
      cases e255
      replace hx255_0 := bcl_ HB hx255_0
      replace hx255_1 := bcl_ HB hx255_1
      replace hx255_2 := bcl_ HB hx255_2
      replace hx255_3 := bcl_ HB hx255_3
      replace hx255_4 := bcl_ HB hx255_4
      replace hx255_5 := bcl_ HB hx255_5
      replace hx255_6 := bcl_ HB hx255_6
      replace p255 := eq_true p255
      replace q255 := eq_true q255
      have p256 : 0 ≤ (x6_1 : Int) := odt_
      have q256 : x6_1 < (t252.length : Int) := odt_
      obtain ⟨ad256, e256, hx256_0, hx256_1, hx256_2, hx256_3, hx256_4⟩ := qkv (Kd.qbt HO_5.out).2.2 x6_1 p256 q256
      cases e256
      replace p256 := eq_true p256
      replace q256 := eq_true q256
      have p257 : 0 ≤ (x9_2 : Int) := odt_
      have q257 : x9_2 < (l0.length : Int) := odt_
      obtain ⟨ad257, e257, hx257_0, hx257_1, hx257_2, hx257_3, hx257_4, hx257_5, hx257_6⟩ := qep HR0.out x9_2 p257 q257
      obtain rfl : ad255 = ad257 := (by injection e257)
      replace hx257_0 := bcl_ HB hx257_0
      replace hx257_1 := bcl_ HB hx257_1
      replace hx257_2 := bcl_ HB hx257_2
      replace hx257_3 := bcl_ HB hx257_3
      replace hx257_4 := bcl_ HB hx257_4
      replace hx257_5 := bcl_ HB hx257_5
      replace hx257_6 := bcl_ HB hx257_6
      replace p257 := eq_true p257
      replace q257 := eq_true q257
      go_wp2_with (first | ((with_reducible refine qdf (b := .append) (xs := #[.tmp 38, .tmp 44]) rfl ?_); at_builtin; refine Kd.qet (Kd.int .i64) (w0 := w) w.heap.size rfl (.tmp 38) (.tmp 44) 43 3 (.int .i64 0) 8 rfl Tryd.underlying43 info3 rfl (by decide) (by omega) u7 x7_2 ((qx l0 x9_2).f1) [.int .i64 ((qx l0 x9_2).f1)] (fun k_ => some k_ ≠ (u8 : Value).ownBlock) (fun _ => False) rfl rfl ?aP (fun _ hk => hk.elim) ?aF ?aO ?aB ?aS ?aL ?_; (case aP => exact rfl); (case aB => exact (bw_)); (case aF => exact (fun k_ hk => Kd.fresh' (Kd.R_lt (by (with_reducible repeat (first | apply Kd.R_alloc | apply Kd.qbj | apply Kd.qbl)); exact HO_8.out)) k_ hk)); (case aO => exact (by (with_reducible repeat (first | apply Kd.R_alloc | apply Kd.qbj | apply Kd.qbl)); exact HO_7.out)); (case aS => exact (qcm (bw_))); (case aL => have := LMc11.out; omega); intro v259 w13 ho hb hg hat; rw [← Ny258.out] at ho; have n0_ := qd.mk (Kd.qfi (by (with_reducible repeat (first | apply Kd.R_alloc | apply Kd.qbj | apply Kd.qbl)); exact HO_4.out) (Kd.qea (by (with_reducible repeat (first | apply Kd.R_alloc | apply Kd.qbj | apply Kd.qbl)); exact HO_7.out)) (by decide) hg); have n1_ := qd.mk (Kd.qfi (by (with_reducible repeat (first | apply Kd.R_alloc | apply Kd.qbj | apply Kd.qbl)); exact HO_5.out) (Kd.qea (by (with_reducible repeat (first | apply Kd.R_alloc | apply Kd.qbj | apply Kd.qbl)); exact HO_7.out)) (by decide) hg); have n2_ := qd.mk (Kd.qik (ok := (fun _ => True)) (by (with_reducible repeat (first | apply Kd.R_alloc | apply Kd.qbj | apply Kd.qbl)); exact Kd.qdt HO_8.out (fun _ hk => ⟨trivial, hk⟩)) hg hat); have n3_ := qd.mk (hb); have n4_ := qd.mk (ho); clear HO_4; clear HO_5; clear HO_8; clear HB; clear HO_7; have HO_4 := n0_; have HO_5 := n1_; have HO_8 := n2_; have HB := n3_; have HO260 := n4_; clear n0_ n1_ n2_ n3_ n4_; clear ho hb hg hat; have p261 : 0 ≤ (x9_2 : Int) := odt_; have q261 : x9_2 < (l0.length : Int) := odt_; obtain ⟨ad261, e261, hx261_0, hx261_1, hx261_2, hx261_3, hx261_4, hx261_5, hx261_6⟩ := qep HR0.out x9_2 p261 q261; obtain rfl : ad255 = ad261 := (by injection e261); replace hx261_0 := bcl_ HB hx261_0; replace hx261_1 := bcl_ HB hx261_1; replace hx261_2 := bcl_ HB hx261_2; replace hx261_3 := bcl_ HB hx261_3; replace hx261_4 := bcl_ HB hx261_4; replace hx261_5 := bcl_ HB hx261_5; replace hx261_6 := bcl_ HB hx261_6; replace p261 := eq_true p261; replace q261 := eq_true q261) | ((with_reducible refine qdf (b := .append) (xs := #[.tmp 46, .tmp 52]) rfl ?_); at_builtin; refine Kd.qet (Kd.int .i64) (w0 := w) w.heap.size rfl (.tmp 46) (.tmp 52) 43 3 (.int .i64 0) 8 rfl Tryd.underlying43 info3 rfl (by decide) (by omega) u8 x8_2 ((qx l0 x9_2).f2) [.int .i64 ((qx l0 x9_2).f2)] (fun k_ => some k_ ≠ (v259 : Value).ownBlock) (fun _ => False) rfl rfl ?aP (fun _ hk => hk.elim) ?aF ?aO ?aB ?aS ?aL ?_; (case aP => exact rfl); (case aB => exact (bw_)); (case aF => exact (fun k_ hk => Kd.fresh' (Kd.R_lt (by (with_reducible repeat (first | apply Kd.R_alloc | apply Kd.qbj | apply Kd.qbl)); exact HO260.out)) k_ hk)); (case aO => exact (by (with_reducible repeat (first | apply Kd.R_alloc | apply Kd.qbj | apply Kd.qbl)); exact Kd.qdt HO_8.out (fun _ hk => hk.2))); (case aS => exact (qcm (bw_))); (case aL => have := LMc12.out; omega); intro v263 w14 ho hb hg hat; rw [← Ny262.out] at ho; have n0_ := qd.mk (Kd.qfi (by (with_reducible repeat (first | apply Kd.R_alloc | apply Kd.qbj | apply Kd.qbl)); exact HO_4.out) (Kd.qea (by (with_reducible repeat (first | apply Kd.R_alloc | apply Kd.qbj | apply Kd.qbl)); exact HO_8.out)) (by decide) hg); have n1_ := qd.mk (Kd.qfi (by (with_reducible repeat (first | apply Kd.R_alloc | apply Kd.qbj | apply Kd.qbl)); exact HO_5.out) (Kd.qea (by (with_reducible repeat (first | apply Kd.R_alloc | apply Kd.qbj | apply Kd.qbl)); exact HO_8.out)) (by decide) hg); have n2_ := qd.mk (Kd.qik (ok := (fun _ => True)) (by (with_reducible repeat (first | apply Kd.R_alloc | apply Kd.qbj | apply Kd.qbl)); exact Kd.qdt HO260.out (fun _ hk => ⟨trivial, hk⟩)) hg hat); have n3_ := qd.mk (hb); have n4_ := qd.mk (ho); clear HO_4; clear HO_5; clear HO260; clear HB; clear HO_8; have HO_4 := n0_; have HO_5 := n1_; have HO260 := n2_; have HB := n3_; have HO264 := n4_; clear n0_ n1_ n2_ n3_ n4_; clear ho hb hg hat))
      repeat (go_quiet (first | ((with_reducible refine qdf (b := .append) (xs := #[.tmp 38, .tmp 44]) rfl ?_); at_builtin; refine Kd.qet (Kd.int .i64) (w0 := w) w.heap.size rfl (.tmp 38) (.tmp 44) 43 3 (.int .i64 0) 8 rfl Tryd.underlying43 info3 rfl (by decide) (by omega) u7 x7_2 ((qx l0 x9_2).f1) [.int .i64 ((qx l0 x9_2).f1)] (fun k_ => some k_ ≠ (u8 : Value).ownBlock) (fun _ => False) rfl rfl ?aP (fun _ hk => hk.elim) ?aF ?aO ?aB ?aS ?aL ?_; (case aP => exact rfl); (case aB => exact (bw_)); (case aF => exact (fun k_ hk => Kd.fresh' (Kd.R_lt (by (with_reducible repeat (first | apply Kd.R_alloc | apply Kd.qbj | apply Kd.qbl)); exact HO_8.out)) k_ hk)); (case aO => exact (by (with_reducible repeat (first | apply Kd.R_alloc | apply Kd.qbj | apply Kd.qbl)); exact HO_7.out)); (case aS => exact (qcm (bw_))); (case aL => have := LMc11.out; omega); intro v259 w13 ho hb hg hat; rw [← Ny258.out] at ho; have n0_ := qd.mk (Kd.qfi (by (with_reducible repeat (first | apply Kd.R_alloc | apply Kd.qbj | apply Kd.qbl)); exact HO_4.out) (Kd.qea (by (with_reducible repeat (first | apply Kd.R_alloc | apply Kd.qbj | apply Kd.qbl)); exact HO_7.out)) (by decide) hg); have n1_ := qd.mk (Kd.qfi (by (with_reducible repeat (first | apply Kd.R_alloc | apply Kd.qbj | apply Kd.qbl)); exact HO_5.out) (Kd.qea (by (with_reducible repeat (first | apply Kd.R_alloc | apply Kd.qbj | apply Kd.qbl)); exact HO_7.out)) (by decide) hg); have n2_ := qd.mk (Kd.qik (ok := (fun _ => True)) (by (with_reducible repeat (first | apply Kd.R_alloc | apply Kd.qbj | apply Kd.qbl)); exact Kd.qdt HO_8.out (fun _ hk => ⟨trivial, hk⟩)) hg hat); have n3_ := qd.mk (hb); have n4_ := qd.mk (ho); clear HO_4; clear HO_5; clear HO_8; clear HB; clear HO_7; have HO_4 := n0_; have HO_5 := n1_; have HO_8 := n2_; have HB := n3_; have HO260 := n4_; clear n0_ n1_ n2_ n3_ n4_; clear ho hb hg hat; have p261 : 0 ≤ (x9_2 : Int) := odt_; have q261 : x9_2 < (l0.length : Int) := odt_; obtain ⟨ad261, e261, hx261_0, hx261_1, hx261_2, hx261_3, hx261_4, hx261_5, hx261_6⟩ := qep HR0.out x9_2 p261 q261; obtain rfl : ad255 = ad261 := (by injection e261); replace hx261_0 := bcl_ HB hx261_0; replace hx261_1 := bcl_ HB hx261_1; replace hx261_2 := bcl_ HB hx261_2; replace hx261_3 := bcl_ HB hx261_3; replace hx261_4 := bcl_ HB hx261_4; replace hx261_5 := bcl_ HB hx261_5; replace hx261_6 := bcl_ HB hx261_6; replace p261 := eq_true p261; replace q261 := eq_true q261) | ((with_reducible refine qdf (b := .append) (xs := #[.tmp 46, .tmp 52]) rfl ?_); at_builtin; refine Kd.qet (Kd.int .i64) (w0 := w) w.heap.size rfl (.tmp 46) (.tmp 52) 43 3 (.int .i64 0) 8 rfl Tryd.underlying43 info3 rfl (by decide) (by omega) u8 x8_2 ((qx l0 x9_2).f2) [.int .i64 ((qx l0 x9_2).f2)] (fun k_ => some k_ ≠ (v259 : Value).ownBlock) (fun _ => False) rfl rfl ?aP (fun _ hk => hk.elim) ?aF ?aO ?aB ?aS ?aL ?_; (case aP => exact rfl); (case aB => exact (bw_)); (case aF => exact (fun k_ hk => Kd.fresh' (Kd.R_lt (by (with_reducible repeat (first | apply Kd.R_alloc | apply Kd.qbj | apply Kd.qbl)); exact HO260.out)) k_ hk)); (case aO => exact (by (with_reducible repeat (first | apply Kd.R_alloc | apply Kd.qbj | apply Kd.qbl)); exact Kd.qdt HO_8.out (fun _ hk => hk.2))); (case aS => exact (qcm (bw_))); (case aL => have := LMc12.out; omega); intro v263 w14 ho hb hg hat; rw [← Ny262.out] at ho; have n0_ := qd.mk (Kd.qfi (by (with_reducible repeat (first | apply Kd.R_alloc | apply Kd.qbj | apply Kd.qbl)); exact HO_4.out) (Kd.qea (by (with_reducible repeat (first | apply Kd.R_alloc | apply Kd.qbj | apply Kd.qbl)); exact HO_8.out)) (by decide) hg); have n1_ := qd.mk (Kd.qfi (by (with_reducible repeat (first | apply Kd.R_alloc | apply Kd.qbj | apply Kd.qbl)); exact HO_5.out) (Kd.qea (by (with_reducible repeat (first | apply Kd.R_alloc | apply Kd.qbj | apply Kd.qbl)); exact HO_8.out)) (by decide) hg); have n2_ := qd.mk (Kd.qik (ok := (fun _ => True)) (by (with_reducible repeat (first | apply Kd.R_alloc | apply Kd.qbj | apply Kd.qbl)); exact Kd.qdt HO260.out (fun _ hk => ⟨trivial, hk⟩)) hg hat); have n3_ := qd.mk (hb); have n4_ := qd.mk (ho); clear HO_4; clear HO_5; clear HO260; clear HB; clear HO_8; have HO_4 := n0_; have HO_5 := n1_; have HO260 := n2_; have HB := n3_; have HO264 := n4_; clear n0_ n1_ n2_ n3_ n4_; clear ho hb hg hat)); try go_wp2_with (first | ((with_reducible refine qdf (b := .append) (xs := #[.tmp 38, .tmp 44]) rfl ?_); at_builtin; refine Kd.qet (Kd.int .i64) (w0 := w) w.heap.size rfl (.tmp 38) (.tmp 44) 43 3 (.int .i64 0) 8 rfl Tryd.underlying43 info3 rfl (by decide) (by omega) u7 x7_2 ((qx l0 x9_2).f1) [.int .i64 ((qx l0 x9_2).f1)] (fun k_ => some k_ ≠ (u8 : Value).ownBlock) (fun _ => False) rfl rfl ?aP (fun _ hk => hk.elim) ?aF ?aO ?aB ?aS ?aL ?_; (case aP => exact rfl); (case aB => exact (bw_)); (case aF => exact (fun k_ hk => Kd.fresh' (Kd.R_lt (by (with_reducible repeat (first | apply Kd.R_alloc | apply Kd.qbj | apply Kd.qbl)); exact HO_8.out)) k_ hk)); (case aO => exact (by (with_reducible repeat (first | apply Kd.R_alloc | apply Kd.qbj | apply Kd.qbl)); exact HO_7.out)); (case aS => exact (qcm (bw_))); (case aL => have := LMc11.out; omega); intro v259 w13 ho hb hg hat; rw [← Ny258.out] at ho; have n0_ := qd.mk (Kd.qfi (by (with_reducible repeat (first | apply Kd.R_alloc | apply Kd.qbj | apply Kd.qbl)); exact HO_4.out) (Kd.qea (by (with_reducible repeat (first | apply Kd.R_alloc | apply Kd.qbj | apply Kd.qbl)); exact HO_7.out)) (by decide) hg); have n1_ := qd.mk (Kd.qfi (by (with_reducible repeat (first | apply Kd.R_alloc | apply Kd.qbj | apply Kd.qbl)); exact HO_5.out) (Kd.qea (by (with_reducible repeat (first | apply Kd.R_alloc | apply Kd.qbj | apply Kd.qbl)); exact HO_7.out)) (by decide) hg); have n2_ := qd.mk (Kd.qik (ok := (fun _ => True)) (by (with_reducible repeat (first | apply Kd.R_alloc | apply Kd.qbj | apply Kd.qbl)); exact Kd.qdt HO_8.out (fun _ hk => ⟨trivial, hk⟩)) hg hat); have n3_ := qd.mk (hb); have n4_ := qd.mk (ho); clear HO_4; clear HO_5; clear HO_8; clear HB; clear HO_7; have HO_4 := n0_; have HO_5 := n1_; have HO_8 := n2_; have HB := n3_; have HO260 := n4_; clear n0_ n1_ n2_ n3_ n4_; clear ho hb hg hat; have p261 : 0 ≤ (x9_2 : Int) := odt_; have q261 : x9_2 < (l0.length : Int) := odt_; obtain ⟨ad261, e261, hx261_0, hx261_1, hx261_2, hx261_3, hx261_4, hx261_5, hx261_6⟩ := qep HR0.out x9_2 p261 q261; obtain rfl : ad255 = ad261 := (by injection e261); replace hx261_0 := bcl_ HB hx261_0; replace hx261_1 := bcl_ HB hx261_1; replace hx261_2 := bcl_ HB hx261_2; replace hx261_3 := bcl_ HB hx261_3; replace hx261_4 := bcl_ HB hx261_4; replace hx261_5 := bcl_ HB hx261_5; replace hx261_6 := bcl_ HB hx261_6; replace p261 := eq_true p261; replace q261 := eq_true q261) | ((with_reducible refine qdf (b := .append) (xs := #[.tmp 46, .tmp 52]) rfl ?_); at_builtin; refine Kd.qet (Kd.int .i64) (w0 := w) w.heap.size rfl (.tmp 46) (.tmp 52) 43 3 (.int .i64 0) 8 rfl Tryd.underlying43 info3 rfl (by decide) (by omega) u8 x8_2 ((qx l0 x9_2).f2) [.int .i64 ((qx l0 x9_2).f2)] (fun k_ => some k_ ≠ (v259 : Value).ownBlock) (fun _ => False) rfl rfl ?aP (fun _ hk => hk.elim) ?aF ?aO ?aB ?aS ?aL ?_; (case aP => exact rfl); (case aB => exact (bw_)); (case aF => exact (fun k_ hk => Kd.fresh' (Kd.R_lt (by (with_reducible repeat (first | apply Kd.R_alloc | apply Kd.qbj | apply Kd.qbl)); exact HO260.out)) k_ hk)); (case aO => exact (by (with_reducible repeat (first | apply Kd.R_alloc | apply Kd.qbj | apply Kd.qbl)); exact Kd.qdt HO_8.out (fun _ hk => hk.2))); (case aS => exact (qcm (bw_))); (case aL => have := LMc12.out; omega); intro v263 w14 ho hb hg hat; rw [← Ny262.out] at ho; have n0_ := qd.mk (Kd.qfi (by (with_reducible repeat (first | apply Kd.R_alloc | apply Kd.qbj | apply Kd.qbl)); exact HO_4.out) (Kd.qea (by (with_reducible repeat (first | apply Kd.R_alloc | apply Kd.qbj | apply Kd.qbl)); exact HO_8.out)) (by decide) hg); have n1_ := qd.mk (Kd.qfi (by (with_reducible repeat (first | apply Kd.R_alloc | apply Kd.qbj | apply Kd.qbl)); exact HO_5.out) (Kd.qea (by (with_reducible repeat (first | apply Kd.R_alloc | apply Kd.qbj | apply Kd.qbl)); exact HO_8.out)) (by decide) hg); have n2_ := qd.mk (Kd.qik (ok := (fun _ => True)) (by (with_reducible repeat (first | apply Kd.R_alloc | apply Kd.qbj | apply Kd.qbl)); exact Kd.qdt HO260.out (fun _ hk => ⟨trivial, hk⟩)) hg hat); have n3_ := qd.mk (hb); have n4_ := qd.mk (ho); clear HO_4; clear HO_5; clear HO260; clear HB; clear HO_8; have HO_4 := n0_; have HO_5 := n1_; have HO260 := n2_; have HB := n3_; have HO264 := n4_; clear n0_ n1_ n2_ n3_ n4_; clear ho hb hg hat)))
      go_roundg k2
      case measure => have := HK1.out; have := HK2.out; omega
      case rel => exact ⟨(y258), (y262), (wrap64 (x9_2 + 1)), sm_, H', ⟨by have := HK1.out; have := HK2.out; omega⟩, ⟨by (with_reducible repeat (first | apply Kd.R_alloc | apply Kd.qbj | apply Kd.qbl)); exact HO_4.out⟩, ⟨by (with_reducible repeat (first | apply Kd.R_alloc | apply Kd.qbj | apply Kd.qbl)); exact HO_5.out⟩, ⟨by (with_reducible repeat (first | apply Kd.R_alloc | apply Kd.qbj | apply Kd.qbl)); exact Kd.qdt HO260.out (fun _ hk => hk.2)⟩, ⟨by (with_reducible repeat (first | apply Kd.R_alloc | apply Kd.qbj | apply Kd.qbl)); exact HO264.out⟩, ⟨bw_⟩⟩
     rw [if_neg c6] at H
     have c6b0 : decide (x9_2 < (l0.length : Int)) = false := decide_eq_false c6
     clear c6
     replace H := obm H
     obtain ⟨⟨t265, t266⟩, A150, H⟩ := H
     try dsimp only at H
     have A15 := qd.mk A150
     clear A150
     replace H := obm H
     obtain ⟨⟨t267, t268⟩, A160, H⟩ := H
     try dsimp only at H
     have A16 := qd.mk A160
     clear A160
     have HC17 := qd.mk H
     clear H
     obtain ⟨Ao18, co18, eo18⟩ := Kd.qct HO_7.out
     subst eo18
     go_upto_region 15 with (first | (go_at_call 77; (with_reducible refine (qbp.calls k2 _ _ x7_2 t265 t266 _ ?side1 ?side2 A15.out).mono ?_); (case side1 => repeat (first | exact (Kd.qbt HO_7.out).2.2 | (with_reducible refine Kd.qck ?_ _) | (with_reducible refine Kd.qcf ?_ _) | (with_reducible refine Kd.qcz ?_))); (case side2 => exact (Kd.qbt HO_7.out).2.1); rintro e w' ⟨rfl, ⟨nd, rfl⟩⟩; (try first | exact ⟨rfl, _, World.drewN_drewN _ _ _⟩ | exact ⟨rfl, _, Eq.trans (World.drewN_drewN _ _ _) (congrArg (World.drewN _) (Nat.add_assoc _ _ _))⟩); obtain ⟨Ao19, co19, eo19⟩ := Kd.qct HO_8.out; subst eo19) | (go_at_call 77; (with_reducible refine (qbp.calls k2 _ _ x8_2 t267 t268 _ ?side1 ?side2 A16.out).mono ?_); (case side1 => repeat (first | exact (Kd.qbt HO_8.out).2.2 | (with_reducible refine Kd.qck ?_ _) | (with_reducible refine Kd.qcf ?_ _) | (with_reducible refine Kd.qcz ?_))); (case side2 => exact (Kd.qbt HO_8.out).2.1); rintro e w' ⟨rfl, ⟨nd, rfl⟩⟩; (try first | exact ⟨rfl, _, World.drewN_drewN _ _ _⟩ | exact ⟨rfl, _, Eq.trans (World.drewN_drewN _ _ _) (congrArg (World.drewN _) (Nat.add_assoc _ _ _))⟩)))
     repeat (go_quiet (first | (go_at_call 77; (with_reducible refine (qbp.calls k2 _ _ x7_2 t265 t266 _ ?side1 ?side2 A15.out).mono ?_); (case side1 => repeat (first | exact (Kd.qbt HO_7.out).2.2 | (with_reducible refine Kd.qck ?_ _) | (with_reducible refine Kd.qcf ?_ _) | (with_reducible refine Kd.qcz ?_))); (case side2 => exact (Kd.qbt HO_7.out).2.1); rintro e w' ⟨rfl, ⟨nd, rfl⟩⟩; (try first | exact ⟨rfl, _, World.drewN_drewN _ _ _⟩ | exact ⟨rfl, _, Eq.trans (World.drewN_drewN _ _ _) (congrArg (World.drewN _) (Nat.add_assoc _ _ _))⟩); obtain ⟨Ao19, co19, eo19⟩ := Kd.qct HO_8.out; subst eo19) | (go_at_call 77; (with_reducible refine (qbp.calls k2 _ _ x8_2 t267 t268 _ ?side1 ?side2 A16.out).mono ?_); (case side1 => repeat (first | exact (Kd.qbt HO_8.out).2.2 | (with_reducible refine Kd.qck ?_ _) | (with_reducible refine Kd.qcf ?_ _) | (with_reducible refine Kd.qcz ?_))); (case side2 => exact (Kd.qbt HO_8.out).2.1); rintro e w' ⟨rfl, ⟨nd, rfl⟩⟩; (try first | exact ⟨rfl, _, World.drewN_drewN _ _ _⟩ | exact ⟨rfl, _, Eq.trans (World.drewN_drewN _ _ _) (congrArg (World.drewN _) (Nat.add_assoc _ _ _))⟩))); go_upto_region 15 with (first | (go_at_call 77; (with_reducible refine (qbp.calls k2 _ _ x7_2 t265 t266 _ ?side1 ?side2 A15.out).mono ?_); (case side1 => repeat (first | exact (Kd.qbt HO_7.out).2.2 | (with_reducible refine Kd.qck ?_ _) | (with_reducible refine Kd.qcf ?_ _) | (with_reducible refine Kd.qcz ?_))); (case side2 => exact (Kd.qbt HO_7.out).2.1); rintro e w' ⟨rfl, ⟨nd, rfl⟩⟩; (try first | exact ⟨rfl, _, World.drewN_drewN _ _ _⟩ | exact ⟨rfl, _, Eq.trans (World.drewN_drewN _ _ _) (congrArg (World.drewN _) (Nat.add_assoc _ _ _))⟩); obtain ⟨Ao19, co19, eo19⟩ := Kd.qct HO_8.out; subst eo19) | (go_at_call 77; (with_reducible refine (qbp.calls k2 _ _ x8_2 t267 t268 _ ?side1 ?side2 A16.out).mono ?_); (case side1 => repeat (first | exact (Kd.qbt HO_8.out).2.2 | (with_reducible refine Kd.qck ?_ _) | (with_reducible refine Kd.qcf ?_ _) | (with_reducible refine Kd.qcz ?_))); (case side2 => exact (Kd.qbt HO_8.out).2.1); rintro e w' ⟨rfl, ⟨nd, rfl⟩⟩; (try first | exact ⟨rfl, _, World.drewN_drewN _ _ _⟩ | exact ⟨rfl, _, Eq.trans (World.drewN_drewN _ _ _) (congrArg (World.drewN _) (Nat.add_assoc _ _ _))⟩))))
     (try simp only [Act.put, List.setIfInBounds_toArray, List.set_cons_zero, List.set_cons_succ])
     go_cut [79] (fun v79 wc => ∃ (kq : Nat) (x79_16 : Bool), v79 = .bool x79_16 ∧ qd (qba.j2 kq l0 x4_1 t252 x6_1 t265 t267 x79_16 = some (r1, r2)) ∧ qd (kq ≤ k2) ∧ qd (Kd.R k112 112 wc w.heap.size (fun _ => True) u4 x4_1) ∧ qd (Kd.R k40 40 wc w.heap.size (fun _ => True) (.slice Ao5 t252.length co5) t252) ∧ qd (Below w.heap.size w wc))
     case first =>
      have H := HC17.out
      clear HC17
      by_cases c20 : t266 = true
      rotate_left
      ·replace c20 := Bool.eq_false_iff.mpr c20
       subst c20
       have H1 : (qba.j2 k2 l0 x4_1 t252 x6_1 t265 t267 true) = some (r1, r2) := by rw [if_neg (show ¬ (false = true) by decide)] at H; exact H
       clear H
       have H := H1
       clear H1
       have H' := qd.mk H
       clear H
       go_wp2
       repeat (go_quiet (fail); try go_wp2)
       go_meet
       case rel => exact ⟨_, (true), sm_, H', ⟨by have := HK1.out; have := HK2.out; first | omega | exact Nat.le_refl _⟩, ⟨by (with_reducible repeat (first | apply Kd.R_alloc | apply Kd.qbj | apply Kd.qbl)); exact HO_4.out⟩, ⟨by (with_reducible repeat (first | apply Kd.R_alloc | apply Kd.qbj | apply Kd.qbl)); exact HO_5.out⟩, ⟨bw_⟩⟩
      subst c20
      have H1 : (if t268 = true then ((qcb.f t265).bind fun t269 => (if t269 = true then ((qcb.f t267).bind fun t270 => (qba.j2 k2 l0 x4_1 t252 x6_1 t265 t267 (!t270))) else (qba.j2 k2 l0 x4_1 t252 x6_1 t265 t267 true))) else (qba.j2 k2 l0 x4_1 t252 x6_1 t265 t267 true)) = some (r1, r2) := by rw [if_pos rfl] at H; exact H
      clear H
      have H := H1
      clear H1
      by_cases c21 : t268 = true
      rotate_left
      ·replace c21 := Bool.eq_false_iff.mpr c21
       subst c21
       have H1 : (qba.j2 k2 l0 x4_1 t252 x6_1 t265 t267 true) = some (r1, r2) := by rw [if_neg (show ¬ (false = true) by decide)] at H; exact H
       clear H
       have H := H1
       clear H1
       have H' := qd.mk H
       clear H
       go_wp2
       repeat (go_quiet (fail); try go_wp2)
       go_meet
       case rel => exact ⟨_, (true), sm_, H', ⟨by have := HK1.out; have := HK2.out; first | omega | exact Nat.le_refl _⟩, ⟨by (with_reducible repeat (first | apply Kd.R_alloc | apply Kd.qbj | apply Kd.qbl)); exact HO_4.out⟩, ⟨by (with_reducible repeat (first | apply Kd.R_alloc | apply Kd.qbj | apply Kd.qbl)); exact HO_5.out⟩, ⟨bw_⟩⟩
      subst c21
      have H1 : ((qcb.f t265).bind fun t269 => (if t269 = true then ((qcb.f t267).bind fun t270 => (qba.j2 k2 l0 x4_1 t252 x6_1 t265 t267 (!t270))) else (qba.j2 k2 l0 x4_1 t252 x6_1 t265 t267 true))) = some (r1, r2) := by rw [if_pos rfl] at H; exact H
      clear H
      have H := H1
      clear H1
      replace H := obm H
      obtain ⟨t269, A220, H⟩ := H
      try dsimp only at H
      have A22 := qd.mk A220
      clear A220
      by_cases c23 : t269 = true
      rotate_left
      ·replace c23 := Bool.eq_false_iff.mpr c23
       subst c23
       have H1 : (qba.j2 k2 l0 x4_1 t252 x6_1 t265 t267 true) = some (r1, r2) := by rw [if_neg (show ¬ (false = true) by decide)] at H; exact H
       clear H
       have H := H1
       clear H1
       have H' := qd.mk H
       clear H
       go_wp2_with (first | (go_at_call 104; (with_reducible refine (qcb.calls t265 false _ A22.out).mono ?_); rintro e w' ⟨rfl, ⟨nd, rfl⟩⟩; (try first | exact ⟨rfl, _, World.drewN_drewN _ _ _⟩ | exact ⟨rfl, _, Eq.trans (World.drewN_drewN _ _ _) (congrArg (World.drewN _) (Nat.add_assoc _ _ _))⟩)))
       repeat (go_quiet (first | (go_at_call 104; (with_reducible refine (qcb.calls t265 false _ A22.out).mono ?_); rintro e w' ⟨rfl, ⟨nd, rfl⟩⟩; (try first | exact ⟨rfl, _, World.drewN_drewN _ _ _⟩ | exact ⟨rfl, _, Eq.trans (World.drewN_drewN _ _ _) (congrArg (World.drewN _) (Nat.add_assoc _ _ _))⟩))); try go_wp2_with (first | (go_at_call 104; (with_reducible refine (qcb.calls t265 false _ A22.out).mono ?_); rintro e w' ⟨rfl, ⟨nd, rfl⟩⟩; (try first | exact ⟨rfl, _, World.drewN_drewN _ _ _⟩ | exact ⟨rfl, _, Eq.trans (World.drewN_drewN _ _ _) (congrArg (World.drewN _) (Nat.add_assoc _ _ _))⟩))))
       go_meet
       case rel => exact ⟨_, (true), sm_, H', ⟨by have := HK1.out; have := HK2.out; first | omega | exact Nat.le_refl _⟩, ⟨by (with_reducible repeat (first | apply Kd.R_alloc | apply Kd.qbj | apply Kd.qbl)); exact HO_4.out⟩, ⟨by (with_reducible repeat (first | apply Kd.R_alloc | apply Kd.qbj | apply Kd.qbl)); exact HO_5.out⟩, ⟨bw_⟩⟩
      subst c23
      have H1 : ((qcb.f t267).bind fun t270 => (qba.j2 k2 l0 x4_1 t252 x6_1 t265 t267 (!t270))) = some (r1, r2) := by rw [if_pos rfl] at H; exact H
      clear H
      have H := H1
      clear H1
      replace H := obm H
      obtain ⟨t270, A240, H⟩ := H
      replace H : (qba.j2 k2 l0 x4_1 t252 x6_1 t265 t267 (!t270)) = some (r1, r2) := H
      have A24 := qd.mk A240
      clear A240
      have H' := qd.mk H
      clear H
      go_wp2_with (first | (go_at_call 104; (with_reducible refine (qcb.calls t265 true _ A22.out).mono ?_); rintro e w' ⟨rfl, ⟨nd, rfl⟩⟩; (try first | exact ⟨rfl, _, World.drewN_drewN _ _ _⟩ | exact ⟨rfl, _, Eq.trans (World.drewN_drewN _ _ _) (congrArg (World.drewN _) (Nat.add_assoc _ _ _))⟩)) | (go_at_call 104; (with_reducible refine (qcb.calls t267 t270 _ A24.out).mono ?_); rintro e w' ⟨rfl, ⟨nd, rfl⟩⟩; (try first | exact ⟨rfl, _, World.drewN_drewN _ _ _⟩ | exact ⟨rfl, _, Eq.trans (World.drewN_drewN _ _ _) (congrArg (World.drewN _) (Nat.add_assoc _ _ _))⟩)))
      repeat (go_quiet (first | (go_at_call 104; (with_reducible refine (qcb.calls t265 true _ A22.out).mono ?_); rintro e w' ⟨rfl, ⟨nd, rfl⟩⟩; (try first | exact ⟨rfl, _, World.drewN_drewN _ _ _⟩ | exact ⟨rfl, _, Eq.trans (World.drewN_drewN _ _ _) (congrArg (World.drewN _) (Nat.add_assoc _ _ _))⟩)) | (go_at_call 104; (with_reducible refine (qcb.calls t267 t270 _ A24.out).mono ?_); rintro e w' ⟨rfl, ⟨nd, rfl⟩⟩; (try first | exact ⟨rfl, _, World.drewN_drewN _ _ _⟩ | exact ⟨rfl, _, Eq.trans (World.drewN_drewN _ _ _) (congrArg (World.drewN _) (Nat.add_assoc _ _ _))⟩))); try go_wp2_with (first | (go_at_call 104; (with_reducible refine (qcb.calls t265 true _ A22.out).mono ?_); rintro e w' ⟨rfl, ⟨nd, rfl⟩⟩; (try first | exact ⟨rfl, _, World.drewN_drewN _ _ _⟩ | exact ⟨rfl, _, Eq.trans (World.drewN_drewN _ _ _) (congrArg (World.drewN _) (Nat.add_assoc _ _ _))⟩)) | (go_at_call 104; (with_reducible refine (qcb.calls t267 t270 _ A24.out).mono ?_); rintro e w' ⟨rfl, ⟨nd, rfl⟩⟩; (try first | exact ⟨rfl, _, World.drewN_drewN _ _ _⟩ | exact ⟨rfl, _, Eq.trans (World.drewN_drewN _ _ _) (congrArg (World.drewN _) (Nat.add_assoc _ _ _))⟩))))
      go_meet
      case rel => exact ⟨_, (!t270), sm_, H', ⟨by have := HK1.out; have := HK2.out; first | omega | exact Nat.le_refl _⟩, ⟨by (with_reducible repeat (first | apply Kd.R_alloc | apply Kd.qbj | apply Kd.qbl)); exact HO_4.out⟩, ⟨by (with_reducible repeat (first | apply Kd.R_alloc | apply Kd.qbj | apply Kd.qbl)); exact HO_5.out⟩, ⟨bw_⟩⟩
     clear HC17
     try clear c1
     try clear c2
     try clear p2
     try clear q2
     try clear hx2
     try clear c4
     try clear c4b0
     try clear c5
     try clear c6
     try clear c6b0
     try clear p6
     try clear c7
     try clear c7b0
     try clear c8
     try clear c8b0
     try clear c9
     try clear c9b0
     try clear c10
     try clear c10b0
     try clear c10b1
     try clear c10b2
     try clear c11
     try clear c12
     try clear c20
     try clear c21
     try clear c23
     try clear hx255_0
     try clear hx255_1
     try clear hx255_2
     try clear hx255_3
     try clear hx255_4
     try clear hx255_5
     try clear hx255_6
     try clear hx256_0
     try clear hx256_1
     try clear hx256_2
     try clear hx256_3
     try clear hx256_4
     try clear hx257_0
     try clear hx257_1
     try clear hx257_2
     try clear hx257_3
     try clear hx257_4
     try clear hx257_5
     try clear hx257_6
     try clear hx261_0
     try clear hx261_1
     try clear hx261_2
     try clear hx261_3
     try clear hx261_4
     try clear hx261_5
     try clear hx261_6
     try clear p2
     try clear p255
     try clear p256
     try clear p257
     try clear p261
     try clear q255
     try clear q256
     try clear q257
     try clear q261
     obtain ⟨kq, x79_16, rfl, HA, HJ16, HO_4, HO_5, HB⟩ := hcut
     cases kq with
     | zero => exact absurd HA.out (by simp [qba.j2])
     | succ kj16 =>
      have H := HA.out
      clear HA
      simp only [qba.j2] at H
      by_cases c25 : x79_16 = true
      ·subst c25
       have H1 : (some (([] : List (S112)), 4)) = some (r1, r2) := by rw [if_pos rfl] at H; exact H
       clear H
       have H := H1
       clear H1
       simp only [Option.some.injEq, Prod.mk.injEq] at H
       obtain ⟨rfl, rfl⟩ := H
       go_wp2
       repeat (go_quiet (fail); try go_wp2)
       go_ret2
       exact ⟨_, ew_, by first | exact Kd.qhz _ _ _ _ _ | exact Kd.N_nil _ _ _ _ _ | exact Kd.V_nil _ _ _ _ _ | exact Kd.Q_nil _ _ _ _ _ | exact Kd.S_nil _ _ _ _ _, bw_⟩
      replace c25 := Bool.eq_false_iff.mpr c25
      subst c25
      have H1 : (if t265 = 0 then (if t267 = 0 then (qba.l0 kj16 l0 x4_1 t252 (wrap64 (x6_1 + 1))) else (if 0 ≤ x6_1 then (if x6_1 < (t252.length : Int) then (if x4_1.length < 1466015503701 then (qba.l0 kj16 l0 (x4_1 ++ [(⟨(⟨(qbd t252 x6_1).f0, (qbd t252 x6_1).f1, (qbd t252 x6_1).f2, (qbd t252 x6_1).f3, (qbd t252 x6_1).f4⟩ : S40), t265, t267⟩ : S112)]) t252 (wrap64 (x6_1 + 1))) else (none)) else (none)) else (none))) else (if 0 ≤ x6_1 then (if x6_1 < (t252.length : Int) then (if x4_1.length < 1466015503701 then (qba.l0 kj16 l0 (x4_1 ++ [(⟨(⟨(qbd t252 x6_1).f0, (qbd t252 x6_1).f1, (qbd t252 x6_1).f2, (qbd t252 x6_1).f3, (qbd t252 x6_1).f4⟩ : S40), t265, t267⟩ : S112)]) t252 (wrap64 (x6_1 + 1))) else (none)) else (none)) else (none))) = some (r1, r2) := by rw [if_neg (show ¬ (false = true) by decide)] at H; exact H
      clear H
      have H := H1
      clear H1
      by_cases c26 : t265 = 0
      rotate_left
      ·rw [if_neg c26] at H
       have c26b0 : (t265 == 0) = false := beq_eq_false_iff_ne.mpr c26
       have c26b1 : (t265 != 0) = true := bne_iff_ne.mpr c26
       by_cases c32 : 0 ≤ x6_1
       rotate_left
       ·rw [if_neg c32] at H
        exact absurd H (by simp)
       rw [if_pos c32] at H
       have c32b0 : decide (0 ≤ x6_1) = true := decide_eq_true c32
       clear c32
       by_cases c33 : x6_1 < (t252.length : Int)
       rotate_left
       ·rw [if_neg c33] at H
        exact absurd H (by simp)
       rw [if_pos c33] at H
       have c33b0 : decide (x6_1 < (t252.length : Int)) = true := decide_eq_true c33
       clear c33
       by_cases c34 : x4_1.length < 1466015503701
       rotate_left
       ·rw [if_neg c34] at H
        exact absurd H (by simp)
       rw [if_pos c34] at H
       have LMc34 := qd.mk c34
       clear c34
       obtain ⟨y276, hy276⟩ : ∃ y_ : List (S112), y_ = (x4_1 ++ [(⟨(⟨(qbd t252 x6_1).f0, (qbd t252 x6_1).f1, (qbd t252 x6_1).f2, (qbd t252 x6_1).f3, (qbd t252 x6_1).f4⟩ : S40), t265, t267⟩ : S112)]) := ⟨_, rfl⟩
       replace H : (qba.l0 kj16 l0 y276 t252 (wrap64 (x6_1 + 1))) = some (r1, r2) := by first | (rw [hy276]; with_reducible exact H) | (have H2_ := (Option.bind_some _ _).symm.trans H; rw [hy276]; with_reducible exact H2_) | (have H2_ := (Option.bind_some _ _).symm.trans H; with_reducible exact H2_) | with_reducible exact H | (rw [hy276]; exact H) | exact H
       have Ny276 := qd.mk hy276
       clear hy276
       have H' := qd.mk H
       clear H
       have p275 : 0 ≤ (x6_1 : Int) := odt_
       have q275 : x6_1 < (t252.length : Int) := odt_
       obtain ⟨ad275, e275, hx275_0, hx275_1, hx275_2, hx275_3, hx275_4⟩ := qkv (Kd.qbt HO_5.out).2.2 x6_1 p275 q275
       cases e275
       replace p275 := eq_true p275
       replace q275 := eq_true q275
       go_wp2_with (first | ((with_reducible refine qdf (b := .append) (xs := #[.tmp 86, .tmp 94]) rfl ?_); at_builtin; refine Kd.qet k112 (w0 := w) w.heap.size rfl (.tmp 86) (.tmp 94) 32 112 (.agg #[(.string ⟨#[]⟩), (.string ⟨#[]⟩), (.string ⟨#[]⟩), (.string ⟨#[]⟩), (.string ⟨#[]⟩), (.int .i64 0), (.int .i64 0)]) 96 rfl Tryd.underlying32 qfk rfl (by decide) (by omega) u4 x4_1 (⟨(⟨(qbd t252 x6_1).f0, (qbd t252 x6_1).f1, (qbd t252 x6_1).f2, (qbd t252 x6_1).f3, (qbd t252 x6_1).f4⟩ : S40), t265, t267⟩ : S112) [.string ((qbd t252 x6_1).f0), .string ((qbd t252 x6_1).f1), .string ((qbd t252 x6_1).f2), .string ((qbd t252 x6_1).f3), .string ((qbd t252 x6_1).f4), .int .i64 t265, .int .i64 t267] (fun _ => True) (fun _ => False) rfl rfl ?aP (fun _ hk => hk.elim) ?aF ?aO ?aB ?aS ?aL ?_; (case aP => exact qfw _ _ _ (⟨(⟨(qbd t252 x6_1).f0, (qbd t252 x6_1).f1, (qbd t252 x6_1).f2, (qbd t252 x6_1).f3, (qbd t252 x6_1).f4⟩ : S40), t265, t267⟩ : S112)); (case aB => exact (bw_)); (case aF => exact (fun _ _ => trivial)); (case aO => exact (by (with_reducible repeat (first | apply Kd.R_alloc | apply Kd.qbj | apply Kd.qbl)); exact HO_4.out)); (case aS => exact (qcm (bw_))); (case aL => have := LMc34.out; omega); intro v277 w35 ho hb hg hat; rw [← Ny276.out] at ho; have n0_ := qd.mk (Kd.qfi (by (with_reducible repeat (first | apply Kd.R_alloc | apply Kd.qbj | apply Kd.qbl)); exact HO_5.out) (Kd.qea (by (with_reducible repeat (first | apply Kd.R_alloc | apply Kd.qbj | apply Kd.qbl)); exact HO_4.out)) (by decide) hg); have n1_ := qd.mk (hb); have n2_ := qd.mk (ho); clear HO_5; clear HB; clear HO_4; have HO_5 := n0_; have HB := n1_; have HO278 := n2_; clear n0_ n1_ n2_; clear ho hb hg hat))
       repeat (go_quiet (first | ((with_reducible refine qdf (b := .append) (xs := #[.tmp 86, .tmp 94]) rfl ?_); at_builtin; refine Kd.qet k112 (w0 := w) w.heap.size rfl (.tmp 86) (.tmp 94) 32 112 (.agg #[(.string ⟨#[]⟩), (.string ⟨#[]⟩), (.string ⟨#[]⟩), (.string ⟨#[]⟩), (.string ⟨#[]⟩), (.int .i64 0), (.int .i64 0)]) 96 rfl Tryd.underlying32 qfk rfl (by decide) (by omega) u4 x4_1 (⟨(⟨(qbd t252 x6_1).f0, (qbd t252 x6_1).f1, (qbd t252 x6_1).f2, (qbd t252 x6_1).f3, (qbd t252 x6_1).f4⟩ : S40), t265, t267⟩ : S112) [.string ((qbd t252 x6_1).f0), .string ((qbd t252 x6_1).f1), .string ((qbd t252 x6_1).f2), .string ((qbd t252 x6_1).f3), .string ((qbd t252 x6_1).f4), .int .i64 t265, .int .i64 t267] (fun _ => True) (fun _ => False) rfl rfl ?aP (fun _ hk => hk.elim) ?aF ?aO ?aB ?aS ?aL ?_; (case aP => exact qfw _ _ _ (⟨(⟨(qbd t252 x6_1).f0, (qbd t252 x6_1).f1, (qbd t252 x6_1).f2, (qbd t252 x6_1).f3, (qbd t252 x6_1).f4⟩ : S40), t265, t267⟩ : S112)); (case aB => exact (bw_)); (case aF => exact (fun _ _ => trivial)); (case aO => exact (by (with_reducible repeat (first | apply Kd.R_alloc | apply Kd.qbj | apply Kd.qbl)); exact HO_4.out)); (case aS => exact (qcm (bw_))); (case aL => have := LMc34.out; omega); intro v277 w35 ho hb hg hat; rw [← Ny276.out] at ho; have n0_ := qd.mk (Kd.qfi (by (with_reducible repeat (first | apply Kd.R_alloc | apply Kd.qbj | apply Kd.qbl)); exact HO_5.out) (Kd.qea (by (with_reducible repeat (first | apply Kd.R_alloc | apply Kd.qbj | apply Kd.qbl)); exact HO_4.out)) (by decide) hg); have n1_ := qd.mk (hb); have n2_ := qd.mk (ho); clear HO_5; clear HB; clear HO_4; have HO_5 := n0_; have HB := n1_; have HO278 := n2_; clear n0_ n1_ n2_; clear ho hb hg hat)); try go_wp2_with (first | ((with_reducible refine qdf (b := .append) (xs := #[.tmp 86, .tmp 94]) rfl ?_); at_builtin; refine Kd.qet k112 (w0 := w) w.heap.size rfl (.tmp 86) (.tmp 94) 32 112 (.agg #[(.string ⟨#[]⟩), (.string ⟨#[]⟩), (.string ⟨#[]⟩), (.string ⟨#[]⟩), (.string ⟨#[]⟩), (.int .i64 0), (.int .i64 0)]) 96 rfl Tryd.underlying32 qfk rfl (by decide) (by omega) u4 x4_1 (⟨(⟨(qbd t252 x6_1).f0, (qbd t252 x6_1).f1, (qbd t252 x6_1).f2, (qbd t252 x6_1).f3, (qbd t252 x6_1).f4⟩ : S40), t265, t267⟩ : S112) [.string ((qbd t252 x6_1).f0), .string ((qbd t252 x6_1).f1), .string ((qbd t252 x6_1).f2), .string ((qbd t252 x6_1).f3), .string ((qbd t252 x6_1).f4), .int .i64 t265, .int .i64 t267] (fun _ => True) (fun _ => False) rfl rfl ?aP (fun _ hk => hk.elim) ?aF ?aO ?aB ?aS ?aL ?_; (case aP => exact qfw _ _ _ (⟨(⟨(qbd t252 x6_1).f0, (qbd t252 x6_1).f1, (qbd t252 x6_1).f2, (qbd t252 x6_1).f3, (qbd t252 x6_1).f4⟩ : S40), t265, t267⟩ : S112)); (case aB => exact (bw_)); (case aF => exact (fun _ _ => trivial)); (case aO => exact (by (with_reducible repeat (first | apply Kd.R_alloc | apply Kd.qbj | apply Kd.qbl)); exact HO_4.out)); (case aS => exact (qcm (bw_))); (case aL => have := LMc34.out; omega); intro v277 w35 ho hb hg hat; rw [← Ny276.out] at ho; have n0_ := qd.mk (Kd.qfi (by (with_reducible repeat (first | apply Kd.R_alloc | apply Kd.qbj | apply Kd.qbl)); exact HO_5.out) (Kd.qea (by (with_reducible repeat (first | apply Kd.R_alloc | apply Kd.qbj | apply Kd.qbl)); exact HO_4.out)) (by decide) hg); have n1_ := qd.mk (hb); have n2_ := qd.mk (ho); clear HO_5; clear HB; clear HO_4; have HO_5 := n0_; have HB := n1_; have HO278 := n2_; clear n0_ n1_ n2_; clear ho hb hg hat)))
       go_roundg kj16
       case measure => have := HK1.out; have := HK2.out; have := HJ16.out; omega
       case rel => exact ⟨(y276), (wrap64 (x6_1 + 1)), sm_, H', ⟨by have := HK1.out; have := HK2.out; have := HJ16.out; omega⟩, ⟨by (with_reducible repeat (first | apply Kd.R_alloc | apply Kd.qbj | apply Kd.qbl)); exact HO278.out⟩, ⟨by (with_reducible repeat (first | apply Kd.R_alloc | apply Kd.qbj | apply Kd.qbl)); exact HO_5.out⟩, ⟨bw_⟩⟩
      rw [if_pos c26] at H
      have c26b0 : (t265 == 0) = true := beq_iff_eq.mpr c26
      have c26b1 : (t265 != 0) = false := bne_eq_false_iff_eq.mpr c26
      clear c26
      by_cases c27 : t267 = 0
      ·rw [if_pos c27] at H
       have c27b0 : (t267 == 0) = true := beq_iff_eq.mpr c27
       have c27b1 : (t267 != 0) = false := bne_eq_false_iff_eq.mpr c27
       clear c27
       have H' := qd.mk H
       clear H
       go_wp2
       repeat (go_quiet (fail); try go_wp2)
       go_roundg kj16
       case measure => have := HK1.out; have := HK2.out; have := HJ16.out; omega
       case rel => exact ⟨(x4_1), (wrap64 (x6_1 + 1)), sm_, H', ⟨by have := HK1.out; have := HK2.out; have := HJ16.out; omega⟩, ⟨by (with_reducible repeat (first | apply Kd.R_alloc | apply Kd.qbj | apply Kd.qbl)); exact HO_4.out⟩, ⟨by (with_reducible repeat (first | apply Kd.R_alloc | apply Kd.qbj | apply Kd.qbl)); exact HO_5.out⟩, ⟨bw_⟩⟩
      rw [if_neg c27] at H
      have c27b0 : (t267 == 0) = false := beq_eq_false_iff_ne.mpr c27
      have c27b1 : (t267 != 0) = true := bne_iff_ne.mpr c27
      by_cases c28 : 0 ≤ x6_1
      rotate_left
      ·rw [if_neg c28] at H
       exact absurd H (by simp)
      rw [if_pos c28] at H
      have c28b0 : decide (0 ≤ x6_1) = true := decide_eq_true c28
      clear c28
      by_cases c29 : x6_1 < (t252.length : Int)
      rotate_left
      ·rw [if_neg c29] at H
       exact absurd H (by simp)
      rw [if_pos c29] at H
      have c29b0 : decide (x6_1 < (t252.length : Int)) = true := decide_eq_true c29
      clear c29
      by_cases c30 : x4_1.length < 1466015503701
      rotate_left
      ·rw [if_neg c30] at H
       exact absurd H (by simp)
      rw [if_pos c30] at H
      have LMc30 := qd.mk c30
      clear c30
      obtain ⟨y272, hy272⟩ : ∃ y_ : List (S112), y_ = (x4_1 ++ [(⟨(⟨(qbd t252 x6_1).f0, (qbd t252 x6_1).f1, (qbd t252 x6_1).f2, (qbd t252 x6_1).f3, (qbd t252 x6_1).f4⟩ : S40), t265, t267⟩ : S112)]) := ⟨_, rfl⟩
      replace H : (qba.l0 kj16 l0 y272 t252 (wrap64 (x6_1 + 1))) = some (r1, r2) := by first | (rw [hy272]; with_reducible exact H) | (have H2_ := (Option.bind_some _ _).symm.trans H; rw [hy272]; with_reducible exact H2_) | (have H2_ := (Option.bind_some _ _).symm.trans H; with_reducible exact H2_) | with_reducible exact H | (rw [hy272]; exact H) | exact H
      have Ny272 := qd.mk hy272
      clear hy272
      have H' := qd.mk H
      clear H
      have p271 : 0 ≤ (x6_1 : Int) := odt_
      have q271 : x6_1 < (t252.length : Int) := odt_
      obtain ⟨ad271, e271, hx271_0, hx271_1, hx271_2, hx271_3, hx271_4⟩ := qkv (Kd.qbt HO_5.out).2.2 x6_1 p271 q271
      cases e271
      replace p271 := eq_true p271
      replace q271 := eq_true q271
      go_wp2_with (first | ((with_reducible refine qdf (b := .append) (xs := #[.tmp 86, .tmp 94]) rfl ?_); at_builtin; refine Kd.qet k112 (w0 := w) w.heap.size rfl (.tmp 86) (.tmp 94) 32 112 (.agg #[(.string ⟨#[]⟩), (.string ⟨#[]⟩), (.string ⟨#[]⟩), (.string ⟨#[]⟩), (.string ⟨#[]⟩), (.int .i64 0), (.int .i64 0)]) 96 rfl Tryd.underlying32 qfk rfl (by decide) (by omega) u4 x4_1 (⟨(⟨(qbd t252 x6_1).f0, (qbd t252 x6_1).f1, (qbd t252 x6_1).f2, (qbd t252 x6_1).f3, (qbd t252 x6_1).f4⟩ : S40), t265, t267⟩ : S112) [.string ((qbd t252 x6_1).f0), .string ((qbd t252 x6_1).f1), .string ((qbd t252 x6_1).f2), .string ((qbd t252 x6_1).f3), .string ((qbd t252 x6_1).f4), .int .i64 t265, .int .i64 t267] (fun _ => True) (fun _ => False) rfl rfl ?aP (fun _ hk => hk.elim) ?aF ?aO ?aB ?aS ?aL ?_; (case aP => exact qfw _ _ _ (⟨(⟨(qbd t252 x6_1).f0, (qbd t252 x6_1).f1, (qbd t252 x6_1).f2, (qbd t252 x6_1).f3, (qbd t252 x6_1).f4⟩ : S40), t265, t267⟩ : S112)); (case aB => exact (bw_)); (case aF => exact (fun _ _ => trivial)); (case aO => exact (by (with_reducible repeat (first | apply Kd.R_alloc | apply Kd.qbj | apply Kd.qbl)); exact HO_4.out)); (case aS => exact (qcm (bw_))); (case aL => have := LMc30.out; omega); intro v273 w31 ho hb hg hat; rw [← Ny272.out] at ho; have n0_ := qd.mk (Kd.qfi (by (with_reducible repeat (first | apply Kd.R_alloc | apply Kd.qbj | apply Kd.qbl)); exact HO_5.out) (Kd.qea (by (with_reducible repeat (first | apply Kd.R_alloc | apply Kd.qbj | apply Kd.qbl)); exact HO_4.out)) (by decide) hg); have n1_ := qd.mk (hb); have n2_ := qd.mk (ho); clear HO_5; clear HB; clear HO_4; have HO_5 := n0_; have HB := n1_; have HO274 := n2_; clear n0_ n1_ n2_; clear ho hb hg hat))
      repeat (go_quiet (first | ((with_reducible refine qdf (b := .append) (xs := #[.tmp 86, .tmp 94]) rfl ?_); at_builtin; refine Kd.qet k112 (w0 := w) w.heap.size rfl (.tmp 86) (.tmp 94) 32 112 (.agg #[(.string ⟨#[]⟩), (.string ⟨#[]⟩), (.string ⟨#[]⟩), (.string ⟨#[]⟩), (.string ⟨#[]⟩), (.int .i64 0), (.int .i64 0)]) 96 rfl Tryd.underlying32 qfk rfl (by decide) (by omega) u4 x4_1 (⟨(⟨(qbd t252 x6_1).f0, (qbd t252 x6_1).f1, (qbd t252 x6_1).f2, (qbd t252 x6_1).f3, (qbd t252 x6_1).f4⟩ : S40), t265, t267⟩ : S112) [.string ((qbd t252 x6_1).f0), .string ((qbd t252 x6_1).f1), .string ((qbd t252 x6_1).f2), .string ((qbd t252 x6_1).f3), .string ((qbd t252 x6_1).f4), .int .i64 t265, .int .i64 t267] (fun _ => True) (fun _ => False) rfl rfl ?aP (fun _ hk => hk.elim) ?aF ?aO ?aB ?aS ?aL ?_; (case aP => exact qfw _ _ _ (⟨(⟨(qbd t252 x6_1).f0, (qbd t252 x6_1).f1, (qbd t252 x6_1).f2, (qbd t252 x6_1).f3, (qbd t252 x6_1).f4⟩ : S40), t265, t267⟩ : S112)); (case aB => exact (bw_)); (case aF => exact (fun _ _ => trivial)); (case aO => exact (by (with_reducible repeat (first | apply Kd.R_alloc | apply Kd.qbj | apply Kd.qbl)); exact HO_4.out)); (case aS => exact (qcm (bw_))); (case aL => have := LMc30.out; omega); intro v273 w31 ho hb hg hat; rw [← Ny272.out] at ho; have n0_ := qd.mk (Kd.qfi (by (with_reducible repeat (first | apply Kd.R_alloc | apply Kd.qbj | apply Kd.qbl)); exact HO_5.out) (Kd.qea (by (with_reducible repeat (first | apply Kd.R_alloc | apply Kd.qbj | apply Kd.qbl)); exact HO_4.out)) (by decide) hg); have n1_ := qd.mk (hb); have n2_ := qd.mk (ho); clear HO_5; clear HB; clear HO_4; have HO_5 := n0_; have HB := n1_; have HO274 := n2_; clear n0_ n1_ n2_; clear ho hb hg hat)); try go_wp2_with (first | ((with_reducible refine qdf (b := .append) (xs := #[.tmp 86, .tmp 94]) rfl ?_); at_builtin; refine Kd.qet k112 (w0 := w) w.heap.size rfl (.tmp 86) (.tmp 94) 32 112 (.agg #[(.string ⟨#[]⟩), (.string ⟨#[]⟩), (.string ⟨#[]⟩), (.string ⟨#[]⟩), (.string ⟨#[]⟩), (.int .i64 0), (.int .i64 0)]) 96 rfl Tryd.underlying32 qfk rfl (by decide) (by omega) u4 x4_1 (⟨(⟨(qbd t252 x6_1).f0, (qbd t252 x6_1).f1, (qbd t252 x6_1).f2, (qbd t252 x6_1).f3, (qbd t252 x6_1).f4⟩ : S40), t265, t267⟩ : S112) [.string ((qbd t252 x6_1).f0), .string ((qbd t252 x6_1).f1), .string ((qbd t252 x6_1).f2), .string ((qbd t252 x6_1).f3), .string ((qbd t252 x6_1).f4), .int .i64 t265, .int .i64 t267] (fun _ => True) (fun _ => False) rfl rfl ?aP (fun _ hk => hk.elim) ?aF ?aO ?aB ?aS ?aL ?_; (case aP => exact qfw _ _ _ (⟨(⟨(qbd t252 x6_1).f0, (qbd t252 x6_1).f1, (qbd t252 x6_1).f2, (qbd t252 x6_1).f3, (qbd t252 x6_1).f4⟩ : S40), t265, t267⟩ : S112)); (case aB => exact (bw_)); (case aF => exact (fun _ _ => trivial)); (case aO => exact (by (with_reducible repeat (first | apply Kd.R_alloc | apply Kd.qbj | apply Kd.qbl)); exact HO_4.out)); (case aS => exact (qcm (bw_))); (case aL => have := LMc30.out; omega); intro v273 w31 ho hb hg hat; rw [← Ny272.out] at ho; have n0_ := qd.mk (Kd.qfi (by (with_reducible repeat (first | apply Kd.R_alloc | apply Kd.qbj | apply Kd.qbl)); exact HO_5.out) (Kd.qea (by (with_reducible repeat (first | apply Kd.R_alloc | apply Kd.qbj | apply Kd.qbl)); exact HO_4.out)) (by decide) hg); have n1_ := qd.mk (hb); have n2_ := qd.mk (ho); clear HO_5; clear HB; clear HO_4; have HO_5 := n0_; have HB := n1_; have HO274 := n2_; clear n0_ n1_ n2_; clear ho hb hg hat)))
      go_roundg kj16
      case measure => have := HK1.out; have := HK2.out; have := HJ16.out; omega
      case rel => exact ⟨(y272), (wrap64 (x6_1 + 1)), sm_, H', ⟨by have := HK1.out; have := HK2.out; have := HJ16.out; omega⟩, ⟨by (with_reducible repeat (first | apply Kd.R_alloc | apply Kd.qbj | apply Kd.qbl)); exact HO274.out⟩, ⟨by (with_reducible repeat (first | apply Kd.R_alloc | apply Kd.qbj | apply Kd.qbl)); exact HO_5.out⟩, ⟨bw_⟩⟩
   ·rw [if_neg c4] at H
    have c4b0 : decide (x6_1 < (t252.length : Int)) = false := decide_eq_false c4
    clear c4
    simp only [Option.some.injEq, Prod.mk.injEq] at H
    obtain ⟨rfl, rfl⟩ := H
    obtain ⟨Ao36, co36, eo36⟩ := Kd.qct HO_5.out
    subst eo36
    go_wp2
    repeat (go_quiet (fail); try go_wp2)
    go_ret2
    exact ⟨_, ew_, by (with_reducible repeat (first | apply Kd.R_alloc | apply Kd.qbj | apply Kd.qbl)); exact HO_4.out, bw_⟩
end
def qce.l0 : Nat → List (S213) → ByteArray → Int → Option (ByteArray × Int)
 | 0, _, _, _ => none
 | k + 1, x0, x4, x5 => if x5 < (x0.length : Int) then (if x5 > 0 then (if x4.size + 1 ≤ 9223372036854775807 then (if 0 ≤ x5 then (if ((qo x0 x5).f0).size + 1 ≤ 9223372036854775807 then (if (((qo x0 x5).f0) ++ (⟨#[61]⟩ : ByteArray)).size + ((qo x0 x5).f1).size ≤ 9223372036854775807 then (if (x4 ++ (⟨#[44]⟩ : ByteArray)).size + ((((qo x0 x5).f0) ++ (⟨#[61]⟩ : ByteArray)) ++ ((qo x0 x5).f1)).size ≤ 9223372036854775807 then (qce.l0 k x0 ((x4 ++ (⟨#[44]⟩ : ByteArray)) ++ ((((qo x0 x5).f0) ++ (⟨#[61]⟩ : ByteArray)) ++ ((qo x0 x5).f1))) (wrap64 (x5 + 1))) else (none)) else (none)) else (none)) else (none)) else (none)) else (if 0 ≤ x5 then (if ((qo x0 x5).f0).size + 1 ≤ 9223372036854775807 then (if (((qo x0 x5).f0) ++ (⟨#[61]⟩ : ByteArray)).size + ((qo x0 x5).f1).size ≤ 9223372036854775807 then (if x4.size + ((((qo x0 x5).f0) ++ (⟨#[61]⟩ : ByteArray)) ++ ((qo x0 x5).f1)).size ≤ 9223372036854775807 then (qce.l0 k x0 (x4 ++ ((((qo x0 x5).f0) ++ (⟨#[61]⟩ : ByteArray)) ++ ((qo x0 x5).f1))) (wrap64 (x5 + 1))) else (none)) else (none)) else (none)) else (none))) else (some (x4, 0))
def qce.f (k : Nat) (l0 : List (S213)) : Option (ByteArray × Int) := (qbe.f k l0).bind fun t279 => (if t279 = true then (qce.l0 k l0 (⟨#[]⟩ : ByteArray) 0) else (some ((⟨#[]⟩ : ByteArray), 14)))
theorem qce.calls (k : Nat) (A0 : Option Addr) (c0 : Nat) (l0 : List (S213)) (r1 : ByteArray) (r2 : Int) (w : World) (hr0 : Kd.C k213 w A0 l0.length l0) (hc0 : l0.length ≤ c0) (h : qce.f k l0 = some (r1, r2)) :
  Calls Tryd.prog 146 #[.slice A0 l0.length c0] w fun e w' => e = .returned (.tuple #[.string r1, .int .i64 r2]) ∧ Below w.heap.size w w' := by
 have HR0 := qd.mk hr0
 have HC0 := qd.mk hc0
 clear hr0 hc0
 have HB := qd.mk (Below.refl w.heap.size w)
 have H : ((qbe.f k l0).bind fun t279 => (if t279 = true then (qce.l0 k l0 (⟨#[]⟩ : ByteArray) 0) else (some ((⟨#[]⟩ : ByteArray), 14)))) = some (r1, r2) := h
 clear h
 replace H := obm H
 obtain ⟨t279, A20, H⟩ := H
 try dsimp only at H
 have A2 := qd.mk A20
 clear A20
 by_cases c3 : t279 = true
 ·subst c3
  have H1 : (qce.l0 k l0 (⟨#[]⟩ : ByteArray) 0) = some (r1, r2) := by rw [if_pos rfl] at H; exact H
  clear H
  have H := H1
  clear H1
  have H' := qd.mk H
  clear H
  go_enter Tryd.func146, Tryd.ntmps146
  go_wp2_with (first | (go_at_call 142; (with_reducible refine (qbe.calls k _ _ l0 true _ ?side1 ?side2 A2.out).mono ?_); (case side1 => repeat (first | exact HR0.out | (with_reducible refine Kd.qck ?_ _) | (with_reducible refine Kd.qcf ?_ _) | (with_reducible refine Kd.qcz ?_))); (case side2 => exact HC0.out); rintro e w4 ⟨rfl, hb⟩; have n0_ := qd.mk (qw (bw_) hb); clear HB; have HB := n0_; clear n0_; (try clear hb); (try clear hb2); (try clear hk); (try clear hi)))
  repeat (go_quiet (first | (go_at_call 142; (with_reducible refine (qbe.calls k _ _ l0 true _ ?side1 ?side2 A2.out).mono ?_); (case side1 => repeat (first | exact HR0.out | (with_reducible refine Kd.qck ?_ _) | (with_reducible refine Kd.qcf ?_ _) | (with_reducible refine Kd.qcz ?_))); (case side2 => exact HC0.out); rintro e w4 ⟨rfl, hb⟩; have n0_ := qd.mk (qw (bw_) hb); clear HB; have HB := n0_; clear n0_; (try clear hb); (try clear hb2); (try clear hk); (try clear hi))); try go_wp2_with (first | (go_at_call 142; (with_reducible refine (qbe.calls k _ _ l0 true _ ?side1 ?side2 A2.out).mono ?_); (case side1 => repeat (first | exact HR0.out | (with_reducible refine Kd.qck ?_ _) | (with_reducible refine Kd.qcf ?_ _) | (with_reducible refine Kd.qcz ?_))); (case side2 => exact HC0.out); rintro e w4 ⟨rfl, hb⟩; have n0_ := qd.mk (qw (bw_) hb); clear HB; have HB := n0_; clear n0_; (try clear hb); (try clear hb2); (try clear hk); (try clear hi))))
  go_loopg [4, 5] k (fun kq v4 v5 w' => ∃ (x4_1 : ByteArray) (x5_1 : Int), v4 = .string x4_1 ∧ v5 = .int .i64 x5_1 ∧ qd (qce.l0 kq l0 x4_1 x5_1 = some (r1, r2)) ∧ qd (kq ≤ k) ∧ qd (Below w.heap.size w w'))
  case atStart => exact ⟨((⟨#[]⟩ : ByteArray)), (0), sm_, sm_, H', ⟨Nat.le_refl _⟩, ⟨bw_⟩⟩
  clear H'
  try clear c1
  try clear p2
  try clear c3
  obtain ⟨x4_1, x5_1, rfl, rfl, HA, HK1, HB⟩ := hrel
  cases gk with
  | zero => exact absurd HA.out (by simp [qce.l0])
  | succ k1 =>
   have H := HA.out
   clear HA
   simp only [qce.l0] at H
   by_cases c5 : x5_1 < (l0.length : Int)
   rotate_left
   ·rw [if_neg c5] at H
    have c5b0 : decide (x5_1 < (l0.length : Int)) = false := decide_eq_false c5
    clear c5
    simp only [Option.some.injEq, Prod.mk.injEq] at H
    obtain ⟨rfl, rfl⟩ := H
    go_wp2
    repeat (go_quiet (fail); try go_wp2)
    go_ret2
    exact ⟨ew_, bw_⟩
   rw [if_pos c5] at H
   have c5b0 : decide (x5_1 < (l0.length : Int)) = true := decide_eq_true c5
   clear c5
   by_cases c6 : x5_1 > 0
   rotate_left
   ·rw [if_neg c6] at H
    have c6b0 : decide (0 < x5_1) = false := decide_eq_false c6
    clear c6
    by_cases c12 : 0 ≤ x5_1
    rotate_left
    ·rw [if_neg c12] at H
     exact absurd H (by simp)
    rw [if_pos c12] at H
    have c12b0 : decide (0 ≤ x5_1) = true := decide_eq_true c12
    clear c12
    by_cases c13 : ((qo l0 x5_1).f0).size + 1 ≤ 9223372036854775807
    rotate_left
    ·rw [if_neg c13] at H
     exact absurd H (by simp)
    rw [if_pos c13] at H
    have c13b0 := eq_true c13
    have c13b1 : decide (((qo l0 x5_1).f0).size + 1 ≤ 9223372036854775807) = true := decide_eq_true c13
    try have c13b2 : (9223372036854775807 < ((qo l0 x5_1).f0).size + 1) = False := eq_false (Nat.not_lt.2 c13)
    by_cases c14 : (((qo l0 x5_1).f0) ++ (⟨#[61]⟩ : ByteArray)).size + ((qo l0 x5_1).f1).size ≤ 9223372036854775807
    rotate_left
    ·rw [if_neg c14] at H
     exact absurd H (by simp)
    rw [if_pos c14] at H
    have c14b0 := eq_true c14
    have c14b1 : decide ((((qo l0 x5_1).f0) ++ (⟨#[61]⟩ : ByteArray)).size + ((qo l0 x5_1).f1).size ≤ 9223372036854775807) = true := decide_eq_true c14
    try have c14b2 : (9223372036854775807 < (((qo l0 x5_1).f0) ++ (⟨#[61]⟩ : ByteArray)).size + ((qo l0 x5_1).f1).size) = False := eq_false (Nat.not_lt.2 c14)
    by_cases c15 : x4_1.size + ((((qo l0 x5_1).f0) ++ (⟨#[61]⟩ : ByteArray)) ++ ((qo l0 x5_1).f1)).size ≤ 9223372036854775807
    rotate_left
    ·rw [if_neg c15] at H
     exact absurd H (by simp)
    rw [if_pos c15] at H
    have c15b0 := eq_true c15
    have c15b1 : decide (x4_1.size + ((((qo l0 x5_1).f0) ++ (⟨#[61]⟩ : ByteArray)) ++ ((qo l0 x5_1).f1)).size ≤ 9223372036854775807) = true := decide_eq_true c15
    try have c15b2 : (9223372036854775807 < x4_1.size + ((((qo l0 x5_1).f0) ++ (⟨#[61]⟩ : ByteArray)) ++ ((qo l0 x5_1).f1)).size) = False := eq_false (Nat.not_lt.2 c15)
    have H' := qd.mk H
    clear H
    have p282 : 0 ≤ (x5_1 : Int) := odt_
    have q282 : x5_1 < (l0.length : Int) := odt_
    obtain ⟨ad282, e282, hx282_0, hx282_1⟩ := qey HR0.out x5_1 p282 q282
    cases e282
    replace hx282_0 := bcl_ HB hx282_0
    replace hx282_1 := bcl_ HB hx282_1
    replace p282 := eq_true p282
    replace q282 := eq_true q282
    have p283 : 0 ≤ (x5_1 : Int) := odt_
    have q283 : x5_1 < (l0.length : Int) := odt_
    obtain ⟨ad283, e283, hx283_0, hx283_1⟩ := qey HR0.out x5_1 p283 q283
    obtain rfl : ad282 = ad283 := (by injection e283)
    replace hx283_0 := bcl_ HB hx283_0
    replace hx283_1 := bcl_ HB hx283_1
    replace p283 := eq_true p283
    replace q283 := eq_true q283
    go_wp2
    repeat (go_quiet (fail); try go_wp2)
    go_roundg k1
    case measure => have := HK1.out; omega
    case rel => exact ⟨(x4_1 ++ ((((qo l0 x5_1).f0) ++ (⟨#[61]⟩ : ByteArray)) ++ ((qo l0 x5_1).f1))), (wrap64 (x5_1 + 1)), sm_, sm_, H', ⟨by have := HK1.out; omega⟩, ⟨bw_⟩⟩
   rw [if_pos c6] at H
   have c6b0 : decide (0 < x5_1) = true := decide_eq_true c6
   clear c6
   by_cases c7 : x4_1.size + 1 ≤ 9223372036854775807
   rotate_left
   ·rw [if_neg c7] at H
    exact absurd H (by simp)
   rw [if_pos c7] at H
   have c7b0 := eq_true c7
   have c7b1 : decide (x4_1.size + 1 ≤ 9223372036854775807) = true := decide_eq_true c7
   try have c7b2 : (9223372036854775807 < x4_1.size + 1) = False := eq_false (Nat.not_lt.2 c7)
   by_cases c8 : 0 ≤ x5_1
   rotate_left
   ·rw [if_neg c8] at H
    exact absurd H (by simp)
   rw [if_pos c8] at H
   have c8b0 : decide (0 ≤ x5_1) = true := decide_eq_true c8
   clear c8
   by_cases c9 : ((qo l0 x5_1).f0).size + 1 ≤ 9223372036854775807
   rotate_left
   ·rw [if_neg c9] at H
    exact absurd H (by simp)
   rw [if_pos c9] at H
   have c9b0 := eq_true c9
   have c9b1 : decide (((qo l0 x5_1).f0).size + 1 ≤ 9223372036854775807) = true := decide_eq_true c9
   try have c9b2 : (9223372036854775807 < ((qo l0 x5_1).f0).size + 1) = False := eq_false (Nat.not_lt.2 c9)
   by_cases c10 : (((qo l0 x5_1).f0) ++ (⟨#[61]⟩ : ByteArray)).size + ((qo l0 x5_1).f1).size ≤ 9223372036854775807
   rotate_left
   ·rw [if_neg c10] at H
    exact absurd H (by simp)
   rw [if_pos c10] at H
   have c10b0 := eq_true c10
   have c10b1 : decide ((((qo l0 x5_1).f0) ++ (⟨#[61]⟩ : ByteArray)).size + ((qo l0 x5_1).f1).size ≤ 9223372036854775807) = true := decide_eq_true c10
   try have c10b2 : (9223372036854775807 < (((qo l0 x5_1).f0) ++ (⟨#[61]⟩ : ByteArray)).size + ((qo l0 x5_1).f1).size) = False := eq_false (Nat.not_lt.2 c10)
   by_cases c11 : (x4_1 ++ (⟨#[44]⟩ : ByteArray)).size + ((((qo l0 x5_1).f0) ++ (⟨#[61]⟩ : ByteArray)) ++ ((qo l0 x5_1).f1)).size ≤ 9223372036854775807
   rotate_left
   ·rw [if_neg c11] at H
    exact absurd H (by simp)
   rw [if_pos c11] at H
   have c11b0 := eq_true c11
   have c11b1 : decide ((x4_1 ++ (⟨#[44]⟩ : ByteArray)).size + ((((qo l0 x5_1).f0) ++ (⟨#[61]⟩ : ByteArray)) ++ ((qo l0 x5_1).f1)).size ≤ 9223372036854775807) = true := decide_eq_true c11
   try have c11b2 : (9223372036854775807 < (x4_1 ++ (⟨#[44]⟩ : ByteArray)).size + ((((qo l0 x5_1).f0) ++ (⟨#[61]⟩ : ByteArray)) ++ ((qo l0 x5_1).f1)).size) = False := eq_false (Nat.not_lt.2 c11)
   have H' := qd.mk H
   clear H
   have p280 : 0 ≤ (x5_1 : Int) := odt_
   have q280 : x5_1 < (l0.length : Int) := odt_
   obtain ⟨ad280, e280, hx280_0, hx280_1⟩ := qey HR0.out x5_1 p280 q280
   cases e280
   replace hx280_0 := bcl_ HB hx280_0
   replace hx280_1 := bcl_ HB hx280_1
   replace p280 := eq_true p280
   replace q280 := eq_true q280
   have p281 : 0 ≤ (x5_1 : Int) := odt_
   have q281 : x5_1 < (l0.length : Int) := odt_
   obtain ⟨ad281, e281, hx281_0, hx281_1⟩ := qey HR0.out x5_1 p281 q281
   obtain rfl : ad280 = ad281 := (by injection e281)
   replace hx281_0 := bcl_ HB hx281_0
   replace hx281_1 := bcl_ HB hx281_1
   replace p281 := eq_true p281
   replace q281 := eq_true q281
   go_wp2
   repeat (go_quiet (fail); try go_wp2)
   go_roundg k1
   case measure => have := HK1.out; omega
   case rel => exact ⟨((x4_1 ++ (⟨#[44]⟩ : ByteArray)) ++ ((((qo l0 x5_1).f0) ++ (⟨#[61]⟩ : ByteArray)) ++ ((qo l0 x5_1).f1))), (wrap64 (x5_1 + 1)), sm_, sm_, H', ⟨by have := HK1.out; omega⟩, ⟨bw_⟩⟩
 ·replace c3 := Bool.eq_false_iff.mpr c3
  subst c3
  have H1 : (some ((⟨#[]⟩ : ByteArray), 14)) = some (r1, r2) := by rw [if_neg (show ¬ (false = true) by decide)] at H; exact H
  clear H
  have H := H1
  clear H1
  simp only [Option.some.injEq, Prod.mk.injEq] at H
  obtain ⟨rfl, rfl⟩ := H
  go_enter Tryd.func146, Tryd.ntmps146
  go_wp2_with (first | (go_at_call 142; (with_reducible refine (qbe.calls k _ _ l0 false _ ?side1 ?side2 A2.out).mono ?_); (case side1 => repeat (first | exact HR0.out | (with_reducible refine Kd.qck ?_ _) | (with_reducible refine Kd.qcf ?_ _) | (with_reducible refine Kd.qcz ?_))); (case side2 => exact HC0.out); rintro e w16 ⟨rfl, hb⟩; have n0_ := qd.mk (qw (bw_) hb); clear HB; have HB := n0_; clear n0_; (try clear hb); (try clear hb2); (try clear hk); (try clear hi)))
  repeat (go_quiet (first | (go_at_call 142; (with_reducible refine (qbe.calls k _ _ l0 false _ ?side1 ?side2 A2.out).mono ?_); (case side1 => repeat (first | exact HR0.out | (with_reducible refine Kd.qck ?_ _) | (with_reducible refine Kd.qcf ?_ _) | (with_reducible refine Kd.qcz ?_))); (case side2 => exact HC0.out); rintro e w16 ⟨rfl, hb⟩; have n0_ := qd.mk (qw (bw_) hb); clear HB; have HB := n0_; clear n0_; (try clear hb); (try clear hb2); (try clear hk); (try clear hi))); try go_wp2_with (first | (go_at_call 142; (with_reducible refine (qbe.calls k _ _ l0 false _ ?side1 ?side2 A2.out).mono ?_); (case side1 => repeat (first | exact HR0.out | (with_reducible refine Kd.qck ?_ _) | (with_reducible refine Kd.qcf ?_ _) | (with_reducible refine Kd.qcz ?_))); (case side2 => exact HC0.out); rintro e w16 ⟨rfl, hb⟩; have n0_ := qd.mk (qw (bw_) hb); clear HB; have HB := n0_; clear n0_; (try clear hb); (try clear hb2); (try clear hk); (try clear hi))))
  go_ret2
  exact ⟨ew_, bw_⟩
def qeg.f (k : Nat) (a0 : ByteArray) (a1_0 : ByteArray) (a1_1 : ByteArray) (a1_2 : Int) (a1_3 : Int) (a1_4 : ByteArray) (a1_5 : ByteArray) (l1_6 : List (S213)) : Option (ByteArray × ByteArray × ByteArray × ByteArray × ByteArray) := (qce.f k l1_6).bind fun bt286 => (some (a0, a1_0, a1_1, a1_4, bt286.1))
theorem qeg.calls (k : Nat) (a0 : ByteArray) (a1_0 : ByteArray) (a1_1 : ByteArray) (a1_2 : Int) (a1_3 : Int) (a1_4 : ByteArray) (a1_5 : ByteArray) (A1_6 : Option Addr) (c1_6 : Nat) (l1_6 : List (S213)) (r1 : ByteArray) (r2 : ByteArray) (r3 : ByteArray) (r4 : ByteArray) (r5 : ByteArray) (w : World) (hr1_6 : Kd.C k213 w A1_6 l1_6.length l1_6) (hc1_6 : l1_6.length ≤ c1_6) (h : qeg.f k a0 a1_0 a1_1 a1_2 a1_3 a1_4 a1_5 l1_6 = some (r1, r2, r3, r4, r5)) :
  Calls Tryd.prog 105 #[.string a0, .agg #[.string a1_0, .string a1_1, .int .i64 a1_2, .int .i64 a1_3, .string a1_4, .string a1_5, .slice A1_6 l1_6.length c1_6]] w fun e w' => e = .returned (.agg #[.string r1, .string r2, .string r3, .string r4, .string r5]) ∧ Below w.heap.size w w' := by
 have hu109 := Tryd.underlying109
 have hu40 := Tryd.underlying40
 have HR1_6 := qd.mk hr1_6
 have HC1_6 := qd.mk hc1_6
 clear hr1_6 hc1_6
 have HB := qd.mk (Below.refl w.heap.size w)
 have H : ((qce.f k l1_6).bind fun bt286 => (some (a0, a1_0, a1_1, a1_4, bt286.1))) = some (r1, r2, r3, r4, r5) := h
 clear h
 replace H := obm H
 obtain ⟨⟨t286, t287⟩, A30, H⟩ := H
 replace H : (some (a0, a1_0, a1_1, a1_4, t286)) = some (r1, r2, r3, r4, r5) := H
 have A3 := qd.mk A30
 clear A30
 simp only [Option.some.injEq, Prod.mk.injEq] at H
 obtain ⟨rfl, rfl, rfl, rfl, rfl⟩ := H
 go_enter Tryd.func105, Tryd.ntmps105
 go_wp2_with (first | ((with_reducible refine qbx (N := 3) rfl ?_); refine qbu ?hg (N := 3) ?hd (cs := #[.string a1_0, .string a1_1, .int .i64 a1_2, .int .i64 a1_3, .string a1_4, .string a1_5, .slice A1_6 l1_6.length c1_6]) (t := 109) ?hr ?_; (case hd => rfl); (case hg => rfl); (case hr => first | (go_simp; done) | (go_simp; rfl)); intro gb284 hg w4 hbox hb; have n0_ := qd.mk (qw (bw_) hb); have n1_ := qd.mk (hbox); have n2_ := qd.mk (gw_ (w := w) hg); have n3_ := qd.mk (gw_ (w := w) hg); clear HB; have HB := n0_; have BK284 := n1_; have GW284 := n2_; have GE284 := n3_; clear n0_ n1_ n2_ n3_; clear hb hbox hg) | ((with_reducible refine qbx (N := 4) rfl ?_); refine qbu ?hg (N := 4) ?hd (cs := #[.string (⟨#[]⟩ : ByteArray), .string (⟨#[]⟩ : ByteArray), .string (⟨#[]⟩ : ByteArray), .string (⟨#[]⟩ : ByteArray), .string (⟨#[]⟩ : ByteArray)]) (t := 40) ?hr ?_; (case hd => rfl); (case hg => rfl); (case hr => first | (go_simp; done) | (go_simp; rfl)); intro gb285 hg w5 hbox hb; have n0_ := qd.mk (bb_ BK284 hb); have n1_ := qd.mk (qw (bwx_) hb); have n2_ := qd.mk (hbox); have n3_ := qd.mk (gw_ (w := w) hg); have n4_ := qd.mk (gw_ (w := w) hg); have n5_ := qd.mk ((by rw [hg]; exact Nat.ne_of_lt (bl_ BK284) : gb284 ≠ gb285)); have n6_ := qd.mk ((by rw [hg]; exact Nat.ne_of_gt (bl_ BK284) : gb285 ≠ gb284)); clear BK284; clear HB; have BK284 := n0_; have HB := n1_; have BK285 := n2_; have GW285 := n3_; have GE285 := n4_; have NB284_285 := n5_; have NB285_284 := n6_; clear n0_ n1_ n2_ n3_ n4_ n5_ n6_; clear hb hbox hg; have hnb6 := NB284_285.out; have hnc6 := NB285_284.out; obtain ⟨cz7_0, cz7_1, cz7_2, cz7_3, cz7_4, cz7_5, cz7_6⟩ := bc7_ (w := w5) BK284.out; obtain ⟨fz7_0, fz7_1, fz7_2, fz7_3, fz7_4, fz7_5, fz7_6⟩ := bf7_ BK284.out) | ((with_reducible refine qbf (f := 146) rfl ?_); refine qcp (some 10) rfl rfl Tryd.func146 (by kernel_rfl) rfl #[.slice A1_6 l1_6.length c1_6] rfl ml_ ?_; (with_reducible refine (qce.calls k _ _ l1_6 t286 t287 _ ?side1 ?side2 A3.out).mono ?_); (case side1 => repeat (first | exact (Kd.qbw HR1_6.out HB.out) | (with_reducible refine Kd.qck ?_ _) | (with_reducible refine Kd.qcf ?_ _) | (with_reducible refine Kd.qcz ?_))); (case side2 => exact HC1_6.out); rintro e w8 ⟨rfl, hb⟩; refine ⟨_, rfl, ?_⟩; have n0_ := qd.mk (bb_ BK284 hb); have n1_ := qd.mk (bb_ BK285 hb); have n2_ := qd.mk (qw (bwx_) hb); clear BK284; clear BK285; clear HB; have BK284 := n0_; have BK285 := n1_; have HB := n2_; clear n0_ n1_ n2_; (try clear hb); (try clear hb2); (try clear hk); (try clear hi); obtain ⟨cz9_0, cz9_1, cz9_2, cz9_3, cz9_4, cz9_5, cz9_6⟩ := bc7_ (w := w8) BK284.out; obtain ⟨fz9_0, fz9_1, fz9_2, fz9_3, fz9_4, fz9_5, fz9_6⟩ := bf7_ BK284.out; obtain ⟨cz10_0, cz10_1, cz10_2, cz10_3, cz10_4⟩ := bc5_ (w := w8) BK285.out; obtain ⟨fz10_0, fz10_1, fz10_2, fz10_3, fz10_4⟩ := bf5_ BK285.out))
 refine bodyPost_ret (results_cell_row rfl _ _ gb285 40 #[.string a0, .string a1_0, .string a1_1, .string a1_4, .string t286] (0, 0) _ rfl (by (with_reducible repeat (first | refine qp ?_ _ | refine qz ?_ | refine qm ?_ _)); refine qcr (cs := #[.string a0, .string a1_0, .string a1_1, .string a1_4, .string (⟨#[]⟩ : ByteArray)]) ?_ 4 _ rfl; (with_reducible repeat (first | refine qp ?_ _ | refine qz ?_ | refine qm ?_ _)); refine qcr (cs := #[.string a0, .string a1_0, .string a1_1, .string (⟨#[]⟩ : ByteArray), .string (⟨#[]⟩ : ByteArray)]) ?_ 3 _ rfl; (with_reducible repeat (first | refine qp ?_ _ | refine qz ?_ | refine qm ?_ _)); refine qcr (cs := #[.string a0, .string a1_0, .string (⟨#[]⟩ : ByteArray), .string (⟨#[]⟩ : ByteArray), .string (⟨#[]⟩ : ByteArray)]) ?_ 2 _ rfl; (with_reducible repeat (first | refine qp ?_ _ | refine qz ?_ | refine qm ?_ _)); refine qcr (cs := #[.string a0, .string (⟨#[]⟩ : ByteArray), .string (⟨#[]⟩ : ByteArray), .string (⟨#[]⟩ : ByteArray), .string (⟨#[]⟩ : ByteArray)]) ?_ 1 _ rfl; (with_reducible repeat (first | refine qp ?_ _ | refine qz ?_ | refine qm ?_ _)); refine qcr (cs := #[.string (⟨#[]⟩ : ByteArray), .string (⟨#[]⟩ : ByteArray), .string (⟨#[]⟩ : ByteArray), .string (⟨#[]⟩ : ByteArray), .string (⟨#[]⟩ : ByteArray)]) ?_ 0 _ rfl; (with_reducible repeat (first | refine qp ?_ _ | refine qz ?_ | refine qm ?_ _)); exact BK285.out) Tryd.underlying40 rfl (by kernel_rfl)) rfl ?_
 exact ⟨ew_, bwx_⟩
def qbm.l0 : Nat → List (S112) → Int → Int → ByteArray → Int → Int → Int → ByteArray → ByteArray → Int → List (S109) → Option ((List (S112)))
 | 0, _, _, _, _, _, _, _, _, _, _, _ => none
 | k + 1, x3, x4, x289000, x289001, x289002, x289003, x289004, x289005, x289006, x289007, x289008 => if x4 < (x289008.length : Int) then (if 0 ≤ x4 then ((qeg.f k x289001 ((ql x289008 x4).f0) ((ql x289008 x4).f1) ((ql x289008 x4).f2) ((ql x289008 x4).f3) ((ql x289008 x4).f4) ((ql x289008 x4).f5) ((ql x289008 x4).f6)).bind fun bt293 => (if x3.length < 1466015503701 then (qbm.l0 k (x3 ++ [(⟨(⟨bt293.1, bt293.2.1, bt293.2.2.1, bt293.2.2.2.1, bt293.2.2.2.2⟩ : S40), (ql x289008 x4).f2, (ql x289008 x4).f3⟩ : S112)]) (wrap64 (x4 + 1)) x289000 x289001 x289002 x289003 x289004 x289005 x289006 x289007 x289008) else (none))) else (none)) else (some x3)
def qbm.f (k : Nat) (a0_0 : Int) (a0_1 : ByteArray) (a0_2 : Int) (a0_3 : Int) (a0_4 : Int) (a0_5 : ByteArray) (a0_6 : ByteArray) (a0_7 : Int) (l0_8 : List (S109)) : Option ((List (S112))) := qbm.l0 k (([] : List (S112))) 0 a0_0 a0_1 a0_2 a0_3 a0_4 a0_5 a0_6 a0_7 l0_8
def qbm.T5 : Bool × List (List Nat × List Nat) := (true, [([], []), ([], []), ([1], [1]), ([], []), ([3], [3]), ([], []), ([4, 5], [4, 5]), ([6], [6]), ([2, 7], [2, 7]), ([], []), ([9], [9]), ([], []), ([10, 11], [10, 11]), ([12], [12]), ([13], [13]), ([], []), ([15], [15]), ([], []), ([16, 17], [16, 17]), ([18], [18]), ([19], [19]), ([8, 14, 20], [8, 14, 20]), ([21], [21]), ([0, 22, 8], [0, 22]), ([23, 23, 0, 1, 2, 3, 4, 5, 6, 7, 8, 9, 10, 11, 12, 13, 14, 15, 16, 17, 18, 19, 20, 21, 22, 23], [0, 23])])
def qbm.B5 : List Nat := [0, 0, 2, 0, 8, 0, 56, 120, 254, 0, 512, 0, 3584, 7680, 15872, 0, 32768, 0, 229376, 491520, 1015808, 2097150, 4194302, 8388607, 16777215]
theorem qbm.tab5 : rtab .any (opsOf Tryd.f55 5) = qbm.T5 := by kernel_rfl
theorem qbm.bits5 : qhl qbm.T5.2 qbm.B5 = true := by kernel_rfl
theorem qbm.calls (k : Nat) (a0_0 : Int) (a0_1 : ByteArray) (a0_2 : Int) (a0_3 : Int) (a0_4 : Int) (a0_5 : ByteArray) (a0_6 : ByteArray) (a0_7 : Int) (A0_8 : Option Addr) (c0_8 : Nat) (l0_8 : List (S109)) (r : List (S112)) (w : World) (hr0_8 : Kd.C k109 w A0_8 l0_8.length l0_8) (hc0_8 : l0_8.length ≤ c0_8) (h : qbm.f k a0_0 a0_1 a0_2 a0_3 a0_4 a0_5 a0_6 a0_7 l0_8 = some r) :
  Calls Tryd.prog 55 #[.agg #[.int .i64 a0_0, .string a0_1, .int .i64 a0_2, .int .i64 a0_3, .int .i64 a0_4, .string a0_5, .string a0_6, .int .i64 a0_7, .slice A0_8 l0_8.length c0_8]] w fun e w' => ∃ v0_ : Value, e = .returned (v0_) ∧ Kd.R k112 112 w' w.heap.size (fun _ => True) v0_ r ∧ Below w.heap.size w w' := by
 have hu29 := Tryd.underlying29
 have hu109 := Tryd.underlying109
 have hu112 := Tryd.underlying112
 have HR0_8 := qd.mk hr0_8
 have HC0_8 := qd.mk hc0_8
 clear hr0_8 hc0_8
 have HB := qd.mk (Below.refl w.heap.size w)
 have H : (qbm.l0 k (([] : List (S112))) 0 a0_0 a0_1 a0_2 a0_3 a0_4 a0_5 a0_6 a0_7 l0_8) = some r := h
 clear h
 obtain ⟨y289, hy289⟩ : ∃ y_ : List (S112), y_ = (([] : List (S112))) := ⟨_, rfl⟩
 replace H : (qbm.l0 k y289 0 a0_0 a0_1 a0_2 a0_3 a0_4 a0_5 a0_6 a0_7 l0_8) = some r := by first | (rw [hy289]; with_reducible exact H) | (have H2_ := (Option.bind_some _ _).symm.trans H; rw [hy289]; with_reducible exact H2_) | (have H2_ := (Option.bind_some _ _).symm.trans H; with_reducible exact H2_) | with_reducible exact H | (rw [hy289]; exact H) | exact H
 have Ny289 := qd.mk hy289
 clear hy289
 have H' := qd.mk H
 clear H
 go_enter Tryd.func55, Tryd.ntmps55
 go_wp2_with (first | ((with_reducible refine qbx (N := 1) rfl ?_); refine qbu ?hg (N := 1) ?hd (cs := #[.int .i64 a0_0, .string a0_1, .int .i64 a0_2, .int .i64 a0_3, .int .i64 a0_4, .string a0_5, .string a0_6, .int .i64 a0_7, .slice A0_8 l0_8.length c0_8]) (t := 29) ?hr ?_; (case hd => rfl); (case hg => rfl); (case hr => first | (go_simp; done) | (go_simp; rfl)); intro gb288 hg w2 hbox hb; have n0_ := qd.mk (qw (bw_) hb); have n1_ := qd.mk (hbox); have n2_ := qd.mk (gw_ (w := w) hg); have n3_ := qd.mk (gw_ (w := w) hg); clear HB; have HB := n0_; have BK288 := n1_; have GW288 := n2_; have GE288 := n3_; clear n0_ n1_ n2_ n3_; clear hb hbox hg) | ((with_reducible refine qbx (N := 5) rfl ?_); refine Kd.R_lit k112 _ 112 ?hg (N := 5) ?hd (xs := ([] : List (S112))) (inner := []) (ok := fun _ => True) (okp := fun _ => True) ?hr ?hp (fun _ hk => hk) trivial (Below.refl _ _) (Nat.le_refl _) (by simp) ?_; (case hd => rfl); (case hg => rfl); (case hr => first | (go_simp; done) | (go_simp; rfl)); (case hp => exact (Reps.none _ _)); intro v290 w3 ho4 hb hg_ hnew_; clear hg_ hnew_; (first | rw [← Ny289.out] at ho4 | (simp only [Int.reduceToNat] at ho4; rw [← Ny289.out] at ho4)); have n0_ := qd.mk (Kd.qec ho4 (qcm (bwx_))); have n1_ := qd.mk (bb_ BK288 hb); have n2_ := qd.mk (qw (bwx_) hb); clear BK288; clear HB; have HO291 := n0_; have BK288 := n1_; have HB := n2_; clear n0_ n1_ n2_; clear hb ho4))
 go_loopg [3, 4] k (fun kq v3 v4 w' => ∃ (x3_1 : List (S112)) (x4_1 : Int), v4 = .int .i64 x4_1 ∧ qd (qbm.l0 kq x3_1 x4_1 a0_0 a0_1 a0_2 a0_3 a0_4 a0_5 a0_6 a0_7 l0_8 = some r) ∧ qd (kq ≤ k) ∧ qd (Kd.R k112 112 w' w.heap.size (fun _ => True) v3 x3_1) ∧ qd (w'.heap[gb288]? = some (.cells #[.int .i64 a0_0, .string a0_1, .int .i64 a0_2, .int .i64 a0_3, .int .i64 a0_4, .string a0_5, .string a0_6, .int .i64 a0_7, (.slice A0_8 l0_8.length c0_8)] 29 (0, 0))) ∧ qd (Below w.heap.size w w'))
 case atStart => exact ⟨(y289), (0), sm_, H', ⟨Nat.le_refl _⟩, ⟨by (with_reducible repeat (first | apply Kd.R_alloc | apply Kd.qbj | apply Kd.qbl)); exact HO291.out⟩, ⟨by (with_reducible repeat (first | refine qp ?_ _ | refine qz ?_ | refine qm ?_ _)); exact BK288.out⟩, ⟨bwx_⟩⟩
 case round =>
  clear H'
  try clear p2
  obtain ⟨x3_1, x4_1, rfl, HA, HK1, HO_3, BK288, HB⟩ := hrel
  cases gk with
  | zero => exact absurd HA.out (by simp [qbm.l0])
  | succ k1 =>
   have H := HA.out
   clear HA
   simp only [qbm.l0] at H
   by_cases c5 : x4_1 < (l0_8.length : Int)
   ·rw [if_pos c5] at H
    have c5b0 : decide (x4_1 < (l0_8.length : Int)) = true := decide_eq_true c5
    clear c5
    by_cases c6 : 0 ≤ x4_1
    rotate_left
    ·rw [if_neg c6] at H
     exact absurd H (by simp)
    rw [if_pos c6] at H
    have c6b0 : decide (0 ≤ x4_1) = true := decide_eq_true c6
    clear c6
    replace H := obm H
    obtain ⟨⟨t293, t294, t295, t296, t297⟩, A70, H⟩ := H
    try dsimp only at H
    have A7 := qd.mk A70
    clear A70
    by_cases c8 : x3_1.length < 1466015503701
    rotate_left
    ·rw [if_neg c8] at H
     exact absurd H (by simp)
    rw [if_pos c8] at H
    have LMc8 := qd.mk c8
    clear c8
    obtain ⟨y300, hy300⟩ : ∃ y_ : List (S112), y_ = (x3_1 ++ [(⟨(⟨t293, t294, t295, t296, t297⟩ : S40), (ql l0_8 x4_1).f2, (ql l0_8 x4_1).f3⟩ : S112)]) := ⟨_, rfl⟩
    replace H : (qbm.l0 k1 y300 (wrap64 (x4_1 + 1)) a0_0 a0_1 a0_2 a0_3 a0_4 a0_5 a0_6 a0_7 l0_8) = some r := by first | (rw [hy300]; with_reducible exact H) | (have H2_ := (Option.bind_some _ _).symm.trans H; rw [hy300]; with_reducible exact H2_) | (have H2_ := (Option.bind_some _ _).symm.trans H; with_reducible exact H2_) | with_reducible exact H | (rw [hy300]; exact H) | exact H
    have Ny300 := qd.mk hy300
    clear hy300
    have H' := qd.mk H
    clear H
    obtain ⟨cz9_0, cz9_1, cz9_2, cz9_3, cz9_4, cz9_5, cz9_6, cz9_7, cz9_8⟩ := bc9_ (w := wr) BK288.out
    obtain ⟨fz9_0, fz9_1, fz9_2, fz9_3, fz9_4, fz9_5, fz9_6, fz9_7, fz9_8⟩ := bf9_ BK288.out
    try go_wp2
    have n0_ := qd.mk (Kd.qbl HO_3.out)
    have n1_ := qd.mk (qz BK288.out)
    have n2_ := qd.mk (qcq HB.out)
    clear HO_3
    clear BK288
    clear HB
    have HO_3 := n0_
    have BK288 := n1_
    have HB := n2_
    clear n0_ n1_ n2_
    have p292 : 0 ≤ (x4_1 : Int) := odt_
    have q292 : x4_1 < (l0_8.length : Int) := odt_
    obtain ⟨ad292, A292_6, c292_6, e292, hx292_0, hx292_1, hx292_2, hx292_3, hx292_4, hx292_5, hx292_6, hl292_6, hi292_6⟩ := qfg HR0_8.out x4_1 p292 q292
    have hw292_6 := hx292_6
    have hw292_5 := hx292_5
    have hw292_4 := hx292_4
    have hw292_3 := hx292_3
    have hw292_2 := hx292_2
    have hw292_1 := hx292_1
    have hw292_0 := hx292_0
    cases e292
    replace hx292_0 := bcl_ HB hx292_0
    replace hx292_1 := bcl_ HB hx292_1
    replace hx292_2 := bcl_ HB hx292_2
    replace hx292_3 := bcl_ HB hx292_3
    replace hx292_4 := bcl_ HB hx292_4
    replace hx292_5 := bcl_ HB hx292_5
    replace hx292_6 := bcl_ HB hx292_6
    have HR292_6 := qd.mk hi292_6
    have HC292_6 := qd.mk hl292_6
    clear hi292_6 hl292_6
    replace p292 := eq_true p292
    replace q292 := eq_true q292
    have p298 : 0 ≤ (x4_1 : Int) := odt_
    have q298 : x4_1 < (l0_8.length : Int) := odt_
    obtain ⟨ad298, A298_6, c298_6, e298, hx298_0, hx298_1, hx298_2, hx298_3, hx298_4, hx298_5, hx298_6, hl298_6, hi298_6⟩ := qfg HR0_8.out x4_1 p298 q298
    have hw298_6 := hx298_6
    have hw298_5 := hx298_5
    have hw298_4 := hx298_4
    have hw298_3 := hx298_3
    have hw298_2 := hx298_2
    have hw298_1 := hx298_1
    have hw298_0 := hx298_0
    obtain rfl : ad292 = ad298 := (by injection e298)
    replace hx298_0 := bcl_ HB hx298_0
    replace hx298_1 := bcl_ HB hx298_1
    replace hx298_2 := bcl_ HB hx298_2
    replace hx298_3 := bcl_ HB hx298_3
    replace hx298_4 := bcl_ HB hx298_4
    replace hx298_5 := bcl_ HB hx298_5
    replace hx298_6 := bcl_ HB hx298_6
    have HR298_6 := qd.mk hi298_6
    have HC298_6 := qd.mk hl298_6
    clear hi298_6 hl298_6
    replace p298 := eq_true p298
    replace q298 := eq_true q298
    have ea_ := Option.some.inj (hx292_6.symm.trans hx298_6)
    injection ea_ with ea_ en_ ec_
    subst ea_
    subst ec_
    clear en_
    have p299 : 0 ≤ (x4_1 : Int) := odt_
    have q299 : x4_1 < (l0_8.length : Int) := odt_
    obtain ⟨ad299, A299_6, c299_6, e299, hx299_0, hx299_1, hx299_2, hx299_3, hx299_4, hx299_5, hx299_6, hl299_6, hi299_6⟩ := qfg HR0_8.out x4_1 p299 q299
    have hw299_6 := hx299_6
    have hw299_5 := hx299_5
    have hw299_4 := hx299_4
    have hw299_3 := hx299_3
    have hw299_2 := hx299_2
    have hw299_1 := hx299_1
    have hw299_0 := hx299_0
    obtain rfl : ad292 = ad299 := (by injection e299)
    replace hx299_0 := bcl_ HB hx299_0
    replace hx299_1 := bcl_ HB hx299_1
    replace hx299_2 := bcl_ HB hx299_2
    replace hx299_3 := bcl_ HB hx299_3
    replace hx299_4 := bcl_ HB hx299_4
    replace hx299_5 := bcl_ HB hx299_5
    replace hx299_6 := bcl_ HB hx299_6
    have HR299_6 := qd.mk hi299_6
    have HC299_6 := qd.mk hl299_6
    clear hi299_6 hl299_6
    replace p299 := eq_true p299
    replace q299 := eq_true q299
    have ea_ := Option.some.inj (hx292_6.symm.trans hx299_6)
    injection ea_ with ea_ en_ ec_
    subst ea_
    subst ec_
    clear en_
    refine qgv (n := 25) (S := fun w' => w'.cell? ⟨gb288, 0, none⟩ = some (.int .i64 a0_0) ∧ w'.cell? ⟨gb288, 1, none⟩ = some (.string a0_1) ∧ w'.cell? ⟨gb288, 2, none⟩ = some (.int .i64 a0_2) ∧ w'.cell? ⟨gb288, 3, none⟩ = some (.int .i64 a0_3) ∧ w'.cell? ⟨gb288, 4, none⟩ = some (.int .i64 a0_4) ∧ w'.cell? ⟨gb288, 5, none⟩ = some (.string a0_5) ∧ w'.cell? ⟨gb288, 6, none⟩ = some (.string a0_6) ∧ w'.cell? ⟨gb288, 7, none⟩ = some (.int .i64 a0_7) ∧ w'.cell? ⟨gb288, 8, none⟩ = some (.slice (some ad292) l0_8.length c0_8) ∧ w'.cell? (ad292.add ((x4_1).toNat * 7)) = some (.string ((ql l0_8 x4_1).f0)) ∧ w'.cell? ⟨(ad292.add ((x4_1).toNat * 7)).block, (ad292.add ((x4_1).toNat * 7)).off + 1, none⟩ = some (.string ((ql l0_8 x4_1).f1)) ∧ w'.cell? ⟨(ad292.add ((x4_1).toNat * 7)).block, (ad292.add ((x4_1).toNat * 7)).off + 2, none⟩ = some (.int .i64 ((ql l0_8 x4_1).f2)) ∧ w'.cell? ⟨(ad292.add ((x4_1).toNat * 7)).block, (ad292.add ((x4_1).toNat * 7)).off + 3, none⟩ = some (.int .i64 ((ql l0_8 x4_1).f3)) ∧ w'.cell? ⟨(ad292.add ((x4_1).toNat * 7)).block, (ad292.add ((x4_1).toNat * 7)).off + 4, none⟩ = some (.string ((ql l0_8 x4_1).f4)) ∧ w'.cell? ⟨(ad292.add ((x4_1).toNat * 7)).block, (ad292.add ((x4_1).toNat * 7)).off + 5, none⟩ = some (.string ((ql l0_8 x4_1).f5)) ∧ w'.cell? ⟨(ad292.add ((x4_1).toNat * 7)).block, (ad292.add ((x4_1).toNat * 7)).off + 6, none⟩ = some (.slice A292_6 ((ql l0_8 x4_1).f6).length c292_6) ∧ w'.cell? (ad292.add ((x4_1).toNat * 7)) = some (.string ((ql l0_8 x4_1).f0)) ∧ w'.cell? ⟨(ad292.add ((x4_1).toNat * 7)).block, (ad292.add ((x4_1).toNat * 7)).off + 1, none⟩ = some (.string ((ql l0_8 x4_1).f1)) ∧ w'.cell? ⟨(ad292.add ((x4_1).toNat * 7)).block, (ad292.add ((x4_1).toNat * 7)).off + 2, none⟩ = some (.int .i64 ((ql l0_8 x4_1).f2)) ∧ w'.cell? ⟨(ad292.add ((x4_1).toNat * 7)).block, (ad292.add ((x4_1).toNat * 7)).off + 3, none⟩ = some (.int .i64 ((ql l0_8 x4_1).f3)) ∧ w'.cell? ⟨(ad292.add ((x4_1).toNat * 7)).block, (ad292.add ((x4_1).toNat * 7)).off + 4, none⟩ = some (.string ((ql l0_8 x4_1).f4)) ∧ w'.cell? ⟨(ad292.add ((x4_1).toNat * 7)).block, (ad292.add ((x4_1).toNat * 7)).off + 5, none⟩ = some (.string ((ql l0_8 x4_1).f5)) ∧ w'.cell? ⟨(ad292.add ((x4_1).toNat * 7)).block, (ad292.add ((x4_1).toNat * 7)).off + 6, none⟩ = some (.slice A292_6 ((ql l0_8 x4_1).f6).length c292_6) ∧ w'.cell? (ad292.add ((x4_1).toNat * 7)) = some (.string ((ql l0_8 x4_1).f0)) ∧ w'.cell? ⟨(ad292.add ((x4_1).toNat * 7)).block, (ad292.add ((x4_1).toNat * 7)).off + 1, none⟩ = some (.string ((ql l0_8 x4_1).f1)) ∧ w'.cell? ⟨(ad292.add ((x4_1).toNat * 7)).block, (ad292.add ((x4_1).toNat * 7)).off + 2, none⟩ = some (.int .i64 ((ql l0_8 x4_1).f2)) ∧ w'.cell? ⟨(ad292.add ((x4_1).toNat * 7)).block, (ad292.add ((x4_1).toNat * 7)).off + 3, none⟩ = some (.int .i64 ((ql l0_8 x4_1).f3)) ∧ w'.cell? ⟨(ad292.add ((x4_1).toNat * 7)).block, (ad292.add ((x4_1).toNat * 7)).off + 4, none⟩ = some (.string ((ql l0_8 x4_1).f4)) ∧ w'.cell? ⟨(ad292.add ((x4_1).toNat * 7)).block, (ad292.add ((x4_1).toNat * 7)).off + 5, none⟩ = some (.string ((ql l0_8 x4_1).f5)) ∧ w'.cell? ⟨(ad292.add ((x4_1).toNat * 7)).block, (ad292.add ((x4_1).toNat * 7)).off + 6, none⟩ = some (.slice A292_6 ((ql l0_8 x4_1).f6).length c292_6)) (ds := []) #[false, false, false, false, false, false, false, false, false, false, false, false, false, false, false, false, false, false, false, false, false, false, false, false, false] (by kernel_rfl) rfl rfl ⟨(qg BK288.out 0).trans rfl, (qg BK288.out 1).trans rfl, (qg BK288.out 2).trans rfl, (qg BK288.out 3).trans rfl, (qg BK288.out 4).trans rfl, (qg BK288.out 5).trans rfl, (qg BK288.out 6).trans rfl, (qg BK288.out 7).trans rfl, (qg BK288.out 8).trans rfl, (bcl_ HB hw292_0), (bcl_ HB hw292_1), (bcl_ HB hw292_2), (bcl_ HB hw292_3), (bcl_ HB hw292_4), (bcl_ HB hw292_5), (bcl_ HB hw292_6), (bcl_ HB hw298_0), (bcl_ HB hw298_1), (bcl_ HB hw298_2), (bcl_ HB hw298_3), (bcl_ HB hw298_4), (bcl_ HB hw298_5), (bcl_ HB hw298_6), (bcl_ HB hw299_0), (bcl_ HB hw299_1), (bcl_ HB hw299_2), (bcl_ HB hw299_3), (bcl_ HB hw299_4), (bcl_ HB hw299_5), (bcl_ HB hw299_6)⟩ (fun hHeld => ?_); refine qeq qbm.tab5 qbm.bits5 (fun HT_ HW_ => ?_)
    generalize wr.drew = w10 at HO_3 BK288 HB HR292_6 HR298_6 HR299_6 hx292_0 hx292_1 hx292_2 hx292_3 hx292_4 hx292_5 hx292_6 hx298_0 hx298_1 hx298_2 hx298_3 hx298_4 hx298_5 hx298_6 hx299_0 hx299_1 hx299_2 hx299_3 hx299_4 hx299_5 hx299_6 hHeld ⊢
    refine pu_ 0 (some 13) (btz 25 1) HT_ ?_
    refine pu_ 1 (some 14) (btz 25 3) HT_ ?_
    refine pu_ 3 (some 16) (btz 25 11) HT_ ?_
    refine pu_ 5 (some 18) (btz 25 43) HT_ ?_
    refine pu_ 9 (some 22) (btz 25 555) HT_ ?_
    refine pu_ 11 (some 24) (btz 25 2603) HT_ ?_
    refine pu_ 15 (some 28) (btz 25 35371) HT_ ?_
    refine pu_ 17 (some 30) (btz 25 166443) HT_ ?_
    refine ta_ 2 (some 15) (btz 25 166447) HT_ HW_ hHeld rfl rfl (by rintro w' ⟨s0, s1, s2, s3, s4, s5, s6, s7, s8, s9, s10, s11, s12, s13, s14, s15, s16, s17, s18, s19, s20, s21, s22, s23, s24, s25, s26, s27, s28, s29⟩; go_simp; with_reducible rfl) ?_
    refine ta_ 4 (some 17) (btz 25 166463) HT_ HW_ hHeld rfl rfl (by rintro w' ⟨s0, s1, s2, s3, s4, s5, s6, s7, s8, s9, s10, s11, s12, s13, s14, s15, s16, s17, s18, s19, s20, s21, s22, s23, s24, s25, s26, s27, s28, s29⟩; go_simp; with_reducible rfl) ?_
    refine pu_ 6 (some 19) (btz 25 166527) HT_ ?_
    refine ta_ 7 (some 20) (btz 25 166655) HT_ HW_ hHeld rfl rfl (by rintro w' ⟨s0, s1, s2, s3, s4, s5, s6, s7, s8, s9, s10, s11, s12, s13, s14, s15, s16, s17, s18, s19, s20, s21, s22, s23, s24, s25, s26, s27, s28, s29⟩; go_simp; with_reducible rfl) ?_
    refine ta_ 10 (some 23) (btz 25 167679) HT_ HW_ hHeld rfl rfl (by rintro w' ⟨s0, s1, s2, s3, s4, s5, s6, s7, s8, s9, s10, s11, s12, s13, s14, s15, s16, s17, s18, s19, s20, s21, s22, s23, s24, s25, s26, s27, s28, s29⟩; go_simp; with_reducible rfl) ?_
    refine pu_ 12 (some 25) (btz 25 171775) HT_ ?_
    refine pu_ 13 (some 26) (btz 25 179967) HT_ ?_
    refine ta_ 14 (some 27) (btz 25 196351) HT_ HW_ hHeld rfl rfl (by rintro w' ⟨s0, s1, s2, s3, s4, s5, s6, s7, s8, s9, s10, s11, s12, s13, s14, s15, s16, s17, s18, s19, s20, s21, s22, s23, s24, s25, s26, s27, s28, s29⟩; go_simp; with_reducible rfl) ?_
    refine ta_ 16 (some 29) (btz 25 261887) HT_ HW_ hHeld rfl rfl (by rintro w' ⟨s0, s1, s2, s3, s4, s5, s6, s7, s8, s9, s10, s11, s12, s13, s14, s15, s16, s17, s18, s19, s20, s21, s22, s23, s24, s25, s26, s27, s28, s29⟩; go_simp; with_reducible rfl) ?_
    refine pu_ 18 (some 31) (btz 25 524031) HT_ ?_
    refine pu_ 19 (some 32) (btz 25 1048319) HT_ ?_
    refine ta_ 20 (some 33) (btz 25 2096895) HT_ HW_ hHeld rfl rfl (by rintro w' ⟨s0, s1, s2, s3, s4, s5, s6, s7, s8, s9, s10, s11, s12, s13, s14, s15, s16, s17, s18, s19, s20, s21, s22, s23, s24, s25, s26, s27, s28, s29⟩; go_simp; with_reducible rfl) ?_
    refine one_ (i := 8) (N := some 21) #[true, true, true, true, true, true, true, true, true, true, true, true, true, true, true, true, true, true, true, true, true, false, false, false, false] rfl rfl (qhq HT_.out (by kernel_rfl)) (by decide) (fun K hK => ?_)
    refine qkk Tryd.func105 (by kernel_rfl) rfl #[.string a0_1, .agg #[.string ((ql l0_8 x4_1).f0), .string ((ql l0_8 x4_1).f1), .int .i64 ((ql l0_8 x4_1).f2), .int .i64 ((ql l0_8 x4_1).f3), .string ((ql l0_8 x4_1).f4), .string ((ql l0_8 x4_1).f5), .slice A292_6 ((ql l0_8 x4_1).f6).length c292_6]] (by rfl) rfl rfl ml_ ?_
    with_reducible refine (qeg.calls k1 a0_1 ((ql l0_8 x4_1).f0) ((ql l0_8 x4_1).f1) ((ql l0_8 x4_1).f2) ((ql l0_8 x4_1).f3) ((ql l0_8 x4_1).f4) ((ql l0_8 x4_1).f5) _ _ ((ql l0_8 x4_1).f6) t293 t294 t295 t296 t297 _ ?side1 ?side2 A7.out).mono ?_
    (case side1 => repeat (first | exact (Kd.qbw HR292_6.out HB.out) | (with_reducible refine Kd.qck ?_ _) | (with_reducible refine Kd.qcf ?_ _) | (with_reducible refine Kd.qcz ?_)))
    (case side2 => exact HC292_6.out)
    rintro e w11 ⟨rfl, hb⟩
    refine ⟨_, rfl, ?_⟩
    have n0_ := qd.mk (Kd.qdw (by (with_reducible repeat (first | apply Kd.R_alloc | apply Kd.qbj | apply Kd.qbl)); exact HO_3.out) hb)
    have n1_ := qd.mk (bb_ BK288 hb)
    have n2_ := qd.mk (qw (bwx_) hb)
    clear HO_3
    clear BK288
    clear HB
    have HO_3 := n0_
    have BK288 := n1_
    have HB := n2_
    clear n0_ n1_ n2_
    (try clear hb)
    (try clear hb2)
    (try clear hk)
    (try clear hi)
    refine hK.out _ _ ⟨(qg BK288.out 0).trans rfl, (qg BK288.out 1).trans rfl, (qg BK288.out 2).trans rfl, (qg BK288.out 3).trans rfl, (qg BK288.out 4).trans rfl, (qg BK288.out 5).trans rfl, (qg BK288.out 6).trans rfl, (qg BK288.out 7).trans rfl, (qg BK288.out 8).trans rfl, (bcl_ HB hw292_0), (bcl_ HB hw292_1), (bcl_ HB hw292_2), (bcl_ HB hw292_3), (bcl_ HB hw292_4), (bcl_ HB hw292_5), (bcl_ HB hw292_6), (bcl_ HB hw298_0), (bcl_ HB hw298_1), (bcl_ HB hw298_2), (bcl_ HB hw298_3), (bcl_ HB hw298_4), (bcl_ HB hw298_5), (bcl_ HB hw298_6), (bcl_ HB hw299_0), (bcl_ HB hw299_1), (bcl_ HB hw299_2), (bcl_ HB hw299_3), (bcl_ HB hw299_4), (bcl_ HB hw299_5), (bcl_ HB hw299_6)⟩ (fun hHeld => ?_)
    clear hK K
    refine qjm (a' := ?_) ?_ ?_
    rotate_left
    ·show Act.put _ (some 21) _ = _
     simp only [Act.put, List.setIfInBounds_toArray, List.set_cons_zero, List.set_cons_succ, qeh, qen]
     rfl
    refine pu_ 21 (some 34) (btz 25 4194303) HT_ ?_
    refine one_ (i := 22) (N := some 35) #[true, true, true, true, true, true, true, true, true, true, true, true, true, true, true, true, true, true, true, true, true, true, true, false, false] rfl rfl (qhq HT_.out (by kernel_rfl)) (by decide) (fun K hK => ?_)
    refine value_ (w1 := ?_) (v := ?_) (by rfl) rfl ?_ ?_
    rotate_left 2
    ·go_simp
     constructor
     ·rfl
     ·rfl
    refine hK.out _ _ ⟨(qg (qm BK288.out _) 0).trans rfl, (qg (qm BK288.out _) 1).trans rfl, (qg (qm BK288.out _) 2).trans rfl, (qg (qm BK288.out _) 3).trans rfl, (qg (qm BK288.out _) 4).trans rfl, (qg (qm BK288.out _) 5).trans rfl, (qg (qm BK288.out _) 6).trans rfl, (qg (qm BK288.out _) 7).trans rfl, (qg (qm BK288.out _) 8).trans rfl, (World.cell?_alloc_lt _ _ _ (World.block_lt_of_cell? _ _ ((bcl_ HB hw292_0)))).trans ((bcl_ HB hw292_0)), (World.cell?_alloc_lt _ _ _ (World.block_lt_of_cell? _ _ ((bcl_ HB hw292_1)))).trans ((bcl_ HB hw292_1)), (World.cell?_alloc_lt _ _ _ (World.block_lt_of_cell? _ _ ((bcl_ HB hw292_2)))).trans ((bcl_ HB hw292_2)), (World.cell?_alloc_lt _ _ _ (World.block_lt_of_cell? _ _ ((bcl_ HB hw292_3)))).trans ((bcl_ HB hw292_3)), (World.cell?_alloc_lt _ _ _ (World.block_lt_of_cell? _ _ ((bcl_ HB hw292_4)))).trans ((bcl_ HB hw292_4)), (World.cell?_alloc_lt _ _ _ (World.block_lt_of_cell? _ _ ((bcl_ HB hw292_5)))).trans ((bcl_ HB hw292_5)), (World.cell?_alloc_lt _ _ _ (World.block_lt_of_cell? _ _ ((bcl_ HB hw292_6)))).trans ((bcl_ HB hw292_6)), (World.cell?_alloc_lt _ _ _ (World.block_lt_of_cell? _ _ ((bcl_ HB hw298_0)))).trans ((bcl_ HB hw298_0)), (World.cell?_alloc_lt _ _ _ (World.block_lt_of_cell? _ _ ((bcl_ HB hw298_1)))).trans ((bcl_ HB hw298_1)), (World.cell?_alloc_lt _ _ _ (World.block_lt_of_cell? _ _ ((bcl_ HB hw298_2)))).trans ((bcl_ HB hw298_2)), (World.cell?_alloc_lt _ _ _ (World.block_lt_of_cell? _ _ ((bcl_ HB hw298_3)))).trans ((bcl_ HB hw298_3)), (World.cell?_alloc_lt _ _ _ (World.block_lt_of_cell? _ _ ((bcl_ HB hw298_4)))).trans ((bcl_ HB hw298_4)), (World.cell?_alloc_lt _ _ _ (World.block_lt_of_cell? _ _ ((bcl_ HB hw298_5)))).trans ((bcl_ HB hw298_5)), (World.cell?_alloc_lt _ _ _ (World.block_lt_of_cell? _ _ ((bcl_ HB hw298_6)))).trans ((bcl_ HB hw298_6)), (World.cell?_alloc_lt _ _ _ (World.block_lt_of_cell? _ _ ((bcl_ HB hw299_0)))).trans ((bcl_ HB hw299_0)), (World.cell?_alloc_lt _ _ _ (World.block_lt_of_cell? _ _ ((bcl_ HB hw299_1)))).trans ((bcl_ HB hw299_1)), (World.cell?_alloc_lt _ _ _ (World.block_lt_of_cell? _ _ ((bcl_ HB hw299_2)))).trans ((bcl_ HB hw299_2)), (World.cell?_alloc_lt _ _ _ (World.block_lt_of_cell? _ _ ((bcl_ HB hw299_3)))).trans ((bcl_ HB hw299_3)), (World.cell?_alloc_lt _ _ _ (World.block_lt_of_cell? _ _ ((bcl_ HB hw299_4)))).trans ((bcl_ HB hw299_4)), (World.cell?_alloc_lt _ _ _ (World.block_lt_of_cell? _ _ ((bcl_ HB hw299_5)))).trans ((bcl_ HB hw299_5)), (World.cell?_alloc_lt _ _ _ (World.block_lt_of_cell? _ _ ((bcl_ HB hw299_6)))).trans ((bcl_ HB hw299_6))⟩ (fun hHeld => ?_)
    clear hK K
    refine qjm (a' := ?_) ?_ ?_
    rotate_left
    ·show Act.put _ (some 35) _ = _
     simp only [Act.put, List.setIfInBounds_toArray, List.set_cons_zero, List.set_cons_succ, qeh, qen]
     rfl
    refine one_ (i := 23) (N := some 36) #[true, true, true, true, true, true, true, true, true, true, true, true, true, true, true, true, true, true, true, true, true, true, true, true, false] rfl rfl (qhq HT_.out (by kernel_rfl)) (by decide) (fun K hK => ?_)
    refine Kd.qes k112 (w0 := w) w.heap.size (by rfl) (.tmp 13) (.tmp 35) 32 112 (.agg #[(.string ⟨#[]⟩), (.string ⟨#[]⟩), (.string ⟨#[]⟩), (.string ⟨#[]⟩), (.string ⟨#[]⟩), (.int .i64 0), (.int .i64 0)]) 96 rfl Tryd.underlying32 qfk rfl (by decide) (by omega) u3 x3_1 (⟨(⟨t293, t294, t295, t296, t297⟩ : S40), (ql l0_8 x4_1).f2, (ql l0_8 x4_1).f3⟩ : S112) [.string t293, .string t294, .string t295, .string t296, .string t297, .int .i64 ((ql l0_8 x4_1).f2), .int .i64 ((ql l0_8 x4_1).f3)] (fun _ => True) (fun _ => False) rfl rfl ?aP (fun _ hk => hk.elim) ?aF ?aO ?aB ?aS ?aL ?_
    (case aP => exact qfw _ _ _ (⟨(⟨t293, t294, t295, t296, t297⟩ : S40), (ql l0_8 x4_1).f2, (ql l0_8 x4_1).f3⟩ : S112))
    (case aB => exact (bwx_))
    (case aF => exact (fun _ _ => trivial))
    (case aO => exact (by (with_reducible repeat (first | apply Kd.R_alloc | apply Kd.qbj | apply Kd.qbl)); exact HO_3.out))
    (case aS => exact (qcm (bwx_)))
    (case aL => have := LMc8.out; omega)
    intro v301 w12 ho hb hg hat
    rw [← Ny300.out] at ho
    have n0_ := qd.mk (qer (g := gb288) (o := .cells #[.int .i64 a0_0, .string a0_1, .int .i64 a0_2, .int .i64 a0_3, .int .i64 a0_4, .string a0_5, .string a0_6, .int .i64 a0_7, .slice (some ad292) l0_8.length c0_8] 29 (0, 0)) (by (with_reducible repeat (first | refine qp ?_ _ | refine qz ?_ | refine qm ?_ _)); exact BK288.out) hg (Kd.R_ne HO_3.out BK288.out (by decide)))
    have n1_ := qd.mk (hb)
    have n2_ := qd.mk (ho)
    clear BK288
    clear HB
    clear HO_3
    have BK288 := n0_
    have HB := n1_
    have HO302 := n2_
    clear n0_ n1_ n2_
    clear ho hb hg hat
    refine hK.out _ _ ⟨(qg BK288.out 0).trans rfl, (qg BK288.out 1).trans rfl, (qg BK288.out 2).trans rfl, (qg BK288.out 3).trans rfl, (qg BK288.out 4).trans rfl, (qg BK288.out 5).trans rfl, (qg BK288.out 6).trans rfl, (qg BK288.out 7).trans rfl, (qg BK288.out 8).trans rfl, (bcl_ HB hw292_0), (bcl_ HB hw292_1), (bcl_ HB hw292_2), (bcl_ HB hw292_3), (bcl_ HB hw292_4), (bcl_ HB hw292_5), (bcl_ HB hw292_6), (bcl_ HB hw298_0), (bcl_ HB hw298_1), (bcl_ HB hw298_2), (bcl_ HB hw298_3), (bcl_ HB hw298_4), (bcl_ HB hw298_5), (bcl_ HB hw298_6), (bcl_ HB hw299_0), (bcl_ HB hw299_1), (bcl_ HB hw299_2), (bcl_ HB hw299_3), (bcl_ HB hw299_4), (bcl_ HB hw299_5), (bcl_ HB hw299_6)⟩ (fun hHeld => ?_)
    clear hK K
    refine qjm (a' := ?_) ?_ ?_
    rotate_left
    ·show Act.put _ (some 36) _ = _
     simp only [Act.put, List.setIfInBounds_toArray, List.set_cons_zero, List.set_cons_succ, qeh, qen]
     rfl
    refine pu_ 24 (some 3) (btz 25 33554431) HT_ ?_
    refine qjg (qgc HT_.out (by kernel_rfl)) ?_
    try go_wp2
    go_roundg k1
    case measure => have := HK1.out; omega
    case rel => exact ⟨(y300), (wrap64 (x4_1 + 1)), sm_, H', ⟨by have := HK1.out; omega⟩, ⟨by (with_reducible repeat (first | apply Kd.R_alloc | apply Kd.qbj | apply Kd.qbl)); exact HO302.out⟩, ⟨by (with_reducible repeat (first | refine qp ?_ _ | refine qz ?_ | refine qm ?_ _)); exact BK288.out⟩, ⟨bwx_⟩⟩
   ·rw [if_neg c5] at H
    have c5b0 : decide (x4_1 < (l0_8.length : Int)) = false := decide_eq_false c5
    clear c5
    obtain rfl := Option.some.inj H
    obtain ⟨cz13_0, cz13_1, cz13_2, cz13_3, cz13_4, cz13_5, cz13_6, cz13_7, cz13_8⟩ := bc9_ (w := wr) BK288.out
    obtain ⟨fz13_0, fz13_1, fz13_2, fz13_3, fz13_4, fz13_5, fz13_6, fz13_7, fz13_8⟩ := bf9_ BK288.out
    go_wp2
    go_ret
    exact ⟨_, ew_, by (with_reducible repeat (first | apply Kd.R_alloc | apply Kd.qbj | apply Kd.qbl)); exact HO_3.out, bwx_⟩
def qdr.f (a0_0 : ByteArray) (a0_1 : Int) (a0_2 : Int) (a0_3 : Int) (a1_0 : Int) (a1_1 : ByteArray) (a1_2 : Int) (a1_3 : Int) (a1_4 : Int) (a1_5 : ByteArray) (a1_6 : ByteArray) (a1_7 : Int) (l1_8 : List (S109)) : Option (Bool) := if a0_0.toList = ([] : List UInt8) then (if a1_3 ≥ a0_1 then (if a1_3 ≤ a0_2 then (some (decide (a1_2 ≤ a0_3))) else (some false)) else (some false)) else (if a0_0.toList = a1_1.toList then (if a1_3 ≥ a0_1 then (if a1_3 ≤ a0_2 then (some (decide (a1_2 ≤ a0_3))) else (some false)) else (some false)) else (some false))
theorem qdr.calls (a0_0 : ByteArray) (a0_1 : Int) (a0_2 : Int) (a0_3 : Int) (a1_0 : Int) (a1_1 : ByteArray) (a1_2 : Int) (a1_3 : Int) (a1_4 : Int) (a1_5 : ByteArray) (a1_6 : ByteArray) (a1_7 : Int) (A1_8 : Option Addr) (c1_8 : Nat) (l1_8 : List (S109)) (r : Bool) (w : World) (hr1_8 : Kd.C k109 w A1_8 l1_8.length l1_8) (hc1_8 : l1_8.length ≤ c1_8) (h : qdr.f a0_0 a0_1 a0_2 a0_3 a1_0 a1_1 a1_2 a1_3 a1_4 a1_5 a1_6 a1_7 l1_8 = some r) :
  Calls Tryd.prog 57 #[.agg #[.string a0_0, .int .i64 a0_1, .int .i64 a0_2, .int .i64 a0_3], .agg #[.int .i64 a1_0, .string a1_1, .int .i64 a1_2, .int .i64 a1_3, .int .i64 a1_4, .string a1_5, .string a1_6, .int .i64 a1_7, .slice A1_8 l1_8.length c1_8]] w fun e w' => e = .returned (.bool r) ∧ Below w.heap.size w w' := by
 have hu24 := Tryd.underlying24
 have hu29 := Tryd.underlying29
 have HR1_8 := qd.mk hr1_8
 have HC1_8 := qd.mk hc1_8
 clear hr1_8 hc1_8
 have HB := qd.mk (Below.refl w.heap.size w)
 have H : (if a0_0.toList = ([] : List UInt8) then (if a1_3 ≥ a0_1 then (if a1_3 ≤ a0_2 then (some (decide (a1_2 ≤ a0_3))) else (some false)) else (some false)) else (if a0_0.toList = a1_1.toList then (if a1_3 ≥ a0_1 then (if a1_3 ≤ a0_2 then (some (decide (a1_2 ≤ a0_3))) else (some false)) else (some false)) else (some false))) = some r := h
 clear h
 by_cases c3 : a0_0.toList = ([] : List UInt8)
 ·rw [if_pos c3] at H
  have c3b0 : (a0_0.toList == ([] : List UInt8)) = true := beq_iff_eq.mpr c3
  have c3b1 : (a0_0.toList != ([] : List UInt8)) = false := bne_eq_false_iff_eq.mpr c3
  clear c3
  by_cases c4 : a1_3 ≥ a0_1
  rotate_left
  ·rw [if_neg c4] at H
   have c4b0 : decide (a0_1 ≤ a1_3) = false := decide_eq_false c4
   clear c4
   obtain rfl := Option.some.inj H
   go_enter Tryd.func57, Tryd.ntmps57
   go_wp2_with (first | ((with_reducible refine qbx (N := 2) rfl ?_); refine qbu ?hg (N := 2) ?hd (cs := #[.string a0_0, .int .i64 a0_1, .int .i64 a0_2, .int .i64 a0_3]) (t := 24) ?hr ?_; (case hd => rfl); (case hg => rfl); (case hr => first | (go_simp; done) | (go_simp; rfl)); intro gb313 hg w16 hbox hb; have n0_ := qd.mk (qw (bw_) hb); have n1_ := qd.mk (hbox); have n2_ := qd.mk (gw_ (w := w) hg); have n3_ := qd.mk (gw_ (w := w) hg); clear HB; have HB := n0_; have BK313 := n1_; have GW313 := n2_; have GE313 := n3_; clear n0_ n1_ n2_ n3_; clear hb hbox hg) | ((with_reducible refine qbx (N := 3) rfl ?_); refine qbu ?hg (N := 3) ?hd (cs := #[.int .i64 a1_0, .string a1_1, .int .i64 a1_2, .int .i64 a1_3, .int .i64 a1_4, .string a1_5, .string a1_6, .int .i64 a1_7, .slice A1_8 l1_8.length c1_8]) (t := 29) ?hr ?_; (case hd => rfl); (case hg => rfl); (case hr => first | (go_simp; done) | (go_simp; rfl)); intro gb314 hg w17 hbox hb; have n0_ := qd.mk (bb_ BK313 hb); have n1_ := qd.mk (qw (bwx_) hb); have n2_ := qd.mk (hbox); have n3_ := qd.mk (gw_ (w := w) hg); have n4_ := qd.mk (gw_ (w := w) hg); have n5_ := qd.mk ((by rw [hg]; exact Nat.ne_of_lt (bl_ BK313) : gb313 ≠ gb314)); have n6_ := qd.mk ((by rw [hg]; exact Nat.ne_of_gt (bl_ BK313) : gb314 ≠ gb313)); clear BK313; clear HB; have BK313 := n0_; have HB := n1_; have BK314 := n2_; have GW314 := n3_; have GE314 := n4_; have NB313_314 := n5_; have NB314_313 := n6_; clear n0_ n1_ n2_ n3_ n4_ n5_ n6_; clear hb hbox hg; have hnb18 := NB313_314.out; have hnc18 := NB314_313.out; obtain ⟨cz19_0, cz19_1, cz19_2, cz19_3⟩ := bc4_ (w := w17) BK313.out; obtain ⟨fz19_0, fz19_1, fz19_2, fz19_3⟩ := bf4_ BK313.out; obtain ⟨cz20_0, cz20_1, cz20_2, cz20_3, cz20_4, cz20_5, cz20_6, cz20_7, cz20_8⟩ := bc9_ (w := w17) BK314.out; obtain ⟨fz20_0, fz20_1, fz20_2, fz20_3, fz20_4, fz20_5, fz20_6, fz20_7, fz20_8⟩ := bf9_ BK314.out))
   go_ret
   exact ⟨ew_, bwx_⟩
  rw [if_pos c4] at H
  have c4b0 : decide (a0_1 ≤ a1_3) = true := decide_eq_true c4
  clear c4
  by_cases c5 : a1_3 ≤ a0_2
  ·rw [if_pos c5] at H
   have c5b0 : decide (a1_3 ≤ a0_2) = true := decide_eq_true c5
   clear c5
   obtain rfl := Option.some.inj H
   go_enter Tryd.func57, Tryd.ntmps57
   go_wp2_with (first | ((with_reducible refine qbx (N := 2) rfl ?_); refine qbu ?hg (N := 2) ?hd (cs := #[.string a0_0, .int .i64 a0_1, .int .i64 a0_2, .int .i64 a0_3]) (t := 24) ?hr ?_; (case hd => rfl); (case hg => rfl); (case hr => first | (go_simp; done) | (go_simp; rfl)); intro gb313 hg w6 hbox hb; have n0_ := qd.mk (qw (bw_) hb); have n1_ := qd.mk (hbox); have n2_ := qd.mk (gw_ (w := w) hg); have n3_ := qd.mk (gw_ (w := w) hg); clear HB; have HB := n0_; have BK313 := n1_; have GW313 := n2_; have GE313 := n3_; clear n0_ n1_ n2_ n3_; clear hb hbox hg) | ((with_reducible refine qbx (N := 3) rfl ?_); refine qbu ?hg (N := 3) ?hd (cs := #[.int .i64 a1_0, .string a1_1, .int .i64 a1_2, .int .i64 a1_3, .int .i64 a1_4, .string a1_5, .string a1_6, .int .i64 a1_7, .slice A1_8 l1_8.length c1_8]) (t := 29) ?hr ?_; (case hd => rfl); (case hg => rfl); (case hr => first | (go_simp; done) | (go_simp; rfl)); intro gb314 hg w7 hbox hb; have n0_ := qd.mk (bb_ BK313 hb); have n1_ := qd.mk (qw (bwx_) hb); have n2_ := qd.mk (hbox); have n3_ := qd.mk (gw_ (w := w) hg); have n4_ := qd.mk (gw_ (w := w) hg); have n5_ := qd.mk ((by rw [hg]; exact Nat.ne_of_lt (bl_ BK313) : gb313 ≠ gb314)); have n6_ := qd.mk ((by rw [hg]; exact Nat.ne_of_gt (bl_ BK313) : gb314 ≠ gb313)); clear BK313; clear HB; have BK313 := n0_; have HB := n1_; have BK314 := n2_; have GW314 := n3_; have GE314 := n4_; have NB313_314 := n5_; have NB314_313 := n6_; clear n0_ n1_ n2_ n3_ n4_ n5_ n6_; clear hb hbox hg; have hnb8 := NB313_314.out; have hnc8 := NB314_313.out; obtain ⟨cz9_0, cz9_1, cz9_2, cz9_3⟩ := bc4_ (w := w7) BK313.out; obtain ⟨fz9_0, fz9_1, fz9_2, fz9_3⟩ := bf4_ BK313.out; obtain ⟨cz10_0, cz10_1, cz10_2, cz10_3, cz10_4, cz10_5, cz10_6, cz10_7, cz10_8⟩ := bc9_ (w := w7) BK314.out; obtain ⟨fz10_0, fz10_1, fz10_2, fz10_3, fz10_4, fz10_5, fz10_6, fz10_7, fz10_8⟩ := bf9_ BK314.out))
   go_ret
   exact ⟨ew_, bwx_⟩
  rw [if_neg c5] at H
  have c5b0 : decide (a1_3 ≤ a0_2) = false := decide_eq_false c5
  clear c5
  obtain rfl := Option.some.inj H
  go_enter Tryd.func57, Tryd.ntmps57
  go_wp2_with (first | ((with_reducible refine qbx (N := 2) rfl ?_); refine qbu ?hg (N := 2) ?hd (cs := #[.string a0_0, .int .i64 a0_1, .int .i64 a0_2, .int .i64 a0_3]) (t := 24) ?hr ?_; (case hd => rfl); (case hg => rfl); (case hr => first | (go_simp; done) | (go_simp; rfl)); intro gb313 hg w11 hbox hb; have n0_ := qd.mk (qw (bw_) hb); have n1_ := qd.mk (hbox); have n2_ := qd.mk (gw_ (w := w) hg); have n3_ := qd.mk (gw_ (w := w) hg); clear HB; have HB := n0_; have BK313 := n1_; have GW313 := n2_; have GE313 := n3_; clear n0_ n1_ n2_ n3_; clear hb hbox hg) | ((with_reducible refine qbx (N := 3) rfl ?_); refine qbu ?hg (N := 3) ?hd (cs := #[.int .i64 a1_0, .string a1_1, .int .i64 a1_2, .int .i64 a1_3, .int .i64 a1_4, .string a1_5, .string a1_6, .int .i64 a1_7, .slice A1_8 l1_8.length c1_8]) (t := 29) ?hr ?_; (case hd => rfl); (case hg => rfl); (case hr => first | (go_simp; done) | (go_simp; rfl)); intro gb314 hg w12 hbox hb; have n0_ := qd.mk (bb_ BK313 hb); have n1_ := qd.mk (qw (bwx_) hb); have n2_ := qd.mk (hbox); have n3_ := qd.mk (gw_ (w := w) hg); have n4_ := qd.mk (gw_ (w := w) hg); have n5_ := qd.mk ((by rw [hg]; exact Nat.ne_of_lt (bl_ BK313) : gb313 ≠ gb314)); have n6_ := qd.mk ((by rw [hg]; exact Nat.ne_of_gt (bl_ BK313) : gb314 ≠ gb313)); clear BK313; clear HB; have BK313 := n0_; have HB := n1_; have BK314 := n2_; have GW314 := n3_; have GE314 := n4_; have NB313_314 := n5_; have NB314_313 := n6_; clear n0_ n1_ n2_ n3_ n4_ n5_ n6_; clear hb hbox hg; have hnb13 := NB313_314.out; have hnc13 := NB314_313.out; obtain ⟨cz14_0, cz14_1, cz14_2, cz14_3⟩ := bc4_ (w := w12) BK313.out; obtain ⟨fz14_0, fz14_1, fz14_2, fz14_3⟩ := bf4_ BK313.out; obtain ⟨cz15_0, cz15_1, cz15_2, cz15_3, cz15_4, cz15_5, cz15_6, cz15_7, cz15_8⟩ := bc9_ (w := w12) BK314.out; obtain ⟨fz15_0, fz15_1, fz15_2, fz15_3, fz15_4, fz15_5, fz15_6, fz15_7, fz15_8⟩ := bf9_ BK314.out))
  go_ret
  exact ⟨ew_, bwx_⟩
 ·rw [if_neg c3] at H
  have c3b0 : (a0_0.toList == ([] : List UInt8)) = false := beq_eq_false_iff_ne.mpr c3
  have c3b1 : (a0_0.toList != ([] : List UInt8)) = true := bne_iff_ne.mpr c3
  by_cases c21 : a0_0.toList = a1_1.toList
  ·rw [if_pos c21] at H
   have c21b0 : (a0_0.toList == a1_1.toList) = true := beq_iff_eq.mpr c21
   have c21b1 : (a0_0.toList != a1_1.toList) = false := bne_eq_false_iff_eq.mpr c21
   clear c21
   by_cases c22 : a1_3 ≥ a0_1
   rotate_left
   ·rw [if_neg c22] at H
    have c22b0 : decide (a0_1 ≤ a1_3) = false := decide_eq_false c22
    clear c22
    obtain rfl := Option.some.inj H
    go_enter Tryd.func57, Tryd.ntmps57
    go_wp2_with (first | ((with_reducible refine qbx (N := 2) rfl ?_); refine qbu ?hg (N := 2) ?hd (cs := #[.string a0_0, .int .i64 a0_1, .int .i64 a0_2, .int .i64 a0_3]) (t := 24) ?hr ?_; (case hd => rfl); (case hg => rfl); (case hr => first | (go_simp; done) | (go_simp; rfl)); intro gb313 hg w34 hbox hb; have n0_ := qd.mk (qw (bw_) hb); have n1_ := qd.mk (hbox); have n2_ := qd.mk (gw_ (w := w) hg); have n3_ := qd.mk (gw_ (w := w) hg); clear HB; have HB := n0_; have BK313 := n1_; have GW313 := n2_; have GE313 := n3_; clear n0_ n1_ n2_ n3_; clear hb hbox hg) | ((with_reducible refine qbx (N := 3) rfl ?_); refine qbu ?hg (N := 3) ?hd (cs := #[.int .i64 a1_0, .string a1_1, .int .i64 a1_2, .int .i64 a1_3, .int .i64 a1_4, .string a1_5, .string a1_6, .int .i64 a1_7, .slice A1_8 l1_8.length c1_8]) (t := 29) ?hr ?_; (case hd => rfl); (case hg => rfl); (case hr => first | (go_simp; done) | (go_simp; rfl)); intro gb314 hg w35 hbox hb; have n0_ := qd.mk (bb_ BK313 hb); have n1_ := qd.mk (qw (bwx_) hb); have n2_ := qd.mk (hbox); have n3_ := qd.mk (gw_ (w := w) hg); have n4_ := qd.mk (gw_ (w := w) hg); have n5_ := qd.mk ((by rw [hg]; exact Nat.ne_of_lt (bl_ BK313) : gb313 ≠ gb314)); have n6_ := qd.mk ((by rw [hg]; exact Nat.ne_of_gt (bl_ BK313) : gb314 ≠ gb313)); clear BK313; clear HB; have BK313 := n0_; have HB := n1_; have BK314 := n2_; have GW314 := n3_; have GE314 := n4_; have NB313_314 := n5_; have NB314_313 := n6_; clear n0_ n1_ n2_ n3_ n4_ n5_ n6_; clear hb hbox hg; have hnb36 := NB313_314.out; have hnc36 := NB314_313.out; obtain ⟨cz37_0, cz37_1, cz37_2, cz37_3⟩ := bc4_ (w := w35) BK313.out; obtain ⟨fz37_0, fz37_1, fz37_2, fz37_3⟩ := bf4_ BK313.out; obtain ⟨cz38_0, cz38_1, cz38_2, cz38_3, cz38_4, cz38_5, cz38_6, cz38_7, cz38_8⟩ := bc9_ (w := w35) BK314.out; obtain ⟨fz38_0, fz38_1, fz38_2, fz38_3, fz38_4, fz38_5, fz38_6, fz38_7, fz38_8⟩ := bf9_ BK314.out))
    go_ret
    exact ⟨ew_, bwx_⟩
   rw [if_pos c22] at H
   have c22b0 : decide (a0_1 ≤ a1_3) = true := decide_eq_true c22
   clear c22
   by_cases c23 : a1_3 ≤ a0_2
   ·rw [if_pos c23] at H
    have c23b0 : decide (a1_3 ≤ a0_2) = true := decide_eq_true c23
    clear c23
    obtain rfl := Option.some.inj H
    go_enter Tryd.func57, Tryd.ntmps57
    go_wp2_with (first | ((with_reducible refine qbx (N := 2) rfl ?_); refine qbu ?hg (N := 2) ?hd (cs := #[.string a0_0, .int .i64 a0_1, .int .i64 a0_2, .int .i64 a0_3]) (t := 24) ?hr ?_; (case hd => rfl); (case hg => rfl); (case hr => first | (go_simp; done) | (go_simp; rfl)); intro gb313 hg w24 hbox hb; have n0_ := qd.mk (qw (bw_) hb); have n1_ := qd.mk (hbox); have n2_ := qd.mk (gw_ (w := w) hg); have n3_ := qd.mk (gw_ (w := w) hg); clear HB; have HB := n0_; have BK313 := n1_; have GW313 := n2_; have GE313 := n3_; clear n0_ n1_ n2_ n3_; clear hb hbox hg) | ((with_reducible refine qbx (N := 3) rfl ?_); refine qbu ?hg (N := 3) ?hd (cs := #[.int .i64 a1_0, .string a1_1, .int .i64 a1_2, .int .i64 a1_3, .int .i64 a1_4, .string a1_5, .string a1_6, .int .i64 a1_7, .slice A1_8 l1_8.length c1_8]) (t := 29) ?hr ?_; (case hd => rfl); (case hg => rfl); (case hr => first | (go_simp; done) | (go_simp; rfl)); intro gb314 hg w25 hbox hb; have n0_ := qd.mk (bb_ BK313 hb); have n1_ := qd.mk (qw (bwx_) hb); have n2_ := qd.mk (hbox); have n3_ := qd.mk (gw_ (w := w) hg); have n4_ := qd.mk (gw_ (w := w) hg); have n5_ := qd.mk ((by rw [hg]; exact Nat.ne_of_lt (bl_ BK313) : gb313 ≠ gb314)); have n6_ := qd.mk ((by rw [hg]; exact Nat.ne_of_gt (bl_ BK313) : gb314 ≠ gb313)); clear BK313; clear HB; have BK313 := n0_; have HB := n1_; have BK314 := n2_; have GW314 := n3_; have GE314 := n4_; have NB313_314 := n5_; have NB314_313 := n6_; clear n0_ n1_ n2_ n3_ n4_ n5_ n6_; clear hb hbox hg; have hnb26 := NB313_314.out; have hnc26 := NB314_313.out; obtain ⟨cz27_0, cz27_1, cz27_2, cz27_3⟩ := bc4_ (w := w25) BK313.out; obtain ⟨fz27_0, fz27_1, fz27_2, fz27_3⟩ := bf4_ BK313.out; obtain ⟨cz28_0, cz28_1, cz28_2, cz28_3, cz28_4, cz28_5, cz28_6, cz28_7, cz28_8⟩ := bc9_ (w := w25) BK314.out; obtain ⟨fz28_0, fz28_1, fz28_2, fz28_3, fz28_4, fz28_5, fz28_6, fz28_7, fz28_8⟩ := bf9_ BK314.out))
    go_ret
    exact ⟨ew_, bwx_⟩
   rw [if_neg c23] at H
   have c23b0 : decide (a1_3 ≤ a0_2) = false := decide_eq_false c23
   clear c23
   obtain rfl := Option.some.inj H
   go_enter Tryd.func57, Tryd.ntmps57
   go_wp2_with (first | ((with_reducible refine qbx (N := 2) rfl ?_); refine qbu ?hg (N := 2) ?hd (cs := #[.string a0_0, .int .i64 a0_1, .int .i64 a0_2, .int .i64 a0_3]) (t := 24) ?hr ?_; (case hd => rfl); (case hg => rfl); (case hr => first | (go_simp; done) | (go_simp; rfl)); intro gb313 hg w29 hbox hb; have n0_ := qd.mk (qw (bw_) hb); have n1_ := qd.mk (hbox); have n2_ := qd.mk (gw_ (w := w) hg); have n3_ := qd.mk (gw_ (w := w) hg); clear HB; have HB := n0_; have BK313 := n1_; have GW313 := n2_; have GE313 := n3_; clear n0_ n1_ n2_ n3_; clear hb hbox hg) | ((with_reducible refine qbx (N := 3) rfl ?_); refine qbu ?hg (N := 3) ?hd (cs := #[.int .i64 a1_0, .string a1_1, .int .i64 a1_2, .int .i64 a1_3, .int .i64 a1_4, .string a1_5, .string a1_6, .int .i64 a1_7, .slice A1_8 l1_8.length c1_8]) (t := 29) ?hr ?_; (case hd => rfl); (case hg => rfl); (case hr => first | (go_simp; done) | (go_simp; rfl)); intro gb314 hg w30 hbox hb; have n0_ := qd.mk (bb_ BK313 hb); have n1_ := qd.mk (qw (bwx_) hb); have n2_ := qd.mk (hbox); have n3_ := qd.mk (gw_ (w := w) hg); have n4_ := qd.mk (gw_ (w := w) hg); have n5_ := qd.mk ((by rw [hg]; exact Nat.ne_of_lt (bl_ BK313) : gb313 ≠ gb314)); have n6_ := qd.mk ((by rw [hg]; exact Nat.ne_of_gt (bl_ BK313) : gb314 ≠ gb313)); clear BK313; clear HB; have BK313 := n0_; have HB := n1_; have BK314 := n2_; have GW314 := n3_; have GE314 := n4_; have NB313_314 := n5_; have NB314_313 := n6_; clear n0_ n1_ n2_ n3_ n4_ n5_ n6_; clear hb hbox hg; have hnb31 := NB313_314.out; have hnc31 := NB314_313.out; obtain ⟨cz32_0, cz32_1, cz32_2, cz32_3⟩ := bc4_ (w := w30) BK313.out; obtain ⟨fz32_0, fz32_1, fz32_2, fz32_3⟩ := bf4_ BK313.out; obtain ⟨cz33_0, cz33_1, cz33_2, cz33_3, cz33_4, cz33_5, cz33_6, cz33_7, cz33_8⟩ := bc9_ (w := w30) BK314.out; obtain ⟨fz33_0, fz33_1, fz33_2, fz33_3, fz33_4, fz33_5, fz33_6, fz33_7, fz33_8⟩ := bf9_ BK314.out))
   go_ret
   exact ⟨ew_, bwx_⟩
  ·rw [if_neg c21] at H
   have c21b0 : (a0_0.toList == a1_1.toList) = false := beq_eq_false_iff_ne.mpr c21
   have c21b1 : (a0_0.toList != a1_1.toList) = true := bne_iff_ne.mpr c21
   obtain rfl := Option.some.inj H
   go_enter Tryd.func57, Tryd.ntmps57
   go_wp2_with (first | ((with_reducible refine qbx (N := 2) rfl ?_); refine qbu ?hg (N := 2) ?hd (cs := #[.string a0_0, .int .i64 a0_1, .int .i64 a0_2, .int .i64 a0_3]) (t := 24) ?hr ?_; (case hd => rfl); (case hg => rfl); (case hr => first | (go_simp; done) | (go_simp; rfl)); intro gb313 hg w39 hbox hb; have n0_ := qd.mk (qw (bw_) hb); have n1_ := qd.mk (hbox); have n2_ := qd.mk (gw_ (w := w) hg); have n3_ := qd.mk (gw_ (w := w) hg); clear HB; have HB := n0_; have BK313 := n1_; have GW313 := n2_; have GE313 := n3_; clear n0_ n1_ n2_ n3_; clear hb hbox hg) | ((with_reducible refine qbx (N := 3) rfl ?_); refine qbu ?hg (N := 3) ?hd (cs := #[.int .i64 a1_0, .string a1_1, .int .i64 a1_2, .int .i64 a1_3, .int .i64 a1_4, .string a1_5, .string a1_6, .int .i64 a1_7, .slice A1_8 l1_8.length c1_8]) (t := 29) ?hr ?_; (case hd => rfl); (case hg => rfl); (case hr => first | (go_simp; done) | (go_simp; rfl)); intro gb314 hg w40 hbox hb; have n0_ := qd.mk (bb_ BK313 hb); have n1_ := qd.mk (qw (bwx_) hb); have n2_ := qd.mk (hbox); have n3_ := qd.mk (gw_ (w := w) hg); have n4_ := qd.mk (gw_ (w := w) hg); have n5_ := qd.mk ((by rw [hg]; exact Nat.ne_of_lt (bl_ BK313) : gb313 ≠ gb314)); have n6_ := qd.mk ((by rw [hg]; exact Nat.ne_of_gt (bl_ BK313) : gb314 ≠ gb313)); clear BK313; clear HB; have BK313 := n0_; have HB := n1_; have BK314 := n2_; have GW314 := n3_; have GE314 := n4_; have NB313_314 := n5_; have NB314_313 := n6_; clear n0_ n1_ n2_ n3_ n4_ n5_ n6_; clear hb hbox hg; have hnb41 := NB313_314.out; have hnc41 := NB314_313.out; obtain ⟨cz42_0, cz42_1, cz42_2, cz42_3⟩ := bc4_ (w := w40) BK313.out; obtain ⟨fz42_0, fz42_1, fz42_2, fz42_3⟩ := bf4_ BK313.out; obtain ⟨cz43_0, cz43_1, cz43_2, cz43_3, cz43_4, cz43_5, cz43_6, cz43_7, cz43_8⟩ := bc9_ (w := w40) BK314.out; obtain ⟨fz43_0, fz43_1, fz43_2, fz43_3, fz43_4, fz43_5, fz43_6, fz43_7, fz43_8⟩ := bf9_ BK314.out))
   go_ret
   exact ⟨ew_, bwx_⟩
def qbo.l0 : Nat → List (S29) → List (S112) → Int → ByteArray → Int → Int → Int → Option ((List (S112)) × Int)
 | 0, _, _, _, _, _, _, _ => none
 | k + 1, x0, x6, x7, x316000, x316001, x316002, x316003 => if x7 < (x0.length : Int) then (if 0 ≤ x7 then ((qcc.f k ((qbi x0 x7).f0) ((qbi x0 x7).f1) ((qbi x0 x7).f2) ((qbi x0 x7).f3) ((qbi x0 x7).f4) ((qbi x0 x7).f5) ((qbi x0 x7).f6) ((qbi x0 x7).f7) ((qbi x0 x7).f8)).bind fun bt324 => (if bt324.2 = 0 then ((qdr.f x316000 x316001 x316002 x316003 ((qbi x0 x7).f0) ((qbi x0 x7).f1) ((qbi x0 x7).f2) ((qbi x0 x7).f3) ((qbi x0 x7).f4) ((qbi x0 x7).f5) ((qbi x0 x7).f6) ((qbi x0 x7).f7) ((qbi x0 x7).f8)).bind fun t327 => (if t327 = true then ((qbm.f k ((qbi x0 x7).f0) ((qbi x0 x7).f1) ((qbi x0 x7).f2) ((qbi x0 x7).f3) ((qbi x0 x7).f4) ((qbi x0 x7).f5) ((qbi x0 x7).f6) ((qbi x0 x7).f7) ((qbi x0 x7).f8)).bind fun t329 => (if x6.length + t329.length < 1466015503701 then (qbo.l0 k x0 (x6 ++ t329) (wrap64 (x7 + 1)) x316000 x316001 x316002 x316003) else (none))) else (qbo.l0 k x0 x6 (wrap64 (x7 + 1)) x316000 x316001 x316002 x316003))) else (some (([] : List (S112)), bt324.2)))) else (none)) else ((qba.f k x6).bind fun bt319 => (some (bt319.1, bt319.2)))
def qbo.f (k : Nat) (l0 : List (S29)) (a1_0 : ByteArray) (a1_1 : Int) (a1_2 : Int) (a1_3 : Int) : Option ((List (S112)) × Int) := qbo.l0 k l0 (([] : List (S112))) 0 a1_0 a1_1 a1_2 a1_3
theorem qbo.calls (k : Nat) (A0 : Option Addr) (c0 : Nat) (l0 : List (S29)) (a1_0 : ByteArray) (a1_1 : Int) (a1_2 : Int) (a1_3 : Int) (r1 : List (S112)) (r2 : Int) (w : World) (hr0 : Kd.C k29 w A0 l0.length l0) (hc0 : l0.length ≤ c0) (h : qbo.f k l0 a1_0 a1_1 a1_2 a1_3 = some (r1, r2)) :
  Calls Tryd.prog 28 #[.slice A0 l0.length c0, .agg #[.string a1_0, .int .i64 a1_1, .int .i64 a1_2, .int .i64 a1_3]] w fun e w' => ∃ v0_ : Value, e = .returned (.tuple #[v0_, .int .i64 r2]) ∧ Kd.R k112 112 w' w.heap.size (fun _ => True) v0_ r1 ∧ Below w.heap.size w w' := by
 have hu24 := Tryd.underlying24
 have hu29 := Tryd.underlying29
 have HR0 := qd.mk hr0
 have HC0 := qd.mk hc0
 clear hr0 hc0
 have HB := qd.mk (Below.refl w.heap.size w)
 have H : (qbo.l0 k l0 (([] : List (S112))) 0 a1_0 a1_1 a1_2 a1_3) = some (r1, r2) := h
 clear h
 obtain ⟨y316, hy316⟩ : ∃ y_ : List (S112), y_ = (([] : List (S112))) := ⟨_, rfl⟩
 replace H : (qbo.l0 k l0 y316 0 a1_0 a1_1 a1_2 a1_3) = some (r1, r2) := by first | (rw [hy316]; with_reducible exact H) | (have H2_ := (Option.bind_some _ _).symm.trans H; rw [hy316]; with_reducible exact H2_) | (have H2_ := (Option.bind_some _ _).symm.trans H; with_reducible exact H2_) | with_reducible exact H | (rw [hy316]; exact H) | exact H
 have Ny316 := qd.mk hy316
 clear hy316
 have H' := qd.mk H
 clear H
 go_enter Tryd.func28, Tryd.ntmps28
 go_wp2_with (first | ((with_reducible refine qbx (N := 3) rfl ?_); refine qbu ?hg (N := 3) ?hd (cs := #[.string a1_0, .int .i64 a1_1, .int .i64 a1_2, .int .i64 a1_3]) (t := 24) ?hr ?_; (case hd => rfl); (case hg => rfl); (case hr => first | (go_simp; done) | (go_simp; rfl)); intro gb315 hg w3 hbox hb; have n0_ := qd.mk (qw (bw_) hb); have n1_ := qd.mk (hbox); have n2_ := qd.mk (gw_ (w := w) hg); have n3_ := qd.mk (gw_ (w := w) hg); clear HB; have HB := n0_; have BK315 := n1_; have GW315 := n2_; have GE315 := n3_; clear n0_ n1_ n2_ n3_; clear hb hbox hg) | ((with_reducible refine qbx (N := 10) rfl ?_); refine Kd.R_lit k112 _ 112 ?hg (N := 10) ?hd (xs := ([] : List (S112))) (inner := []) (ok := fun _ => True) (okp := fun _ => True) ?hr ?hp (fun _ hk => hk) trivial (Below.refl _ _) (Nat.le_refl _) (by simp) ?_; (case hd => rfl); (case hg => rfl); (case hr => first | (go_simp; done) | (go_simp; rfl)); (case hp => exact (Reps.none _ _)); intro v317 w4 ho5 hb hg_ hnew_; clear hg_ hnew_; (first | rw [← Ny316.out] at ho5 | (simp only [Int.reduceToNat] at ho5; rw [← Ny316.out] at ho5)); have n0_ := qd.mk (Kd.qec ho5 (qcm (bwx_))); have n1_ := qd.mk (bb_ BK315 hb); have n2_ := qd.mk (qw (bwx_) hb); clear BK315; clear HB; have HO318 := n0_; have BK315 := n1_; have HB := n2_; clear n0_ n1_ n2_; clear hb ho5))
 go_loopg [6, 7] k (fun kq v6 v7 w' => ∃ (x6_1 : List (S112)) (x7_1 : Int), v7 = .int .i64 x7_1 ∧ qd (qbo.l0 kq l0 x6_1 x7_1 a1_0 a1_1 a1_2 a1_3 = some (r1, r2)) ∧ qd (kq ≤ k) ∧ qd (Kd.R k112 112 w' w.heap.size (fun _ => True) v6 x6_1) ∧ qd (w'.heap[gb315]? = some (.cells #[.string a1_0, .int .i64 a1_1, .int .i64 a1_2, .int .i64 a1_3] 24 (0, 0))) ∧ qd (Below w.heap.size w w'))
 case atStart => exact ⟨(y316), (0), sm_, H', ⟨Nat.le_refl _⟩, ⟨by (with_reducible repeat (first | apply Kd.R_alloc | apply Kd.qbj | apply Kd.qbl)); exact HO318.out⟩, ⟨by (with_reducible repeat (first | refine qp ?_ _ | refine qz ?_ | refine qm ?_ _)); exact BK315.out⟩, ⟨bwx_⟩⟩
 case round =>
  clear H'
  try clear c2
  try clear p2
  obtain ⟨x6_1, x7_1, rfl, HA, HK1, HO_6, BK315, HB⟩ := hrel
  cases gk with
  | zero => exact absurd HA.out (by simp [qbo.l0])
  | succ k1 =>
   have H := HA.out
   clear HA
   simp only [qbo.l0] at H
   by_cases c6 : x7_1 < (l0.length : Int)
   ·rw [if_pos c6] at H
    have c6b0 : decide (x7_1 < (l0.length : Int)) = true := decide_eq_true c6
    clear c6
    by_cases c7 : 0 ≤ x7_1
    rotate_left
    ·rw [if_neg c7] at H
     exact absurd H (by simp)
    rw [if_pos c7] at H
    have c7b0 : decide (0 ≤ x7_1) = true := decide_eq_true c7
    clear c7
    replace H := obm H
    obtain ⟨⟨t324, t325⟩, A80, H⟩ := H
    try dsimp only at H
    have A8 := qd.mk A80
    clear A80
    by_cases c9 : t325 = 0
    rotate_left
    ·rw [if_neg c9] at H
     have c9b0 : (t325 == 0) = false := beq_eq_false_iff_ne.mpr c9
     have c9b1 : (t325 != 0) = true := bne_iff_ne.mpr c9
     simp only [Option.some.injEq, Prod.mk.injEq] at H
     obtain ⟨rfl, rfl⟩ := H
     have p323 : 0 ≤ (x7_1 : Int) := odt_
     have q323 : x7_1 < (l0.length : Int) := odt_
     obtain ⟨ad323, A323_8, c323_8, e323, hx323_0, hx323_1, hx323_2, hx323_3, hx323_4, hx323_5, hx323_6, hx323_7, hx323_8, hl323_8, hi323_8⟩ := qgg HR0.out x7_1 p323 q323
     cases e323
     replace hx323_0 := bcl_ HB hx323_0
     replace hx323_1 := bcl_ HB hx323_1
     replace hx323_2 := bcl_ HB hx323_2
     replace hx323_3 := bcl_ HB hx323_3
     replace hx323_4 := bcl_ HB hx323_4
     replace hx323_5 := bcl_ HB hx323_5
     replace hx323_6 := bcl_ HB hx323_6
     replace hx323_7 := bcl_ HB hx323_7
     replace hx323_8 := bcl_ HB hx323_8
     have HR323_8 := qd.mk hi323_8
     have HC323_8 := qd.mk hl323_8
     clear hi323_8 hl323_8
     replace p323 := eq_true p323
     replace q323 := eq_true q323
     go_wp2_with (first | ((with_reducible refine qbf (f := 53) rfl ?_); refine qcp (some 22) rfl rfl Tryd.func53 (by kernel_rfl) rfl #[.agg #[.int .i64 ((qbi l0 x7_1).f0), .string ((qbi l0 x7_1).f1), .int .i64 ((qbi l0 x7_1).f2), .int .i64 ((qbi l0 x7_1).f3), .int .i64 ((qbi l0 x7_1).f4), .string ((qbi l0 x7_1).f5), .string ((qbi l0 x7_1).f6), .int .i64 ((qbi l0 x7_1).f7), .slice A323_8 ((qbi l0 x7_1).f8).length c323_8]] rfl ml_ ?_; (with_reducible refine (qcc.calls k1 ((qbi l0 x7_1).f0) ((qbi l0 x7_1).f1) ((qbi l0 x7_1).f2) ((qbi l0 x7_1).f3) ((qbi l0 x7_1).f4) ((qbi l0 x7_1).f5) ((qbi l0 x7_1).f6) ((qbi l0 x7_1).f7) _ _ ((qbi l0 x7_1).f8) t324 t325 _ ?side1 ?side2 A8.out).mono ?_); (case side1 => repeat (first | exact (Kd.qbw HR323_8.out HB.out) | (with_reducible refine Kd.qck ?_ _) | (with_reducible refine Kd.qcf ?_ _) | (with_reducible refine Kd.qcz ?_))); (case side2 => exact HC323_8.out); rintro e w23 ⟨rfl, hb⟩; refine ⟨_, rfl, ?_⟩; have n0_ := qd.mk (Kd.qdw (by (with_reducible repeat (first | apply Kd.R_alloc | apply Kd.qbj | apply Kd.qbl)); exact HO_6.out) hb); have n1_ := qd.mk (bb_ BK315 hb); have n2_ := qd.mk (qw (bwx_) hb); clear HO_6; clear BK315; clear HB; have HO_6 := n0_; have BK315 := n1_; have HB := n2_; clear n0_ n1_ n2_; (try clear hb); (try clear hb2); (try clear hk); (try clear hi)))
     go_ret2
     exact ⟨_, ew_, by first | exact Kd.qhz _ _ _ _ _ | exact Kd.N_nil _ _ _ _ _ | exact Kd.V_nil _ _ _ _ _ | exact Kd.Q_nil _ _ _ _ _ | exact Kd.S_nil _ _ _ _ _, bwx_⟩
    rw [if_pos c9] at H
    have c9b0 : (t325 == 0) = true := beq_iff_eq.mpr c9
    have c9b1 : (t325 != 0) = false := bne_eq_false_iff_eq.mpr c9
    clear c9
    replace H := obm H
    obtain ⟨t327, A100, H⟩ := H
    try dsimp only at H
    have A10 := qd.mk A100
    clear A100
    by_cases c11 : t327 = true
    rotate_left
    ·replace c11 := Bool.eq_false_iff.mpr c11
     subst c11
     have H1 : (qbo.l0 k1 l0 x6_1 (wrap64 (x7_1 + 1)) a1_0 a1_1 a1_2 a1_3) = some (r1, r2) := by rw [if_neg (show ¬ (false = true) by decide)] at H; exact H
     clear H
     have H := H1
     clear H1
     have H' := qd.mk H
     clear H
     have p323 : 0 ≤ (x7_1 : Int) := odt_
     have q323 : x7_1 < (l0.length : Int) := odt_
     obtain ⟨ad323, A323_8, c323_8, e323, hx323_0, hx323_1, hx323_2, hx323_3, hx323_4, hx323_5, hx323_6, hx323_7, hx323_8, hl323_8, hi323_8⟩ := qgg HR0.out x7_1 p323 q323
     cases e323
     replace hx323_0 := bcl_ HB hx323_0
     replace hx323_1 := bcl_ HB hx323_1
     replace hx323_2 := bcl_ HB hx323_2
     replace hx323_3 := bcl_ HB hx323_3
     replace hx323_4 := bcl_ HB hx323_4
     replace hx323_5 := bcl_ HB hx323_5
     replace hx323_6 := bcl_ HB hx323_6
     replace hx323_7 := bcl_ HB hx323_7
     replace hx323_8 := bcl_ HB hx323_8
     have HR323_8 := qd.mk hi323_8
     have HC323_8 := qd.mk hl323_8
     clear hi323_8 hl323_8
     replace p323 := eq_true p323
     replace q323 := eq_true q323
     try go_wp2_with (first | ((with_reducible refine qbf (f := 53) rfl ?_); refine qcp (some 22) rfl rfl Tryd.func53 (by kernel_rfl) rfl #[.agg #[.int .i64 ((qbi l0 x7_1).f0), .string ((qbi l0 x7_1).f1), .int .i64 ((qbi l0 x7_1).f2), .int .i64 ((qbi l0 x7_1).f3), .int .i64 ((qbi l0 x7_1).f4), .string ((qbi l0 x7_1).f5), .string ((qbi l0 x7_1).f6), .int .i64 ((qbi l0 x7_1).f7), .slice A323_8 ((qbi l0 x7_1).f8).length c323_8]] rfl ml_ ?_; (with_reducible refine (qcc.calls k1 ((qbi l0 x7_1).f0) ((qbi l0 x7_1).f1) ((qbi l0 x7_1).f2) ((qbi l0 x7_1).f3) ((qbi l0 x7_1).f4) ((qbi l0 x7_1).f5) ((qbi l0 x7_1).f6) ((qbi l0 x7_1).f7) _ _ ((qbi l0 x7_1).f8) t324 t325 _ ?side1 ?side2 A8.out).mono ?_); (case side1 => repeat (first | exact (Kd.qbw HR323_8.out HB.out) | (with_reducible refine Kd.qck ?_ _) | (with_reducible refine Kd.qcf ?_ _) | (with_reducible refine Kd.qcz ?_))); (case side2 => exact HC323_8.out); rintro e w20 ⟨rfl, hb⟩; refine ⟨_, rfl, ?_⟩; have n0_ := qd.mk (Kd.qdw (by (with_reducible repeat (first | apply Kd.R_alloc | apply Kd.qbj | apply Kd.qbl)); exact HO_6.out) hb); have n1_ := qd.mk (bb_ BK315 hb); have n2_ := qd.mk (qw (bwx_) hb); clear HO_6; clear BK315; clear HB; have HO_6 := n0_; have BK315 := n1_; have HB := n2_; clear n0_ n1_ n2_; (try clear hb); (try clear hb2); (try clear hk); (try clear hi)))
     have n0_ := qd.mk (Kd.qbl HO_6.out)
     have n1_ := qd.mk (qz BK315.out)
     have n2_ := qd.mk (qcq HB.out)
     clear HO_6
     clear BK315
     clear HB
     have HO_6 := n0_
     have BK315 := n1_
     have HB := n2_
     clear n0_ n1_ n2_
     have p326 : 0 ≤ (x7_1 : Int) := odt_
     have q326 : x7_1 < (l0.length : Int) := odt_
     obtain ⟨ad326, A326_8, c326_8, e326, hx326_0, hx326_1, hx326_2, hx326_3, hx326_4, hx326_5, hx326_6, hx326_7, hx326_8, hl326_8, hi326_8⟩ := qgg HR0.out x7_1 p326 q326
     have hw326_8 := hx326_8
     have hw326_7 := hx326_7
     have hw326_6 := hx326_6
     have hw326_5 := hx326_5
     have hw326_4 := hx326_4
     have hw326_3 := hx326_3
     have hw326_2 := hx326_2
     have hw326_1 := hx326_1
     have hw326_0 := hx326_0
     obtain rfl : ad323 = ad326 := (by injection e326)
     replace hx326_0 := bcl_ HB hx326_0
     replace hx326_1 := bcl_ HB hx326_1
     replace hx326_2 := bcl_ HB hx326_2
     replace hx326_3 := bcl_ HB hx326_3
     replace hx326_4 := bcl_ HB hx326_4
     replace hx326_5 := bcl_ HB hx326_5
     replace hx326_6 := bcl_ HB hx326_6
     replace hx326_7 := bcl_ HB hx326_7
     replace hx326_8 := bcl_ HB hx326_8
     have HR326_8 := qd.mk hi326_8
     have HC326_8 := qd.mk hl326_8
     clear hi326_8 hl326_8
     replace p326 := eq_true p326
     replace q326 := eq_true q326
     refine qgv (n := 6) (S := fun w' => w'.cell? ⟨gb315, 0, none⟩ = some (.string a1_0) ∧ w'.cell? ⟨gb315, 1, none⟩ = some (.int .i64 a1_1) ∧ w'.cell? ⟨gb315, 2, none⟩ = some (.int .i64 a1_2) ∧ w'.cell? ⟨gb315, 3, none⟩ = some (.int .i64 a1_3) ∧ w'.cell? (ad323.add ((x7_1).toNat * 9)) = some (.int .i64 ((qbi l0 x7_1).f0)) ∧ w'.cell? ⟨(ad323.add ((x7_1).toNat * 9)).block, (ad323.add ((x7_1).toNat * 9)).off + 1, none⟩ = some (.string ((qbi l0 x7_1).f1)) ∧ w'.cell? ⟨(ad323.add ((x7_1).toNat * 9)).block, (ad323.add ((x7_1).toNat * 9)).off + 2, none⟩ = some (.int .i64 ((qbi l0 x7_1).f2)) ∧ w'.cell? ⟨(ad323.add ((x7_1).toNat * 9)).block, (ad323.add ((x7_1).toNat * 9)).off + 3, none⟩ = some (.int .i64 ((qbi l0 x7_1).f3)) ∧ w'.cell? ⟨(ad323.add ((x7_1).toNat * 9)).block, (ad323.add ((x7_1).toNat * 9)).off + 4, none⟩ = some (.int .i64 ((qbi l0 x7_1).f4)) ∧ w'.cell? ⟨(ad323.add ((x7_1).toNat * 9)).block, (ad323.add ((x7_1).toNat * 9)).off + 5, none⟩ = some (.string ((qbi l0 x7_1).f5)) ∧ w'.cell? ⟨(ad323.add ((x7_1).toNat * 9)).block, (ad323.add ((x7_1).toNat * 9)).off + 6, none⟩ = some (.string ((qbi l0 x7_1).f6)) ∧ w'.cell? ⟨(ad323.add ((x7_1).toNat * 9)).block, (ad323.add ((x7_1).toNat * 9)).off + 7, none⟩ = some (.int .i64 ((qbi l0 x7_1).f7)) ∧ w'.cell? ⟨(ad323.add ((x7_1).toNat * 9)).block, (ad323.add ((x7_1).toNat * 9)).off + 8, none⟩ = some (.slice A326_8 ((qbi l0 x7_1).f8).length c326_8)) (ds := []) #[false, false, false, false, false, false] (by kernel_rfl) rfl rfl ⟨(qg BK315.out 0).trans rfl, (qg BK315.out 1).trans rfl, (qg BK315.out 2).trans rfl, (qg BK315.out 3).trans rfl, (bcl_ HB hw326_0), (bcl_ HB hw326_1), (bcl_ HB hw326_2), (bcl_ HB hw326_3), (bcl_ HB hw326_4), (bcl_ HB hw326_5), (bcl_ HB hw326_6), (bcl_ HB hw326_7), (bcl_ HB hw326_8)⟩ (fun hHeld => ?_)
     generalize w20.drew = w21 at HO_6 BK315 HB HR326_8 hx326_0 hx326_1 hx326_2 hx326_3 hx326_4 hx326_5 hx326_6 hx326_7 hx326_8 hHeld ⊢
     refine pure_ (i := 1) (N := some 29) (v := ?_) (a' := ?_) #[false, true, false, false, false, false] rfl rfl (by kernel_rfl) (fun _ _ _ h => h) (Or.inl ⟨by rfl, ?_⟩) ?_ ?_
     rotate_left
     ·intro w'
      go_simp
      with_reducible rfl
     rotate_left
     ·simp only [Act.put, List.setIfInBounds_toArray, List.set_cons_zero, List.set_cons_succ, qeh, qen]
      rfl
     refine pure_ (i := 2) (N := some 30) (v := ?_) (a' := ?_) #[false, true, true, false, false, false] rfl rfl (by kernel_rfl) (fun _ _ _ h => h) (Or.inl ⟨by rfl, ?_⟩) ?_ ?_
     rotate_left
     ·intro w'
      go_simp
      with_reducible rfl
     rotate_left
     ·simp only [Act.put, List.setIfInBounds_toArray, List.set_cons_zero, List.set_cons_succ, qeh, qen]
      rfl
     refine pure_ (i := 3) (N := some 31) (v := ?_) (a' := ?_) #[false, true, true, true, false, false] rfl rfl (by kernel_rfl) (fun _ _ _ h => h) (Or.inl ⟨by rfl, ?_⟩) ?_ ?_
     rotate_left
     ·intro w'
      go_simp
      with_reducible rfl
     rotate_left
     ·simp only [Act.put, List.setIfInBounds_toArray, List.set_cons_zero, List.set_cons_succ, qeh, qen]
      rfl
     refine take_ (i := 0) (N := some 28) (v := ?_) (a' := ?_) #[true, true, true, true, false, false] rfl rfl (by kernel_rfl) (fun _ _ _ h => h) (Or.inl ⟨by rfl, ?_⟩) hHeld ?_ ?_
     rotate_left
     ·rintro w' ⟨s0, s1, s2, s3, s4, s5, s6, s7, s8, s9, s10, s11, s12⟩
      go_simp
      with_reducible rfl
     rotate_left
     ·simp only [Act.put, List.setIfInBounds_toArray, List.set_cons_zero, List.set_cons_succ, qeh, qen]
      rfl
     refine take_ (i := 4) (N := some 32) (v := ?_) (a' := ?_) #[true, true, true, true, true, false] rfl rfl (by kernel_rfl) (fun _ _ _ h => h) (Or.inl ⟨by rfl, ?_⟩) hHeld ?_ ?_
     rotate_left
     ·rintro w' ⟨s0, s1, s2, s3, s4, s5, s6, s7, s8, s9, s10, s11, s12⟩
      go_simp
      with_reducible rfl
     rotate_left
     ·simp only [Act.put, List.setIfInBounds_toArray, List.set_cons_zero, List.set_cons_succ, qeh, qen]
      rfl
     refine one_ (i := 5) (N := some 33) #[true, true, true, true, true, true] rfl rfl (by kernel_rfl) (by decide) (fun K hK => ?_)
     refine qkk Tryd.func57 (by kernel_rfl) rfl #[.agg #[.string a1_0, .int .i64 a1_1, .int .i64 a1_2, .int .i64 a1_3], .agg #[.int .i64 ((qbi l0 x7_1).f0), .string ((qbi l0 x7_1).f1), .int .i64 ((qbi l0 x7_1).f2), .int .i64 ((qbi l0 x7_1).f3), .int .i64 ((qbi l0 x7_1).f4), .string ((qbi l0 x7_1).f5), .string ((qbi l0 x7_1).f6), .int .i64 ((qbi l0 x7_1).f7), .slice A326_8 ((qbi l0 x7_1).f8).length c326_8]] (by rfl) rfl rfl ml_ ?_
     with_reducible refine (qdr.calls a1_0 a1_1 a1_2 a1_3 ((qbi l0 x7_1).f0) ((qbi l0 x7_1).f1) ((qbi l0 x7_1).f2) ((qbi l0 x7_1).f3) ((qbi l0 x7_1).f4) ((qbi l0 x7_1).f5) ((qbi l0 x7_1).f6) ((qbi l0 x7_1).f7) _ _ ((qbi l0 x7_1).f8) false _ ?side1 ?side2 A10.out).mono ?_
     (case side1 => repeat (first | exact (Kd.qbw HR326_8.out HB.out) | (with_reducible refine Kd.qck ?_ _) | (with_reducible refine Kd.qcf ?_ _) | (with_reducible refine Kd.qcz ?_)))
     (case side2 => exact HC326_8.out)
     rintro e w22 ⟨rfl, hb⟩
     refine ⟨_, rfl, ?_⟩
     have n0_ := qd.mk (Kd.qdw (by (with_reducible repeat (first | apply Kd.R_alloc | apply Kd.qbj | apply Kd.qbl)); exact HO_6.out) hb)
     have n1_ := qd.mk (bb_ BK315 hb)
     have n2_ := qd.mk (qw (bwx_) hb)
     clear HO_6
     clear BK315
     clear HB
     have HO_6 := n0_
     have BK315 := n1_
     have HB := n2_
     clear n0_ n1_ n2_
     (try clear hb)
     (try clear hb2)
     (try clear hk)
     (try clear hi)
     refine hK.out _ _ ⟨(qg BK315.out 0).trans rfl, (qg BK315.out 1).trans rfl, (qg BK315.out 2).trans rfl, (qg BK315.out 3).trans rfl, (bcl_ HB hw326_0), (bcl_ HB hw326_1), (bcl_ HB hw326_2), (bcl_ HB hw326_3), (bcl_ HB hw326_4), (bcl_ HB hw326_5), (bcl_ HB hw326_6), (bcl_ HB hw326_7), (bcl_ HB hw326_8)⟩ (fun hHeld => ?_)
     clear hK K
     refine qjm (a' := ?_) ?_ ?_
     rotate_left
     ·show Act.put _ (some 33) _ = _
      simp only [Act.put, List.setIfInBounds_toArray, List.set_cons_zero, List.set_cons_succ, qeh, qen]
      rfl
     refine qjg (by kernel_rfl) ?_
     try go_wp2
     go_roundg k1
     case measure => have := HK1.out; omega
     case rel => exact ⟨(x6_1), (wrap64 (x7_1 + 1)), sm_, H', ⟨by have := HK1.out; omega⟩, ⟨by (with_reducible repeat (first | apply Kd.R_alloc | apply Kd.qbj | apply Kd.qbl)); exact HO_6.out⟩, ⟨by (with_reducible repeat (first | refine qp ?_ _ | refine qz ?_ | refine qm ?_ _)); exact BK315.out⟩, ⟨bwx_⟩⟩
    subst c11
    have H1 : ((qbm.f k1 ((qbi l0 x7_1).f0) ((qbi l0 x7_1).f1) ((qbi l0 x7_1).f2) ((qbi l0 x7_1).f3) ((qbi l0 x7_1).f4) ((qbi l0 x7_1).f5) ((qbi l0 x7_1).f6) ((qbi l0 x7_1).f7) ((qbi l0 x7_1).f8)).bind fun t329 => (if x6_1.length + t329.length < 1466015503701 then (qbo.l0 k1 l0 (x6_1 ++ t329) (wrap64 (x7_1 + 1)) a1_0 a1_1 a1_2 a1_3) else (none))) = some (r1, r2) := by rw [if_pos rfl] at H; exact H
    clear H
    have H := H1
    clear H1
    replace H := obm H
    obtain ⟨t329, A120, H⟩ := H
    try dsimp only at H
    have A12 := qd.mk A120
    clear A120
    by_cases c13 : x6_1.length + t329.length < 1466015503701
    rotate_left
    ·rw [if_neg c13] at H
     exact absurd H (by simp)
    rw [if_pos c13] at H
    have LMc13 := qd.mk c13
    clear c13
    obtain ⟨y332, hy332⟩ : ∃ y_ : List (S112), y_ = (x6_1 ++ t329) := ⟨_, rfl⟩
    replace H : (qbo.l0 k1 l0 y332 (wrap64 (x7_1 + 1)) a1_0 a1_1 a1_2 a1_3) = some (r1, r2) := by first | (rw [hy332]; with_reducible exact H) | (have H2_ := (Option.bind_some _ _).symm.trans H; rw [hy332]; with_reducible exact H2_) | (have H2_ := (Option.bind_some _ _).symm.trans H; with_reducible exact H2_) | with_reducible exact H | (rw [hy332]; exact H) | exact H
    have Ny332 := qd.mk hy332
    clear hy332
    have H' := qd.mk H
    clear H
    have p323 : 0 ≤ (x7_1 : Int) := odt_
    have q323 : x7_1 < (l0.length : Int) := odt_
    obtain ⟨ad323, A323_8, c323_8, e323, hx323_0, hx323_1, hx323_2, hx323_3, hx323_4, hx323_5, hx323_6, hx323_7, hx323_8, hl323_8, hi323_8⟩ := qgg HR0.out x7_1 p323 q323
    cases e323
    replace hx323_0 := bcl_ HB hx323_0
    replace hx323_1 := bcl_ HB hx323_1
    replace hx323_2 := bcl_ HB hx323_2
    replace hx323_3 := bcl_ HB hx323_3
    replace hx323_4 := bcl_ HB hx323_4
    replace hx323_5 := bcl_ HB hx323_5
    replace hx323_6 := bcl_ HB hx323_6
    replace hx323_7 := bcl_ HB hx323_7
    replace hx323_8 := bcl_ HB hx323_8
    have HR323_8 := qd.mk hi323_8
    have HC323_8 := qd.mk hl323_8
    clear hi323_8 hl323_8
    replace p323 := eq_true p323
    replace q323 := eq_true q323
    try go_wp2_with (first | ((with_reducible refine qbf (f := 53) rfl ?_); refine qcp (some 22) rfl rfl Tryd.func53 (by kernel_rfl) rfl #[.agg #[.int .i64 ((qbi l0 x7_1).f0), .string ((qbi l0 x7_1).f1), .int .i64 ((qbi l0 x7_1).f2), .int .i64 ((qbi l0 x7_1).f3), .int .i64 ((qbi l0 x7_1).f4), .string ((qbi l0 x7_1).f5), .string ((qbi l0 x7_1).f6), .int .i64 ((qbi l0 x7_1).f7), .slice A323_8 ((qbi l0 x7_1).f8).length c323_8]] rfl ml_ ?_; (with_reducible refine (qcc.calls k1 ((qbi l0 x7_1).f0) ((qbi l0 x7_1).f1) ((qbi l0 x7_1).f2) ((qbi l0 x7_1).f3) ((qbi l0 x7_1).f4) ((qbi l0 x7_1).f5) ((qbi l0 x7_1).f6) ((qbi l0 x7_1).f7) _ _ ((qbi l0 x7_1).f8) t324 t325 _ ?side1 ?side2 A8.out).mono ?_); (case side1 => repeat (first | exact (Kd.qbw HR323_8.out HB.out) | (with_reducible refine Kd.qck ?_ _) | (with_reducible refine Kd.qcf ?_ _) | (with_reducible refine Kd.qcz ?_))); (case side2 => exact HC323_8.out); rintro e w14 ⟨rfl, hb⟩; refine ⟨_, rfl, ?_⟩; have n0_ := qd.mk (Kd.qdw (by (with_reducible repeat (first | apply Kd.R_alloc | apply Kd.qbj | apply Kd.qbl)); exact HO_6.out) hb); have n1_ := qd.mk (bb_ BK315 hb); have n2_ := qd.mk (qw (bwx_) hb); clear HO_6; clear BK315; clear HB; have HO_6 := n0_; have BK315 := n1_; have HB := n2_; clear n0_ n1_ n2_; (try clear hb); (try clear hb2); (try clear hk); (try clear hi)))
    have n0_ := qd.mk (Kd.qbl HO_6.out)
    have n1_ := qd.mk (qz BK315.out)
    have n2_ := qd.mk (qcq HB.out)
    clear HO_6
    clear BK315
    clear HB
    have HO_6 := n0_
    have BK315 := n1_
    have HB := n2_
    clear n0_ n1_ n2_
    have p326 : 0 ≤ (x7_1 : Int) := odt_
    have q326 : x7_1 < (l0.length : Int) := odt_
    obtain ⟨ad326, A326_8, c326_8, e326, hx326_0, hx326_1, hx326_2, hx326_3, hx326_4, hx326_5, hx326_6, hx326_7, hx326_8, hl326_8, hi326_8⟩ := qgg HR0.out x7_1 p326 q326
    have hw326_8 := hx326_8
    have hw326_7 := hx326_7
    have hw326_6 := hx326_6
    have hw326_5 := hx326_5
    have hw326_4 := hx326_4
    have hw326_3 := hx326_3
    have hw326_2 := hx326_2
    have hw326_1 := hx326_1
    have hw326_0 := hx326_0
    obtain rfl : ad323 = ad326 := (by injection e326)
    replace hx326_0 := bcl_ HB hx326_0
    replace hx326_1 := bcl_ HB hx326_1
    replace hx326_2 := bcl_ HB hx326_2
    replace hx326_3 := bcl_ HB hx326_3
    replace hx326_4 := bcl_ HB hx326_4
    replace hx326_5 := bcl_ HB hx326_5
    replace hx326_6 := bcl_ HB hx326_6
    replace hx326_7 := bcl_ HB hx326_7
    replace hx326_8 := bcl_ HB hx326_8
    have HR326_8 := qd.mk hi326_8
    have HC326_8 := qd.mk hl326_8
    clear hi326_8 hl326_8
    replace p326 := eq_true p326
    replace q326 := eq_true q326
    refine qgv (n := 6) (S := fun w' => w'.cell? ⟨gb315, 0, none⟩ = some (.string a1_0) ∧ w'.cell? ⟨gb315, 1, none⟩ = some (.int .i64 a1_1) ∧ w'.cell? ⟨gb315, 2, none⟩ = some (.int .i64 a1_2) ∧ w'.cell? ⟨gb315, 3, none⟩ = some (.int .i64 a1_3) ∧ w'.cell? (ad323.add ((x7_1).toNat * 9)) = some (.int .i64 ((qbi l0 x7_1).f0)) ∧ w'.cell? ⟨(ad323.add ((x7_1).toNat * 9)).block, (ad323.add ((x7_1).toNat * 9)).off + 1, none⟩ = some (.string ((qbi l0 x7_1).f1)) ∧ w'.cell? ⟨(ad323.add ((x7_1).toNat * 9)).block, (ad323.add ((x7_1).toNat * 9)).off + 2, none⟩ = some (.int .i64 ((qbi l0 x7_1).f2)) ∧ w'.cell? ⟨(ad323.add ((x7_1).toNat * 9)).block, (ad323.add ((x7_1).toNat * 9)).off + 3, none⟩ = some (.int .i64 ((qbi l0 x7_1).f3)) ∧ w'.cell? ⟨(ad323.add ((x7_1).toNat * 9)).block, (ad323.add ((x7_1).toNat * 9)).off + 4, none⟩ = some (.int .i64 ((qbi l0 x7_1).f4)) ∧ w'.cell? ⟨(ad323.add ((x7_1).toNat * 9)).block, (ad323.add ((x7_1).toNat * 9)).off + 5, none⟩ = some (.string ((qbi l0 x7_1).f5)) ∧ w'.cell? ⟨(ad323.add ((x7_1).toNat * 9)).block, (ad323.add ((x7_1).toNat * 9)).off + 6, none⟩ = some (.string ((qbi l0 x7_1).f6)) ∧ w'.cell? ⟨(ad323.add ((x7_1).toNat * 9)).block, (ad323.add ((x7_1).toNat * 9)).off + 7, none⟩ = some (.int .i64 ((qbi l0 x7_1).f7)) ∧ w'.cell? ⟨(ad323.add ((x7_1).toNat * 9)).block, (ad323.add ((x7_1).toNat * 9)).off + 8, none⟩ = some (.slice A326_8 ((qbi l0 x7_1).f8).length c326_8)) (ds := []) #[false, false, false, false, false, false] (by kernel_rfl) rfl rfl ⟨(qg BK315.out 0).trans rfl, (qg BK315.out 1).trans rfl, (qg BK315.out 2).trans rfl, (qg BK315.out 3).trans rfl, (bcl_ HB hw326_0), (bcl_ HB hw326_1), (bcl_ HB hw326_2), (bcl_ HB hw326_3), (bcl_ HB hw326_4), (bcl_ HB hw326_5), (bcl_ HB hw326_6), (bcl_ HB hw326_7), (bcl_ HB hw326_8)⟩ (fun hHeld => ?_)
    generalize w14.drew = w15 at HO_6 BK315 HB HR326_8 hx326_0 hx326_1 hx326_2 hx326_3 hx326_4 hx326_5 hx326_6 hx326_7 hx326_8 hHeld ⊢
    refine pure_ (i := 1) (N := some 29) (v := ?_) (a' := ?_) #[false, true, false, false, false, false] rfl rfl (by kernel_rfl) (fun _ _ _ h => h) (Or.inl ⟨by rfl, ?_⟩) ?_ ?_
    rotate_left
    ·intro w'
     go_simp
     with_reducible rfl
    rotate_left
    ·simp only [Act.put, List.setIfInBounds_toArray, List.set_cons_zero, List.set_cons_succ, qeh, qen]
     rfl
    refine pure_ (i := 2) (N := some 30) (v := ?_) (a' := ?_) #[false, true, true, false, false, false] rfl rfl (by kernel_rfl) (fun _ _ _ h => h) (Or.inl ⟨by rfl, ?_⟩) ?_ ?_
    rotate_left
    ·intro w'
     go_simp
     with_reducible rfl
    rotate_left
    ·simp only [Act.put, List.setIfInBounds_toArray, List.set_cons_zero, List.set_cons_succ, qeh, qen]
     rfl
    refine pure_ (i := 3) (N := some 31) (v := ?_) (a' := ?_) #[false, true, true, true, false, false] rfl rfl (by kernel_rfl) (fun _ _ _ h => h) (Or.inl ⟨by rfl, ?_⟩) ?_ ?_
    rotate_left
    ·intro w'
     go_simp
     with_reducible rfl
    rotate_left
    ·simp only [Act.put, List.setIfInBounds_toArray, List.set_cons_zero, List.set_cons_succ, qeh, qen]
     rfl
    refine take_ (i := 0) (N := some 28) (v := ?_) (a' := ?_) #[true, true, true, true, false, false] rfl rfl (by kernel_rfl) (fun _ _ _ h => h) (Or.inl ⟨by rfl, ?_⟩) hHeld ?_ ?_
    rotate_left
    ·rintro w' ⟨s0, s1, s2, s3, s4, s5, s6, s7, s8, s9, s10, s11, s12⟩
     go_simp
     with_reducible rfl
    rotate_left
    ·simp only [Act.put, List.setIfInBounds_toArray, List.set_cons_zero, List.set_cons_succ, qeh, qen]
     rfl
    refine take_ (i := 4) (N := some 32) (v := ?_) (a' := ?_) #[true, true, true, true, true, false] rfl rfl (by kernel_rfl) (fun _ _ _ h => h) (Or.inl ⟨by rfl, ?_⟩) hHeld ?_ ?_
    rotate_left
    ·rintro w' ⟨s0, s1, s2, s3, s4, s5, s6, s7, s8, s9, s10, s11, s12⟩
     go_simp
     with_reducible rfl
    rotate_left
    ·simp only [Act.put, List.setIfInBounds_toArray, List.set_cons_zero, List.set_cons_succ, qeh, qen]
     rfl
    refine one_ (i := 5) (N := some 33) #[true, true, true, true, true, true] rfl rfl (by kernel_rfl) (by decide) (fun K hK => ?_)
    refine qkk Tryd.func57 (by kernel_rfl) rfl #[.agg #[.string a1_0, .int .i64 a1_1, .int .i64 a1_2, .int .i64 a1_3], .agg #[.int .i64 ((qbi l0 x7_1).f0), .string ((qbi l0 x7_1).f1), .int .i64 ((qbi l0 x7_1).f2), .int .i64 ((qbi l0 x7_1).f3), .int .i64 ((qbi l0 x7_1).f4), .string ((qbi l0 x7_1).f5), .string ((qbi l0 x7_1).f6), .int .i64 ((qbi l0 x7_1).f7), .slice A326_8 ((qbi l0 x7_1).f8).length c326_8]] (by rfl) rfl rfl ml_ ?_
    with_reducible refine (qdr.calls a1_0 a1_1 a1_2 a1_3 ((qbi l0 x7_1).f0) ((qbi l0 x7_1).f1) ((qbi l0 x7_1).f2) ((qbi l0 x7_1).f3) ((qbi l0 x7_1).f4) ((qbi l0 x7_1).f5) ((qbi l0 x7_1).f6) ((qbi l0 x7_1).f7) _ _ ((qbi l0 x7_1).f8) true _ ?side1 ?side2 A10.out).mono ?_
    (case side1 => repeat (first | exact (Kd.qbw HR326_8.out HB.out) | (with_reducible refine Kd.qck ?_ _) | (with_reducible refine Kd.qcf ?_ _) | (with_reducible refine Kd.qcz ?_)))
    (case side2 => exact HC326_8.out)
    rintro e w16 ⟨rfl, hb⟩
    refine ⟨_, rfl, ?_⟩
    have n0_ := qd.mk (Kd.qdw (by (with_reducible repeat (first | apply Kd.R_alloc | apply Kd.qbj | apply Kd.qbl)); exact HO_6.out) hb)
    have n1_ := qd.mk (bb_ BK315 hb)
    have n2_ := qd.mk (qw (bwx_) hb)
    clear HO_6
    clear BK315
    clear HB
    have HO_6 := n0_
    have BK315 := n1_
    have HB := n2_
    clear n0_ n1_ n2_
    (try clear hb)
    (try clear hb2)
    (try clear hk)
    (try clear hi)
    refine hK.out _ _ ⟨(qg BK315.out 0).trans rfl, (qg BK315.out 1).trans rfl, (qg BK315.out 2).trans rfl, (qg BK315.out 3).trans rfl, (bcl_ HB hw326_0), (bcl_ HB hw326_1), (bcl_ HB hw326_2), (bcl_ HB hw326_3), (bcl_ HB hw326_4), (bcl_ HB hw326_5), (bcl_ HB hw326_6), (bcl_ HB hw326_7), (bcl_ HB hw326_8)⟩ (fun hHeld => ?_)
    clear hK K
    refine qjm (a' := ?_) ?_ ?_
    rotate_left
    ·show Act.put _ (some 33) _ = _
     simp only [Act.put, List.setIfInBounds_toArray, List.set_cons_zero, List.set_cons_succ, qeh, qen]
     rfl
    refine qjg (by kernel_rfl) ?_
    have p328 : 0 ≤ (x7_1 : Int) := odt_
    have q328 : x7_1 < (l0.length : Int) := odt_
    obtain ⟨ad328, A328_8, c328_8, e328, hx328_0, hx328_1, hx328_2, hx328_3, hx328_4, hx328_5, hx328_6, hx328_7, hx328_8, hl328_8, hi328_8⟩ := qgg HR0.out x7_1 p328 q328
    obtain rfl : ad323 = ad328 := (by injection e328)
    replace hx328_0 := bcl_ HB hx328_0
    replace hx328_1 := bcl_ HB hx328_1
    replace hx328_2 := bcl_ HB hx328_2
    replace hx328_3 := bcl_ HB hx328_3
    replace hx328_4 := bcl_ HB hx328_4
    replace hx328_5 := bcl_ HB hx328_5
    replace hx328_6 := bcl_ HB hx328_6
    replace hx328_7 := bcl_ HB hx328_7
    replace hx328_8 := bcl_ HB hx328_8
    have HR328_8 := qd.mk hi328_8
    have HC328_8 := qd.mk hl328_8
    clear hi328_8 hl328_8
    replace p328 := eq_true p328
    replace q328 := eq_true q328
    try go_wp2_with (first | ((with_reducible refine qbf (f := 55) rfl ?_); refine qcp (some 39) rfl rfl Tryd.func55 (by kernel_rfl) rfl #[.agg #[.int .i64 ((qbi l0 x7_1).f0), .string ((qbi l0 x7_1).f1), .int .i64 ((qbi l0 x7_1).f2), .int .i64 ((qbi l0 x7_1).f3), .int .i64 ((qbi l0 x7_1).f4), .string ((qbi l0 x7_1).f5), .string ((qbi l0 x7_1).f6), .int .i64 ((qbi l0 x7_1).f7), .slice A326_8 ((qbi l0 x7_1).f8).length c326_8]] rfl ml_ ?_; (with_reducible refine (qbm.calls k1 ((qbi l0 x7_1).f0) ((qbi l0 x7_1).f1) ((qbi l0 x7_1).f2) ((qbi l0 x7_1).f3) ((qbi l0 x7_1).f4) ((qbi l0 x7_1).f5) ((qbi l0 x7_1).f6) ((qbi l0 x7_1).f7) _ _ ((qbi l0 x7_1).f8) t329 _ ?side1 ?side2 A12.out).mono ?_); (case side1 => repeat (first | exact (Kd.qbw HR326_8.out HB.out) | (with_reducible refine Kd.qck ?_ _) | (with_reducible refine Kd.qcf ?_ _) | (with_reducible refine Kd.qcz ?_))); (case side2 => exact HC326_8.out); rintro e w17 ⟨v330, rfl, ho0, hb⟩; refine ⟨_, rfl, ?_⟩; have n0_ := qd.mk (Kd.qhk (by (with_reducible repeat (first | apply Kd.R_alloc | apply Kd.qbj | apply Kd.qbl)); exact HO_6.out) (Kd.qkx ho0) hb); have n1_ := qd.mk (Kd.qec (Kd.qkw ho0 (Kd.R_lt (by (with_reducible repeat (first | apply Kd.R_alloc | apply Kd.qbj | apply Kd.qbl)); exact HO_6.out))) (qcm (bwx_))); have n2_ := qd.mk (bb_ BK315 hb); have n3_ := qd.mk (qw (bwx_) hb); clear HO_6; clear BK315; clear HB; have HO_6 := n0_; have HO331 := n1_; have BK315 := n2_; have HB := n3_; clear n0_ n1_ n2_ n3_; (try clear hb); (try clear hb2); (try clear hk); (try clear hi); (try clear ho0); obtain ⟨Ao19, co19, eo19⟩ := Kd.qct HO331.out; subst eo19) | ((with_reducible refine qdf (b := .append) (xs := #[.tmp 34, .tmp 39]) rfl ?_); at_builtin; refine Kd.qij k112 (w0 := w) w.heap.size rfl (.tmp 34) (.tmp 39) 32 112 (.agg #[(.string ⟨#[]⟩), (.string ⟨#[]⟩), (.string ⟨#[]⟩), (.string ⟨#[]⟩), (.string ⟨#[]⟩), (.int .i64 0), (.int .i64 0)]) 96 rfl Tryd.underlying32 qfk rfl (by decide) (by omega) u6 x6_1 t329 _ _ _ (fun k_ => some k_ ≠ (.slice Ao19 t329.length co19 : Value).ownBlock) (fun _ => False) rfl rfl ?aO ?aR (fun _ _ h => h) (fun _ h => h.elim) ?aF ?aB ?aS ?aL ?_; (case aR => repeat (first | exact (Kd.qbt HO331.out).2.2 | (with_reducible refine Kd.qck ?_ _) | (with_reducible refine Kd.qcf ?_ _) | (with_reducible refine Kd.qcz ?_))); (case aB => exact (bwx_)); (case aF => exact (fun k_ hk => Kd.fresh' (Kd.R_lt (by (with_reducible repeat (first | apply Kd.R_alloc | apply Kd.qbj | apply Kd.qbl)); exact HO331.out)) k_ hk)); (case aO => exact (by (with_reducible repeat (first | apply Kd.R_alloc | apply Kd.qbj | apply Kd.qbl)); exact Kd.qdt HO_6.out (fun _ hk => hk.2))); (case aS => exact (qcm (bwx_))); (case aL => have := LMc13.out; omega); intro v333 w18 ho hb hg hat; rw [← Ny332.out] at ho; have n0_ := qd.mk (qer (g := gb315) (o := .cells #[.string a1_0, .int .i64 a1_1, .int .i64 a1_2, .int .i64 a1_3] 24 (0, 0)) (by (with_reducible repeat (first | refine qp ?_ _ | refine qz ?_ | refine qm ?_ _)); exact BK315.out) hg (Kd.R_ne HO_6.out BK315.out (by decide))); have n1_ := qd.mk (Kd.qik (ok := (fun _ => True)) (by (with_reducible repeat (first | apply Kd.R_alloc | apply Kd.qbj | apply Kd.qbl)); exact HO331.out) hg hat); have n2_ := qd.mk (hb); have n3_ := qd.mk (ho); clear BK315; clear HO331; clear HB; clear HO_6; have BK315 := n0_; have HO331 := n1_; have HB := n2_; have HO334 := n3_; clear n0_ n1_ n2_ n3_; clear ho hb hg hat))
    go_roundg k1
    case measure => have := HK1.out; omega
    case rel => exact ⟨(y332), (wrap64 (x7_1 + 1)), sm_, H', ⟨by have := HK1.out; omega⟩, ⟨by (with_reducible repeat (first | apply Kd.R_alloc | apply Kd.qbj | apply Kd.qbl)); exact Kd.qdt HO334.out (fun _ hk => trivial)⟩, ⟨by (with_reducible repeat (first | refine qp ?_ _ | refine qz ?_ | refine qm ?_ _)); exact BK315.out⟩, ⟨bwx_⟩⟩
   ·rw [if_neg c6] at H
    have c6b0 : decide (x7_1 < (l0.length : Int)) = false := decide_eq_false c6
    clear c6
    replace H := obm H
    obtain ⟨⟨t319, t320⟩, A240, H⟩ := H
    replace H : (some (t319, t320)) = some (r1, r2) := H
    have A24 := qd.mk A240
    clear A240
    simp only [Option.some.injEq, Prod.mk.injEq] at H
    obtain ⟨rfl, rfl⟩ := H
    obtain ⟨Ao25, co25, eo25⟩ := Kd.qct HO_6.out
    subst eo25
    go_wp2_with (first | ((with_reducible refine qbf (f := 54) rfl ?_); refine qcp (some 42) rfl rfl Tryd.func54 (by kernel_rfl) rfl #[.slice Ao25 x6_1.length co25] rfl ml_ ?_; (with_reducible refine (qba.calls k1 _ _ x6_1 t319 t320 _ ?side1 ?side2 A24.out).mono ?_); (case side1 => repeat (first | exact (Kd.qbt HO_6.out).2.2 | (with_reducible refine Kd.qck ?_ _) | (with_reducible refine Kd.qcf ?_ _) | (with_reducible refine Kd.qcz ?_))); (case side2 => exact (Kd.qbt HO_6.out).2.1); rintro e w26 ⟨v321, rfl, ho0, hb⟩; refine ⟨_, rfl, ?_⟩; have n0_ := qd.mk (Kd.qhk (by (with_reducible repeat (first | apply Kd.R_alloc | apply Kd.qbj | apply Kd.qbl)); exact HO_6.out) (Kd.qkx ho0) hb); have n1_ := qd.mk (Kd.qec (Kd.qkw ho0 (Kd.R_lt (by (with_reducible repeat (first | apply Kd.R_alloc | apply Kd.qbj | apply Kd.qbl)); exact HO_6.out))) (qcm (bwx_))); have n2_ := qd.mk (bb_ BK315 hb); have n3_ := qd.mk (qw (bwx_) hb); clear HO_6; clear BK315; clear HB; have HO_6 := n0_; have HO322 := n1_; have BK315 := n2_; have HB := n3_; clear n0_ n1_ n2_ n3_; (try clear hb); (try clear hb2); (try clear hk); (try clear hi); (try clear ho0)))
    go_ret2
    exact ⟨_, ew_, by (with_reducible repeat (first | apply Kd.R_alloc | apply Kd.qbj | apply Kd.qbl)); exact Kd.qdt HO322.out (fun _ hk => trivial), bwx_⟩
end
section
theorem w64t {x : Int} (h0 : 0 ≤ x) (h1 : x ≤ 9223372036854775807) : wrap64 x = x := by unfold wrap64; omega
theorem rd213 {l : List S213} {i : Nat} (h : i < l.length) : qo l (i : Int) = l[i] := by
 simp [qo, h]
theorem rdDrop {l : List S213} {i : Nat} (h : i < l.length) : l.drop i = qo l (i : Int) :: l.drop (i + 1) := by
 rw [rd213 h, List.drop_eq_getElem_cons h]
def qhd (s : ByteArray) : Bool := decide (0 < s.size) && (decide (s.size ≤ 12) && qfh qem s 0)
theorem qio (s : ByteArray) : qdd.f s = some (qhd s) := rfl
theorem ref_letter_f (c : Int) : qdn.f c = some (qhh c) := by
 unfold qdn.f qhh
 repeat' split
 all_goals (congr 1; rw [Bool.eq_iff_iff]; simp; omega)
theorem ref_digit_f (c : Int) : qdq.f c = some (isDigit c) := by
 unfold qdq.f isDigit
 repeat' split
 all_goals (congr 1; rw [Bool.eq_iff_iff]; simp; omega)
theorem refCode_l0 (s : ByteArray) (hs : s.size ≤ 9223372036854775807) : ∀ (n i : Nat), s.size - i = n → i ≤ s.size → Ev (fun k => qbh.l0 k s (i : Int)) (qfh qem s i && (decide (0 < s.size) && decide (s.size ≤ 12))) := by
 intro n
 induction n with
 | zero =>
  intro i hn hi
  refine Ev.step (fun k => qbh.l0.eq_2 _ _ k) ?_
  obtain rfl : i = s.size := by omega
  simp only [if_neg (show ¬ ((s.size : Int) < (s.size : Int)) by omega), qii, Bool.true_and]
  by_cases h : 0 < s.size
  ·simp only [if_pos (show (s.size : Int) ≥ 1 by omega), h, decide_true, Bool.true_and]
   have : decide ((s.size : Int) ≤ 12) = decide (s.size ≤ 12) := by rw [Bool.eq_iff_iff]; simp; omega
   rw [this]; exact Ev.now _
  ·simp only [if_neg (show ¬ (s.size : Int) ≥ 1 by omega), h, decide_false, Bool.false_and]; exact Ev.now _
 | succ n ih =>
  intro i hn hi
  refine Ev.step (fun k => qbh.l0.eq_2 _ _ k) ?_
  have hw := hw1 i (by omega)
  have hst := qhi qem s i (by omega)
  have hor := qkf (bt s (i : Int))
  simp only [if_pos (show ((i : Int) < (s.size : Int)) by omega), if_pos (show (0 : Int) ≤ (i : Int) by omega), hw, ref_letter_f, ref_digit_f, Option.bind_some]
  rw [hst, hor]
  have hi' := ih (i + 1) (by omega) (by omega)
  cases h1 : qhh (bt s (i : Int)) <;> cases h2 : isDigit (bt s (i : Int)) <;> simp <;> first | exact Ev.now _ | simpa using hi'
theorem qgw (s : ByteArray) (hs : s.size ≤ 9223372036854775807) : Ev (fun k => qbh.f k s) (qhd s) := by
 have := refCode_l0 s hs _ 0 rfl (by omega)
 have e : (qfh qem s 0 && (decide (0 < s.size) && decide (s.size ≤ 12))) = qhd s := by
  unfold qhd; rw [Bool.and_comm, Bool.and_assoc]
 rw [e] at this
 exact this
def qhr (x : S213) : Bool := qhd x.f0 && qhd x.f1
theorem codes_f (x : S213) : qfr.f x.f0 x.f1 = some (qhr x) := by
 unfold qfr.f qhr
 simp only [qio, Option.bind_some]
 cases qhd x.f0 <;> simp
theorem named_ev (x : S213) (h0 : x.f0.size ≤ 9223372036854775807) (h1 : x.f1.size ≤ 9223372036854775807) : Ev (fun k => qdi.f k x.f0 x.f1) (qhr x) := by
 unfold qdi.f qhr
 refine Ev.bind (qgw _ h0) ?_
 cases qhd x.f0
 ·exact Ev.now _
 ·simp only [if_true, Bool.true_and]
  exact Ev.bind (qgw _ h1) (Ev.now _)
def chk : Option S213 → List S213 → Bool
 | _, [] => true
 | p, x :: r => qhr x && ((match p with | none => true | some q => Op.bytesLess q.f0.toList x.f0.toList) && chk (some x) r)
def prev (l : List S213) (i : Nat) : Option S213 := if i = 0 then none else some (qo l ((i - 1 : Nat) : Int))
theorem prev_succ (l : List S213) (i : Nat) : prev l (i + 1) = some (qo l (i : Int)) := by simp [prev]
def qgz (l : List S213) : Bool := decide (l.length ≤ 6) && chk none l
theorem Right_l0 (l : List S213) (hl : l.length ≤ 9223372036854775807) : ∀ (n i : Nat), l.length - i = n → i ≤ l.length → Ev (fun k => qcl.l0 k l l (l.length : Int) (i : Int)) (chk (prev l i) (l.drop i)) := by
 intro n
 induction n with
 | zero =>
  intro i hn hi
  refine Ev.step (fun k => qcl.l0.eq_2 _ _ _ _ k) ?_
  simp only [if_neg (show ¬ ((i : Int) < (l.length : Int)) by omega)]
  rw [List.drop_of_length_le (by omega)]
  exact Ev.now _
 | succ n ih =>
  intro i hn hi
  refine Ev.step (fun k => qcl.l0.eq_2 _ _ _ _ k) ?_
  have hw := hw1 i (by omega)
  have hi' := ih (i + 1) (by omega) (by omega)
  rw [prev_succ] at hi'
  simp only [if_pos (show ((i : Int) < (l.length : Int)) by omega), if_pos (show (0 : Int) ≤ (i : Int) by omega), hw, codes_f, Option.bind_some]
  rw [rdDrop (show i < l.length by omega)]
  unfold chk
  cases hn : qhr (qo l (i : Int))
  ·exact Ev.now _
  simp only [if_true, Bool.true_and]
  by_cases h0 : i = 0
  ·subst h0
   simp only [if_neg (show ¬ (((0 : Nat) : Int) > 0) by omega), prev, if_true, Bool.true_and]
   exact hi'
  ·have hm : wrap64 ((i : Int) - 1) = ((i - 1 : Nat) : Int) := by rw [w64t (by omega) (by omega)]; omega
   simp only [if_pos (show ((i : Int) > 0) by omega), hm, if_pos (show (0 : Int) ≤ ((i - 1 : Nat) : Int) by omega), if_pos (show ((i - 1 : Nat) : Int) < (l.length : Int) by omega), prev, if_neg h0]
   cases hb : Op.bytesLess ((qo l ((i - 1 : Nat) : Int)).f0).toList ((qo l (i : Int)).f0).toList
   ·exact Ev.now _
   ·simp only [if_true, Bool.true_and]
    exact hi'
theorem Right_ev (l : List S213) : Ev (fun k => qcl.f k l) (qgz l) := by
 unfold qcl.f qgz
 by_cases h : (l.length : Int) > 6
 ·simp only [if_pos h]
  have : decide (l.length ≤ 6) = false := decide_eq_false (by omega)
  rw [this]; exact Ev.now _
 ·simp only [if_neg h]
  have : decide (l.length ≤ 6) = true := decide_eq_true (by omega)
  rw [this, Bool.true_and]
  exact Right_l0 l (by omega) _ 0 rfl (by omega)
def shortL (l : List S213) : Prop := ∀ (i : Nat), i < l.length → (qo l (i : Int)).f0.size ≤ 9223372036854775807 ∧ (qo l (i : Int)).f1.size ≤ 9223372036854775807
theorem refRight_l0 (l : List S213) (hl : l.length ≤ 9223372036854775807) (hz : shortL l) : ∀ (n i : Nat), l.length - i = n → i ≤ l.length → Ev (fun k => qbe.l0 k l (i : Int)) (chk (prev l i) (l.drop i) && decide (l.length ≤ 6)) := by
 intro n
 induction n with
 | zero =>
  intro i hn hi
  refine Ev.step (fun k => qbe.l0.eq_2 _ _ k) ?_
  simp only [if_neg (show ¬ ((i : Int) < (l.length : Int)) by omega)]
  rw [List.drop_of_length_le (by omega)]
  have : decide ((l.length : Int) ≤ 6) = decide (l.length ≤ 6) := by rw [Bool.eq_iff_iff]; simp; omega
  rw [this]
  unfold chk
  exact Ev.now _
 | succ n ih =>
  intro i hn hi
  refine Ev.step (fun k => qbe.l0.eq_2 _ _ k) ?_
  have hw := hw1 i (by omega)
  have hi' := ih (i + 1) (by omega) (by omega)
  rw [prev_succ] at hi'
  have hzi := hz i (by omega)
  simp only [if_pos (show ((i : Int) < (l.length : Int)) by omega), if_pos (show (0 : Int) ≤ (i : Int) by omega), hw]
  refine Ev.bind (named_ev _ hzi.1 hzi.2) ?_
  rw [rdDrop (show i < l.length by omega)]
  unfold chk
  cases hn : qhr (qo l (i : Int))
  ·exact Ev.now _
  simp only [if_true, Bool.true_and]
  by_cases h0 : i = 0
  ·subst h0
   simp only [if_neg (show ¬ (((0 : Nat) : Int) > 0) by omega), prev, if_true, Bool.true_and]
   exact hi'
  ·have hm : wrap64 ((i : Int) - 1) = ((i - 1 : Nat) : Int) := by rw [w64t (by omega) (by omega)]; omega
   simp only [if_pos (show ((i : Int) > 0) by omega), hm, if_pos (show (0 : Int) ≤ ((i - 1 : Nat) : Int) by omega), if_pos (show ((i - 1 : Nat) : Int) < (l.length : Int) by omega), prev, if_neg h0]
   cases hb : Op.bytesLess ((qo l ((i - 1 : Nat) : Int)).f0).toList ((qo l (i : Int)).f0).toList
   ·exact Ev.now _
   ·simp only [if_true, Bool.true_and]
    exact hi'
theorem qlx (l : List S213) (hl : l.length ≤ 9223372036854775807) (hz : shortL l) : Ev (fun k => qbe.f k l) (qgz l) := by
 have := refRight_l0 l hl hz _ 0 rfl (by omega)
 rw [Bool.and_comm] at this
 exact this
def addT (acc : ByteArray) (first : Bool) : List S213 → ByteArray
 | [] => acc
 | x :: r => addT ((if first then acc else acc ++ (⟨#[44]⟩ : ByteArray)) ++ ((x.f0 ++ (⟨#[61]⟩ : ByteArray)) ++ x.f1)) false r
theorem chk_named {p : Option S213} {l : List S213} (h : chk p l = true) : ∀ x ∈ l, qhr x = true := by
 induction l generalizing p with
 | nil => intro x hx; simp at hx
 | cons y r ih =>
  simp only [chk, Bool.and_eq_true] at h
  intro x hx
  rcases List.mem_cons.mp hx with rfl | hx
  ·exact h.1
  ·exact ih h.2.2 x hx
theorem qnn {x : S213} (h : qhr x = true) : x.f0.size ≤ 12 ∧ x.f1.size ≤ 12 := by
 simp only [qhr, qhd, Bool.and_eq_true, decide_eq_true_eq] at h
 omega
theorem qja (a b : ByteArray) : (a ++ b).size = a.size + b.size := by rw [ByteArray.size_append]
theorem Text_l0 (l : List S213) (hl : l.length ≤ 6) (hn : ∀ x ∈ l, qhr x = true) : ∀ (n i : Nat) (acc : ByteArray), l.length - i = n → i ≤ l.length → acc.size ≤ 30 * i → Ev (fun k => qee.l0 k acc l (l.length : Int) (i : Int)) (addT acc (decide (i = 0)) (l.drop i), 0) := by
 intro n
 induction n with
 | zero =>
  intro i acc hn hi ha
  refine Ev.step (fun k => qee.l0.eq_2 _ _ _ _ k) ?_
  simp only [if_neg (show ¬ ((i : Int) < (l.length : Int)) by omega)]
  rw [List.drop_of_length_le (by omega)]
  exact Ev.now _
 | succ n ih =>
  intro i acc hm hi ha
  refine Ev.step (fun k => qee.l0.eq_2 _ _ _ _ k) ?_
  have hw := hw1 i (by omega)
  have hz := qnn (hn (qo l (i : Int)) (by rw [rd213 (show i < l.length by omega)]; exact List.getElem_mem _))
  have e44 : (⟨#[44]⟩ : ByteArray).size = 1 := rfl
  have e61 : (⟨#[61]⟩ : ByteArray).size = 1 := rfl
  simp only [if_pos (show ((i : Int) < (l.length : Int)) by omega), if_pos (show (0 : Int) ≤ (i : Int) by omega), hw, qja, e44, e61]
  rw [rdDrop (show i < l.length by omega)]
  unfold addT
  have a1 : (qo l (i : Int)).f0.size + 1 ≤ 9223372036854775807 := by omega
  have a2 : (qo l (i : Int)).f0.size + 1 + (qo l (i : Int)).f1.size ≤ 9223372036854775807 := by omega
  have a3 : acc.size + ((qo l (i : Int)).f0.size + 1 + (qo l (i : Int)).f1.size) ≤ 9223372036854775807 := by omega
  have a4 : acc.size + 1 ≤ 9223372036854775807 := by omega
  have a5 : acc.size + 1 + ((qo l (i : Int)).f0.size + 1 + (qo l (i : Int)).f1.size) ≤ 9223372036854775807 := by omega
  by_cases h0 : i = 0
  ·subst h0
   have := ih 1 (acc ++ ((qo l ((0 : Nat) : Int)).f0 ++ ⟨#[61]⟩ ++ (qo l ((0 : Nat) : Int)).f1)) (by omega) (by omega) (by simp only [qja, e44, e61]; omega)
   simp only [if_neg (show ¬ (((0 : Nat) : Int) > 0) by omega), decide_true, if_true]
   simp only [if_pos a1, if_pos a2, if_pos a3]
   exact this
  ·have := ih (i + 1) ((acc ++ ⟨#[44]⟩) ++ ((qo l (i : Int)).f0 ++ ⟨#[61]⟩ ++ (qo l (i : Int)).f1)) (by omega) (by omega) (by simp only [qja, e44, e61]; omega)
   simp only [if_pos (show ((i : Int) > 0) by omega), decide_eq_true_eq, h0, decide_false, Bool.false_eq_true, if_false]
   simp only [if_pos a1, if_pos a2, if_pos a4, if_pos a5]
   simpa using this
def textL (l : List S213) : ByteArray × Int := if qgz l then (addT ⟨#[]⟩ true l, 0) else (⟨#[]⟩, 14)
theorem qlv {l : List S213} (h : qgz l = true) : l.length ≤ 6 ∧ ∀ x ∈ l, qhr x = true := by
 simp only [qgz, Bool.and_eq_true, decide_eq_true_eq] at h
 exact ⟨h.1, chk_named h.2⟩
theorem Text_ev (l : List S213) : Ev (fun k => qee.f k l) (textL l) := by
 unfold qee.f textL
 refine Ev.bind (Right_ev l) ?_
 cases h : qgz l
 ·exact Ev.now _
 ·simp only [if_true]
  have := qlv h
  exact Text_l0 l this.1 this.2 _ 0 _ rfl (by omega) (Nat.le_refl 0)
theorem refText_l0 (l : List S213) (hl : l.length ≤ 6) (hn : ∀ x ∈ l, qhr x = true) : ∀ (n i : Nat) (acc : ByteArray), l.length - i = n → i ≤ l.length → acc.size ≤ 30 * i → Ev (fun k => qce.l0 k l acc (i : Int)) (addT acc (decide (i = 0)) (l.drop i), 0) := by
 intro n
 induction n with
 | zero =>
  intro i acc hn hi ha
  refine Ev.step (fun k => qce.l0.eq_2 _ _ _ k) ?_
  simp only [if_neg (show ¬ ((i : Int) < (l.length : Int)) by omega)]
  rw [List.drop_of_length_le (by omega)]
  exact Ev.now _
 | succ n ih =>
  intro i acc hm hi ha
  refine Ev.step (fun k => qce.l0.eq_2 _ _ _ k) ?_
  have hw := hw1 i (by omega)
  have hz := qnn (hn (qo l (i : Int)) (by rw [rd213 (show i < l.length by omega)]; exact List.getElem_mem _))
  have e44 : (⟨#[44]⟩ : ByteArray).size = 1 := rfl
  have e61 : (⟨#[61]⟩ : ByteArray).size = 1 := rfl
  simp only [if_pos (show ((i : Int) < (l.length : Int)) by omega), if_pos (show (0 : Int) ≤ (i : Int) by omega), hw, qja, e44, e61]
  rw [rdDrop (show i < l.length by omega)]
  unfold addT
  have a1 : (qo l (i : Int)).f0.size + 1 ≤ 9223372036854775807 := by omega
  have a2 : (qo l (i : Int)).f0.size + 1 + (qo l (i : Int)).f1.size ≤ 9223372036854775807 := by omega
  have a3 : acc.size + ((qo l (i : Int)).f0.size + 1 + (qo l (i : Int)).f1.size) ≤ 9223372036854775807 := by omega
  have a4 : acc.size + 1 ≤ 9223372036854775807 := by omega
  have a5 : acc.size + 1 + ((qo l (i : Int)).f0.size + 1 + (qo l (i : Int)).f1.size) ≤ 9223372036854775807 := by omega
  by_cases h0 : i = 0
  ·subst h0
   have := ih 1 (acc ++ ((qo l ((0 : Nat) : Int)).f0 ++ ⟨#[61]⟩ ++ (qo l ((0 : Nat) : Int)).f1)) (by omega) (by omega) (by simp only [qja, e44, e61]; omega)
   simp only [if_neg (show ¬ (((0 : Nat) : Int) > 0) by omega), decide_true, if_true]
   simp only [if_pos a1, if_pos a2, if_pos a3]
   exact this
  ·have := ih (i + 1) ((acc ++ ⟨#[44]⟩) ++ ((qo l (i : Int)).f0 ++ ⟨#[61]⟩ ++ (qo l (i : Int)).f1)) (by omega) (by omega) (by simp only [qja, e44, e61]; omega)
   simp only [if_pos (show ((i : Int) > 0) by omega), decide_eq_true_eq, h0, decide_false, Bool.false_eq_true, if_false]
   simp only [if_pos a1, if_pos a2, if_pos a4, if_pos a5]
   simpa using this
theorem refText_ev (l : List S213) (hl : l.length ≤ 9223372036854775807) (hz : shortL l) : Ev (fun k => qce.f k l) (textL l) := by
 unfold qce.f textL
 refine Ev.bind (qlx l hl hz) ?_
 cases h : qgz l
 ·exact Ev.now _
 ·simp only [if_true]
  have := qlv h
  exact refText_l0 l this.1 this.2 _ 0 _ rfl (by omega) (Nat.le_refl 0)
end
section
theorem w64d {x : Int} (h0 : 0 ≤ x) (h1 : x < 9223372036854775000) : wrap64 x = x := by unfold wrap64; omega
theorem w64s {x : Int} (h0 : -9223372036854775000 ≤ x) (h1 : x < 9223372036854775000) : wrap64 x = x := by unfold wrap64; omega
def bf (y : Int) : Int := 365 * (y - 1900) + ((y - 1) / 4 - (y - 1) / 100 + (y - 1) / 400 - 460)
theorem qmr (y : Int) (h0 : 1900 ≤ y) (h1 : y ≤ 2200) : qfb.f y = some (bf y) := by
 have e1 : wrap64 (y - 1) = y - 1 := w64d (by omega) (by omega)
 have e2 : Int.tdiv (y - 1) 4 = (y - 1) / 4 := Int.tdiv_eq_ediv_of_nonneg (by omega)
 have e3 : Int.tdiv (y - 1) 100 = (y - 1) / 100 := Int.tdiv_eq_ediv_of_nonneg (by omega)
 have e4 : Int.tdiv (y - 1) 400 = (y - 1) / 400 := Int.tdiv_eq_ediv_of_nonneg (by omega)
 unfold qfb.f
 rw [e1, e2, e3, e4]
 rw [w64s (x := (y - 1) / 4) (by omega) (by omega), w64s (x := (y - 1) / 100) (by omega) (by omega), w64s (x := (y - 1) / 400) (by omega) (by omega)]
 rw [w64s (x := y - 1900) (by omega) (by omega), w64s (x := 365 * (y - 1900)) (by omega) (by omega)]
 rw [w64s (x := (y - 1) / 4 - (y - 1) / 100) (by omega) (by omega), w64s (x := (y - 1) / 4 - (y - 1) / 100 + (y - 1) / 400) (by omega) (by omega)]
 rw [w64s (x := (y - 1) / 4 - (y - 1) / 100 + (y - 1) / 400 - 474) (by omega) (by omega)]
 rw [w64s (x := (y - 1) / 4 - (y - 1) / 100 + (y - 1) / 400 - 474 + 18) (by omega) (by omega)]
 rw [w64s (x := (y - 1) / 4 - (y - 1) / 100 + (y - 1) / 400 - 474 + 18 - 4) (by omega) (by omega)]
 rw [w64s (by omega) (by omega)]
 unfold bf
 congr 1
 omega
def qiq (y : Int) : Bool := (y % 4 == 0 && y % 100 != 0) || y % 400 == 0
theorem leap_eq (y : Int) (h0 : 0 ≤ y) : qgq.f y = some (qiq y) := by
 unfold qgq.f qiq
 rw [Int.tmod_eq_emod_of_nonneg h0, Int.tmod_eq_emod_of_nonneg h0, Int.tmod_eq_emod_of_nonneg h0]
 by_cases c1 : y % 4 = 0
 ·rw [if_pos c1]
  by_cases c2 : y % 100 = 0
  ·rw [if_pos c2]; simp [c2]
  ·rw [if_neg c2]; simp [c1, c2]
 ·rw [if_neg c1]; simp [c1]
def mlen (b : Bool) (m : Int) : Int := if m = 2 then (if b = true then 29 else 28) else lens.getD (m - 1).toNat 0
theorem length_eq (y m : Int) (h0 : 0 ≤ y) (h1 : 1 ≤ m) (h2 : m ≤ 12) : qeu.f y m = some (mlen (qiq y) m) := by
 unfold qeu.f mlen
 rw [if_pos h1, if_pos h2, leap_eq y h0]
 by_cases c : m = 2
 ·rw [if_pos c, if_pos c]
  cases qiq y <;> rfl
 ·rw [if_neg c, if_neg c]
def remc (b : Bool) : Nat → Int
 | 0 => 31
 | c + 1 => remc b c + mlen b (11 - (c : Int))
theorem mlen_pos (b : Bool) (m : Int) (h1 : 1 ≤ m) (h2 : m ≤ 12) : 0 < mlen b m ∧ mlen b m ≤ 31 := by
 have : m = 1 ∨ m = 2 ∨ m = 3 ∨ m = 4 ∨ m = 5 ∨ m = 6 ∨ m = 7 ∨ m = 8 ∨ m = 9 ∨ m = 10 ∨ m = 11 ∨ m = 12 := by omega
 rcases this with rfl | rfl | rfl | rfl | rfl | rfl | rfl | rfl | rfl | rfl | rfl | rfl <;> cases b <;> decide
theorem month_ev (y : Int) (hy : 0 ≤ y) (z : Int) : ∀ (c : Nat) (M r : Int), M + c = 12 → 1 ≤ M → 0 ≤ r → r < remc (qiq y) c → ∃ m d, Ev (fun k => qcx.l1 k r y M z) (y, m, d, 0)
 | 0, M, r, h1, h2, h3, h4 => by
  have : M = 12 := by omega
  subst this
  refine ⟨12, wrap64 (r + 1), Ev.step (fun k => qcx.l1.eq_2 _ _ _ _ k) ?_⟩
  simp only [length_eq y 12 hy (by omega) (by omega), Option.bind_some]
  have e : mlen (qiq y) 12 = 31 := by cases qiq y <;> rfl
  rw [e]
  have : r < 31 := h4
  simp only [if_neg (show ¬ r ≥ 31 by omega)]
  exact Ev.now _
 | c + 1, M, r, h1, h2, h3, h4 => by
  have hr : r < remc (qiq y) c + mlen (qiq y) (11 - (c : Int)) := h4
  have eM : (11 - (c : Int)) = M := by omega
  rw [eM] at hr
  obtain ⟨p1, p2⟩ := mlen_pos (qiq y) M (by omega) (by omega)
  by_cases hc : r ≥ mlen (qiq y) M
  ·have hw : wrap64 (r - mlen (qiq y) M) = r - mlen (qiq y) M := by
    have : r < 9223372036854775000 := by
     have := remc_le (qiq y) (c + 1) (by omega)
     omega
    rw [w64d (by omega) (by omega)]
   obtain ⟨m, d, h⟩ := month_ev y hy z c (M + 1) (r - mlen (qiq y) M) (by omega) (by omega) (by omega) (by omega)
   refine ⟨m, d, Ev.step (fun k => qcx.l1.eq_2 _ _ _ _ k) ?_⟩
   simp only [length_eq y M hy (by omega) (by omega), Option.bind_some, if_pos hc, hw, w64d (show 0 ≤ M + 1 by omega) (by omega)]
   exact h
  ·refine ⟨M, wrap64 (r + 1), Ev.step (fun k => qcx.l1.eq_2 _ _ _ _ k) ?_⟩
   simp only [length_eq y M hy (by omega) (by omega), Option.bind_some, if_neg hc]
   exact Ev.now _
where
 remc_le (b : Bool) : ∀ c : Nat, c ≤ 11 → remc b c ≤ 31 * (c + 1)
  | 0, _ => by show (31 : Int) ≤ _; omega
  | c + 1, h => by
   have := remc_le b c (by omega)
   have := (mlen_pos b (11 - (c : Int)) (by omega) (by omega)).2
   show remc b c + _ ≤ _
   omega
theorem remc_year (b : Bool) : remc b 11 = if b = true then 366 else 365 := by cases b <;> decide
theorem bf_step (y : Int) (h0 : 1900 ≤ y) (h1 : y ≤ 2199) : bf (y + 1) - bf y = remc (qiq y) 11 := by
 rw [remc_year]
 unfold bf qiq
 by_cases c1 : y % 4 = 0 <;> by_cases c2 : y % 100 = 0 <;> by_cases c3 : y % 400 = 0 <;> simp [c1, c2, c3] <;> omega
theorem j1_ev (n y : Int) (h0 : 1900 ≤ y) (h1 : y ≤ 2199) (h2 : bf y ≤ n) (h3 : n < bf (y + 1)) (hn : 0 ≤ n) (hn2 : n ≤ 109572) (z m : Int) : ∃ m' d, Ev (fun k => qcx.j1 k n y m z) (y, m', d, 0) := by
 have hs := bf_step y h0 h1
 have hb : 0 ≤ bf y := by unfold bf; omega
 obtain ⟨m', d, h⟩ := month_ev y (by omega) z 11 1 (n - bf y) (by omega) (by omega) (by omega) (by omega)
 refine ⟨m', d, Ev.step (fun k => qcx.j1.eq_2 _ _ _ _ k) ?_⟩
 simp only [qmr y h0 (by omega), Option.bind_some, w64d (show 0 ≤ n - bf y by omega) (by omega)]
 exact h
theorem year_ev (n : Int) (hn : 0 ≤ n) (hn2 : n ≤ 109572) (z m : Int) : ∀ (c : Nat) (y : Int), y + c = 2199 → 1900 ≤ y → bf y ≤ n → ∃ y' m' d, Ev (fun k => qcx.l0 k n y m z) (y', m', d, 0)
 | 0, y, h1, h2, h3 => by
  have : y = 2199 := by omega
  subst this
  have hbf : bf (2199 + 1) = 109573 := by decide
  obtain ⟨m', d, h⟩ := j1_ev n 2199 (by omega) (by omega) h3 (by rw [hbf]; omega) hn hn2 z m
  refine ⟨2199, m', d, Ev.step (fun k => qcx.l0.eq_2 _ _ _ _ k) ?_⟩
  simp only [if_neg (show ¬ (2199 : Int) < 2199 by omega)]
  exact h
 | c + 1, y, h1, h2, h3 => by
  by_cases hc : bf (y + 1) ≤ n
  ·obtain ⟨y', m', d, h⟩ := year_ev n hn hn2 z m c (y + 1) (by omega) (by omega) hc
   refine ⟨y', m', d, Ev.step (fun k => qcx.l0.eq_2 _ _ _ _ k) ?_⟩
   simp only [if_pos (show y < 2199 by omega), w64d (show 0 ≤ y + 1 by omega) (by omega), qmr (y + 1) (by omega) (by omega), Option.bind_some, if_pos hc]
   exact h
  ·obtain ⟨m', d, h⟩ := j1_ev n y h2 (by omega) h3 (by omega) hn hn2 z m
   refine ⟨y, m', d, Ev.step (fun k => qcx.l0.eq_2 _ _ _ _ k) ?_⟩
   simp only [if_pos (show y < 2199 by omega), w64d (show 0 ≤ y + 1 by omega) (by omega), qmr (y + 1) (by omega) (by omega), Option.bind_some, if_neg hc]
   exact h
theorem bf_start (n : Int) (hn : 0 ≤ n) (hn2 : n ≤ 109572) : bf (1900 + n / 366) ≤ n := by
 unfold bf
 have h1 : 0 ≤ n / 366 := by omega
 have h2 : n / 366 ≤ 299 := by omega
 have h3 : 366 * (n / 366) ≤ n := by omega
 generalize n / 366 = q at *
 omega
def dayB (n : Int) : Bool := decide (0 ≤ n ∧ n ≤ 109572)
theorem date_ev (n : Int) : ∃ y m d e, Ev (fun k => qcx.f k n) (y, m, d, e) ∧ e = if dayB n = true then 0 else 11 := by
 unfold qcx.f qjp.f dayB
 by_cases h0 : n ≥ 0
 ·by_cases h1 : n ≤ 109572
  ·have e1 : Int.tdiv n 366 = n / 366 := Int.tdiv_eq_ediv_of_nonneg h0
   have e2 : wrap64 (1900 + wrap64 (n / 366)) = 1900 + n / 366 := by rw [w64d (x := n / 366) (by omega) (by omega), w64d (by omega) (by omega)]
   obtain ⟨y', m', d, h⟩ := year_ev n h0 h1 0 0 (2199 - (1900 + n / 366)).toNat (1900 + n / 366) (by omega) (by omega) (bf_start n h0 h1)
   refine ⟨y', m', d, 0, ?_, by rw [decide_eq_true (show 0 ≤ n ∧ n ≤ 109572 from ⟨h0, h1⟩)]; rfl⟩
   simp only [if_pos h0, decide_eq_true h1, Option.bind_some, e1, e2, if_true]
   exact h
  ·refine ⟨0, 0, 0, 11, ?_, by rw [decide_eq_false (show ¬ (0 ≤ n ∧ n ≤ 109572) by omega)]; rfl⟩
   simp only [if_pos h0, decide_eq_false h1, Option.bind_some]
   exact Ev.now _
 ·refine ⟨0, 0, 0, 11, ?_, by rw [decide_eq_false (show ¬ (0 ≤ n ∧ n ≤ 109572) by omega)]; rfl⟩
  simp only [if_neg h0, Option.bind_some]
  exact Ev.now _
theorem isDay_ev (n : Int) : Ev (fun k => qef.f k n) (dayB n) := by
 obtain ⟨y, m, d, e, h, he⟩ := date_ev n
 unfold qef.f
 refine h.bind ?_
 subst he
 cases dayB n <;> exact Ev.now _
def optB (s : ByteArray) : Bool := s.toList == [] || qhd s
def plainB (s : ByteArray) : Bool := decide (s.size ≤ 60) && qfh qdv s 0
def ws (n m : Int) : Bool := decide (-m ≤ n ∧ n ≤ m)
structure qkm (x : S109) : Prop where
 s0 : x.f0.size ≤ 9223372036854775807
 s1 : x.f1.size ≤ 9223372036854775807
 s4 : x.f4.size ≤ 9223372036854775807
 s5 : x.f5.size ≤ 9223372036854775807
 tl : x.f6.length ≤ 9223372036854775807
 ts : shortL x.f6
theorem opt_f (s : ByteArray) : qdp.f s = some (optB s) := by
 unfold qdp.f optB
 by_cases h : s.toList = []
 ·rw [if_pos h, h]; rfl
 ·rw [if_neg h, beq_eq_false_iff_ne.mpr h, Bool.false_or]
  show (some (qhd s)).bind _ = _
  rfl
theorem ropt_ev (s : ByteArray) (hs : s.size ≤ 9223372036854775807) : Ev (fun k => qci.f k s) (optB s) := by
 unfold qci.f optB
 by_cases h : s.toList = []
 ·simp only [if_pos h, h]
  exact Ev.now _
 ·simp only [if_neg h]
  rw [beq_eq_false_iff_ne.mpr h, Bool.false_or]
  exact (qgw s hs).bind (Ev.now _)
theorem ws_f (n m : Int) (h0 : 0 ≤ m) (h1 : m ≤ 1000000000000000) : qdg.f n m = some (ws n m) ∧ qco.f n m = some (ws n m) := by
 have e : wrap64 (-m) = -m := by unfold wrap64; omega
 unfold qdg.f qco.f ws
 rw [e]
 by_cases h : n ≥ -m
 ·rw [if_pos h]
  have : decide (n ≤ m) = decide (-m ≤ n ∧ n ≤ m) := by rw [Bool.eq_iff_iff, decide_eq_true_iff, decide_eq_true_iff]; omega
  rw [this]
  exact ⟨rfl, rfl⟩
 ·rw [if_neg h, decide_eq_false (show ¬ (-m ≤ n ∧ n ≤ m) by omega)]
  exact ⟨rfl, rfl⟩
theorem plain_l0 (s : ByteArray) (hs : s.size ≤ 9223372036854775807) : ∀ (n i : Nat), s.size - i = n → i ≤ s.size → Ev (fun k => qbz.l0 k s (i : Int)) (decide (s.size ≤ 60) && qfh qdv s i) := by
 intro n
 induction n with
 | zero =>
  intro i hn hi
  obtain rfl : i = s.size := by omega
  refine Ev.step (fun k => qbz.l0.eq_2 _ _ k) ?_
  simp only [if_neg (show ¬ ((s.size : Int) < (s.size : Int)) by omega), qii, Bool.and_true]
  have : decide ((s.size : Int) ≤ 60) = decide (s.size ≤ 60) := by rw [Bool.eq_iff_iff, decide_eq_true_iff, decide_eq_true_iff]; omega
  rw [this]
  exact Ev.now _
 | succ n ih =>
  intro i hn hi
  have hw := hw1 i (by omega)
  refine Ev.step (fun k => qbz.l0.eq_2 _ _ k) ?_
  simp only [if_pos (show ((i : Int) < (s.size : Int)) by omega), if_pos (show (0 : Int) ≤ (i : Int) by omega), hw]
  rw [qhi qdv s i (by omega)]
  by_cases h1 : bt s (i : Int) < 32
  ·simp only [if_pos h1]
   rw [show qdv (bt s (i : Int)) = false by unfold qdv; rw [decide_eq_false]; omega, Bool.false_and, Bool.and_false]
   exact Ev.now _
  ·simp only [if_neg h1]
   by_cases h2 : bt s (i : Int) > 126
   ·simp only [if_pos h2]
    rw [show qdv (bt s (i : Int)) = false by unfold qdv; rw [decide_eq_false]; omega, Bool.false_and, Bool.and_false]
    exact Ev.now _
   ·simp only [if_neg h2]
    rw [show qdv (bt s (i : Int)) = true by unfold qdv; rw [decide_eq_true]; omega, Bool.true_and]
    exact ih (i + 1) (by omega) (by omega)
theorem plain_ev (s : ByteArray) (hs : s.size ≤ 9223372036854775807) : Ev (fun k => qbz.f k s) (plainB s) := plain_l0 s hs _ 0 rfl (Nat.zero_le _)
theorem plain_f (s : ByteArray) : qfa.f s = some (plainB s) := rfl
theorem up_bt (s : ByteArray) (i : Nat) (h : i < s.size) : upC s[i] = (decide (65 ≤ bt s (i : Int)) && decide (bt s (i : Int) ≤ 90)) := by
 unfold upC bt
 rw [dif_pos (by simpa using h)]
 simp only [Int.toNat_natCast]
 rw [Bool.eq_iff_iff]
 simp only [Bool.and_eq_true, decide_eq_true_iff]
 omega
theorem mon_l0 (s : ByteArray) (hs : s.size = 3) : ∀ (n i : Nat), s.size - i = n → i ≤ s.size → (∀ j, (hj : j < s.size) → j < i → upC s[j] = true) → Ev (fun k => qcg.l0 k s (i : Int)) (monB s) := by
 intro n
 induction n with
 | zero =>
  intro i hn hi hu
  obtain rfl : i = s.size := by omega
  refine Ev.step (fun k => qcg.l0.eq_2 _ _ k) ?_
  rw [mon_end (fun j hj => hu j hj hj), decide_eq_true hs]
  simp only [if_neg (show ¬ ((s.size : Int) < 3) by omega)]
  exact Ev.now _
 | succ n ih =>
  intro i hn hi hu
  have hil : i < s.size := by omega
  have hw := hw1 i (by omega)
  have hub := up_bt s i hil
  refine Ev.step (fun k => qcg.l0.eq_2 _ _ k) ?_
  simp only [if_pos (show ((i : Int) < 3) by omega), if_pos (show ((i : Int) < (s.size : Int)) by omega), if_pos (show (0 : Int) ≤ (i : Int) by omega), hw]
  by_cases h1 : bt s (i : Int) < 65
  ·simp only [if_pos h1]
   rw [mon_bad hil (by rw [hub, decide_eq_false (by omega), Bool.false_and])]
   exact Ev.now _
  ·simp only [if_neg h1]
   by_cases h2 : bt s (i : Int) > 90
   ·simp only [if_pos h2]
    rw [mon_bad hil (by rw [hub, decide_eq_false (show ¬ bt s (i : Int) ≤ 90 by omega), Bool.and_false])]
    exact Ev.now _
   ·simp only [if_neg h2]
    refine ih (i + 1) (by omega) (by omega) (fun j hj hji => ?_)
    by_cases e : j = i
    ·subst e
     rw [hub, decide_eq_true (by omega), decide_eq_true (by omega)]
     rfl
    ·exact hu j hj (by omega)
theorem mon_ev (s : ByteArray) : Ev (fun k => qcg.f k s) (monB s) := by
 unfold qcg.f
 by_cases h : s.size = 3
 ·simp only [if_pos (show (s.size : Int) = 3 by omega)]
  exact mon_l0 s h _ 0 rfl (Nat.zero_le _) (fun j _ hj => by omega)
 ·simp only [if_neg (show ¬ (s.size : Int) = 3 by omega)]
  rw [show monB s = false by unfold monB; rw [decide_eq_false h]; rfl]
  exact Ev.now _
def qhu (x : S109) : Int := if (!qhd x.f0 || (!optB x.f4 || !optB x.f5)) = true then 7 else if monB x.f1 = false then 13 else if (!ws x.f2 1000000000000 || !ws x.f3 1000000000000) = true then 4 else if x.f2 = 0 ∧ x.f3 = 0 then 2 else if qgz x.f6 = false then 14 else 0
def lineJ1 (b : Bool) (x : S109) : Int := if b = true then 4 else if x.f2 = 0 ∧ x.f3 = 0 then 2 else if qgz x.f6 = false then 14 else 0
def lineJ0 (b : Bool) (x : S109) : Int := if b = true then 7 else if monB x.f1 = false then 13 else lineJ1 (!ws x.f2 1000000000000 || !ws x.f3 1000000000000) x
theorem lineE_j0 (x : S109) : qhu x = lineJ0 (!qhd x.f0 || (!optB x.f4 || !optB x.f5)) x := rfl
theorem line_j2 (b : Bool) (x : S109) : Ev (fun k => qca.j2 k b x.f0 x.f1 x.f2 x.f3 x.f4 x.f5 x.f6) (if b = true then 2 else if qgz x.f6 = false then 14 else 0) := by
 refine Ev.step (fun k => qca.j2.eq_2 _ _ _ _ _ _ _ _ k) ?_
 cases b
 ·simp only [Bool.false_eq_true, if_false]
  refine Ev.bind (Right_ev x.f6) ?_
  cases qgz x.f6 <;> exact Ev.now _
 ·exact Ev.now _
theorem line_j1 (b : Bool) (x : S109) : Ev (fun k => qca.j1 k b x.f0 x.f1 x.f2 x.f3 x.f4 x.f5 x.f6) (lineJ1 b x) := by
 refine Ev.step (fun k => qca.j1.eq_2 _ _ _ _ _ _ _ _ k) ?_
 unfold lineJ1
 cases b
 ·simp only [Bool.false_eq_true, if_false]
  by_cases h2 : x.f2 = 0
  ·simp only [if_pos h2]
   have := line_j2 (x.f3 == 0) x
   by_cases h3 : x.f3 = 0
   ·rw [if_pos ⟨h2, h3⟩]
    rwa [show (x.f3 == 0) = true from beq_iff_eq.mpr h3, if_pos rfl, ← show (x.f3 == 0) = true from beq_iff_eq.mpr h3] at this
   ·rw [if_neg (fun h => h3 h.2)]
    rwa [if_neg (by simpa using h3)] at this
  ·simp only [if_neg h2]
   rw [if_neg (fun h => h2 h.1)]
   exact line_j2 false x
 ·exact Ev.now _
theorem line_j0 (b : Bool) (x : S109) (hm : x.f1.size ≤ maxLen) : Ev (fun k => qca.j0 k b x.f0 x.f1 x.f2 x.f3 x.f4 x.f5 x.f6) (lineJ0 b x) := by
 refine Ev.step (fun k => qca.j0.eq_2 _ _ _ _ _ _ _ _ k) ?_
 unfold lineJ0
 cases b
 ·simp only [Bool.false_eq_true, if_false]
  unfold qfy.f
  simp only [if_pos hm, Option.bind_some, (ws_f x.f2 1000000000000 (by omega) (by omega)).1, (ws_f x.f3 1000000000000 (by omega) (by omega)).1]
  cases monB x.f1
  ·exact Ev.now _
  ·simp only [if_true, Bool.true_eq_false, if_false]
   cases ws x.f2 1000000000000
   ·exact line_j1 true x
   ·simp only [if_true, Bool.not_true, Bool.false_or]
    exact line_j1 _ x
 ·exact Ev.now _
theorem line_ev (x : S109) (hm : x.f1.size ≤ maxLen) : Ev (fun k => qca.f k x.f0 x.f1 x.f2 x.f3 x.f4 x.f5 x.f6) (qhu x) := by
 rw [lineE_j0]
 unfold qca.f
 simp only [qio, opt_f, Option.bind_some]
 cases qhd x.f0
 ·exact line_j0 true x hm
 ·simp only [if_true, Bool.not_true, Bool.false_or]
  cases optB x.f4
  ·exact line_j0 true x hm
  ·simp only [if_true, Bool.not_true, Bool.false_or]
   exact line_j0 _ x hm
theorem rline_j2 (b : Bool) (x : S109) (hx : qkm x) : Ev (fun k => qbb.j2 k b x.f0 x.f1 x.f2 x.f3 x.f4 x.f5 x.f6) (if b = true then 2 else if qgz x.f6 = false then 14 else 0) := by
 refine Ev.step (fun k => qbb.j2.eq_2 _ _ _ _ _ _ _ _ k) ?_
 cases b
 ·simp only [Bool.false_eq_true, if_false]
  refine Ev.bind (qlx x.f6 hx.tl hx.ts) ?_
  cases qgz x.f6 <;> exact Ev.now _
 ·exact Ev.now _
theorem rline_j1 (b : Bool) (x : S109) (hx : qkm x) : Ev (fun k => qbb.j1 k b x.f0 x.f1 x.f2 x.f3 x.f4 x.f5 x.f6) (lineJ1 b x) := by
 refine Ev.step (fun k => qbb.j1.eq_2 _ _ _ _ _ _ _ _ k) ?_
 unfold lineJ1
 cases b
 ·simp only [Bool.false_eq_true, if_false]
  by_cases h2 : x.f2 = 0
  ·simp only [if_pos h2]
   have := rline_j2 (x.f3 == 0) x hx
   by_cases h3 : x.f3 = 0
   ·rw [if_pos ⟨h2, h3⟩]
    rwa [show (x.f3 == 0) = true from beq_iff_eq.mpr h3, if_pos rfl, ← show (x.f3 == 0) = true from beq_iff_eq.mpr h3] at this
   ·rw [if_neg (fun h => h3 h.2)]
    rwa [if_neg (by simpa using h3)] at this
  ·simp only [if_neg h2]
   rw [if_neg (fun h => h2 h.1)]
   exact rline_j2 false x hx
 ·exact Ev.now _
theorem rline_j0 (b : Bool) (x : S109) (hx : qkm x) : Ev (fun k => qbb.j0 k b x.f0 x.f1 x.f2 x.f3 x.f4 x.f5 x.f6) (lineJ0 b x) := by
 refine Ev.step (fun k => qbb.j0.eq_2 _ _ _ _ _ _ _ _ k) ?_
 unfold lineJ0
 cases b
 ·simp only [Bool.false_eq_true, if_false]
  refine Ev.bind (mon_ev x.f1) ?_
  simp only [Option.bind_some, (ws_f x.f2 1000000000000 (by omega) (by omega)).2, (ws_f x.f3 1000000000000 (by omega) (by omega)).2]
  cases monB x.f1
  ·exact Ev.now _
  ·simp only [if_true, Bool.true_eq_false, if_false]
   cases ws x.f2 1000000000000
   ·exact rline_j1 true x hx
   ·simp only [if_true, Bool.not_true, Bool.false_or]
    exact rline_j1 _ x hx
 ·exact Ev.now _
theorem rline_ev (x : S109) (hx : qkm x) : Ev (fun k => qbb.f k x.f0 x.f1 x.f2 x.f3 x.f4 x.f5 x.f6) (qhu x) := by
 rw [lineE_j0]
 unfold qbb.f
 refine Ev.bind (qgw _ hx.s0) ?_
 cases qhd x.f0
 ·exact rline_j0 true x hx
 ·simp only [if_true, Bool.not_true, Bool.false_or]
  refine Ev.bind (ropt_ev _ hx.s4) ?_
  cases optB x.f4
  ·exact rline_j0 true x hx
  ·simp only [if_true, Bool.not_true, Bool.false_or]
   refine Ev.bind (ropt_ev _ hx.s5) ?_
   exact rline_j0 _ x hx
def qns (b : Bool) (x : S29) : Int := if b = true then 10 else if plainB x.f5 = false then 5 else if x.f8.length < 2 then 2 else if x.f8.length > 100 then 9 else 0
def qnt (b : Bool) (x : S29) : Int := if b = true then 11 else qns (decide (x.f4 < 1 ∨ x.f4 > 7)) x
def qnu (b : Bool) (x : S29) : Int := if b = true then 7 else qnt (!dayB x.f2 || !dayB x.f3) x
def qnv (b : Bool) (x : S29) : Int := if b = true then 3 else qnu (!qhd x.f1 || !qhd x.f6) x
def qkz (x : S29) : Int := qnv (decide (x.f0 < 0 ∨ x.f0 > 4000 ∨ x.f7 < 0 ∨ x.f7 > 4000)) x
theorem isDay_ev' (n : Int) : Ev (fun k => qef.f k n) (dayB n) := isDay_ev n
theorem head_tail (x : S29) (b : Bool) : (if b = true then (if (x.f8.length : Int) < 2 then (some 2 : Option Int) else (if (x.f8.length : Int) > 100 then (some 9) else (some 0))) else some 5) = some (if b = false then 5 else if x.f8.length < 2 then 2 else if x.f8.length > 100 then 9 else 0) := by
 cases b
 ·rfl
 ·simp only [if_true, Bool.true_eq_false, if_false]
  by_cases h1 : x.f8.length < 2
  ·rw [if_pos (show (x.f8.length : Int) < 2 by omega), if_pos h1]
  ·rw [if_neg (show ¬ (x.f8.length : Int) < 2 by omega), if_neg h1]
   by_cases h2 : x.f8.length > 100
   ·rw [if_pos (show (x.f8.length : Int) > 100 by omega), if_pos h2]
   ·rw [if_neg (show ¬ (x.f8.length : Int) > 100 by omega), if_neg h2]
theorem head_j3 (b : Bool) (x : S29) : Ev (fun k => qbs.j3 k b x.f0 x.f1 x.f2 x.f3 x.f4 x.f5 x.f6 x.f7 x.f8) (qns b x) := by
 refine Ev.step (fun k => qbs.j3.eq_2 _ _ _ _ _ _ _ _ _ _ k) ?_
 unfold qns
 cases b
 ·simp only [Bool.false_eq_true, if_false, plain_f, Option.bind_some, head_tail]
  exact Ev.now _
 ·exact Ev.now _
theorem head_j2 (b : Bool) (x : S29) : Ev (fun k => qbs.j2 k b x.f0 x.f1 x.f2 x.f3 x.f4 x.f5 x.f6 x.f7 x.f8) (qnt b x) := by
 refine Ev.step (fun k => qbs.j2.eq_2 _ _ _ _ _ _ _ _ _ _ k) ?_
 unfold qnt
 cases b
 ·simp only [Bool.false_eq_true, if_false]
  by_cases h : x.f4 < 1
  ·simp only [if_pos h]
   rw [decide_eq_true (Or.inl h : x.f4 < 1 ∨ x.f4 > 7)]
   exact head_j3 true x
  ·simp only [if_neg h]
   rw [show decide (x.f4 < 1 ∨ x.f4 > 7) = decide (x.f4 > 7) from by rw [decide_eq_decide]; omega]
   exact head_j3 _ x
 ·exact Ev.now _
theorem head_j1 (b : Bool) (x : S29) : Ev (fun k => qbs.j1 k b x.f0 x.f1 x.f2 x.f3 x.f4 x.f5 x.f6 x.f7 x.f8) (qnu b x) := by
 refine Ev.step (fun k => qbs.j1.eq_2 _ _ _ _ _ _ _ _ _ _ k) ?_
 unfold qnu
 cases b
 ·simp only [Bool.false_eq_true, if_false]
  refine Ev.bind (isDay_ev' x.f2) ?_
  cases dayB x.f2
  ·exact head_j2 true x
  ·simp only [if_true, Bool.not_true, Bool.false_or]
   refine Ev.bind (isDay_ev' x.f3) ?_
   exact head_j2 _ x
 ·exact Ev.now _
theorem head_j0 (b : Bool) (x : S29) : Ev (fun k => qbs.j0 k b x.f0 x.f1 x.f2 x.f3 x.f4 x.f5 x.f6 x.f7 x.f8) (qnv b x) := by
 refine Ev.step (fun k => qbs.j0.eq_2 _ _ _ _ _ _ _ _ _ _ k) ?_
 unfold qnv
 cases b
 ·simp only [Bool.false_eq_true, if_false, qio, Option.bind_some]
  cases qhd x.f1
  ·exact head_j1 true x
  ·simp only [if_true, Bool.not_true, Bool.false_or]
   exact head_j1 _ x
 ·exact Ev.now _
theorem head_ev (x : S29) : Ev (fun k => qbs.f k x.f0 x.f1 x.f2 x.f3 x.f4 x.f5 x.f6 x.f7 x.f8) (qkz x) := by
 unfold qbs.f qkz
 by_cases h1 : x.f0 < 0
 ·simp only [if_pos h1]; rw [decide_eq_true (by omega)]; exact head_j0 true x
 simp only [if_neg h1]
 by_cases h2 : x.f0 > 4000
 ·simp only [if_pos h2]; rw [decide_eq_true (by omega)]; exact head_j0 true x
 simp only [if_neg h2]
 by_cases h3 : x.f7 < 0
 ·simp only [if_pos h3]; rw [decide_eq_true (by omega)]; exact head_j0 true x
 simp only [if_neg h3]
 rw [show decide (x.f0 < 0 ∨ x.f0 > 4000 ∨ x.f7 < 0 ∨ x.f7 > 4000) = decide (x.f7 > 4000) from by rw [decide_eq_decide]; omega]
 exact head_j0 _ x
theorem rday_f (n : Int) : qda.f n = some (dayB n) := by
 unfold qda.f dayB
 by_cases h : n ≥ 0
 ·rw [if_pos h]; congr 1; rw [decide_eq_decide]; omega
 ·rw [if_neg h]; congr 1; rw [eq_comm, decide_eq_false_iff_not]; omega
structure qgl (x : S29) : Prop where
 s1 : x.f1.size ≤ 9223372036854775807
 s5 : x.f5.size ≤ 9223372036854775807
 s6 : x.f6.size ≤ 9223372036854775807
 ln : ∀ y ∈ x.f8, qkm y
theorem rhead_j3 (b : Bool) (x : S29) (hx : qgl x) : Ev (fun k => qy.j3 k b x.f0 x.f1 x.f2 x.f3 x.f4 x.f5 x.f6 x.f7 x.f8) (qns b x) := by
 refine Ev.step (fun k => qy.j3.eq_2 _ _ _ _ _ _ _ _ _ _ k) ?_
 unfold qns
 cases b
 ·simp only [Bool.false_eq_true, if_false]
  refine Ev.bind (plain_ev x.f5 hx.s5) ?_
  simp only [head_tail]
  exact Ev.now _
 ·exact Ev.now _
theorem rhead_j2 (b : Bool) (x : S29) (hx : qgl x) : Ev (fun k => qy.j2 k b x.f0 x.f1 x.f2 x.f3 x.f4 x.f5 x.f6 x.f7 x.f8) (qnt b x) := by
 refine Ev.step (fun k => qy.j2.eq_2 _ _ _ _ _ _ _ _ _ _ k) ?_
 unfold qnt
 cases b
 ·simp only [Bool.false_eq_true, if_false]
  by_cases h : x.f4 < 1
  ·simp only [if_pos h]
   rw [decide_eq_true (Or.inl h : x.f4 < 1 ∨ x.f4 > 7)]
   exact rhead_j3 true x hx
  ·simp only [if_neg h]
   rw [show decide (x.f4 < 1 ∨ x.f4 > 7) = decide (x.f4 > 7) from by rw [decide_eq_decide]; omega]
   exact rhead_j3 _ x hx
 ·exact Ev.now _
theorem rhead_j1 (b : Bool) (x : S29) (hx : qgl x) : Ev (fun k => qy.j1 k b x.f0 x.f1 x.f2 x.f3 x.f4 x.f5 x.f6 x.f7 x.f8) (qnu b x) := by
 refine Ev.step (fun k => qy.j1.eq_2 _ _ _ _ _ _ _ _ _ _ k) ?_
 unfold qnu
 cases b
 ·simp only [Bool.false_eq_true, if_false, rday_f, Option.bind_some]
  cases dayB x.f2
  ·exact rhead_j2 true x hx
  ·simp only [if_true, Bool.not_true, Bool.false_or]
   exact rhead_j2 _ x hx
 ·exact Ev.now _
theorem qlf (b : Bool) (x : S29) (hx : qgl x) : Ev (fun k => qy.j0 k b x.f0 x.f1 x.f2 x.f3 x.f4 x.f5 x.f6 x.f7 x.f8) (qnv b x) := by
 refine Ev.step (fun k => qy.j0.eq_2 _ _ _ _ _ _ _ _ _ _ k) ?_
 unfold qnv
 cases b
 ·simp only [Bool.false_eq_true, if_false]
  refine Ev.bind (qgw _ hx.s1) ?_
  cases qhd x.f1
  ·exact rhead_j1 true x hx
  ·simp only [if_true, Bool.not_true, Bool.false_or]
   refine Ev.bind (qgw _ hx.s6) ?_
   exact rhead_j1 _ x hx
 ·exact Ev.now _
theorem rhead_ev (x : S29) (hx : qgl x) : Ev (fun k => qy.f k x.f0 x.f1 x.f2 x.f3 x.f4 x.f5 x.f6 x.f7 x.f8) (qkz x) := by
 unfold qy.f qkz
 by_cases h1 : x.f0 < 0
 ·simp only [if_pos h1]; rw [decide_eq_true (by omega)]; exact qlf true x hx
 simp only [if_neg h1]
 by_cases h2 : x.f0 > 4000
 ·simp only [if_pos h2]; rw [decide_eq_true (by omega)]; exact qlf true x hx
 simp only [if_neg h2]
 by_cases h3 : x.f7 < 0
 ·simp only [if_pos h3]; rw [decide_eq_true (by omega)]; exact qlf true x hx
 simp only [if_neg h3]
 rw [show decide (x.f0 < 0 ∨ x.f0 > 4000 ∨ x.f7 < 0 ∨ x.f7 > 4000) = decide (x.f7 > 4000) from by rw [decide_eq_decide]; omega]
 exact qlf _ x hx
def qht : Nat → List S109 → Option (Int × Int)
 | _, [] => none
 | i, y :: r => if qhu y = 0 then qht (i + 1) r else some ((i : Int), qhu y)
def chkE (x : S29) : Int × Int := if qkz x = 0 then (match qht 0 x.f8 with | some e => e | none => if balB x.f8 = true then (-1, 0) else (-1, 15)) else (-1, qkz x)
theorem qie {x : S29} (h : qkz x = 0) : 2 ≤ x.f8.length ∧ x.f8.length ≤ 100 ∧ qhd x.f1 = true ∧ qhd x.f6 = true ∧ dayB x.f2 = true ∧ dayB x.f3 = true := by
 unfold qkz qnv at h
 split at h
 ·omega
 unfold qnu at h
 split at h
 ·omega
 rename_i h1
 unfold qnt at h
 split at h
 ·omega
 rename_i h2
 unfold qns at h
 split at h
 ·omega
 split at h
 ·omega
 split at h
 ·omega
 split at h
 ·omega
 simp only [Bool.or_eq_true, Bool.not_eq_true', not_or, Bool.not_eq_false] at h1 h2
 exact ⟨by omega, by omega, h1.1, h1.2, h2.1, h2.2⟩
theorem line_ok {y : S109} (h : qhu y = 0) : qhd y.f0 = true ∧ optB y.f4 = true ∧ monB y.f1 = true ∧ ws y.f2 1000000000000 = true ∧ ws y.f3 1000000000000 = true ∧ qgz y.f6 = true := by
 unfold qhu at h
 split at h
 ·omega
 rename_i h1
 split at h
 ·omega
 rename_i h2
 split at h
 ·omega
 rename_i h3
 split at h
 ·omega
 split at h
 ·omega
 rename_i h5
 simp only [Bool.or_eq_true, Bool.not_eq_true', not_or, Bool.not_eq_false] at h1 h2 h3 h5
 exact ⟨h1.1, h1.2.1, h2, h3.1, h3.2, h5⟩
theorem qmg : ∀ {l : List S109} {i : Nat}, qht i l = none → ∀ y ∈ l, qhu y = 0
 | [], _, _, y, hy => by cases hy
 | z :: r, i, h, y, hy => by
  unfold qht at h
  split at h
  ·rename_i h0
   rcases List.mem_cons.1 hy with rfl | hy
   ·exact h0
   ·exact qmg h y hy
  ·cases h
theorem mon_size {s : ByteArray} (h : monB s = true) : s.size = 3 := by
 unfold monB at h
 simp only [Bool.and_eq_true, decide_eq_true_eq] at h
 exact h.1
theorem bal_f {l : List S109} (hl : l.length ≤ 100) (h : ∀ y ∈ l, qhu y = 0) : qel.f l = some (balB l) := by
 unfold qel.f
 rw [if_pos]
 refine ⟨by omega, fun x hx => ?_⟩
 obtain ⟨_, _, h1, h2, h3, _⟩ := line_ok (h x hx)
 unfold ws at h2 h3
 rw [decide_eq_true_eq] at h2 h3
 refine ⟨by rw [mon_size h1]; decide, ?_, ?_⟩ <;> unfold qdl <;> omega
theorem rd109 {l : List S109} {i : Nat} (h : i < l.length) : ql l (i : Int) = l[i] := by
 simp [ql, h]
def FitE (x : S29) : Prop := ∀ y ∈ x.f8, y.f1.size ≤ maxLen
theorem chk_l0 (x : S29) (hf : FitE x) (hl : x.f8.length ≤ 100) : ∀ (n i : Nat), x.f8.length - i = n → i ≤ x.f8.length → (∀ y ∈ x.f8.take i, qhu y = 0) → Ev (fun k => qde.l0 k x.f8 (x.f8.length : Int) (i : Int) x.f0 x.f1 x.f2 x.f3 x.f4 x.f5 x.f6 x.f7 x.f8) (match qht i (x.f8.drop i) with | some e => e | none => if balB x.f8 = true then (-1, 0) else (-1, 15)) := by
 intro n
 induction n with
 | zero =>
  intro i hn hi hz
  obtain rfl : i = x.f8.length := by omega
  refine Ev.step (fun k => qde.l0.eq_2 _ _ _ _ _ _ _ _ _ _ _ _ k) ?_
  rw [List.take_length] at hz
  simp only [if_neg (show ¬ ((x.f8.length : Int) < (x.f8.length : Int)) by omega), List.drop_length, qht, bal_f hl hz, Option.bind_some]
  cases balB x.f8 <;> exact Ev.now _
 | succ n ih =>
  intro i hn hi hz
  have hil : i < x.f8.length := by omega
  refine Ev.step (fun k => qde.l0.eq_2 _ _ _ _ _ _ _ _ _ _ _ _ k) ?_
  have hw := hw1 i (by omega)
  simp only [if_pos (show ((i : Int) < (x.f8.length : Int)) by omega), if_pos (show (0 : Int) ≤ (i : Int) by omega), hw, rd109 hil]
  refine Ev.bind (line_ev x.f8[i] (hf _ (List.getElem_mem _))) ?_
  rw [List.drop_eq_getElem_cons hil]
  unfold qht
  by_cases h0 : qhu x.f8[i] = 0
  ·simp only [if_pos h0]
   refine ih (i + 1) (by omega) (by omega) (fun y hy => ?_)
   rw [List.take_add_one, lge hil] at hy
   rcases List.mem_append.1 hy with hy | hy
   ·exact hz y hy
   ·simp at hy
    subst hy
    exact h0
  ·simp only [if_neg h0]
   exact Ev.now _
theorem qmp (x : S29) (hf : FitE x) : Ev (fun k => qde.f k x.f0 x.f1 x.f2 x.f3 x.f4 x.f5 x.f6 x.f7 x.f8) (chkE x) := by
 unfold qde.f chkE
 refine Ev.bind (head_ev x) ?_
 by_cases h : qkz x = 0
 ·simp only [if_pos h]
  exact chk_l0 x hf (qie h).2.1 _ 0 rfl (Nat.zero_le _) (fun y hy => by simp at hy)
 ·simp only [if_neg h]
  exact Ev.now _
end
end Go.Proofs.YtppcjoaghlecmaaDoor.P
namespace Go.Proofs.YtppcjoaghlecmaaDoor.Op
open Go.ChangeShapes Go.WideShapes Go.Deep
def FitL {α : Type} (f : α → Prop) (xs : List α) : Prop := xs.length ≤ reachBytes ∧ ∀ x ∈ xs, f x
def Opn (P : Program) (t : TypeId) {α : Type} (k : Kd α) (fit : α → Prop) : Prop :=
 ∀ {H : Type} {enc : TypeId × Value → H} {w : World} {fuel : Nat} {cs : List Value} {x : DataW H × List MemPlace}, DataW.trod enc P w 0 (fun _ => true) true fuel t cs = some x → (∀ n ∈ x.1.weights P t, n ≤ reachBytes) → ∃ y, k.K w y cs ∧ fit y
section
variable {P : Program}
theorem all_w {H : Type} {e : TypeId} {n : Nat} {d : DataW H} : ∀ {l : List (DataW H)}, d ∈ l → n ∈ d.weights P e → n ∈ DataW.weightsAll P e l
 | [], h, _ => by cases h
 | c :: r, h, hn => by
  simp only [DataW.weightsAll, List.mem_append]
  rcases List.mem_cons.1 h with rfl | h
  ·exact .inl hn
  ·exact .inr (all_w h hn)
theorem each_w {H : Type} {n : Nat} {d : DataW H} {t : TypeId} : ∀ {ts : List TypeId} {ds : List (DataW H)} {i : Nat}, ts[i]? = some t → ds[i]? = some d → n ∈ d.weights P t → n ∈ DataW.weightsEach P ts ds
 | [], _, i, h, _, _ => by simp at h
 | _ :: _, [], i, _, h, _ => by simp at h
 | t' :: ts, d' :: ds, 0, h1, h2, hn => by
  obtain rfl : t' = t := by simpa using h1
  obtain rfl : d' = d := by simpa using h2
  simp only [DataW.weightsEach, List.mem_append]
  exact .inl hn
 | t' :: ts, d' :: ds, i + 1, h1, h2, hn => by
  simp only [DataW.weightsEach, List.mem_append]
  exact .inr (each_w (i := i) (by simpa using h1) (by simpa using h2) hn)
theorem qft {H : Type} {t : TypeId} {fs : Array Field} {xs : List (DataW H × List MemPlace)} (ht : P.underlying t = some (.struct fs)) (hw : ∀ n ∈ (DataW.agg (xs.map (·.1))).weights P t, n ≤ reachBytes) {i : Nat} {f : Field} {y : DataW H × List MemPlace} (hf : fs[i]? = some f) (hy : xs[i]? = some y) : ∀ n ∈ y.1.weights P f.type, n ≤ reachBytes := by
 intro n hn
 refine hw n ?_
 simp only [DataW.weights, ht]
 refine each_w (i := i) (t := f.type) (d := y.1) ?_ ?_ hn
 ·rw [List.getElem?_map, Array.getElem?_toList, hf]; rfl
 ·rw [List.getElem?_map, hy]; rfl
theorem arg_w {H : Type} {ts : List TypeId} {ds : List (DataW H)} (h : (DataW.weightsEach P ts ds).all (· ≤ reachBytes) = true) (i : Nat) {t : TypeId} {d : DataW H} (h1 : ts[i]? = some t) (h2 : ds[i]? = some d) : ∀ n ∈ d.weights P t, n ≤ reachBytes := fun n hn => by
 exact of_decide_eq_true (List.all_eq_true.1 h n (each_w h1 h2 hn))
theorem qhm {t : TypeId} {k : IntKind} (ht : P.underlying t = some (.int k)) : Opn P t (Kd.int k) (fun n => (Lit.int k n).wf = true) := by
 intro H enc w fuel cs x h hw
 obtain ⟨n, rfl, _, hn⟩ := DataW.trod_int ht h
 exact ⟨n, rfl, hn⟩
theorem qfd {t : TypeId} (ht : P.underlying t = some .string) : Opn P t Kd.string (fun s => s.size ≤ reachBytes) := by
 intro H enc w fuel cs x h hw
 obtain ⟨s, rfl, hx, hs⟩ := DataW.trod_string ht h
 subst hx
 refine ⟨s, rfl, ?_⟩
 have := hw s.data.toList.length (by rw [DataW.weights]; exact List.mem_singleton_self _)
 rw [Array.length_toList] at this
 exact this
theorem qme {t e : TypeId} {α : Type} {d : Kd α} {f : α → Prop} (ht : P.underlying t = some (.slice e)) (hC : P.cellsOf e = d.sz) (hbo : Nat.blt 0 (P.bytesOf e) = true) (he : Opn P e d f) : Opn P t (Kd.slice e d) (FitL f) := by
 intro H enc w fuel cs x h hw
 rcases open_slice ht h with ⟨rfl, _⟩ | ⟨a, len, cap, m, n, D, Pl, rfl, hb, hl, hm, hmm, hx, hi⟩
 ·exact ⟨[], ⟨none, 0, rfl, Nat.le_refl _, ⟨rfl, by simp, fun h => by simp at h⟩⟩, by simp, fun x hx => by simp at hx⟩
 ·have hmc : m = cap := by rw [hmm]; simp
  subst hx
  have hmem : ∀ k, k < len → ∀ n ∈ (D k).weights P e, n ≤ reachBytes := fun k hk n hn => by
   refine hw n ?_
   simp only [DataW.weights, ht]
   refine List.mem_cons_of_mem _ (List.mem_append_left _ (all_w (d := D k) (List.mem_map.2 ⟨k, List.mem_range.2 hk, rfl⟩) hn))
  have hlr : len ≤ reachBytes := by
   have h1 := hw _ (by simp only [DataW.weights, ht]; exact List.mem_cons_self ..)
   simp only [List.length_map, List.length_range] at h1
   have h2 : 0 < P.bytesOf e := by simpa using hbo
   have h3 : (len + (m - len)) * 1 ≤ (len + (m - len)) * P.bytesOf e := Nat.mul_le_mul_left _ h2
   omega
  have build : ∀ k, k ≤ len → ∃ ys : List α, ys.length = k ∧ (∀ y ∈ ys, f y) ∧ ∀ i y, ys[i]? = some y → ∃ c, c.length = d.sz ∧ d.K w y c ∧ ∀ j u, c[j]? = some u → w.cell? (a.add (i * d.sz + j)) = some u := by
   intro k
   induction k with
   | zero => exact fun _ => ⟨[], rfl, fun y hy => by simp at hy, fun i y hy => by simp at hy⟩
   | succ k ih =>
    intro hk
    obtain ⟨ys, hyl, hyf, hyc⟩ := ih (by omega)
    obtain ⟨cs', hc, ht'⟩ := hi k (by omega)
    obtain ⟨y, K, fy⟩ := he ht' (hmem k (by omega))
    rw [hC] at hc
    obtain ⟨_, hcl, hat⟩ := World.cells?_some hc
    refine ⟨ys ++ [y], by simp [hyl], fun z hz => ?_, fun i z hz => ?_⟩
    ·rcases List.mem_append.1 hz with hz | hz
     ·exact hyf z hz
     ·rw [List.mem_singleton.1 hz]; exact fy
    ·rcases Nat.lt_or_ge i ys.length with hlt | hge
     ·rw [List.getElem?_append_left hlt] at hz
      exact hyc i z hz
     ·have hil : i = ys.length := by
       have := (List.getElem?_eq_some_iff.1 hz).1
       simp at this; omega
      subst hil
      obtain rfl : y = z := by simpa using hz
      refine ⟨cs', hcl, K, fun j u hu => ?_⟩
      have hj : j < d.sz := by have := (List.getElem?_eq_some_iff.1 hu).1; omega
      rw [← Go.Deep.add_add, hyl, hat j hj, hu]
  obtain ⟨ys, hyl, hyf, hyc⟩ := build len (Nat.le_refl _)
  have hml : maxLen ≤ 9223372036854775807 := by unfold maxLen; omega
  exact ⟨ys, ⟨some a, cap, by rw [hyl], by omega, by rw [hyl]; exact ⟨hyl, by omega, fun _ => ⟨a, rfl, hyc⟩⟩⟩, by omega, hyf⟩
theorem Opn.last {α : Type} {k : Kd α} {w : World} {y : α} {cs : List Value} {o s : Nat} (h : k.K w y ((cs.drop o).take s)) (hl : cs.length ≤ o + s) : k.K w y (cs.drop o) := by
 rwa [List.take_of_length_le (by simp; omega)] at h
theorem Opn.cons {α β : Type} {a : Kd α} {b : Kd β} {w : World} {x : α} {y : β} {cs : List Value} {o s : Nat} (h : a.K w x ((cs.drop o).take s)) (k : b.K w y (cs.drop (o + s))) : (Kd.pair a b).K w (x, y) (cs.drop o) :=
 ⟨_, _, (by rw [← List.drop_drop]; exact (List.take_append_drop s (cs.drop o)).symm), h, k⟩
theorem Opn.zero {α : Type} {k : Kd α} {w : World} {y : α} {cs : List Value} (h : k.K w y (cs.drop 0)) : k.K w y cs := h
theorem opened_slice {H : Type} {enc : TypeId × Value → H} {w : World} {t e : TypeId} {α : Type} {d : Kd α} {f : α → Prop} {A : Option Addr} {len cap : Nat} {dd : DataW H} {ps : List MemPlace} (ho : Opn P t (Kd.slice e d) (FitL f))
  (h : DataW.Trod enc P w 0 (fun _ => true) true t (.slice A len cap) dd ps) (hw : ∀ n ∈ dd.weights P t, n ≤ reachBytes) : ∃ l : List α, l.length = len ∧ l.length ≤ cap ∧ d.C w A l.length l ∧ FitL f l := by
 obtain ⟨fuel, hf⟩ := h
 obtain ⟨y, ⟨A', c, e1, hl, hC⟩, fy⟩ := ho hf hw
 have e2 : Value.slice A len cap = Value.slice A' y.length c := by simpa [Value.cells] using e1
 injection e2 with e3 e4 e5
 subst e3 e4 e5
 exact ⟨y, rfl, hl, hC, fy⟩
theorem opened_struct {H : Type} {enc : TypeId × Value → H} {w : World} {t : TypeId} {α : Type} {d : Kd α} {f : α → Prop} {cs : Array Value} {dd : DataW H} {ps : List MemPlace} (ho : Opn P t d f)
  (h : DataW.Trod enc P w 0 (fun _ => true) true t (.agg cs) dd ps) (hw : ∀ n ∈ dd.weights P t, n ≤ reachBytes) : ∃ y : α, d.K w y cs.toList ∧ f y := by
 obtain ⟨fuel, hf⟩ := h
 exact ho hf hw
end
end Go.Proofs.YtppcjoaghlecmaaDoor.Op
namespace Go.Proofs.YtppcjoaghlecmaaDoor.P
section
open Go.Proofs.YtppcjoaghlecmaaDoor.Op
def fit213 (x : S213) : Prop := (fun s => s.size ≤ reachBytes) x.f0 ∧ (fun s => s.size ≤ reachBytes) x.f1
theorem opn213 : Opn Tryd.prog 213 k213 fit213 := by
 intro H enc w fuel cs x h hw
 obtain ⟨xs, n, _, hxe, hlen, hxl, hg⟩ := DataW.trod_struct Tryd.underlying213 h
 subst hxe
 have hlen : cs.length = 2 := hlen.trans (by kernel_rfl)
 have g0 := (hg 0 _ rfl).trans (lge (show 0 < xs.length by rw [hxl]; decide))
 change DataW.trod _ _ _ _ _ _ _ 9 (List.take (Tryd.prog.cellsOf 9) (List.drop 0 cs)) = _ at g0
 rw [show Tryd.prog.cellsOf 9 = 1 by kernel_rfl] at g0
 obtain ⟨y0, K0, f0⟩ := (qfd Tryd.underlying9) g0 (qft Tryd.underlying213 hw (i := 0) rfl (lge (show 0 < xs.length by rw [hxl]; decide)))
 have g1 := (hg 1 _ rfl).trans (lge (show 1 < xs.length by rw [hxl]; decide))
 change DataW.trod _ _ _ _ _ _ _ 9 (List.take (Tryd.prog.cellsOf 9) (List.drop 1 cs)) = _ at g1
 rw [show Tryd.prog.cellsOf 9 = 1 by kernel_rfl] at g1
 obtain ⟨y1, K1, f1⟩ := (qfd Tryd.underlying9) g1 (qft Tryd.underlying213 hw (i := 1) rfl (lge (show 1 < xs.length by rw [hxl]; decide)))
 exact ⟨⟨y0, y1⟩, (show (Kd.pair Kd.string Kd.string).K w (y0, y1) cs from Opn.zero (Opn.cons K0 (Opn.last K1 (by omega)))), ⟨f0, f1⟩⟩
def fit109 (x : S109) : Prop := (fun s => s.size ≤ reachBytes) x.f0 ∧ (fun s => s.size ≤ reachBytes) x.f1 ∧ (fun n => (Lit.int .i64 n).wf = true) x.f2 ∧ (fun n => (Lit.int .i64 n).wf = true) x.f3 ∧ (fun s => s.size ≤ reachBytes) x.f4 ∧ (fun s => s.size ≤ reachBytes) x.f5 ∧ (FitL fit213) x.f6
theorem opn109 : Opn Tryd.prog 109 k109 fit109 := by
 intro H enc w fuel cs x h hw
 obtain ⟨xs, n, _, hxe, hlen, hxl, hg⟩ := DataW.trod_struct Tryd.underlying109 h
 subst hxe
 have hlen : cs.length = 7 := hlen.trans (by kernel_rfl)
 have g0 := (hg 0 _ rfl).trans (lge (show 0 < xs.length by rw [hxl]; decide))
 change DataW.trod _ _ _ _ _ _ _ 9 (List.take (Tryd.prog.cellsOf 9) (List.drop 0 cs)) = _ at g0
 rw [show Tryd.prog.cellsOf 9 = 1 by kernel_rfl] at g0
 obtain ⟨y0, K0, f0⟩ := (qfd Tryd.underlying9) g0 (qft Tryd.underlying109 hw (i := 0) rfl (lge (show 0 < xs.length by rw [hxl]; decide)))
 have g1 := (hg 1 _ rfl).trans (lge (show 1 < xs.length by rw [hxl]; decide))
 change DataW.trod _ _ _ _ _ _ _ 9 (List.take (Tryd.prog.cellsOf 9) (List.drop 1 cs)) = _ at g1
 rw [show Tryd.prog.cellsOf 9 = 1 by kernel_rfl] at g1
 obtain ⟨y1, K1, f1⟩ := (qfd Tryd.underlying9) g1 (qft Tryd.underlying109 hw (i := 1) rfl (lge (show 1 < xs.length by rw [hxl]; decide)))
 have g2 := (hg 2 _ rfl).trans (lge (show 2 < xs.length by rw [hxl]; decide))
 change DataW.trod _ _ _ _ _ _ _ 3 (List.take (Tryd.prog.cellsOf 3) (List.drop 2 cs)) = _ at g2
 rw [show Tryd.prog.cellsOf 3 = 1 by kernel_rfl] at g2
 obtain ⟨y2, K2, f2⟩ := (qhm Tryd.underlying3) g2 (qft Tryd.underlying109 hw (i := 2) rfl (lge (show 2 < xs.length by rw [hxl]; decide)))
 have g3 := (hg 3 _ rfl).trans (lge (show 3 < xs.length by rw [hxl]; decide))
 change DataW.trod _ _ _ _ _ _ _ 3 (List.take (Tryd.prog.cellsOf 3) (List.drop 3 cs)) = _ at g3
 rw [show Tryd.prog.cellsOf 3 = 1 by kernel_rfl] at g3
 obtain ⟨y3, K3, f3⟩ := (qhm Tryd.underlying3) g3 (qft Tryd.underlying109 hw (i := 3) rfl (lge (show 3 < xs.length by rw [hxl]; decide)))
 have g4 := (hg 4 _ rfl).trans (lge (show 4 < xs.length by rw [hxl]; decide))
 change DataW.trod _ _ _ _ _ _ _ 9 (List.take (Tryd.prog.cellsOf 9) (List.drop 4 cs)) = _ at g4
 rw [show Tryd.prog.cellsOf 9 = 1 by kernel_rfl] at g4
 obtain ⟨y4, K4, f4⟩ := (qfd Tryd.underlying9) g4 (qft Tryd.underlying109 hw (i := 4) rfl (lge (show 4 < xs.length by rw [hxl]; decide)))
 have g5 := (hg 5 _ rfl).trans (lge (show 5 < xs.length by rw [hxl]; decide))
 change DataW.trod _ _ _ _ _ _ _ 9 (List.take (Tryd.prog.cellsOf 9) (List.drop 5 cs)) = _ at g5
 rw [show Tryd.prog.cellsOf 9 = 1 by kernel_rfl] at g5
 obtain ⟨y5, K5, f5⟩ := (qfd Tryd.underlying9) g5 (qft Tryd.underlying109 hw (i := 5) rfl (lge (show 5 < xs.length by rw [hxl]; decide)))
 have g6 := (hg 6 _ rfl).trans (lge (show 6 < xs.length by rw [hxl]; decide))
 change DataW.trod _ _ _ _ _ _ _ 97 (List.take (Tryd.prog.cellsOf 97) (List.drop 6 cs)) = _ at g6
 rw [show Tryd.prog.cellsOf 97 = 1 by kernel_rfl] at g6
 obtain ⟨y6, K6, f6⟩ := (qme Tryd.underlying97 (by kernel_rfl) (by kernel_rfl) opn213) g6 (qft Tryd.underlying109 hw (i := 6) rfl (lge (show 6 < xs.length by rw [hxl]; decide)))
 exact ⟨⟨y0, y1, y2, y3, y4, y5, y6⟩, (show (Kd.pair Kd.string (Kd.pair Kd.string (Kd.pair (Kd.int .i64) (Kd.pair (Kd.int .i64) (Kd.pair Kd.string (Kd.pair Kd.string (Kd.slice 213 k213))))))).K w (y0, y1, y2, y3, y4, y5, y6) cs from Opn.zero (Opn.cons K0 (Opn.cons K1 (Opn.cons K2 (Opn.cons K3 (Opn.cons K4 (Opn.cons K5 (Opn.last K6 (by omega))))))))), ⟨f0, f1, f2, f3, f4, f5, f6⟩⟩
def fit29 (x : S29) : Prop := (fun n => (Lit.int .i64 n).wf = true) x.f0 ∧ (fun s => s.size ≤ reachBytes) x.f1 ∧ (fun n => (Lit.int .i64 n).wf = true) x.f2 ∧ (fun n => (Lit.int .i64 n).wf = true) x.f3 ∧ (fun n => (Lit.int .i64 n).wf = true) x.f4 ∧ (fun s => s.size ≤ reachBytes) x.f5 ∧ (fun s => s.size ≤ reachBytes) x.f6 ∧ (fun n => (Lit.int .i64 n).wf = true) x.f7 ∧ (FitL fit109) x.f8
theorem opn29 : Opn Tryd.prog 29 k29 fit29 := by
 intro H enc w fuel cs x h hw
 obtain ⟨xs, n, _, hxe, hlen, hxl, hg⟩ := DataW.trod_struct Tryd.underlying29 h
 subst hxe
 have hlen : cs.length = 9 := hlen.trans (by kernel_rfl)
 have g0 := (hg 0 _ rfl).trans (lge (show 0 < xs.length by rw [hxl]; decide))
 change DataW.trod _ _ _ _ _ _ _ 3 (List.take (Tryd.prog.cellsOf 3) (List.drop 0 cs)) = _ at g0
 rw [show Tryd.prog.cellsOf 3 = 1 by kernel_rfl] at g0
 obtain ⟨y0, K0, f0⟩ := (qhm Tryd.underlying3) g0 (qft Tryd.underlying29 hw (i := 0) rfl (lge (show 0 < xs.length by rw [hxl]; decide)))
 have g1 := (hg 1 _ rfl).trans (lge (show 1 < xs.length by rw [hxl]; decide))
 change DataW.trod _ _ _ _ _ _ _ 9 (List.take (Tryd.prog.cellsOf 9) (List.drop 1 cs)) = _ at g1
 rw [show Tryd.prog.cellsOf 9 = 1 by kernel_rfl] at g1
 obtain ⟨y1, K1, f1⟩ := (qfd Tryd.underlying9) g1 (qft Tryd.underlying29 hw (i := 1) rfl (lge (show 1 < xs.length by rw [hxl]; decide)))
 have g2 := (hg 2 _ rfl).trans (lge (show 2 < xs.length by rw [hxl]; decide))
 change DataW.trod _ _ _ _ _ _ _ 3 (List.take (Tryd.prog.cellsOf 3) (List.drop 2 cs)) = _ at g2
 rw [show Tryd.prog.cellsOf 3 = 1 by kernel_rfl] at g2
 obtain ⟨y2, K2, f2⟩ := (qhm Tryd.underlying3) g2 (qft Tryd.underlying29 hw (i := 2) rfl (lge (show 2 < xs.length by rw [hxl]; decide)))
 have g3 := (hg 3 _ rfl).trans (lge (show 3 < xs.length by rw [hxl]; decide))
 change DataW.trod _ _ _ _ _ _ _ 3 (List.take (Tryd.prog.cellsOf 3) (List.drop 3 cs)) = _ at g3
 rw [show Tryd.prog.cellsOf 3 = 1 by kernel_rfl] at g3
 obtain ⟨y3, K3, f3⟩ := (qhm Tryd.underlying3) g3 (qft Tryd.underlying29 hw (i := 3) rfl (lge (show 3 < xs.length by rw [hxl]; decide)))
 have g4 := (hg 4 _ rfl).trans (lge (show 4 < xs.length by rw [hxl]; decide))
 change DataW.trod _ _ _ _ _ _ _ 3 (List.take (Tryd.prog.cellsOf 3) (List.drop 4 cs)) = _ at g4
 rw [show Tryd.prog.cellsOf 3 = 1 by kernel_rfl] at g4
 obtain ⟨y4, K4, f4⟩ := (qhm Tryd.underlying3) g4 (qft Tryd.underlying29 hw (i := 4) rfl (lge (show 4 < xs.length by rw [hxl]; decide)))
 have g5 := (hg 5 _ rfl).trans (lge (show 5 < xs.length by rw [hxl]; decide))
 change DataW.trod _ _ _ _ _ _ _ 9 (List.take (Tryd.prog.cellsOf 9) (List.drop 5 cs)) = _ at g5
 rw [show Tryd.prog.cellsOf 9 = 1 by kernel_rfl] at g5
 obtain ⟨y5, K5, f5⟩ := (qfd Tryd.underlying9) g5 (qft Tryd.underlying29 hw (i := 5) rfl (lge (show 5 < xs.length by rw [hxl]; decide)))
 have g6 := (hg 6 _ rfl).trans (lge (show 6 < xs.length by rw [hxl]; decide))
 change DataW.trod _ _ _ _ _ _ _ 9 (List.take (Tryd.prog.cellsOf 9) (List.drop 6 cs)) = _ at g6
 rw [show Tryd.prog.cellsOf 9 = 1 by kernel_rfl] at g6
 obtain ⟨y6, K6, f6⟩ := (qfd Tryd.underlying9) g6 (qft Tryd.underlying29 hw (i := 6) rfl (lge (show 6 < xs.length by rw [hxl]; decide)))
 have g7 := (hg 7 _ rfl).trans (lge (show 7 < xs.length by rw [hxl]; decide))
 change DataW.trod _ _ _ _ _ _ _ 3 (List.take (Tryd.prog.cellsOf 3) (List.drop 7 cs)) = _ at g7
 rw [show Tryd.prog.cellsOf 3 = 1 by kernel_rfl] at g7
 obtain ⟨y7, K7, f7⟩ := (qhm Tryd.underlying3) g7 (qft Tryd.underlying29 hw (i := 7) rfl (lge (show 7 < xs.length by rw [hxl]; decide)))
 have g8 := (hg 8 _ rfl).trans (lge (show 8 < xs.length by rw [hxl]; decide))
 change DataW.trod _ _ _ _ _ _ _ 27 (List.take (Tryd.prog.cellsOf 27) (List.drop 8 cs)) = _ at g8
 rw [show Tryd.prog.cellsOf 27 = 1 by kernel_rfl] at g8
 obtain ⟨y8, K8, f8⟩ := (qme Tryd.underlying27 (by kernel_rfl) (by kernel_rfl) opn109) g8 (qft Tryd.underlying29 hw (i := 8) rfl (lge (show 8 < xs.length by rw [hxl]; decide)))
 exact ⟨⟨y0, y1, y2, y3, y4, y5, y6, y7, y8⟩, (show (Kd.pair (Kd.int .i64) (Kd.pair Kd.string (Kd.pair (Kd.int .i64) (Kd.pair (Kd.int .i64) (Kd.pair (Kd.int .i64) (Kd.pair Kd.string (Kd.pair Kd.string (Kd.pair (Kd.int .i64) (Kd.slice 109 k109))))))))).K w (y0, y1, y2, y3, y4, y5, y6, y7, y8) cs from Opn.zero (Opn.cons K0 (Opn.cons K1 (Opn.cons K2 (Opn.cons K3 (Opn.cons K4 (Opn.cons K5 (Opn.cons K6 (Opn.cons K7 (Opn.last K8 (by omega))))))))))), ⟨f0, f1, f2, f3, f4, f5, f6, f7, f8⟩⟩
def fit24 (x : S24) : Prop := (fun s => s.size ≤ reachBytes) x.f0 ∧ (fun n => (Lit.int .i64 n).wf = true) x.f1 ∧ (fun n => (Lit.int .i64 n).wf = true) x.f2 ∧ (fun n => (Lit.int .i64 n).wf = true) x.f3
theorem opn24 : Opn Tryd.prog 24 k24 fit24 := by
 intro H enc w fuel cs x h hw
 obtain ⟨xs, n, _, hxe, hlen, hxl, hg⟩ := DataW.trod_struct Tryd.underlying24 h
 subst hxe
 have hlen : cs.length = 4 := hlen.trans (by kernel_rfl)
 have g0 := (hg 0 _ rfl).trans (lge (show 0 < xs.length by rw [hxl]; decide))
 change DataW.trod _ _ _ _ _ _ _ 9 (List.take (Tryd.prog.cellsOf 9) (List.drop 0 cs)) = _ at g0
 rw [show Tryd.prog.cellsOf 9 = 1 by kernel_rfl] at g0
 obtain ⟨y0, K0, f0⟩ := (qfd Tryd.underlying9) g0 (qft Tryd.underlying24 hw (i := 0) rfl (lge (show 0 < xs.length by rw [hxl]; decide)))
 have g1 := (hg 1 _ rfl).trans (lge (show 1 < xs.length by rw [hxl]; decide))
 change DataW.trod _ _ _ _ _ _ _ 3 (List.take (Tryd.prog.cellsOf 3) (List.drop 1 cs)) = _ at g1
 rw [show Tryd.prog.cellsOf 3 = 1 by kernel_rfl] at g1
 obtain ⟨y1, K1, f1⟩ := (qhm Tryd.underlying3) g1 (qft Tryd.underlying24 hw (i := 1) rfl (lge (show 1 < xs.length by rw [hxl]; decide)))
 have g2 := (hg 2 _ rfl).trans (lge (show 2 < xs.length by rw [hxl]; decide))
 change DataW.trod _ _ _ _ _ _ _ 3 (List.take (Tryd.prog.cellsOf 3) (List.drop 2 cs)) = _ at g2
 rw [show Tryd.prog.cellsOf 3 = 1 by kernel_rfl] at g2
 obtain ⟨y2, K2, f2⟩ := (qhm Tryd.underlying3) g2 (qft Tryd.underlying24 hw (i := 2) rfl (lge (show 2 < xs.length by rw [hxl]; decide)))
 have g3 := (hg 3 _ rfl).trans (lge (show 3 < xs.length by rw [hxl]; decide))
 change DataW.trod _ _ _ _ _ _ _ 3 (List.take (Tryd.prog.cellsOf 3) (List.drop 3 cs)) = _ at g3
 rw [show Tryd.prog.cellsOf 3 = 1 by kernel_rfl] at g3
 obtain ⟨y3, K3, f3⟩ := (qhm Tryd.underlying3) g3 (qft Tryd.underlying24 hw (i := 3) rfl (lge (show 3 < xs.length by rw [hxl]; decide)))
 exact ⟨⟨y0, y1, y2, y3⟩, (show (Kd.pair Kd.string (Kd.pair (Kd.int .i64) (Kd.pair (Kd.int .i64) (Kd.int .i64)))).K w (y0, y1, y2, y3) cs from Opn.zero (Opn.cons K0 (Opn.cons K1 (Opn.cons K2 (Opn.last K3 (by omega)))))), ⟨f0, f1, f2, f3⟩⟩
structure S69 where
 f0 : Int
 f1 : List (S94)
 f2 : List (S106)
structure S79 where
 f0 : ByteArray
 f1 : ByteArray
 f2 : ByteArray
 f3 : Int
 f4 : Int
end
section
open Go.Sort Go.Proofs.YtppcjoaghlecmaaDoor.Op
theorem w64 {n : Int} (h1 : -9223372036854775808 ≤ n) (h2 : n ≤ 9223372036854775807) : wrap64 n = n := by unfold wrap64; omega
theorem rd_at {l : List Int} {i : Nat} (h : i < l.length) : rd l (i : Int) = l[i] := by simp [rd, h]
theorem qlg {l : List S112} {i : Nat} (h : i < l.length) : qx l (i : Int) = l[i] := by simp [qx, h]
theorem qki {l : List S40} {i : Nat} (h : i < l.length) : qbd l (i : Int) = l[i] := by simp [qbd, h]
theorem ba_beq (a b : ByteArray) : (a.toList == b.toList) = true ↔ a = b := by
 rw [beq_iff_eq]
 exact ⟨fun h => ByteArray.ext (Array.ext' (by rw [← ByteArray.toList_eq a, ← ByteArray.toList_eq b]; exact h)), fun h => by rw [h]⟩
theorem key_beq (x y : S40) : (x.f0.toList == y.f0.toList && (x.f1.toList == y.f1.toList && (x.f2.toList == y.f2.toList && (x.f3.toList == y.f3.toList && (x.f4.toList == y.f4.toList))))) = decide (cmpK x y = 0) := by
 rw [Bool.eq_iff_iff, decide_eq_true_iff]
 simp only [Bool.and_eq_true, ba_beq]
 constructor
 ·rintro ⟨h0, h1, h2, h3, h4⟩
  have e : x = y := by
   obtain ⟨a, b, c, d, e⟩ := x
   obtain ⟨a', b', c', d', e'⟩ := y
   rw [S40.mk.injEq]
   exact ⟨h0, h1, h2, h3, h4⟩
  rw [e]; exact qhx y
 ·intro h
  have e := qiv h
  subst e
  exact ⟨rfl, rfl, rfl, rfl, rfl⟩
theorem i64_low32 (n : Int) : bits .and .i64 n 4294967295 = n % 4294967296 := by
 have h : (BitVec.ofInt 64 4294967295).toNat = 2 ^ 32 - 1 := by decide
 have key : (BitVec.ofInt 64 n &&& BitVec.ofInt 64 4294967295).toNat = (n % ((2 ^ 64 : Nat) : Int)).toNat % 2 ^ 32 := by
  rw [BitVec.toNat_and, BitVec.toNat_ofInt, h, Nat.and_two_pow_sub_one_eq_mod]
 show IntKind.i64.wrap ((BitVec.ofInt 64 n &&& BitVec.ofInt 64 4294967295).toNat : Nat) = n % 4294967296
 rw [key, IntKind.wrap_i64]
 omega
theorem rsum_l0 (l : List Int) (hl : l.length ≤ 1000000) (hok : ∀ x ∈ l, qdl x) : ∀ (n i : Nat) (a b : Int), l.length - i = n → i ≤ l.length → a * 4294967296 + b = (l.take i).sum → -(2147483648 * (i : Int)) ≤ a → a ≤ 2147483648 * (i : Int) → 0 ≤ b → b ≤ 4294967296 * (i : Int) → Ev (fun k => qbp.l0 k l a b (i : Int)) (if qdl l.sum then (l.sum, true) else (0, false)) := by
 intro n
 induction n with
 | zero =>
  intro i a b hn hi he h1 h2 h3 h4
  rw [List.take_of_length_le (by omega)] at he
  have w1 : wrap64 (a + b / 4294967296) = a + b / 4294967296 := w64 (by omega) (by omega)
  refine Ev.step (fun k => qbp.l0.eq_2 _ _ _ _ k) ?_
  simp only [if_neg (show ¬ ((i : Int) < (l.length : Int)) by omega), w1, i64_low32]
  by_cases c1 : a + b / 4294967296 < -2147483648
  ·simp only [if_pos c1, if_neg (show ¬ qdl l.sum by unfold qdl; omega)]
   exact Ev.now _
  ·simp only [if_neg c1]
   by_cases c2 : a + b / 4294967296 > 2147483647
   ·simp only [if_pos c2, if_neg (show ¬ qdl l.sum by unfold qdl; omega)]
    exact Ev.now _
   ·simp only [if_neg c2, if_pos (show qdl l.sum by unfold qdl; omega)]
    have w2 : wrap64 (wrap64 ((a + b / 4294967296) * 4294967296) + b % 4294967296) = l.sum := by
     unfold wrap64
     omega
    rw [w2]
    exact Ev.now _
 | succ n ih =>
  intro i a b hn hi he h1 h2 h3 h4
  have hil : i < l.length := by omega
  have hv := hok _ (List.getElem_mem hil)
  unfold qdl at hv
  have hw : wrap64 ((i : Int) + 1) = ((i + 1 : Nat) : Int) := by rw [w64 (by omega) (by omega)]; omega
  have w1 : wrap64 (a + l[i] / 4294967296) = a + l[i] / 4294967296 := w64 (by omega) (by omega)
  have w2 : wrap64 (b + l[i] % 4294967296) = b + l[i] % 4294967296 := w64 (by omega) (by omega)
  refine Ev.step (fun k => qbp.l0.eq_2 _ _ _ _ k) ?_
  simp only [if_pos (show ((i : Int) < (l.length : Int)) by omega), if_pos (show (0 : Int) ≤ (i : Int) by omega), hw, rd_at hil, i64_low32, w1, w2]
  refine ih (i + 1) _ _ (by omega) (by omega) ?_ (by push_cast; omega) (by push_cast; omega) (by omega) (by push_cast; omega)
  have ht : l.take (i + 1) = l.take i ++ [l[i]] := by rw [List.take_add_one, lge hil]; rfl
  have e : (l.take (i + 1)).sum = (l.take i).sum + l[i] := by rw [ht, List.sum_append, List.sum_cons, List.sum_nil, Int.add_zero]
  rw [e]
  omega
theorem rsum_ev (l : List Int) (hl : l.length ≤ 1000000) (hok : ∀ x ∈ l, qdl x) : Ev (fun k => qbp.f k l) (if qdl l.sum then (l.sum, true) else (0, false)) :=
 rsum_l0 l hl hok _ 0 0 0 rfl (Nat.zero_le _) (by simp) (by simp) (by simp) (by simp) (by simp)
theorem fits_pure (n : Int) : qcb.f n = some (fitB n) := by
 unfold qcb.f fitB
 by_cases h : n ≥ -1000000000000000
 ·rw [if_pos h, decide_eq_true (show -1000000000000000 ≤ n from h)]; rfl
 ·rw [if_neg h, decide_eq_false (show ¬ -1000000000000000 ≤ n from h)]; rfl
end
section
theorem refc (a b : ByteArray) : qcu.f a b = some (cmpB a b) := by
 unfold qcu.f
 rw [cmpB_less]
 by_cases h1 : Op.bytesLess a.toList b.toList = true
 ·rw [if_pos h1, if_pos h1]
 ·rw [if_neg h1, if_neg h1]
  by_cases h2 : Op.bytesLess b.toList a.toList = true
  ·rw [if_pos h2, if_pos h2]
  ·rw [if_neg h2, if_neg h2]
theorem refCmp_pure (x y : S40) (k : Nat) : qch.f (k + 6) x.f0 x.f1 x.f2 x.f3 x.f4 y.f0 y.f1 y.f2 y.f3 y.f4 = some (cmpK x y) := by
 rw [cmpK_eq]
 unfold qch.f
 simp only [qch.l0, refc, Option.bind_some, rdOf, List.length_cons, List.length_nil]
 have w : ∀ i : Int, 0 ≤ i → i ≤ 5 → wrap64 (i + 1) = i + 1 := fun i h1 h2 => by unfold wrap64; omega
 by_cases h0 : cmpB x.f0 y.f0 = 0 <;> by_cases h1 : cmpB x.f1 y.f1 = 0 <;> by_cases h2 : cmpB x.f2 y.f2 = 0 <;> by_cases h3 : cmpB x.f3 y.f3 = 0 <;> by_cases h4 : cmpB x.f4 y.f4 = 0 <;> simp [h0, h1, h2, h3, h4, wrap64]
end
section
open Go.Sort
theorem insK_at (key : S40) : ∀ (out : List S40) (q : Nat), SS out → q ≤ out.length → (∀ j (h : j < out.length), q ≤ j → 0 < cmpK out[j] key) → (∀ h : q - 1 < out.length, 0 < q → cmpK out[q - 1] key ≤ 0) →
  insK key out = if 0 < q ∧ cmpK (qbd out ((q - 1 : Nat) : Int)) key = 0 then out else out.take q ++ key :: out.drop q
 | [], q, _, hq, _, _ => by
  have : q = 0 := by simpa using hq
  subst this
  simp [insK]
 | h :: t, 0, hs, hq, h1, _ => by
  have h0 := h1 0 (by simp) (Nat.le_refl _)
  simp only [List.getElem_cons_zero] at h0
  have := qim.sw h key
  unfold insK
  rw [if_pos (show cmpK key h < 0 by omega), if_neg (by omega)]
  rfl
 | h :: t, q + 1, hs, hq, h1, h2 => by
  have hs' := List.pairwise_cons.1 hs
  have hle : cmpK h key ≤ 0 := by
   have h3 := h2 (by simp at hq ⊢; omega) (by omega)
   cases q with
   | zero => simpa using h3
   | succ q =>
    have hq2 : q < t.length := by simp at hq; omega
    have e : (h :: t)[q + 1 + 1 - 1]'(by simp; omega) = t[q] := rfl
    rw [e] at h3
    have := qim.lt_le (hs'.1 t[q] (List.getElem_mem hq2)) h3
    omega
  have hsw := qim.sw h key
  unfold insK
  rw [if_neg (show ¬ cmpK key h < 0 by omega)]
  have ih := insK_at key t q hs'.2 (by simp at hq; omega) (fun j hj hqj => by
   have := h1 (j + 1) (by simp; omega) (by omega)
   simpa using this) (fun hj hq0 => by
   have := h2 (by simp; omega) (by omega)
   obtain ⟨p, rfl⟩ : ∃ p, q = p + 1 := ⟨q - 1, by omega⟩
   simpa using this)
  cases q with
  | zero =>
   have e : qbd (h :: t) ((0 + 1 - 1 : Nat) : Int) = h := rfl
   rw [e]
   by_cases hz : cmpK h key = 0
   ·rw [if_pos (show cmpK key h = 0 by omega), if_pos ⟨by omega, hz⟩]
   ·rw [if_neg (show ¬ cmpK key h = 0 by omega), if_neg (fun c => hz c.2), ih, if_neg (fun c => by omega)]
    rfl
  | succ q =>
   have hq2 : q < t.length := by simp at hq; omega
   have hlt : cmpK h key < 0 := by
    have h3 := h2 (by simp; omega) (by omega)
    have e : (h :: t)[q + 1 + 1 - 1]'(by simp; omega) = t[q] := rfl
    rw [e] at h3
    exact qim.lt_le (hs'.1 t[q] (List.getElem_mem hq2)) h3
   have e : qbd (h :: t) ((q + 1 + 1 - 1 : Nat) : Int) = qbd t ((q + 1 - 1 : Nat) : Int) := by
    show qbd (h :: t) ((q + 1 : Nat) : Int) = qbd t (q : Int)
    rw [qki (show q + 1 < (h :: t).length by simp; omega), qki hq2]
    rfl
   rw [if_neg (show ¬ cmpK key h = 0 by omega), ih, e]
   by_cases hz : cmpK (qbd t ((q + 1 - 1 : Nat) : Int)) key = 0
   ·rw [if_pos ⟨by omega, hz⟩, if_pos ⟨by omega, hz⟩]
   ·rw [if_neg (fun c => hz c.2), if_neg (fun c => hz c.2)]
    rfl
theorem mk32 (x : S40) : (⟨x.f0, x.f1, x.f2, x.f3, x.f4⟩ : S40) = x := rfl
theorem keys_l2 (l : List S112) (out : List S40) (i q : Nat) (r : List S40) (hi : i < l.length) (hl : l.length ≤ 1000000) (ho : out.length ≤ 1000000) (hq : q ≤ out.length)
  (hr : Ev (fun k => qj.l0 k l (out.take q ++ l[i].f0 :: out.drop q) ((i + 1 : Nat) : Int)) r) :
  ∀ (n j : Nat) (z : S40), j - q = n → q ≤ j → j ≤ out.length → Ev (fun k => qj.l2 k l (out.take j ++ z :: out.drop j) (i : Int) (q : Int) (j : Int)) r := by
 have hw1 : wrap64 ((i : Int) + 1) = ((i + 1 : Nat) : Int) := by rw [w64 (by omega) (by omega)]; omega
 intro n
 induction n with
 | zero =>
  intro j z hn hqj hj
  obtain rfl : q = j := by omega
  have hlen : (out.take q ++ z :: out.drop q).length = out.length + 1 := by simp; omega
  have hset : (out.take q ++ z :: out.drop q).set q l[i].f0 = out.take q ++ l[i].f0 :: out.drop q := by
   rw [List.set_append_right _ _ (by rw [List.length_take]; omega), List.length_take, Nat.min_eq_left hq, Nat.sub_self]
   rfl
  refine Ev.step (fun k => qj.l2.eq_2 _ _ _ _ _ k) ?_
  simp only [if_neg (show ¬ ((q : Int) > (q : Int)) by omega), if_pos (show (0 : Int) ≤ (i : Int) by omega), if_pos (show (i : Int) < (l.length : Int) by omega), if_pos (show (0 : Int) ≤ (q : Int) by omega), hlen, if_pos (show (q : Int) < ((out.length + 1 : Nat) : Int) by omega), Int.toNat_natCast, hw1, qlg hi, mk32, hset]
  exact hr
 | succ n ih =>
  intro j z hn hqj hj
  have hlen : (out.take j ++ z :: out.drop j).length = out.length + 1 := by simp; omega
  have hwj : wrap64 ((j : Int) - 1) = ((j - 1 : Nat) : Int) := by rw [w64 (by omega) (by omega)]; omega
  have hj1 : j - 1 < out.length := by omega
  have hrd : qbd (out.take j ++ z :: out.drop j) ((j - 1 : Nat) : Int) = out[j - 1] := by
   rw [qki (by rw [hlen]; omega), List.getElem_append_left (by rw [List.length_take]; omega), List.getElem_take]
  have ht : out.take j = out.take (j - 1) ++ [out[j - 1]] := by
   obtain ⟨p, rfl⟩ : ∃ p, j = p + 1 := ⟨j - 1, by omega⟩
   rw [List.take_add_one, lge (by omega)]
   rfl
  have hd : out.drop (j - 1) = out[j - 1] :: out.drop j := by
   rw [List.drop_eq_getElem_cons hj1, show j - 1 + 1 = j by omega]
  have hset : (out.take j ++ z :: out.drop j).set j out[j - 1] = out.take (j - 1) ++ out[j - 1] :: out.drop (j - 1) := by
   rw [List.set_append_right _ _ (by rw [List.length_take]; omega), List.length_take, Nat.min_eq_left hj, Nat.sub_self, hd, ht, List.append_assoc]
   rfl
  refine Ev.step (fun k => qj.l2.eq_2 _ _ _ _ _ k) ?_
  simp only [if_pos (show ((j : Int) > (q : Int)) by omega), hwj, hlen, if_pos (show (0 : Int) ≤ ((j - 1 : Nat) : Int) by omega), if_pos (show ((j - 1 : Nat) : Int) < ((out.length + 1 : Nat) : Int) by omega), if_pos (show (0 : Int) ≤ (j : Int) by omega), if_pos (show (j : Int) < ((out.length + 1 : Nat) : Int) by omega), Int.toNat_natCast, hrd, mk32, hset]
  exact ih (j - 1) _ (by omega) (by omega) (by omega)
theorem keys_j2 (l : List S112) (out : List S40) (i q : Nat) (r : List S40) (hi : i < l.length) (hl : l.length ≤ 1000000) (ho : out.length ≤ 1000000) (hq : q ≤ out.length) (hs : SS out)
  (h1 : ∀ j (h : j < out.length), q ≤ j → 0 < cmpK out[j] l[i].f0) (h2 : ∀ h : q - 1 < out.length, 0 < q → cmpK out[q - 1] l[i].f0 ≤ 0)
  (hr : Ev (fun k => qj.l0 k l (insK l[i].f0 out) ((i + 1 : Nat) : Int)) r) :
  Ev (fun k => qj.j2 k l out (i : Int) (q : Int)) r := by
 have hw1 : wrap64 ((i : Int) + 1) = ((i + 1 : Nat) : Int) := by rw [w64 (by omega) (by omega)]; omega
 rw [insK_at l[i].f0 out q hs hq h1 h2] at hr
 have new : ¬ (0 < q ∧ cmpK (qbd out ((q - 1 : Nat) : Int)) l[i].f0 = 0) → Ev (fun k => qj.j3 k l out (i : Int) (q : Int) false) r := by
  intro hn
  rw [if_neg hn] at hr
  refine Ev.step (fun k => qj.j3.eq_2 _ _ _ _ _ k) ?_
  simp only [Bool.false_eq_true, if_false, if_pos (show out.length < 1759218604441 by omega), Option.bind_some]
  have hwl : wrap64 (((out ++ [(⟨(⟨#[]⟩ : ByteArray), (⟨#[]⟩ : ByteArray), (⟨#[]⟩ : ByteArray), (⟨#[]⟩ : ByteArray), (⟨#[]⟩ : ByteArray)⟩ : S40)]).length : Int) - 1) = (out.length : Int) := by
   rw [w64 (by simp <;> omega) (by simp <;> omega)]; simp <;> omega
  simp only [hwl]
  have h0 := keys_l2 l out i q r hi hl ho hq hr _ out.length ⟨(⟨#[]⟩ : ByteArray), (⟨#[]⟩ : ByteArray), (⟨#[]⟩ : ByteArray), (⟨#[]⟩ : ByteArray), (⟨#[]⟩ : ByteArray)⟩ rfl hq (Nat.le_refl _)
  rw [List.take_length, List.drop_length] at h0
  exact h0
 refine Ev.step (fun k => qj.j2.eq_2 _ _ _ _ k) ?_
 by_cases hq0 : 0 < q
 ·have hwq : wrap64 ((q : Int) - 1) = ((q - 1 : Nat) : Int) := by rw [w64 (by omega) (by omega)]; omega
  simp only [if_pos (show (q : Int) > 0 by omega), hwq, if_pos (show (0 : Int) ≤ ((q - 1 : Nat) : Int) by omega), if_pos (show ((q - 1 : Nat) : Int) < (out.length : Int) by omega), if_pos (show (0 : Int) ≤ (i : Int) by omega), if_pos (show (i : Int) < (l.length : Int) by omega), key_beq, qlg hi]
  by_cases hz : cmpK (qbd out ((q - 1 : Nat) : Int)) l[i].f0 = 0
  ·rw [if_pos ⟨hq0, hz⟩] at hr
   simp only [hz, decide_true]
   refine Ev.step (fun k => qj.j3.eq_2 _ _ _ _ _ k) ?_
   simp only [if_true, hw1]
   exact hr
  ·simp only [hz, decide_false]
   exact new (fun c => hz c.2)
 ·simp only [if_neg (show ¬ (q : Int) > 0 by omega)]
  exact new (fun c => hq0 c.1)
theorem keys_l1 (l : List S112) (out : List S40) (i : Nat) (r : List S40) (hi : i < l.length) (hl : l.length ≤ 1000000) (ho : out.length ≤ 1000000) (hs : SS out)
  (hr : Ev (fun k => qj.l0 k l (insK l[i].f0 out) ((i + 1 : Nat) : Int)) r) :
  ∀ (q : Nat), q ≤ out.length → (∀ j (h : j < out.length), q ≤ j → 0 < cmpK out[j] l[i].f0) → Ev (fun k => qj.l1 k l out (i : Int) (q : Int)) r := by
 intro q
 induction q with
 | zero =>
  intro hq h1
  refine Ev.step (fun k => qj.l1.eq_2 _ _ _ _ k) ?_
  simp only [if_neg (show ¬ ((0 : Nat) : Int) > 0 by omega)]
  exact keys_j2 l out i 0 r hi hl ho hq hs h1 (fun _ h => absurd h (by omega)) hr
 | succ q ih =>
  intro hq h1
  have hwq : wrap64 (((q + 1 : Nat) : Int) - 1) = (q : Int) := by rw [w64 (by omega) (by omega)]; omega
  refine Ev.step (fun k => qj.l1.eq_2 _ _ _ _ k) ?_
  simp only [if_pos (show ((q + 1 : Nat) : Int) > 0 by omega), hwq, if_pos (show (0 : Int) ≤ (q : Int) by omega), if_pos (show (q : Int) < (out.length : Int) by omega), if_pos (show (0 : Int) ≤ (i : Int) by omega), if_pos (show (i : Int) < (l.length : Int) by omega), qlg hi, qki (show q < out.length by omega)]
  have hc : Ev (fun k => qch.f k out[q].f0 out[q].f1 out[q].f2 out[q].f3 out[q].f4 l[i].f0.f0 l[i].f0.f1 l[i].f0.f2 l[i].f0.f3 l[i].f0.f4) (cmpK out[q] l[i].f0) :=
   ⟨6, fun k hk => by obtain ⟨m, rfl⟩ : ∃ m, k = m + 6 := ⟨k - 6, by omega⟩; exact refCmp_pure _ _ m⟩
  refine Ev.bind hc ?_
  by_cases hz : cmpK out[q] l[i].f0 > 0
  ·simp only [if_pos hz]
   refine ih (by omega) (fun j hj hqj => ?_)
   rcases Nat.eq_or_lt_of_le hqj with h | h
   ·subst h; exact hz
   ·exact h1 j hj h
  ·simp only [if_neg hz]
   exact keys_j2 l out i (q + 1) r hi hl ho hq hs h1 (fun h _ => by
    show cmpK out[q] l[i].f0 ≤ 0
    omega) hr
theorem keysK_len (l : List S112) : (qff l).length ≤ l.length := by
 induction l with
 | nil => exact Nat.le_refl _
 | cons c r ih =>
  have h : ∀ (k : S40) (ks : List S40), (insK k ks).length ≤ ks.length + 1 := by
   intro k ks
   induction ks with
   | nil => exact Nat.le_refl _
   | cons a b ih =>
    unfold insK
    by_cases h1 : cmpK k a < 0
    ·rw [if_pos h1]; simp
    ·rw [if_neg h1]
     by_cases h2 : cmpK k a = 0
     ·rw [if_pos h2]; simp
     ·rw [if_neg h2]; simp only [List.length_cons]; omega
  have := h c.f0 (qff r)
  unfold qff
  simp only [List.length_cons]
  omega
theorem keys_l0 (l : List S112) (hl : l.length ≤ 1000000) : ∀ (n i : Nat), l.length - i = n → i ≤ l.length → Ev (fun k => qj.l0 k l (qff (l.take i)) (i : Int)) (qff l) := by
 intro n
 induction n with
 | zero =>
  intro i hn hi
  refine Ev.step (fun k => qj.l0.eq_2 _ _ _ k) ?_
  rw [List.take_of_length_le (by omega)]
  simp only [if_neg (show ¬ ((i : Int) < (l.length : Int)) by omega)]
  exact Ev.now _
 | succ n ih =>
  intro i hn hi
  have hil : i < l.length := by omega
  have hk := keysK_len (l.take i)
  rw [List.length_take] at hk
  refine Ev.step (fun k => qj.l0.eq_2 _ _ _ k) ?_
  simp only [if_pos (show ((i : Int) < (l.length : Int)) by omega)]
  refine keys_l1 l (qff (l.take i)) i _ hil hl (by omega) (qiz _) ?_ _ (Nat.le_refl _) (fun j hj h => absurd hj (by omega))
  have e : insK l[i].f0 (qff (l.take i)) = qff (l.take (i + 1)) := by
   rw [List.take_add_one, lge hil]
   exact (qnq (show (l.take i ++ [l[i]]).Perm (l[i] :: l.take i) from List.perm_append_comm)).symm
  rw [e]
  exact ih (i + 1) (by omega) (by omega)
theorem keys_ev (l : List S112) (hl : l.length ≤ 1000000) : Ev (fun k => qj.f k l) (qff l) :=
 keys_l0 l hl _ 0 rfl (Nat.zero_le _)
theorem of_l1 (l : List S112) (ks : List S40) (out : List S112) (i : Nat) (r : List S112 × Int) (hi : i < ks.length) (hk : ks.length ≤ 1000000) (hok : OkS l) (ho : out.length ≤ 1000000)
  (hr1 : (fitB (sumA l ks[i]) && fitB (sumB l ks[i])) = false → r = ([], 4))
  (hr2 : (fitB (sumA l ks[i]) && fitB (sumB l ks[i])) = true → Ev (fun k => qba.l0 k l (if sumA l ks[i] ≠ 0 ∨ sumB l ks[i] ≠ 0 then out ++ [⟨ks[i], sumA l ks[i], sumB l ks[i]⟩] else out) ks ((i + 1 : Nat) : Int)) r) :
  ∀ (n j : Nat), l.length - j = n → j ≤ l.length → Ev (fun k => qba.l1 k l out ks (i : Int) (amts ((l.take j).filter (eqK ks[i]))) (bass ((l.take j).filter (eqK ks[i]))) (j : Int)) r := by
 have hl := hok.1
 have hwi : wrap64 ((i : Int) + 1) = ((i + 1 : Nat) : Int) := by rw [w64 (by omega) (by omega)]; omega
 have len : ∀ j, ((l.take j).filter (eqK ks[i])).length ≤ 1000000 := fun j => by
  have h1 := List.length_filter_le (eqK ks[i]) (l.take j)
  rw [List.length_take] at h1
  omega
 have bad : r = ([], 4) → ∀ x y, Ev (fun k => qba.j2 k l out ks (i : Int) x y true) r := by
  rintro rfl x y
  refine Ev.step (fun k => qba.j2.eq_2 _ _ _ _ _ _ _ k) ?_
  simp only [if_true]
  exact Ev.now _
 intro n
 induction n with
 | zero =>
  intro j hn hj
  refine Ev.step (fun k => qba.l1.eq_2 _ _ _ _ _ _ _ k) ?_
  rw [List.take_of_length_le (by omega)]
  simp only [if_neg (show ¬ ((j : Int) < (l.length : Int)) by omega)]
  have hla : (l.filter (eqK ks[i])).length ≤ 1000000 := Nat.le_trans (List.length_filter_le _ _) hl
  refine Ev.bind (rsum_ev (amts (l.filter (eqK ks[i]))) (by unfold amts; rw [List.length_map]; exact hla) (fun x hx => by
   obtain ⟨c, hc, rfl⟩ := List.mem_map.1 hx
   exact (hok.2 c (List.mem_filter.1 hc).1).1)) ?_
  refine Ev.bind (rsum_ev (bass (l.filter (eqK ks[i]))) (by unfold bass; rw [List.length_map]; exact hla) (fun x hx => by
   obtain ⟨c, hc, rfl⟩ := List.mem_map.1 hx
   exact (hok.2 c (List.mem_filter.1 hc).1).2)) ?_
  change (fitB (amts (l.filter (eqK ks[i]))).sum && fitB (bass (l.filter (eqK ks[i]))).sum) = false → _ at hr1
  change (fitB (amts (l.filter (eqK ks[i]))).sum && fitB (bass (l.filter (eqK ks[i]))).sum) = true → Ev (fun k => qba.l0 k l (if (amts (l.filter (eqK ks[i]))).sum ≠ 0 ∨ (bass (l.filter (eqK ks[i]))).sum ≠ 0 then out ++ [⟨ks[i], (amts (l.filter (eqK ks[i]))).sum, (bass (l.filter (eqK ks[i]))).sum⟩] else out) ks ((i + 1 : Nat) : Int)) r at hr2
  generalize (amts (l.filter (eqK ks[i]))).sum = A at hr1 hr2 ⊢
  generalize (bass (l.filter (eqK ks[i]))).sum = B at hr1 hr2 ⊢
  have nf : ∀ {n : Int}, ¬ qdl n → fitB n = false := fun {n} h => by
   cases hf : fitB n with
   | false => rfl
   | true => exact absurd (fit_i64 hf) h
  by_cases ha : qdl A
  ·by_cases hb : qdl B
   ·simp only [if_pos ha, if_pos hb, if_true, fits_pure, Option.bind_some]
    cases hfa : fitB A with
    | false =>
     simp only [Bool.false_eq_true, if_false]
     exact bad (hr1 (by rw [hfa]; rfl)) _ _
    | true =>
     cases hfb : fitB B with
     | false =>
      simp only [if_true, Bool.not_false]
      exact bad (hr1 (by rw [hfb, Bool.and_false])) _ _
     | true =>
      have hr := hr2 (by rw [hfa, hfb]; rfl)
      simp only [if_true, Bool.not_true]
      refine Ev.step (fun k => qba.j2.eq_2 _ _ _ _ _ _ _ k) ?_
      simp only [Bool.false_eq_true, if_false, hwi, if_pos (show (0 : Int) ≤ (i : Int) by omega), if_pos (show (i : Int) < (ks.length : Int) by omega), if_pos (show out.length < 1466015503701 by omega), qki hi, mk32]
      by_cases ca : A = 0
      ·by_cases cb : B = 0
       ·simp only [if_pos ca, if_pos cb]
        rw [if_neg (by omega)] at hr
        exact hr
       ·simp only [if_pos ca, if_neg cb]
        rw [if_pos (by omega)] at hr
        exact hr
      ·simp only [if_neg ca]
       rw [if_pos (by omega)] at hr
       exact hr
   ·simp only [if_pos ha, if_neg hb, if_true, Bool.false_eq_true, if_false]
    exact bad (hr1 (by rw [nf hb, Bool.and_false])) _ _
  ·simp only [if_neg ha, Bool.false_eq_true, if_false]
   exact bad (hr1 (by rw [nf ha, Bool.false_and])) _ _
 | succ n ih =>
  intro j hn hj
  have hjl : j < l.length := by omega
  have hwj : wrap64 ((j : Int) + 1) = ((j + 1 : Nat) : Int) := by rw [w64 (by omega) (by omega)]; omega
  have ht : l.take (j + 1) = l.take j ++ [l[j]] := by rw [List.take_add_one, lge hjl]; rfl
  have la := len j
  refine Ev.step (fun k => qba.l1.eq_2 _ _ _ _ _ _ _ k) ?_
  simp only [if_pos (show ((j : Int) < (l.length : Int)) by omega), if_pos (show (0 : Int) ≤ (j : Int) by omega), if_pos (show (0 : Int) ≤ (i : Int) by omega), if_pos (show (i : Int) < (ks.length : Int) by omega), key_beq, qlg hjl, qki hi, hwj, decide_eq_true_eq, if_pos (show (amts ((l.take j).filter (eqK ks[i]))).length < 17592186044416 by unfold amts; rw [List.length_map]; omega), if_pos (show (bass ((l.take j).filter (eqK ks[i]))).length < 17592186044416 by unfold bass; rw [List.length_map]; omega)]
  have hsw := qim.sw l[j].f0 ks[i]
  have ih := ih (j + 1) (by omega) (by omega)
  rw [ht, List.filter_append] at ih
  by_cases hz : cmpK l[j].f0 ks[i] = 0
  ·have he : eqK ks[i] l[j] = true := by unfold eqK; exact decide_eq_true (by omega)
   simp only [if_pos hz]
   rw [List.filter_cons, if_pos he, List.filter_nil] at ih
   unfold amts bass at ih ⊢
   rw [List.map_append, List.map_append] at ih
   exact ih
  ·have he : ¬ eqK ks[i] l[j] = true := by unfold eqK; rw [decide_eq_true_iff]; omega
   simp only [if_neg hz]
   rw [List.filter_cons, if_neg he, List.filter_nil, List.append_nil] at ih
   exact ih
theorem refof_l0 (l : List S112) (ks : List S40) (hk : ks.length ≤ 1000000) (hok : OkS l) : ∀ (n i : Nat) (out : List S112), ks.length - i = n → i ≤ ks.length → out.length ≤ i → Ev (fun k => qba.l0 k l out ks (i : Int)) (if (qgd l (ks.drop i) out).1 = true then ((qgd l (ks.drop i) out).2, 0) else ([], 4)) := by
 intro n
 induction n with
 | zero =>
  intro i out hn hi ho
  refine Ev.step (fun k => qba.l0.eq_2 _ _ _ _ k) ?_
  rw [List.drop_of_length_le (by omega)]
  simp only [if_neg (show ¬ ((i : Int) < (ks.length : Int)) by omega), qgd, if_true]
  exact Ev.now _
 | succ n ih =>
  intro i out hn hi ho
  have hil : i < ks.length := by omega
  refine Ev.step (fun k => qba.l0.eq_2 _ _ _ _ k) ?_
  simp only [if_pos (show ((i : Int) < (ks.length : Int)) by omega)]
  rw [List.drop_eq_getElem_cons hil]
  unfold qgd
  refine of_l1 l ks out i _ hil hk hok (by omega) (fun h => ?_) (fun h => ?_) _ 0 rfl (Nat.zero_le _)
  ·rw [if_neg (by rw [h]; simp)]
  ·rw [if_pos h]
   refine ih (i + 1) _ (by omega) (by omega) ?_
   by_cases c : sumA l ks[i] ≠ 0 ∨ sumB l ks[i] ≠ 0
   ·rw [if_pos c, List.length_append]
    simp only [List.length_cons, List.length_nil]
    omega
   ·rw [if_neg c]; omega
theorem refof_ev (l : List S112) (h : OkS l) : Ev (fun k => qba.f k l) (ofK l) := by
 unfold qba.f
 refine Ev.bind (keys_ev l h.1) ?_
 have hk := keysK_len l
 have hl := h.1
 exact refof_l0 l (qff l) (by omega) h _ 0 [] rfl (Nat.zero_le _) (Nat.le_refl _)
end
section
theorem ofCur_take (l : List S109) (s : ByteArray) {i : Nat} (h : i < l.length) : qfz (l.take (i + 1)) s = qfz (l.take i) s ++ (if (l[i]).f1 = s then [l[i]] else []) := by
 rw [List.take_add_one, lge h]
 exact qjd _ _ _
theorem len_ofCur (l : List S109) (s : ByteArray) : (qfz l s).length ≤ l.length := List.length_filter_le _ _
theorem qlo : ∀ (l : List Int), (∀ x ∈ l, -1000000000000 ≤ x ∧ x ≤ 1000000000000) → -(1000000000000 * (l.length : Int)) ≤ l.sum ∧ l.sum ≤ 1000000000000 * (l.length : Int)
 | [], _ => by simp
 | x :: r, h => by
  have h1 := h x (by simp)
  have h2 := qlo r (fun y hy => h y (by simp [hy]))
  simp only [List.sum_cons, List.length_cons]
  omega
theorem ba_iff (a b : ByteArray) : a.toList = b.toList ↔ a = b := by
 constructor
 ·intro h
  have := (ba_beq a b).1 (by simp [h])
  exact this
 ·rintro rfl; rfl
def sumsB (l : List S109) (s : ByteArray) : Int × Int × Bool := (((qfz l s).map S109.f2).sum, ((qfz l s).map S109.f3).sum, true)
theorem line_bnd {y : S109} (h : qhu y = 0) : (-1000000000000 ≤ y.f2 ∧ y.f2 ≤ 1000000000000) ∧ -1000000000000 ≤ y.f3 ∧ y.f3 ≤ 1000000000000 := by
 obtain ⟨_, _, _, h2, h3, _⟩ := line_ok h
 unfold ws at h2 h3
 rw [decide_eq_true_eq] at h2 h3
 omega
theorem sums_l0 (l : List S109) (s : ByteArray) (hl : l.length ≤ 100) (h : ∀ y ∈ l, qhu y = 0) : ∀ (n i : Nat), l.length - i = n → i ≤ l.length → Ev (fun k => qby.l0 k l s ((qfz (l.take i) s).map S109.f2) ((qfz (l.take i) s).map S109.f3) (i : Int)) (sumsB l s) := by
 intro n
 induction n with
 | zero =>
  intro i hn hi
  obtain rfl : i = l.length := by omega
  refine Ev.step (fun k => qby.l0.eq_2 _ _ _ _ _ k) ?_
  simp only [if_neg (show ¬ ((l.length : Int) < (l.length : Int)) by omega), List.take_length]
  have hle := len_ofCur l s
  have hm : ∀ y ∈ qfz l s, qhu y = 0 := fun y hy => h y (List.mem_filter.1 hy).1
  have hA : ∀ x ∈ (qfz l s).map S109.f2, -1000000000000 ≤ x ∧ x ≤ 1000000000000 := fun x hx => by
   obtain ⟨y, hy, rfl⟩ := List.mem_map.1 hx
   exact (line_bnd (hm y hy)).1
  have hB : ∀ x ∈ (qfz l s).map S109.f3, -1000000000000 ≤ x ∧ x ≤ 1000000000000 := fun x hx => by
   obtain ⟨y, hy, rfl⟩ := List.mem_map.1 hx
   exact (line_bnd (hm y hy)).2
  have sA := qlo _ hA
  have sB := qlo _ hB
  rw [List.length_map] at sA sB
  have iA : qdl ((qfz l s).map S109.f2).sum := by unfold qdl; omega
  have iB : qdl ((qfz l s).map S109.f3).sum := by unfold qdl; omega
  have eA := rsum_ev ((qfz l s).map S109.f2) (by rw [List.length_map]; omega) (fun x hx => by have := hA x hx; unfold qdl; omega)
  have eB := rsum_ev ((qfz l s).map S109.f3) (by rw [List.length_map]; omega) (fun x hx => by have := hB x hx; unfold qdl; omega)
  rw [if_pos iA] at eA
  rw [if_pos iB] at eB
  refine Ev.bind eA (Ev.bind eB ?_)
  exact Ev.now _
 | succ n ih =>
  intro i hn hi
  have hil : i < l.length := by omega
  refine Ev.step (fun k => qby.l0.eq_2 _ _ _ _ _ k) ?_
  have hw := hw1 i (by omega)
  have hi' := ih (i + 1) (by omega) (by omega)
  have hle := len_ofCur (l.take i) s
  rw [List.length_take] at hle
  rw [ofCur_take l s hil] at hi'
  simp only [if_pos (show ((i : Int) < (l.length : Int)) by omega), if_pos (show (0 : Int) ≤ (i : Int) by omega), hw, rd109 hil]
  by_cases hs : (l[i]).f1 = s
  ·rw [if_pos hs] at hi'
   simp only [List.map_append, List.map_cons, List.map_nil] at hi'
   simp only [if_pos ((ba_iff _ _).2 hs), List.length_map, if_pos (show (qfz (l.take i) s).length < 17592186044416 by omega)]
   exact hi'
  ·rw [if_neg hs, List.append_nil] at hi'
   have hs' : ¬ (l[i]).f1.toList = s.toList := fun e => hs ((ba_iff _ _).1 e)
   simp only [if_neg hs']
   exact hi'
theorem sums_ev (l : List S109) (s : ByteArray) (hl : l.length ≤ 100) (h : ∀ y ∈ l, qhu y = 0) : Ev (fun k => qby.f k l s) (sumsB l s) := sums_l0 l s hl h _ 0 rfl (Nat.zero_le _)
def okS1 (l : List S109) (s : ByteArray) : Bool := decide (((qfz l s).map S109.f2).sum = 0 ∧ ((qfz l s).map S109.f3).sum = 0)
theorem rbal_l0 (l : List S109) (hl : l.length ≤ 100) (h : ∀ y ∈ l, qhu y = 0) (c : List ByteArray) (hc : c.length ≤ 100) : ∀ (n i : Nat), c.length - i = n → i ≤ c.length → Ev (fun k => qbr.l0 k l c (i : Int)) ((c.drop i).all (okS1 l)) := by
 intro n
 induction n with
 | zero =>
  intro i hn hi
  obtain rfl : i = c.length := by omega
  refine Ev.step (fun k => qbr.l0.eq_2 _ _ _ k) ?_
  simp only [if_neg (show ¬ ((c.length : Int) < (c.length : Int)) by omega), List.drop_length, List.all_nil]
  exact Ev.now _
 | succ n ih =>
  intro i hn hi
  have hil : i < c.length := by omega
  refine Ev.step (fun k => qbr.l0.eq_2 _ _ _ k) ?_
  have hw := hw1 i (by omega)
  have hr : rdOf ByteArray.empty c (i : Int) = c[i] := by simp [rdOf, hil]
  have hi' := ih (i + 1) (by omega) (by omega)
  simp only [if_pos (show ((i : Int) < (c.length : Int)) by omega), if_pos (show (0 : Int) ≤ (i : Int) by omega), hw, hr]
  refine Ev.bind (sums_ev l c[i] hl h) ?_
  rw [List.drop_eq_getElem_cons hil, List.all_cons]
  unfold sumsB okS1
  generalize (List.map S109.f2 (qfz l c[i])).sum = a
  generalize (List.map S109.f3 (qfz l c[i])).sum = b
  by_cases h1 : a = 0
  ·by_cases h2 : b = 0
   ·simp only [if_true, if_pos h1, if_pos h2]
    rw [decide_eq_true ⟨h1, h2⟩, Bool.true_and]
    exact hi'
   ·simp only [if_true, if_pos h1, if_neg h2]
    rw [decide_eq_false (fun e => h2 e.2), Bool.false_and]
    exact Ev.now _
  ·simp only [if_true, if_neg h1]
   rw [decide_eq_false (fun e => h1 e.1), Bool.false_and]
   exact Ev.now _
theorem rbal_ev (l : List S109) (hl : l.length ≤ 100) (h : ∀ y ∈ l, qhu y = 0) : Ev (fun k => qbr.f k l) (balB l) := by
 unfold qbr.f qdh.f
 simp only [if_pos (show l.length ≤ 1000000 by omega), Option.bind_some]
 have := rbal_l0 l hl h (curK l) (by have := curK_len l; omega) _ 0 rfl (Nat.zero_le _)
 have e : (curK l).all (okS1 l) = balB l := by
  rw [balB_eq, Bool.eq_iff_iff, List.all_eq_true, List.all_eq_true]
  constructor
  ·intro h1 x hx
   exact h1 x.f1 ((curK_mem x.f1 l).2 ⟨x, hx, rfl⟩)
  ·intro h1 c hc
   obtain ⟨x, hx, rfl⟩ := (curK_mem c l).1 hc
   exact h1 x hx
 rw [List.drop_zero, e] at this
 exact this
theorem rchk_l0 (x : S29) (hx : qgl x) (hl : x.f8.length ≤ 100) : ∀ (n i : Nat), x.f8.length - i = n → i ≤ x.f8.length → (∀ y ∈ x.f8.take i, qhu y = 0) → Ev (fun k => qcc.l0 k (i : Int) x.f0 x.f1 x.f2 x.f3 x.f4 x.f5 x.f6 x.f7 x.f8) (match qht i (x.f8.drop i) with | some e => e | none => if balB x.f8 = true then (-1, 0) else (-1, 15)) := by
 intro n
 induction n with
 | zero =>
  intro i hn hi hz
  obtain rfl : i = x.f8.length := by omega
  refine Ev.step (fun k => qcc.l0.eq_2 _ _ _ _ _ _ _ _ _ _ k) ?_
  rw [List.take_length] at hz
  simp only [if_neg (show ¬ ((x.f8.length : Int) < (x.f8.length : Int)) by omega), List.drop_length, qht]
  refine Ev.bind (rbal_ev x.f8 hl hz) ?_
  cases balB x.f8 <;> exact Ev.now _
 | succ n ih =>
  intro i hn hi hz
  have hil : i < x.f8.length := by omega
  refine Ev.step (fun k => qcc.l0.eq_2 _ _ _ _ _ _ _ _ _ _ k) ?_
  have hw := hw1 i (by omega)
  simp only [if_pos (show ((i : Int) < (x.f8.length : Int)) by omega), if_pos (show (0 : Int) ≤ (i : Int) by omega), hw, rd109 hil]
  refine Ev.bind (rline_ev x.f8[i] (hx.ln _ (List.getElem_mem _))) ?_
  rw [List.drop_eq_getElem_cons hil]
  unfold qht
  by_cases h0 : qhu x.f8[i] = 0
  ·simp only [if_pos h0]
   refine ih (i + 1) (by omega) (by omega) (fun y hy => ?_)
   rw [List.take_add_one, lge hil] at hy
   rcases List.mem_append.1 hy with hy | hy
   ·exact hz y hy
   ·simp at hy
    subst hy
    exact h0
  ·simp only [if_neg h0]
   exact Ev.now _
theorem rchk_ev (x : S29) (hx : qgl x) : Ev (fun k => qcc.f k x.f0 x.f1 x.f2 x.f3 x.f4 x.f5 x.f6 x.f7 x.f8) (chkE x) := by
 unfold qcc.f chkE
 refine Ev.bind (rhead_ev x hx) ?_
 by_cases h : qkz x = 0
 ·simp only [if_pos h]
  exact rchk_l0 x hx (qie h).2.1 _ 0 rfl (Nat.zero_le _) (fun y hy => by simp at hy)
 ·simp only [if_neg h]
  exact Ev.now _
def keyL (e : ByteArray) (y : S109) : S40 := ⟨e, y.f0, y.f1, y.f4, (textL y.f6).1⟩
def cellL (e : ByteArray) (y : S109) : S112 := ⟨keyL e y, y.f2, y.f3⟩
def rawL (x : S29) : List S112 := x.f8.map (cellL x.f1)
theorem raw_l0 (x : S29) (hl : x.f8.length ≤ 1000000) : ∀ (n i : Nat), x.f8.length - i = n → i ≤ x.f8.length → Ev (fun k => qdx.l0 k ((x.f8.take i).map (cellL x.f1)) x.f8 (x.f8.length : Int) (i : Int) x.f0 x.f1 x.f2 x.f3 x.f4 x.f5 x.f6 x.f7 x.f8) (rawL x) := by
 intro n
 induction n with
 | zero =>
  intro i hn hi
  obtain rfl : i = x.f8.length := by omega
  refine Ev.step (fun k => qdx.l0.eq_2 _ _ _ _ _ _ _ _ _ _ _ _ _ k) ?_
  simp only [if_neg (show ¬ ((x.f8.length : Int) < (x.f8.length : Int)) by omega), List.take_length]
  exact Ev.now _
 | succ n ih =>
  intro i hn hi
  have hil : i < x.f8.length := by omega
  refine Ev.step (fun k => qdx.l0.eq_2 _ _ _ _ _ _ _ _ _ _ _ _ _ k) ?_
  have hw := hw1 i (by omega)
  simp only [if_pos (show ((i : Int) < (x.f8.length : Int)) by omega), if_pos (show (0 : Int) ≤ (i : Int) by omega), hw, rd109 hil]
  refine Ev.bind (Text_ev _) ?_
  have hi' := ih (i + 1) (by omega) (by omega)
  rw [List.take_add_one, lge hil] at hi'
  simp only [List.map_append, Option.toList_some, List.map_cons, List.map_nil] at hi'
  simp only [List.length_map, List.length_take, if_pos (show min i x.f8.length < 1466015503701 by omega)]
  exact hi'
theorem raw_ev (x : S29) (hl : x.f8.length ≤ 1000000) : Ev (fun k => qdx.f k x.f0 x.f1 x.f2 x.f3 x.f4 x.f5 x.f6 x.f7 x.f8) (rawL x) := by
 unfold qdx.f
 simp only [if_pos hl]
 exact raw_l0 x hl _ 0 rfl (Nat.zero_le _)
theorem key_ev (e : ByteArray) (y : S109) (hy : qkm y) : Ev (fun k => qeg.f k e y.f0 y.f1 y.f2 y.f3 y.f4 y.f5 y.f6) ((keyL e y).f0, (keyL e y).f1, (keyL e y).f2, (keyL e y).f3, (keyL e y).f4) := by
 unfold qeg.f
 exact Ev.bind (refText_ev y.f6 hy.tl hy.ts) (Ev.now _)
theorem lines_l0 (x : S29) (hx : qgl x) (hl : x.f8.length ≤ 1000000) : ∀ (n i : Nat), x.f8.length - i = n → i ≤ x.f8.length → Ev (fun k => qbm.l0 k ((x.f8.take i).map (cellL x.f1)) (i : Int) x.f0 x.f1 x.f2 x.f3 x.f4 x.f5 x.f6 x.f7 x.f8) (rawL x) := by
 intro n
 induction n with
 | zero =>
  intro i hn hi
  obtain rfl : i = x.f8.length := by omega
  refine Ev.step (fun k => qbm.l0.eq_2 _ _ _ _ _ _ _ _ _ _ _ k) ?_
  simp only [if_neg (show ¬ ((x.f8.length : Int) < (x.f8.length : Int)) by omega), List.take_length]
  exact Ev.now _
 | succ n ih =>
  intro i hn hi
  have hil : i < x.f8.length := by omega
  refine Ev.step (fun k => qbm.l0.eq_2 _ _ _ _ _ _ _ _ _ _ _ k) ?_
  have hw := hw1 i (by omega)
  simp only [if_pos (show ((i : Int) < (x.f8.length : Int)) by omega), if_pos (show (0 : Int) ≤ (i : Int) by omega), hw, rd109 hil]
  refine Ev.bind (key_ev x.f1 x.f8[i] (hx.ln _ (List.getElem_mem _))) ?_
  have hi' := ih (i + 1) (by omega) (by omega)
  rw [List.take_add_one, lge hil] at hi'
  simp only [List.map_append, Option.toList_some, List.map_cons, List.map_nil] at hi'
  simp only [List.length_map, List.length_take, if_pos (show min i x.f8.length < 1466015503701 by omega)]
  exact hi'
theorem lines_ev (x : S29) (hx : qgl x) (hl : x.f8.length ≤ 1000000) : Ev (fun k => qbm.f k x.f0 x.f1 x.f2 x.f3 x.f4 x.f5 x.f6 x.f7 x.f8) (rawL x) := by
 unfold qbm.f
 exact lines_l0 x hx hl _ 0 rfl (Nat.zero_le _)
theorem qho {x : S29} (h : (chkE x).2 = 0) : qkz x = 0 ∧ (∀ y ∈ x.f8, qhu y = 0) ∧ balB x.f8 = true ∧ chkE x = (-1, 0) := by
 have h' := h
 unfold chkE at h'
 by_cases h0 : qkz x = 0
 ·rw [if_pos h0] at h'
  cases hL : qht 0 x.f8 with
  | some e =>
   rw [hL] at h'
   exfalso
   have aux : ∀ (l : List S109) (i : Nat) (e : Int × Int), qht i l = some e → e.2 ≠ 0 := by
    intro l
    induction l with
    | nil => intro i e he; cases he
    | cons z r ih =>
     intro i e he
     unfold qht at he
     split at he
     ·exact ih _ _ he
     ·rename_i hz
      cases he
      exact hz
   exact aux _ _ _ hL h'
  | none =>
   rw [hL] at h'
   by_cases hb : balB x.f8 = true
   ·refine ⟨h0, qmg hL, hb, ?_⟩
    unfold chkE
    rw [if_pos h0, hL]
    exact if_pos hb
   ·exfalso
    have : (if balB x.f8 = true then ((-1, 0) : Int × Int) else (-1, 15)).2 = 0 := h'
    rw [if_neg hb] at this
    exact absurd this (by decide)
 ·rw [if_neg h0] at h'
  exact absurd h' h0
end
end Go.Proofs.YtppcjoaghlecmaaDoor.P
