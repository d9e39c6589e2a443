/- Texts of mine and of the print, joined: RgtJ, Px39, Px3, PxI, Px45, Px46, Px47, HandU, HandQ, Px48. -/
import Derived.Test.YtmflggbpiadkjaaGc
import Derived.Test.YtmflggbpiadkjaaGa
import Derived.BigQuiet
import Derived.Test.YtmflggbpiadkjaaGb
import Derived.Test.YtmflggbpiadkjaaProg
import Derived.Below
import Derived.Deep.Draws
import Derived.WalkKit
import Derived.KernelRfl
import Derived.RowKit3
import Derived.Deep.LoopGhost
import Derived.Deep.QuietTactic
import Derived.WideLaws
import Derived.RowKit
import Derived.WalkMore
import Derived.Lib.Hide
import Derived.Laws.Strings
import Derived.Lib.OthersKept
import Derived.Laws.RangeAny
import Derived.Laws.RangeString
import Derived.Deep.RegionLaw
import Derived.Deep.RegionLawGrows
import Derived.Deep.AppendLies
import Derived.Deep.Slices
import Derived.Deep.Upon
import Derived.Deep.AppendSrc
import Derived.RegionTactic
import Derived.Carry
import Derived.Maps.OwnRows
import Derived.Maps.OwnSet
import Derived.Maps.Views
import Derived.DeepKeys3
import Derived.WideKeyEntry
import Derived.Maps.AppendAt
import Derived.Laws.AppendOwn
namespace Go.Proofs.Ytmflggbpiadkjaa.P
open Go.RowKit Go.Sort Go.Proofs.YtmflggbpiadkjaaW.PrintWords Go.Proofs.YtmflggbpiadkjaaW.PrintLast Go.Proofs.YtmflggbpiadkjaaW.PrintMore
set_option linter.unusedVariables false
set_option linter.unusedSimpArgs false
theorem bytes_lessc : ∀ (a b : List UInt8), Lib.compareBytes a b = if Op.bytesLess a b = true then -1 else if Op.bytesLess b a = true then 1 else 0
 | [], [] => rfl
 | [], _ :: _ => rfl
 | _ :: _, [] => rfl
 | x :: a, y :: b => by
  have ih := bytes_lessc a b
  unfold Lib.compareBytes Op.bytesLess
  by_cases h1 : x < y
  ·simp [h1]
  ·by_cases h2 : y < x
   ·have h3 : (x == y) = false := by
     rw [beq_eq_false_iff_ne]
     intro e
     subst e
     exact h1 h2
    simp [h1, h2, h3]
   ·have h3 : x = y := UInt8.le_antisymm (UInt8.not_lt.1 h2) (UInt8.not_lt.1 h1)
    subst h3
    simp [h1, ih]
theorem cmpB_less (a b : ByteArray) : cmpB a b = if Op.bytesLess a.toList b.toList = true then -1 else if Op.bytesLess b.toList a.toList = true then 1 else 0 := by
 rw [ByteArray.toList_eq, ByteArray.toList_eq]
 exact bytes_lessc _ _
theorem refcompare_calls (a b : ByteArray) (w : World) : Calls Try.prog 67 #[.string a, .string b] w fun e w' => e = .returned (.int .i64 (cmpB a b)) ∧ w' = w := by
 have H := cmpB_less a b
 by_cases c1 : Op.bytesLess a.toList b.toList = true
 ·rw [if_pos c1] at H
  have HH := Aside0.mk H
  clear H
  go_enter Try.func67, Try.ntmps67
  go_wp2
  go_ret
  exact ⟨by rw [HH.out]; rfl, rfl⟩
 ·rw [if_neg c1] at H
  have c1b : Op.bytesLess a.toList b.toList = false := by simpa using c1
  clear c1
  by_cases c2 : Op.bytesLess b.toList a.toList = true
  ·rw [if_pos c2] at H
   have HH := Aside0.mk H
   clear H
   go_enter Try.func67, Try.ntmps67
   go_wp2
   go_ret
   exact ⟨by rw [HH.out]; rfl, rfl⟩
  ·rw [if_neg c2] at H
   have c2b : Op.bytesLess b.toList a.toList = false := by simpa using c2
   have HH := Aside0.mk H
   clear H c2
   go_enter Try.func67, Try.ntmps67
   go_wp2
   go_ret
   exact ⟨by rw [HH.out]; rfl, rfl⟩
theorem fits_calls (n : Int) (w : World) : Calls Try.prog 59 #[.int .i64 n] w fun e w' => e = .returned (.bool (fitB n)) ∧ w' = w := by
 have HF := Aside0.mk (show fitB n = (decide (-1000000000000000 ≤ n) && decide (n ≤ 1000000000000000)) from rfl)
 by_cases h1 : -1000000000000000 ≤ n
 ·have d1 : decide (-1000000000000000 ≤ n) = true := decide_eq_true h1
  by_cases h2 : n ≤ 1000000000000000
  ·have d2 : decide (n ≤ 1000000000000000) = true := decide_eq_true h2
   rw [d1, d2] at HF
   go_enter Try.func59, Try.ntmps59
   go_wp2
   go_ret
   exact ⟨by rw [HF.out]; rfl, rfl⟩
  ·have d2 : decide (n ≤ 1000000000000000) = false := decide_eq_false h2
   rw [d1, d2] at HF
   go_enter Try.func59, Try.ntmps59
   go_wp2
   go_ret
   exact ⟨by rw [HF.out]; rfl, rfl⟩
 ·have d1 : decide (-1000000000000000 ≤ n) = false := decide_eq_false h1
  rw [d1] at HF
  go_enter Try.func59, Try.ntmps59
  go_wp2
  go_ret
  exact ⟨by rw [HF.out]; rfl, rfl⟩
theorem sl_cell {w : World} {b : Nat} {x : S32} (h : w.heap[b]? = some (.cells #[.string x.f0, .string x.f1, .string x.f2, .string x.f3, .string x.f4] 9 (0, 0))) {k : Nat} (hk : k < 5) : w.cell? ⟨b, k, none⟩ = some (.string (kfld x k)) := by
 refine (blk_cell h k).trans ?_
 rcases (by omega : k = 0 ∨ k = 1 ∨ k = 2 ∨ k = 3 ∨ k = 4) with rfl | rfl | rfl | rfl | rfl <;> rfl
set_option maxHeartbeats 4000000 in
set_option maxRecDepth 100000 in
theorem refcmp_calls (x y : S32) (w : World) : Calls Try.prog 30 #[.agg #[.string x.f0, .string x.f1, .string x.f2, .string x.f3, .string x.f4], .agg #[.string y.f0, .string y.f1, .string y.f2, .string y.f3, .string y.f4]] w fun e w' => e = .returned (.int .i64 (cmpK x y)) ∧ Grw w w' := by
 go_enter Try.func30, Try.ntmps30
 go_upto_region 3 with (fail)
 refine with_world (P := fun x => Code.wp _ _ _ _ x) _ ?_
 intro w1 hw1
 obtain ⟨g, hg⟩ : ∃ g, w.heap.size = g := ⟨_, rfl⟩
 have HB := Aside0.mk (show w1.heap[g + 2]? = some (.cells #[.string x.f0, .string x.f1, .string x.f2, .string x.f3, .string x.f4] 9 (0, 0)) from by
  rw [hw1, ← hg]
  exact blk_alloc (blk_newAt _ _ _ (by simp)) _)
 have HC := Aside0.mk (show w1.heap[g + 3]? = some (.cells #[.string y.f0, .string y.f1, .string y.f2, .string y.f3, .string y.f4] 9 (0, 0)) from by
  rw [hw1, ← hg]
  exact blk_newAt _ _ _ (by simp))
 have HG2 := Aside0.mk (show Grw w w1 from by rw [hw1]; exact ((((Grw.refl w).alloc _).alloc _).alloc _).alloc _)
 have e2 : w.heap.size + 1 + 1 = g + 2 := by omega
 have e3 : w.heap.size + 1 + 1 + 1 = g + 3 := by omega
 simp only [hg] at e2 e3 ⊢
 obtain ⟨b, hb⟩ : ∃ b, g + 2 = b := ⟨_, rfl⟩
 obtain ⟨c, hc⟩ : ∃ c, b + 1 = c := ⟨_, rfl⟩
 rw [hb] at HB
 rw [show g + 3 = c by omega] at HC
 simp only [hb, hc]
 clear hw1 e2 e3 hb hc hg
 have HE0 := Aside0.mk (show cmpL ((flds x y).drop 0) = cmpK x y from rfl)
 go_wp2
 go_loopw [7, 8, 31, 32, 33, 34, 35, 36, 37, 38, 39, 40, 41, 42, 43, 44, 45, 46] (fun v7 _ _ _ _ _ _ _ _ _ _ _ _ _ _ _ _ _ wr => ∃ k : Nat, k ≤ 5 ∧ v7 = .int .i64 k ∧ Aside0 (cmpL ((flds x y).drop k) = cmpK x y) ∧ Aside0 (wr.heap[b]? = some (.cells #[.string x.f0, .string x.f1, .string x.f2, .string x.f3, .string x.f4] 9 (0, 0))) ∧ Aside0 (wr.heap[c]? = some (.cells #[.string y.f0, .string y.f1, .string y.f2, .string y.f3, .string y.f4] 9 (0, 0))) ∧ Aside0 (Grw w wr)) (fun v7 _ _ _ _ _ _ _ _ _ _ _ _ _ _ _ _ _ _ => 5 - (intOf v7).toNat)
 case atStart => exact ⟨0, by omega, rfl, HE0, HB, HC, HG2⟩
 case round =>
  clear HE0 HB HC HG2
  obtain ⟨k, hk, rfl, HE, HB, HC, HG⟩ := hrel
  by_cases hlt : k < 5
  ·have d1 : decide ((k : Int) < 5) = true := decide_eq_true (by omega)
   have d2 : decide (k < 5) = true := decide_eq_true hlt
   have p0 : (0 : Int) ≤ (k : Int) := by omega
   have p1 : (k : Int) < 5 := by omega
   have hd := HE.out
   rw [flds_drop x y hlt] at hd
   have hd : (if cmpB (kfld x k) (kfld y k) = 0 then cmpL ((flds x y).drop (k + 1)) else cmpB (kfld x k) (kfld y k)) = cmpK x y := hd
   have qb : wr.cell? ⟨b, k, none⟩ = some (.string (kfld x k)) := sl_cell HB.out hlt
   have qc : wr.cell? ⟨c, k, none⟩ = some (.string (kfld y k)) := sl_cell HC.out hlt
   obtain ⟨u, hu⟩ : ∃ u, kfld x k = u := ⟨_, rfl⟩
   obtain ⟨v, hv⟩ : ∃ v, kfld y k = v := ⟨_, rfl⟩
   rw [hu] at hd qb
   rw [hv] at hd qc
   clear hu hv
   obtain ⟨z, hz⟩ : ∃ z, cmpB u v = z := ⟨_, rfl⟩
   rw [hz] at hd
   have HZ := Aside0.mk hz
   clear hz
   go_wp2
   go_quiet ((go_at_call 67; (refine (refcompare_calls u v _).mono ?_); rw [HZ.out]; rintro e_ w_ ⟨rfl, rfl⟩; exact ⟨rfl, _, rfl⟩))
   by_cases hz0 : z = 0
   ·have dz : (z != (0 : Int)) = false := bne_eq_false_iff_eq.mpr hz0
    rw [if_pos hz0] at hd
    have HD := Aside0.mk hd
    clear hd hz0
    go_wp2
    go_roundw
    case rel => exact ⟨k + 1, by omega, by go_num, HD, HB, HC, ⟨HG.out.drewN _⟩⟩
    case measure => simp [intOf]; omega
   ·have dz : (z != (0 : Int)) = true := bne_iff_ne.mpr hz0
    rw [if_neg hz0] at hd
    subst hd
    clear hz0
    go_wp2
    go_ret
    exact ⟨rfl, HG.out.drewN _⟩
  ·obtain rfl : k = 5 := by omega
   have hd : (0 : Int) = cmpK x y := HE.out
   have HD := Aside0.mk hd
   clear hd
   go_wp2
   go_ret
   exact ⟨congrArg (fun z => Ending.returned (Value.int .i64 z)) HD.out, HG.out⟩
end Go.Proofs.Ytmflggbpiadkjaa.P
/- The contracts of sheet.Right and accountingref19.Right. -/
namespace Go.Proofs.Ytmflggbpiadkjaa.P
open Go.RowKit Go.Sort Go.Proofs.YtmflggbpiadkjaaW.PrintWords Go.Proofs.YtmflggbpiadkjaaW.PrintLast Go.Proofs.YtmflggbpiadkjaaW.PrintMore
set_option linter.unusedVariables false
set_option linter.unusedSimpArgs false
def badC (x : S34) : Bool := (decide (x.f1 = 0) && decide (x.f2 = 0)) || !fitB x.f1 || !fitB x.f2
def badAt (l : List S34) (i : Nat) : Bool := badC (rd_T34 l (i : Int)) || (decide (0 < i) && decide (0 ≤ cmpK (rd_T34 l ((i - 1 : Nat) : Int)).f0 (rd_T34 l (i : Int)).f0))
/-- Is the list a sheet? -/
def rightB (l : List S34) : Bool := (List.range l.length).all (fun i => !badAt l i)
theorem right_bad {l : List S34} {k : Nat} (hk : k < l.length) (h : badAt l k = true) : rightB l = false := by
 unfold rightB
 rw [List.all_eq_false]
 exact ⟨k, List.mem_range.2 hk, by simp [h]⟩
theorem right_good {l : List S34} (h : ∀ j, j < l.length → badAt l j = false) : rightB l = true := by
 unfold rightB
 rw [List.all_eq_true]
 intro j hj
 rw [h j (List.mem_range.1 hj)]
 rfl
theorem far_grw (n : Int) {r : Bool} (h : fitB n = r) (w : World) : Calls Try.prog 60 #[.int .i64 n] w fun e w' => e = .returned (.bool (!r)) ∧ w' = w := by
 refine (far_calls n w).mono ?_
 rintro e w' ⟨rfl, rfl⟩
 exact ⟨by rw [h], rfl⟩
theorem fits_grw (n : Int) {r : Bool} (h : fitB n = r) (w : World) : Calls Try.prog 59 #[.int .i64 n] w fun e w' => e = .returned (.bool r) ∧ w' = w := by
 refine (fits_calls n w).mono ?_
 rintro e w' ⟨rfl, rfl⟩
 exact ⟨by rw [h], rfl⟩
end Go.Proofs.Ytmflggbpiadkjaa.P
/- The contracts of sheet.Right and accountingref19.Right. -/
namespace Go.Proofs.Ytmflggbpiadkjaa.P
open Go.RowKit Go.Sort Go.Proofs.YtmflggbpiadkjaaW.PrintWords Go.Proofs.YtmflggbpiadkjaaW.PrintLast Go.Proofs.YtmflggbpiadkjaaW.PrintMore
set_option linter.unusedVariables false
set_option linter.unusedSimpArgs false
set_option maxHeartbeats 4000000 in
set_option maxRecDepth 100000 in
theorem right_calls (A : Option Addr) (c : Nat) (l : List S34) (w : World) (h : Kd.C k34 w A l.length l) (hc : l.length ≤ c) :
  Calls Try.prog 22 #[.slice A l.length c] w fun e w' => e = .returned (.bool (rightB l)) ∧ Grw w w' := by
 have HC := Aside0.mk h
 obtain ⟨n, hn⟩ : ∃ n, l.length = n := ⟨_, rfl⟩
 have HMX := Aside0.mk (show n ≤ 9223372036854775807 from hn ▸ Kd.C_max h)
 have HN := Aside0.mk hn
 rw [hn] at hc HC ⊢
 clear h hn
 have HG0 := Aside0.mk (Grw.refl w)
 go_enter Try.func22, Try.ntmps22
 go_wp2
 go_loopw [3, 4, 7, 8, 9, 10, 11, 12, 13, 14, 15, 16, 17, 18, 19, 20, 21, 22, 23, 24, 25, 26, 27, 28, 29, 30, 31, 32, 33, 34, 35, 36, 37, 38, 39, 40, 41, 42, 43, 44, 45, 46] (fun _ _ v _ _ _ _ _ _ _ _ _ _ _ _ _ _ _ _ _ _ _ _ _ _ _ _ _ _ _ _ _ _ _ _ _ _ _ _ _ _ _ wr => ∃ k : Nat, k ≤ n ∧ v = .int .i64 k ∧ Aside0 (∀ j : Nat, j < k → badAt l j = false) ∧ Aside0 (Grw w wr)) (fun _ _ v _ _ _ _ _ _ _ _ _ _ _ _ _ _ _ _ _ _ _ _ _ _ _ _ _ _ _ _ _ _ _ _ _ _ _ _ _ _ _ _ => n - (intOf v).toNat)
 case atStart => exact ⟨0, Nat.zero_le _, rfl, ⟨fun j hj => absurd hj (Nat.not_lt_zero _)⟩, HG0⟩
 case round =>
  clear HG0
  obtain ⟨k, hk, rfl, HALL, HG⟩ := hrel
  by_cases hlt : k < n
  ·have d1 : decide ((k : Int) < (n : Int)) = true := decide_eq_true (by omega)
   have d2 : decide (k < n) = true := decide_eq_true hlt
   have K0 : (0 : Int) ≤ (k : Int) := by omega
   have K1 : (k : Int) < (n : Int) := by omega
   have hmx := HMX.out
   have HK := Aside0.mk (show k < l.length from by rw [HN.out]; exact hlt)
   obtain ⟨ad, e, x0, x1, x2, x3, x4, x5, x6⟩ := at_T34 (Kd.C_below HC.out HG.out.below) (k : Int) K0 K1
   rw [Int.toNat_natCast] at x0 x1 x2 x3 x4 x5 x6
   obtain ⟨x, hx⟩ : ∃ x, rd_T34 l (k : Int) = x := ⟨_, rfl⟩
   rw [hx] at x0 x1 x2 x3 x4 x5 x6
   subst e
   go_upto_region 4 with (fail)
   refine with_world (P := fun x => Code.wp _ _ _ _ x) _ ?_
   intro w2 hw2
   obtain ⟨b, hb⟩ : ∃ b, wr.heap.size = b := ⟨_, rfl⟩
   have BX := (show w2.heap[b]? = some (.cells #[.string x.f0.f0, .string x.f0.f1, .string x.f0.f2, .string x.f0.f3, .string x.f0.f4, .int .i64 x.f1, .int .i64 x.f2] 34 (0, 0)) from by rw [hw2, ← hb]; exact blk_new wr _)
   have HG2 := Aside0.mk (show Grw w w2 from by rw [hw2]; exact HG.out.alloc _)
   rw [hb]
   clear hw2 hb x0 x1 x2 x3 x4 x5 x6
   have x0 : w2.cell? ⟨b, 0, none⟩ = some (.string x.f0.f0) := (blk_cell BX 0).trans rfl
   have x1 : w2.cell? ⟨b, 1, none⟩ = some (.string x.f0.f1) := (blk_cell BX 1).trans rfl
   have x2 : w2.cell? ⟨b, 2, none⟩ = some (.string x.f0.f2) := (blk_cell BX 2).trans rfl
   have x3 : w2.cell? ⟨b, 3, none⟩ = some (.string x.f0.f3) := (blk_cell BX 3).trans rfl
   have x4 : w2.cell? ⟨b, 4, none⟩ = some (.string x.f0.f4) := (blk_cell BX 4).trans rfl
   have x5 : w2.cell? ⟨b, 5, none⟩ = some (.int .i64 x.f1) := (blk_cell BX 5).trans rfl
   have x6 : w2.cell? ⟨b, 6, none⟩ = some (.int .i64 x.f2) := (blk_cell BX 6).trans rfl
   clear BX HG
   have HC2 := Aside0.mk (Kd.C_below HC.out HG2.out.below)
   by_cases hA : x.f1 = 0
   ·have eA : (x.f1 == (0 : Int)) = true := by rw [hA]; rfl
    by_cases hB : x.f2 = 0
    ·have eB : (x.f2 == (0 : Int)) = true := by rw [hB]; rfl
     have HBAD := Aside0.mk (show badAt l k = true from by
      unfold badAt badC
      rw [hx]
      simp [hA, hB])
     clear hA hB
     go_region
     all_goals
      have HG5 := Aside0.mk (show Grw w w2.drew from HG2.out.drew)
      go_wp2
      go_ret
      exact ⟨by rw [right_bad HK.out HBAD.out]; rfl, HG5.out⟩
    ·have eB : (x.f2 == (0 : Int)) = false := beq_false_of_ne hB
     have HNZ := Aside0.mk (show ¬ (x.f1 = 0 ∧ x.f2 = 0) from fun h => hB h.2)
     clear hA hB
     have mixed : Try.prog.follows .mixedOrders = true := by kernel_rfl
     cases hf1 : fitB x.f1 with
     | false =>
      have HBAD := Aside0.mk (show badAt l k = true from by
       unfold badAt badC
       rw [hx]
       simp [hf1])
      have F1 : ∀ W, Calls Try.prog 60 #[.int .i64 x.f1] W fun e w' => e = .returned (.bool true) ∧ w' = W := fun W => far_grw x.f1 hf1 W
      clear hf1
      go_wp2
      go_quiet (first | (go_at_call 60; (with_reducible refine (F1 _).mono ?_); rintro e_ w_ ⟨rfl, rfl⟩; exact ⟨rfl, _, rfl⟩))
      have HG5 := Aside0.mk (show Grw w _ from HG2.out.drewN nq)
      all_goals
       go_wp2
       go_ret
       exact ⟨by rw [right_bad HK.out HBAD.out]; rfl, HG5.out⟩
     | true =>
      have F1 : ∀ W, Calls Try.prog 60 #[.int .i64 x.f1] W fun e w' => e = .returned (.bool false) ∧ w' = W := fun W => far_grw x.f1 hf1 W
      cases hf2 : fitB x.f2 with
      | false =>
       have HBAD := Aside0.mk (show badAt l k = true from by
        unfold badAt badC
        rw [hx]
        simp [hf2])
       have F2 : ∀ W, Calls Try.prog 60 #[.int .i64 x.f2] W fun e w' => e = .returned (.bool true) ∧ w' = W := fun W => far_grw x.f2 hf2 W
       clear hf1 hf2
       go_wp2
       go_quiet (first | (go_at_call 60; (with_reducible refine (F1 _).mono ?_); rintro e_ w_ ⟨rfl, rfl⟩; exact ⟨rfl, _, rfl⟩) | (go_at_call 60; (with_reducible refine (F2 _).mono ?_); rintro e_ w_ ⟨rfl, rfl⟩; exact ⟨rfl, _, rfl⟩))
       have HG5 := Aside0.mk (show Grw w _ from HG2.out.drewN nq)
       all_goals
        go_wp2
        go_ret
        exact ⟨by rw [right_bad HK.out HBAD.out]; rfl, HG5.out⟩
      | true =>
       have F2 : ∀ W, Calls Try.prog 60 #[.int .i64 x.f2] W fun e w' => e = .returned (.bool false) ∧ w' = W := fun W => far_grw x.f2 hf2 W
       by_cases h0 : k = 0
       ·have HBAD := Aside0.mk (show badAt l k = false from by
         unfold badAt badC
         rw [hx]
         have hnz := HNZ.out
         simp [hf1, hf2, h0]
         intro h1 h2
         exact hnz ⟨h1, h2⟩)
        have g0 : decide ((0 : Int) < (k : Int)) = false := decide_eq_false (by omega)
        have g0' : decide (0 < k) = false := decide_eq_false (by omega)
        clear hf1 hf2
        go_wp2
        go_quiet (first | (go_at_call 60; (with_reducible refine (F1 _).mono ?_); rintro e_ w_ ⟨rfl, rfl⟩; exact ⟨rfl, _, rfl⟩) | (go_at_call 60; (with_reducible refine (F2 _).mono ?_); rintro e_ w_ ⟨rfl, rfl⟩; exact ⟨rfl, _, rfl⟩))
        have HG5 := Aside0.mk (show Grw w _ from HG2.out.drewN nq)
        all_goals
         go_wp2
         go_roundw
         case rel =>
          refine ⟨k + 1, by omega, by go_num, ⟨fun j hj => ?_⟩, HG5⟩
          rcases Nat.lt_or_ge j k with h3 | h3
          ·exact HALL.out j h3
          ·obtain rfl : j = k := by omega
           exact HBAD.out
         case measure => simp [intOf]; omega
       ·obtain ⟨p, hp⟩ : ∃ p, k - 1 = p := ⟨_, rfl⟩
        have g0 : decide ((0 : Int) < (k : Int)) = true := decide_eq_true (by omega)
        have g0' : decide (0 < k) = true := decide_eq_true (by omega)
        have s1 : (k : Int) - 1 = (p : Int) := by omega
        have s2 : IntKind.i64.wrap ((k : Int) - 1) = (p : Int) := by rw [s1, IntKind.wrap_i64]; omega
        have s3 : IntKind.i64.wrap (p : Int) = (p : Int) := by rw [IntKind.wrap_i64]; omega
        have P0 : (0 : Int) ≤ (p : Int) := by omega
        have P1 : (p : Int) < (n : Int) := by omega
        obtain ⟨ad2, e2, y0, y1, y2, y3, y4, y5, y6⟩ := at_T34 HC2.out (p : Int) P0 P1
        cases e2
        rw [Int.toNat_natCast] at y0 y1 y2 y3 y4 y5 y6
        obtain ⟨y, hy⟩ : ∃ y, rd_T34 l (p : Int) = y := ⟨_, rfl⟩
        rw [hy] at y0 y1 y2 y3 y4
        clear y5 y6
        obtain ⟨z, hz⟩ : ∃ z, cmpK y.f0 x.f0 = z := ⟨_, rfl⟩
        have hcmp := cmp_calls y.f0 x.f0
        rw [hz] at hcmp
        by_cases hz0 : 0 ≤ z
        ·have HBAD := Aside0.mk (show badAt l k = true from by
          unfold badAt
          rw [hp, hx, hy, hz, decide_eq_true hz0, decide_eq_true (show 0 < k by omega)]
          simp)
         have dz : decide (0 ≤ z) = true := decide_eq_true hz0
         clear hf1 hf2 hz hy hp hz0
         have x0 := cell_all x0
         have x1 := cell_all x1
         have x2 := cell_all x2
         have x3 := cell_all x3
         have x4 := cell_all x4
         have x5 := cell_all x5
         have x6 := cell_all x6
         have y0 := cell_all y0
         have y1 := cell_all y1
         have y2 := cell_all y2
         have y3 := cell_all y3
         have y4 := cell_all y4
         have G1 : ∀ W, Calls Try.prog 60 #[.int .i64 x.f1] W fun e w' => e = .returned (.bool false) ∧ Grw W w' := fun W => (F1 W).mono (by rintro e w' ⟨rfl, rfl⟩; exact ⟨rfl, Grw.refl _⟩)
         have G2 : ∀ W, Calls Try.prog 60 #[.int .i64 x.f2] W fun e w' => e = .returned (.bool false) ∧ Grw W w' := fun W => (F2 W).mono (by rintro e w' ⟨rfl, rfl⟩; exact ⟨rfl, Grw.refl _⟩)
         go_wp2_with fail
         refine wp_region_quiet_grown (by assumption) (by kernel_rfl) ?_
         repeat (first | go_big_quiet_skip | quiet_step (first | (go_at_call 60; (with_reducible refine Calls.grown_of (G1 _))) | (go_at_call 60; (with_reducible refine Calls.grown_of (G2 _))) | (go_at_call 29; (with_reducible refine Calls.grown_of (hcmp _)))))
         refine wpQuiet_nil ?_
         intro _ hw'
         obtain ⟨⟨nq, osq⟩, hw''⟩ := hw'
         subst hw''
         have HG5 := Aside0.mk (show Grw w _ from HG2.out.trans ⟨nq, osq, rfl⟩)
         all_goals
          go_wp2
          go_ret
          exact ⟨by rw [right_bad HK.out HBAD.out]; rfl, HG5.out⟩
        ·have HBAD := Aside0.mk (show badAt l k = false from by
          unfold badAt badC
          rw [hp, hx, hy, hz, decide_eq_false hz0]
          have hnz := HNZ.out
          simp [hf1, hf2]
          intro h1 h2
          exact hnz ⟨h1, h2⟩)
         have dz : decide (0 ≤ z) = false := decide_eq_false hz0
         clear hf1 hf2 hz hy hp hz0
         have x0 := cell_all x0
         have x1 := cell_all x1
         have x2 := cell_all x2
         have x3 := cell_all x3
         have x4 := cell_all x4
         have x5 := cell_all x5
         have x6 := cell_all x6
         have y0 := cell_all y0
         have y1 := cell_all y1
         have y2 := cell_all y2
         have y3 := cell_all y3
         have y4 := cell_all y4
         have G1 : ∀ W, Calls Try.prog 60 #[.int .i64 x.f1] W fun e w' => e = .returned (.bool false) ∧ Grw W w' := fun W => (F1 W).mono (by rintro e w' ⟨rfl, rfl⟩; exact ⟨rfl, Grw.refl _⟩)
         have G2 : ∀ W, Calls Try.prog 60 #[.int .i64 x.f2] W fun e w' => e = .returned (.bool false) ∧ Grw W w' := fun W => (F2 W).mono (by rintro e w' ⟨rfl, rfl⟩; exact ⟨rfl, Grw.refl _⟩)
         go_wp2_with fail
         refine wp_region_quiet_grown (by assumption) (by kernel_rfl) ?_
         repeat (first | go_big_quiet_skip | quiet_step (first | (go_at_call 60; (with_reducible refine Calls.grown_of (G1 _))) | (go_at_call 60; (with_reducible refine Calls.grown_of (G2 _))) | (go_at_call 29; (with_reducible refine Calls.grown_of (hcmp _)))))
         refine wpQuiet_nil ?_
         intro _ hw'
         obtain ⟨⟨nq, osq⟩, hw''⟩ := hw'
         subst hw''
         have HG5 := Aside0.mk (show Grw w _ from HG2.out.trans ⟨nq, osq, rfl⟩)
         all_goals
          go_wp2
          go_roundw
          case rel =>
           refine ⟨k + 1, by omega, by go_num, ⟨fun j hj => ?_⟩, HG5⟩
           rcases Nat.lt_or_ge j k with h3 | h3
           ·exact HALL.out j h3
           ·obtain rfl : j = k := by omega
            exact HBAD.out
          case measure => simp [intOf]; omega
   ·have eA : (x.f1 == (0 : Int)) = false := beq_false_of_ne hA
    have HNZ := Aside0.mk (show ¬ (x.f1 = 0 ∧ x.f2 = 0) from fun h => hA h.1)
    clear hA
    have mixed : Try.prog.follows .mixedOrders = true := by kernel_rfl
    cases hf1 : fitB x.f1 with
    | false =>
     have HBAD := Aside0.mk (show badAt l k = true from by
      unfold badAt badC
      rw [hx]
      simp [hf1])
     have F1 : ∀ W, Calls Try.prog 60 #[.int .i64 x.f1] W fun e w' => e = .returned (.bool true) ∧ w' = W := fun W => far_grw x.f1 hf1 W
     clear hf1
     go_wp2
     go_quiet (first | (go_at_call 60; (with_reducible refine (F1 _).mono ?_); rintro e_ w_ ⟨rfl, rfl⟩; exact ⟨rfl, _, rfl⟩))
     have HG5 := Aside0.mk (show Grw w _ from HG2.out.drewN nq)
     all_goals
      go_wp2
      go_ret
      exact ⟨by rw [right_bad HK.out HBAD.out]; rfl, HG5.out⟩
    | true =>
     have F1 : ∀ W, Calls Try.prog 60 #[.int .i64 x.f1] W fun e w' => e = .returned (.bool false) ∧ w' = W := fun W => far_grw x.f1 hf1 W
     cases hf2 : fitB x.f2 with
     | false =>
      have HBAD := Aside0.mk (show badAt l k = true from by
       unfold badAt badC
       rw [hx]
       simp [hf2])
      have F2 : ∀ W, Calls Try.prog 60 #[.int .i64 x.f2] W fun e w' => e = .returned (.bool true) ∧ w' = W := fun W => far_grw x.f2 hf2 W
      clear hf1 hf2
      go_wp2
      go_quiet (first | (go_at_call 60; (with_reducible refine (F1 _).mono ?_); rintro e_ w_ ⟨rfl, rfl⟩; exact ⟨rfl, _, rfl⟩) | (go_at_call 60; (with_reducible refine (F2 _).mono ?_); rintro e_ w_ ⟨rfl, rfl⟩; exact ⟨rfl, _, rfl⟩))
      have HG5 := Aside0.mk (show Grw w _ from HG2.out.drewN nq)
      all_goals
       go_wp2
       go_ret
       exact ⟨by rw [right_bad HK.out HBAD.out]; rfl, HG5.out⟩
     | true =>
      have F2 : ∀ W, Calls Try.prog 60 #[.int .i64 x.f2] W fun e w' => e = .returned (.bool false) ∧ w' = W := fun W => far_grw x.f2 hf2 W
      by_cases h0 : k = 0
      ·have HBAD := Aside0.mk (show badAt l k = false from by
        unfold badAt badC
        rw [hx]
        have hnz := HNZ.out
        simp [hf1, hf2, h0]
        intro h1 h2
        exact hnz ⟨h1, h2⟩)
       have g0 : decide ((0 : Int) < (k : Int)) = false := decide_eq_false (by omega)
       have g0' : decide (0 < k) = false := decide_eq_false (by omega)
       clear hf1 hf2
       go_wp2
       go_quiet (first | (go_at_call 60; (with_reducible refine (F1 _).mono ?_); rintro e_ w_ ⟨rfl, rfl⟩; exact ⟨rfl, _, rfl⟩) | (go_at_call 60; (with_reducible refine (F2 _).mono ?_); rintro e_ w_ ⟨rfl, rfl⟩; exact ⟨rfl, _, rfl⟩))
       have HG5 := Aside0.mk (show Grw w _ from HG2.out.drewN nq)
       all_goals
        go_wp2
        go_roundw
        case rel =>
         refine ⟨k + 1, by omega, by go_num, ⟨fun j hj => ?_⟩, HG5⟩
         rcases Nat.lt_or_ge j k with h3 | h3
         ·exact HALL.out j h3
         ·obtain rfl : j = k := by omega
          exact HBAD.out
        case measure => simp [intOf]; omega
      ·obtain ⟨p, hp⟩ : ∃ p, k - 1 = p := ⟨_, rfl⟩
       have g0 : decide ((0 : Int) < (k : Int)) = true := decide_eq_true (by omega)
       have g0' : decide (0 < k) = true := decide_eq_true (by omega)
       have s1 : (k : Int) - 1 = (p : Int) := by omega
       have s2 : IntKind.i64.wrap ((k : Int) - 1) = (p : Int) := by rw [s1, IntKind.wrap_i64]; omega
       have s3 : IntKind.i64.wrap (p : Int) = (p : Int) := by rw [IntKind.wrap_i64]; omega
       have P0 : (0 : Int) ≤ (p : Int) := by omega
       have P1 : (p : Int) < (n : Int) := by omega
       obtain ⟨ad2, e2, y0, y1, y2, y3, y4, y5, y6⟩ := at_T34 HC2.out (p : Int) P0 P1
       cases e2
       rw [Int.toNat_natCast] at y0 y1 y2 y3 y4 y5 y6
       obtain ⟨y, hy⟩ : ∃ y, rd_T34 l (p : Int) = y := ⟨_, rfl⟩
       rw [hy] at y0 y1 y2 y3 y4
       clear y5 y6
       obtain ⟨z, hz⟩ : ∃ z, cmpK y.f0 x.f0 = z := ⟨_, rfl⟩
       have hcmp := cmp_calls y.f0 x.f0
       rw [hz] at hcmp
       by_cases hz0 : 0 ≤ z
       ·have HBAD := Aside0.mk (show badAt l k = true from by
         unfold badAt
         rw [hp, hx, hy, hz, decide_eq_true hz0, decide_eq_true (show 0 < k by omega)]
         simp)
        have dz : decide (0 ≤ z) = true := decide_eq_true hz0
        clear hf1 hf2 hz hy hp hz0
        have x0 := cell_all x0
        have x1 := cell_all x1
        have x2 := cell_all x2
        have x3 := cell_all x3
        have x4 := cell_all x4
        have x5 := cell_all x5
        have x6 := cell_all x6
        have y0 := cell_all y0
        have y1 := cell_all y1
        have y2 := cell_all y2
        have y3 := cell_all y3
        have y4 := cell_all y4
        have G1 : ∀ W, Calls Try.prog 60 #[.int .i64 x.f1] W fun e w' => e = .returned (.bool false) ∧ Grw W w' := fun W => (F1 W).mono (by rintro e w' ⟨rfl, rfl⟩; exact ⟨rfl, Grw.refl _⟩)
        have G2 : ∀ W, Calls Try.prog 60 #[.int .i64 x.f2] W fun e w' => e = .returned (.bool false) ∧ Grw W w' := fun W => (F2 W).mono (by rintro e w' ⟨rfl, rfl⟩; exact ⟨rfl, Grw.refl _⟩)
        go_wp2_with fail
        refine wp_region_quiet_grown (by assumption) (by kernel_rfl) ?_
        repeat (first | go_big_quiet_skip | quiet_step (first | (go_at_call 60; (with_reducible refine Calls.grown_of (G1 _))) | (go_at_call 60; (with_reducible refine Calls.grown_of (G2 _))) | (go_at_call 29; (with_reducible refine Calls.grown_of (hcmp _)))))
        refine wpQuiet_nil ?_
        intro _ hw'
        obtain ⟨⟨nq, osq⟩, hw''⟩ := hw'
        subst hw''
        have HG5 := Aside0.mk (show Grw w _ from HG2.out.trans ⟨nq, osq, rfl⟩)
        all_goals
         go_wp2
         go_ret
         exact ⟨by rw [right_bad HK.out HBAD.out]; rfl, HG5.out⟩
       ·have HBAD := Aside0.mk (show badAt l k = false from by
         unfold badAt badC
         rw [hp, hx, hy, hz, decide_eq_false hz0]
         have hnz := HNZ.out
         simp [hf1, hf2]
         intro h1 h2
         exact hnz ⟨h1, h2⟩)
        have dz : decide (0 ≤ z) = false := decide_eq_false hz0
        clear hf1 hf2 hz hy hp hz0
        have x0 := cell_all x0
        have x1 := cell_all x1
        have x2 := cell_all x2
        have x3 := cell_all x3
        have x4 := cell_all x4
        have x5 := cell_all x5
        have x6 := cell_all x6
        have y0 := cell_all y0
        have y1 := cell_all y1
        have y2 := cell_all y2
        have y3 := cell_all y3
        have y4 := cell_all y4
        have G1 : ∀ W, Calls Try.prog 60 #[.int .i64 x.f1] W fun e w' => e = .returned (.bool false) ∧ Grw W w' := fun W => (F1 W).mono (by rintro e w' ⟨rfl, rfl⟩; exact ⟨rfl, Grw.refl _⟩)
        have G2 : ∀ W, Calls Try.prog 60 #[.int .i64 x.f2] W fun e w' => e = .returned (.bool false) ∧ Grw W w' := fun W => (F2 W).mono (by rintro e w' ⟨rfl, rfl⟩; exact ⟨rfl, Grw.refl _⟩)
        go_wp2_with fail
        refine wp_region_quiet_grown (by assumption) (by kernel_rfl) ?_
        repeat (first | go_big_quiet_skip | quiet_step (first | (go_at_call 60; (with_reducible refine Calls.grown_of (G1 _))) | (go_at_call 60; (with_reducible refine Calls.grown_of (G2 _))) | (go_at_call 29; (with_reducible refine Calls.grown_of (hcmp _)))))
        refine wpQuiet_nil ?_
        intro _ hw'
        obtain ⟨⟨nq, osq⟩, hw''⟩ := hw'
        subst hw''
        have HG5 := Aside0.mk (show Grw w _ from HG2.out.trans ⟨nq, osq, rfl⟩)
        all_goals
         go_wp2
         go_roundw
         case rel =>
          refine ⟨k + 1, by omega, by go_num, ⟨fun j hj => ?_⟩, HG5⟩
          rcases Nat.lt_or_ge j k with h3 | h3
          ·exact HALL.out j h3
          ·obtain rfl : j = k := by omega
           exact HBAD.out
         case measure => simp [intOf]; omega
  ·obtain rfl : k = n := by omega
   have d1 : decide ((k : Int) < (k : Int)) = false := decide_eq_false (by omega)
   have d2 : decide (k < k) = false := decide_eq_false (by omega)
   have HR := Aside0.mk (right_good (l := l) (fun j hj => HALL.out j (by rw [HN.out] at hj; exact hj)))
   go_wp2
   go_ret
   exact ⟨by rw [HR.out]; rfl, HG.out⟩
end Go.Proofs.Ytmflggbpiadkjaa.P
/- The contracts of sheet.Right and accountingref19.Right. -/
namespace Go.Proofs.Ytmflggbpiadkjaa.P
open Go.RowKit Go.Sort Go.Proofs.YtmflggbpiadkjaaW.PrintWords Go.Proofs.YtmflggbpiadkjaaW.PrintLast Go.Proofs.YtmflggbpiadkjaaW.PrintMore
set_option linter.unusedVariables false
set_option linter.unusedSimpArgs false
set_option maxHeartbeats 4000000 in
set_option maxRecDepth 100000 in
theorem refright_calls (A : Option Addr) (c : Nat) (l : List S34) (w : World) (h : Kd.C k34 w A l.length l) (hc : l.length ≤ c) :
  Calls Try.prog 23 #[.slice A l.length c] w fun e w' => e = .returned (.bool (rightB l)) ∧ Grw w w' := by
 have HC := Aside0.mk h
 obtain ⟨n, hn⟩ : ∃ n, l.length = n := ⟨_, rfl⟩
 have HMX := Aside0.mk (show n ≤ 9223372036854775807 from hn ▸ Kd.C_max h)
 have HN := Aside0.mk hn
 rw [hn] at hc HC ⊢
 clear h hn
 have HG0 := Aside0.mk (Grw.refl w)
 go_enter Try.func23, Try.ntmps23
 go_wp2
 go_loopw [2, 3, 4, 5, 6, 7, 8, 9, 10, 11, 12, 13, 14, 15, 16, 17, 18, 19, 20, 21, 22, 23, 24, 25, 26, 27, 28, 29, 30, 31, 32, 33, 34, 35, 36, 37, 38, 39, 40, 41, 42, 43, 44, 45, 46, 47, 48, 49, 50, 51, 52, 53, 54, 55, 56, 57, 58, 59, 60] (fun _ v _ _ _ _ _ _ _ _ _ _ _ _ _ _ _ _ _ _ _ _ _ _ _ _ _ _ _ _ _ _ _ _ _ _ _ _ _ _ _ _ _ _ _ _ _ _ _ _ _ _ _ _ _ _ _ _ _ wr => ∃ k : Nat, k ≤ n ∧ v = .int .i64 k ∧ Aside0 (∀ j : Nat, j < k → badAt l j = false) ∧ Aside0 (Grw w wr)) (fun _ v _ _ _ _ _ _ _ _ _ _ _ _ _ _ _ _ _ _ _ _ _ _ _ _ _ _ _ _ _ _ _ _ _ _ _ _ _ _ _ _ _ _ _ _ _ _ _ _ _ _ _ _ _ _ _ _ _ _ => n - (intOf v).toNat)
 case atStart => exact ⟨0, Nat.zero_le _, rfl, ⟨fun j hj => absurd hj (Nat.not_lt_zero _)⟩, HG0⟩
 case round =>
  clear HG0
  obtain ⟨k, hk, rfl, HALL, HG⟩ := hrel
  by_cases hlt : k < n
  ·have d1 : decide ((k : Int) < (n : Int)) = true := decide_eq_true (by omega)
   have d2 : decide (k < n) = true := decide_eq_true hlt
   have K0 : (0 : Int) ≤ (k : Int) := by omega
   have K1 : (k : Int) < (n : Int) := by omega
   have hmx := HMX.out
   have HK := Aside0.mk (show k < l.length from by rw [HN.out]; exact hlt)
   obtain ⟨ad, e, x0, x1, x2, x3, x4, x5, x6⟩ := at_T34 (Kd.C_below HC.out HG.out.below) (k : Int) K0 K1
   rw [Int.toNat_natCast] at x0 x1 x2 x3 x4 x5 x6
   obtain ⟨x, hx⟩ : ∃ x, rd_T34 l (k : Int) = x := ⟨_, rfl⟩
   rw [hx] at x0 x1 x2 x3 x4 x5 x6
   subst e
   go_upto_region 4 with (fail)
   have HG2 := HG
   clear HG
   rename World => w2
   have HC2 := Aside0.mk (Kd.C_below HC.out HG2.out.below)
   by_cases hA : x.f1 = 0
   ·have eA : (x.f1 == (0 : Int)) = true := by rw [hA]; rfl
    by_cases hB : x.f2 = 0
    ·have eB : (x.f2 == (0 : Int)) = true := by rw [hB]; rfl
     have HBAD := Aside0.mk (show badAt l k = true from by
      unfold badAt badC
      rw [hx]
      simp [hA, hB])
     clear hA hB
     go_region
     all_goals
      have HG5 := Aside0.mk (show Grw w w2.drew from HG2.out.drew)
      go_wp2
      go_ret
      exact ⟨by rw [right_bad HK.out HBAD.out]; rfl, HG5.out⟩
    ·have eB : (x.f2 == (0 : Int)) = false := beq_false_of_ne hB
     have HNZ := Aside0.mk (show ¬ (x.f1 = 0 ∧ x.f2 = 0) from fun h => hB h.2)
     clear hA hB
     have mixed : Try.prog.follows .mixedOrders = true := by kernel_rfl
     cases hf1 : fitB x.f1 with
     | false =>
      have HBAD := Aside0.mk (show badAt l k = true from by
       unfold badAt badC
       rw [hx]
       simp [hf1])
      have F1 : ∀ W, Calls Try.prog 59 #[.int .i64 x.f1] W fun e w' => e = .returned (.bool false) ∧ w' = W := fun W => fits_grw x.f1 hf1 W
      clear hf1
      go_wp2
      go_quiet (first | (go_at_call 59; (with_reducible refine (F1 _).mono ?_); rintro e_ w_ ⟨rfl, rfl⟩; exact ⟨rfl, _, rfl⟩))
      have HG5 := Aside0.mk (show Grw w _ from HG2.out.drewN nq)
      all_goals
       go_wp2
       go_ret
       exact ⟨by rw [right_bad HK.out HBAD.out]; rfl, HG5.out⟩
     | true =>
      have F1 : ∀ W, Calls Try.prog 59 #[.int .i64 x.f1] W fun e w' => e = .returned (.bool true) ∧ w' = W := fun W => fits_grw x.f1 hf1 W
      cases hf2 : fitB x.f2 with
      | false =>
       have HBAD := Aside0.mk (show badAt l k = true from by
        unfold badAt badC
        rw [hx]
        simp [hf2])
       have F2 : ∀ W, Calls Try.prog 59 #[.int .i64 x.f2] W fun e w' => e = .returned (.bool false) ∧ w' = W := fun W => fits_grw x.f2 hf2 W
       clear hf1 hf2
       go_wp2
       go_quiet (first | (go_at_call 59; (with_reducible refine (F1 _).mono ?_); rintro e_ w_ ⟨rfl, rfl⟩; exact ⟨rfl, _, rfl⟩) | (go_at_call 59; (with_reducible refine (F2 _).mono ?_); rintro e_ w_ ⟨rfl, rfl⟩; exact ⟨rfl, _, rfl⟩))
       have HG5 := Aside0.mk (show Grw w _ from HG2.out.drewN nq)
       all_goals
        go_wp2
        go_ret
        exact ⟨by rw [right_bad HK.out HBAD.out]; rfl, HG5.out⟩
      | true =>
       have F2 : ∀ W, Calls Try.prog 59 #[.int .i64 x.f2] W fun e w' => e = .returned (.bool true) ∧ w' = W := fun W => fits_grw x.f2 hf2 W
       by_cases h0 : k = 0
       ·have HBAD := Aside0.mk (show badAt l k = false from by
         unfold badAt badC
         rw [hx]
         have hnz := HNZ.out
         simp [hf1, hf2, h0]
         intro h1 h2
         exact hnz ⟨h1, h2⟩)
        have g0 : decide ((0 : Int) < (k : Int)) = false := decide_eq_false (by omega)
        have g0' : decide (0 < k) = false := decide_eq_false (by omega)
        clear hf1 hf2 h0
        go_wp2
        go_quiet (first | (go_at_call 59; (with_reducible refine (F1 _).mono ?_); rintro e_ w_ ⟨rfl, rfl⟩; exact ⟨rfl, _, rfl⟩) | (go_at_call 59; (with_reducible refine (F2 _).mono ?_); rintro e_ w_ ⟨rfl, rfl⟩; exact ⟨rfl, _, rfl⟩))
        have HG5 := Aside0.mk (show Grw w _ from HG2.out.drewN nq)
        all_goals
         go_wp2
         go_roundw
         case rel =>
          refine ⟨k + 1, by omega, by go_num, ⟨fun j hj => ?_⟩, HG5⟩
          rcases Nat.lt_or_ge j k with h3 | h3
          ·exact HALL.out j h3
          ·obtain rfl : j = k := by omega
           exact HBAD.out
         case measure => simp [intOf]; omega
       ·obtain ⟨p, hp⟩ : ∃ p, k - 1 = p := ⟨_, rfl⟩
        have g0 : decide ((0 : Int) < (k : Int)) = true := decide_eq_true (by omega)
        have g0' : decide (0 < k) = true := decide_eq_true (by omega)
        have s1 : (k : Int) - 1 = (p : Int) := by omega
        have s2 : IntKind.i64.wrap ((k : Int) - 1) = (p : Int) := by rw [s1, IntKind.wrap_i64]; omega
        have s3 : IntKind.i64.wrap (p : Int) = (p : Int) := by rw [IntKind.wrap_i64]; omega
        have P0 : (0 : Int) ≤ (p : Int) := by omega
        have P1 : (p : Int) < (n : Int) := by omega
        obtain ⟨ad2, e2, y0, y1, y2, y3, y4, y5, y6⟩ := at_T34 HC2.out (p : Int) P0 P1
        cases e2
        rw [Int.toNat_natCast] at y0 y1 y2 y3 y4 y5 y6
        obtain ⟨y, hy⟩ : ∃ y, rd_T34 l (p : Int) = y := ⟨_, rfl⟩
        rw [hy] at y0 y1 y2 y3 y4
        clear y5 y6
        obtain ⟨z, hz⟩ : ∃ z, cmpK y.f0 x.f0 = z := ⟨_, rfl⟩
        have hcmp := refcmp_calls y.f0 x.f0
        rw [hz] at hcmp
        by_cases hz0 : 0 ≤ z
        ·have HBAD := Aside0.mk (show badAt l k = true from by
          unfold badAt
          rw [hp, hx, hy, hz, decide_eq_true hz0, decide_eq_true (show 0 < k by omega)]
          simp)
         have dz : decide (0 ≤ z) = true := decide_eq_true hz0
         clear hf1 hf2 hz hy hp hz0
         have x0 := cell_all x0
         have x1 := cell_all x1
         have x2 := cell_all x2
         have x3 := cell_all x3
         have x4 := cell_all x4
         have x5 := cell_all x5
         have x6 := cell_all x6
         have y0 := cell_all y0
         have y1 := cell_all y1
         have y2 := cell_all y2
         have y3 := cell_all y3
         have y4 := cell_all y4
         have G1 : ∀ W, Calls Try.prog 59 #[.int .i64 x.f1] W fun e w' => e = .returned (.bool true) ∧ Grw W w' := fun W => (F1 W).mono (by rintro e w' ⟨rfl, rfl⟩; exact ⟨rfl, Grw.refl _⟩)
         have G2 : ∀ W, Calls Try.prog 59 #[.int .i64 x.f2] W fun e w' => e = .returned (.bool true) ∧ Grw W w' := fun W => (F2 W).mono (by rintro e w' ⟨rfl, rfl⟩; exact ⟨rfl, Grw.refl _⟩)
         go_wp2_with fail
         refine wp_region_quiet_grown (by assumption) (by kernel_rfl) ?_
         repeat (first | go_big_quiet_skip | quiet_step (first | (go_at_call 59; (with_reducible refine Calls.grown_of (G1 _))) | (go_at_call 59; (with_reducible refine Calls.grown_of (G2 _))) | (go_at_call 30; (with_reducible refine Calls.grown_of (hcmp _)))))
         refine wpQuiet_nil ?_
         intro _ hw'
         obtain ⟨⟨nq, osq⟩, hw''⟩ := hw'
         subst hw''
         have HG5 := Aside0.mk (show Grw w _ from HG2.out.trans ⟨nq, osq, rfl⟩)
         all_goals
          go_wp2
          go_ret
          exact ⟨by rw [right_bad HK.out HBAD.out]; rfl, HG5.out⟩
        ·have HBAD := Aside0.mk (show badAt l k = false from by
          unfold badAt badC
          rw [hp, hx, hy, hz, decide_eq_false hz0]
          have hnz := HNZ.out
          simp [hf1, hf2]
          intro h1 h2
          exact hnz ⟨h1, h2⟩)
         have dz : decide (0 ≤ z) = false := decide_eq_false hz0
         clear hf1 hf2 hz hy hp hz0
         have x0 := cell_all x0
         have x1 := cell_all x1
         have x2 := cell_all x2
         have x3 := cell_all x3
         have x4 := cell_all x4
         have x5 := cell_all x5
         have x6 := cell_all x6
         have y0 := cell_all y0
         have y1 := cell_all y1
         have y2 := cell_all y2
         have y3 := cell_all y3
         have y4 := cell_all y4
         have G1 : ∀ W, Calls Try.prog 59 #[.int .i64 x.f1] W fun e w' => e = .returned (.bool true) ∧ Grw W w' := fun W => (F1 W).mono (by rintro e w' ⟨rfl, rfl⟩; exact ⟨rfl, Grw.refl _⟩)
         have G2 : ∀ W, Calls Try.prog 59 #[.int .i64 x.f2] W fun e w' => e = .returned (.bool true) ∧ Grw W w' := fun W => (F2 W).mono (by rintro e w' ⟨rfl, rfl⟩; exact ⟨rfl, Grw.refl _⟩)
         go_wp2_with fail
         refine wp_region_quiet_grown (by assumption) (by kernel_rfl) ?_
         repeat (first | go_big_quiet_skip | quiet_step (first | (go_at_call 59; (with_reducible refine Calls.grown_of (G1 _))) | (go_at_call 59; (with_reducible refine Calls.grown_of (G2 _))) | (go_at_call 30; (with_reducible refine Calls.grown_of (hcmp _)))))
         refine wpQuiet_nil ?_
         intro _ hw'
         obtain ⟨⟨nq, osq⟩, hw''⟩ := hw'
         subst hw''
         have HG5 := Aside0.mk (show Grw w _ from HG2.out.trans ⟨nq, osq, rfl⟩)
         all_goals
          go_wp2
          go_roundw
          case rel =>
           refine ⟨k + 1, by omega, by go_num, ⟨fun j hj => ?_⟩, HG5⟩
           rcases Nat.lt_or_ge j k with h3 | h3
           ·exact HALL.out j h3
           ·obtain rfl : j = k := by omega
            exact HBAD.out
          case measure => simp [intOf]; omega
   ·have eA : (x.f1 == (0 : Int)) = false := beq_false_of_ne hA
    have HNZ := Aside0.mk (show ¬ (x.f1 = 0 ∧ x.f2 = 0) from fun h => hA h.1)
    clear hA
    have mixed : Try.prog.follows .mixedOrders = true := by kernel_rfl
    cases hf1 : fitB x.f1 with
    | false =>
     have HBAD := Aside0.mk (show badAt l k = true from by
      unfold badAt badC
      rw [hx]
      simp [hf1])
     have F1 : ∀ W, Calls Try.prog 59 #[.int .i64 x.f1] W fun e w' => e = .returned (.bool false) ∧ w' = W := fun W => fits_grw x.f1 hf1 W
     clear hf1
     go_wp2
     go_quiet (first | (go_at_call 59; (with_reducible refine (F1 _).mono ?_); rintro e_ w_ ⟨rfl, rfl⟩; exact ⟨rfl, _, rfl⟩))
     have HG5 := Aside0.mk (show Grw w _ from HG2.out.drewN nq)
     all_goals
      go_wp2
      go_ret
      exact ⟨by rw [right_bad HK.out HBAD.out]; rfl, HG5.out⟩
    | true =>
     have F1 : ∀ W, Calls Try.prog 59 #[.int .i64 x.f1] W fun e w' => e = .returned (.bool true) ∧ w' = W := fun W => fits_grw x.f1 hf1 W
     cases hf2 : fitB x.f2 with
     | false =>
      have HBAD := Aside0.mk (show badAt l k = true from by
       unfold badAt badC
       rw [hx]
       simp [hf2])
      have F2 : ∀ W, Calls Try.prog 59 #[.int .i64 x.f2] W fun e w' => e = .returned (.bool false) ∧ w' = W := fun W => fits_grw x.f2 hf2 W
      clear hf1 hf2
      go_wp2
      go_quiet (first | (go_at_call 59; (with_reducible refine (F1 _).mono ?_); rintro e_ w_ ⟨rfl, rfl⟩; exact ⟨rfl, _, rfl⟩) | (go_at_call 59; (with_reducible refine (F2 _).mono ?_); rintro e_ w_ ⟨rfl, rfl⟩; exact ⟨rfl, _, rfl⟩))
      have HG5 := Aside0.mk (show Grw w _ from HG2.out.drewN nq)
      all_goals
       go_wp2
       go_ret
       exact ⟨by rw [right_bad HK.out HBAD.out]; rfl, HG5.out⟩
     | true =>
      have F2 : ∀ W, Calls Try.prog 59 #[.int .i64 x.f2] W fun e w' => e = .returned (.bool true) ∧ w' = W := fun W => fits_grw x.f2 hf2 W
      by_cases h0 : k = 0
      ·have HBAD := Aside0.mk (show badAt l k = false from by
        unfold badAt badC
        rw [hx]
        have hnz := HNZ.out
        simp [hf1, hf2, h0]
        intro h1 h2
        exact hnz ⟨h1, h2⟩)
       have g0 : decide ((0 : Int) < (k : Int)) = false := decide_eq_false (by omega)
       have g0' : decide (0 < k) = false := decide_eq_false (by omega)
       clear hf1 hf2 h0
       go_wp2
       go_quiet (first | (go_at_call 59; (with_reducible refine (F1 _).mono ?_); rintro e_ w_ ⟨rfl, rfl⟩; exact ⟨rfl, _, rfl⟩) | (go_at_call 59; (with_reducible refine (F2 _).mono ?_); rintro e_ w_ ⟨rfl, rfl⟩; exact ⟨rfl, _, rfl⟩))
       have HG5 := Aside0.mk (show Grw w _ from HG2.out.drewN nq)
       all_goals
        go_wp2
        go_roundw
        case rel =>
         refine ⟨k + 1, by omega, by go_num, ⟨fun j hj => ?_⟩, HG5⟩
         rcases Nat.lt_or_ge j k with h3 | h3
         ·exact HALL.out j h3
         ·obtain rfl : j = k := by omega
          exact HBAD.out
        case measure => simp [intOf]; omega
      ·obtain ⟨p, hp⟩ : ∃ p, k - 1 = p := ⟨_, rfl⟩
       have g0 : decide ((0 : Int) < (k : Int)) = true := decide_eq_true (by omega)
       have g0' : decide (0 < k) = true := decide_eq_true (by omega)
       have s1 : (k : Int) - 1 = (p : Int) := by omega
       have s2 : IntKind.i64.wrap ((k : Int) - 1) = (p : Int) := by rw [s1, IntKind.wrap_i64]; omega
       have s3 : IntKind.i64.wrap (p : Int) = (p : Int) := by rw [IntKind.wrap_i64]; omega
       have P0 : (0 : Int) ≤ (p : Int) := by omega
       have P1 : (p : Int) < (n : Int) := by omega
       obtain ⟨ad2, e2, y0, y1, y2, y3, y4, y5, y6⟩ := at_T34 HC2.out (p : Int) P0 P1
       cases e2
       rw [Int.toNat_natCast] at y0 y1 y2 y3 y4 y5 y6
       obtain ⟨y, hy⟩ : ∃ y, rd_T34 l (p : Int) = y := ⟨_, rfl⟩
       rw [hy] at y0 y1 y2 y3 y4
       clear y5 y6
       obtain ⟨z, hz⟩ : ∃ z, cmpK y.f0 x.f0 = z := ⟨_, rfl⟩
       have hcmp := refcmp_calls y.f0 x.f0
       rw [hz] at hcmp
       by_cases hz0 : 0 ≤ z
       ·have HBAD := Aside0.mk (show badAt l k = true from by
         unfold badAt
         rw [hp, hx, hy, hz, decide_eq_true hz0, decide_eq_true (show 0 < k by omega)]
         simp)
        have dz : decide (0 ≤ z) = true := decide_eq_true hz0
        clear hf1 hf2 hz hy hp hz0
        have x0 := cell_all x0
        have x1 := cell_all x1
        have x2 := cell_all x2
        have x3 := cell_all x3
        have x4 := cell_all x4
        have x5 := cell_all x5
        have x6 := cell_all x6
        have y0 := cell_all y0
        have y1 := cell_all y1
        have y2 := cell_all y2
        have y3 := cell_all y3
        have y4 := cell_all y4
        have G1 : ∀ W, Calls Try.prog 59 #[.int .i64 x.f1] W fun e w' => e = .returned (.bool true) ∧ Grw W w' := fun W => (F1 W).mono (by rintro e w' ⟨rfl, rfl⟩; exact ⟨rfl, Grw.refl _⟩)
        have G2 : ∀ W, Calls Try.prog 59 #[.int .i64 x.f2] W fun e w' => e = .returned (.bool true) ∧ Grw W w' := fun W => (F2 W).mono (by rintro e w' ⟨rfl, rfl⟩; exact ⟨rfl, Grw.refl _⟩)
        go_wp2_with fail
        refine wp_region_quiet_grown (by assumption) (by kernel_rfl) ?_
        repeat (first | go_big_quiet_skip | quiet_step (first | (go_at_call 59; (with_reducible refine Calls.grown_of (G1 _))) | (go_at_call 59; (with_reducible refine Calls.grown_of (G2 _))) | (go_at_call 30; (with_reducible refine Calls.grown_of (hcmp _)))))
        refine wpQuiet_nil ?_
        intro _ hw'
        obtain ⟨⟨nq, osq⟩, hw''⟩ := hw'
        subst hw''
        have HG5 := Aside0.mk (show Grw w _ from HG2.out.trans ⟨nq, osq, rfl⟩)
        all_goals
         go_wp2
         go_ret
         exact ⟨by rw [right_bad HK.out HBAD.out]; rfl, HG5.out⟩
       ·have HBAD := Aside0.mk (show badAt l k = false from by
         unfold badAt badC
         rw [hp, hx, hy, hz, decide_eq_false hz0]
         have hnz := HNZ.out
         simp [hf1, hf2]
         intro h1 h2
         exact hnz ⟨h1, h2⟩)
        have dz : decide (0 ≤ z) = false := decide_eq_false hz0
        clear hf1 hf2 hz hy hp hz0
        have x0 := cell_all x0
        have x1 := cell_all x1
        have x2 := cell_all x2
        have x3 := cell_all x3
        have x4 := cell_all x4
        have x5 := cell_all x5
        have x6 := cell_all x6
        have y0 := cell_all y0
        have y1 := cell_all y1
        have y2 := cell_all y2
        have y3 := cell_all y3
        have y4 := cell_all y4
        have G1 : ∀ W, Calls Try.prog 59 #[.int .i64 x.f1] W fun e w' => e = .returned (.bool true) ∧ Grw W w' := fun W => (F1 W).mono (by rintro e w' ⟨rfl, rfl⟩; exact ⟨rfl, Grw.refl _⟩)
        have G2 : ∀ W, Calls Try.prog 59 #[.int .i64 x.f2] W fun e w' => e = .returned (.bool true) ∧ Grw W w' := fun W => (F2 W).mono (by rintro e w' ⟨rfl, rfl⟩; exact ⟨rfl, Grw.refl _⟩)
        go_wp2_with fail
        refine wp_region_quiet_grown (by assumption) (by kernel_rfl) ?_
        repeat (first | go_big_quiet_skip | quiet_step (first | (go_at_call 59; (with_reducible refine Calls.grown_of (G1 _))) | (go_at_call 59; (with_reducible refine Calls.grown_of (G2 _))) | (go_at_call 30; (with_reducible refine Calls.grown_of (hcmp _)))))
        refine wpQuiet_nil ?_
        intro _ hw'
        obtain ⟨⟨nq, osq⟩, hw''⟩ := hw'
        subst hw''
        have HG5 := Aside0.mk (show Grw w _ from HG2.out.trans ⟨nq, osq, rfl⟩)
        all_goals
         go_wp2
         go_roundw
         case rel =>
          refine ⟨k + 1, by omega, by go_num, ⟨fun j hj => ?_⟩, HG5⟩
          rcases Nat.lt_or_ge j k with h3 | h3
          ·exact HALL.out j h3
          ·obtain rfl : j = k := by omega
           exact HBAD.out
         case measure => simp [intOf]; omega
  ·obtain rfl : k = n := by omega
   have d1 : decide ((k : Int) < (k : Int)) = false := decide_eq_false (by omega)
   have d2 : decide (k < k) = false := decide_eq_false (by omega)
   have HR := Aside0.mk (right_good (l := l) (fun j hj => HALL.out j (by rw [HN.out] at hj; exact hj)))
   go_wp2
   go_ret
   exact ⟨by rw [HR.out]; rfl, HG.out⟩
end Go.Proofs.Ytmflggbpiadkjaa.P
/- The two Right, as the print asks for them. -/
namespace Go.Proofs.Ytmflggbpiadkjaa.P
open Go.RowKit Go.Sort Go.Proofs.YtmflggbpiadkjaaW.PrintWords Go.Proofs.YtmflggbpiadkjaaW.PrintLast Go.Proofs.YtmflggbpiadkjaaW.PrintMore
set_option linter.unusedVariables false
def sheet_Right.f (l0 : List S34) : Option Bool := some (rightB l0)
theorem sheet_Right.calls (A0 : Option Addr) (c0 : Nat) (l0 : List (S34)) (r : Bool) (w : World) (hr0 : Kd.C k34 w A0 l0.length l0) (hc0 : l0.length ≤ c0) (h : sheet_Right.f l0 = some r) :
  Calls Try.prog 22 #[.slice A0 l0.length c0] w fun e w' => e = .returned (.bool r) ∧ Below w.heap.size w w' := by
 cases h
 refine (right_calls A0 c0 l0 w hr0 hc0).mono ?_
 rintro e w' ⟨rfl, hg⟩
 exact ⟨rfl, hg.below⟩
def accountingref19_Right.f (l0 : List S34) : Option Bool := some (rightB l0)
theorem accountingref19_Right.calls (A0 : Option Addr) (c0 : Nat) (l0 : List (S34)) (r : Bool) (w : World) (hr0 : Kd.C k34 w A0 l0.length l0) (hc0 : l0.length ≤ c0) (h : accountingref19_Right.f l0 = some r) :
  Calls Try.prog 23 #[.slice A0 l0.length c0] w fun e w' => e = .returned (.bool r) ∧ Below w.heap.size w w' := by
 cases h
 refine (refright_calls A0 c0 l0 w hr0 hc0).mono ?_
 rintro e w' ⟨rfl, hg⟩
 exact ⟨rfl, hg.below⟩
end Go.Proofs.Ytmflggbpiadkjaa.P
namespace Go.Proofs.Ytmflggbpiadkjaa.P
open Go.RowKit Go.Proofs.YtmflggbpiadkjaaW.PrintWords Go.Proofs.YtmflggbpiadkjaaW.PrintLast Go.Proofs.YtmflggbpiadkjaaW.PrintMore
attribute [local go_sem] max2_int min2_int max_two min_two max_three min_three max_four min_four   -- for this text's walks alone
set_option linter.unusedVariables false
set_option linter.unusedSimpArgs false
/-! ### accountingref19_Add: function 39 -/
def accountingref19_Add.f (k : Nat) (l0 : List (S34)) (l1 : List (S34)) : Option ((List (S34)) × Int) := (accountingref19_Right.f l0).bind fun t469 => (if t469 = true then ((accountingref19_Right.f l1).bind fun t470 => (if t470 = true then ((some (([] : List (S34)) : List (S34))).bind fun y471 => (if y471.length + l0.length < 1466015503701 then ((some (y471 ++ l0 : List (S34))).bind fun y474 => (if y474.length + l1.length < 1466015503701 then ((accountingref19_Of.f k (y474 ++ l1)).bind fun bt480 => (some (bt480.1, bt480.2))) else (none))) else (none))) else (some (([] : List (S34)), 2)))) else (some (([] : List (S34)), 2)))
theorem accountingref19_Add.mono : ∀ a0 a1 k, LeO (accountingref19_Add.f k a0 a1) (accountingref19_Add.f (k + 1) a0 a1) := by
 intro a0 a1 k
 unfold accountingref19_Add.f
 repeat' first
   | (with_reducible exact accountingref19_Of.mono _ _)
   | (with_reducible exact LeO.refl _)
   | (with_reducible exact LeO.none _)
   | (with_reducible refine LeO.ite ?_ ?_)
   | (with_reducible refine LeO.bind ?_ (fun _ => ?_))
   | exact accountingref19_Of.mono _ _
   | exact LeO.none _
   | refine LeO.ite ?_ ?_
   | refine LeO.bind ?_ (fun _ => ?_)
set_option maxHeartbeats 8000000 in
set_option maxRecDepth 100000 in
theorem accountingref19_Add.calls (k : Nat) (A0 : Option Addr) (c0 : Nat) (l0 : List (S34)) (A1 : Option Addr) (c1 : Nat) (l1 : List (S34)) (r1 : List (S34)) (r2 : Int) (w : World) (hr0 : Kd.C k34 w A0 l0.length l0) (hc0 : l0.length ≤ c0) (hr1 : Kd.C k34 w A1 l1.length l1) (hc1 : l1.length ≤ c1) (h : accountingref19_Add.f k l0 l1 = some (r1, r2)) :
  Calls Try.prog 39 #[.slice A0 l0.length c0, .slice A1 l1.length c1] w fun e w' => ∃ v0_ : Value, e = .returned (.tuple #[v0_, .int .i64 r2]) ∧ Kd.R k34 34 w' w.heap.size (fun _ => True) v0_ r1 ∧ Below w.heap.size w w' := by
 have HR0 := Aside0.mk hr0
 have HC0 := Aside0.mk hc0
 clear hr0 hc0
 have HR1 := Aside0.mk hr1
 have HC1 := Aside0.mk hc1
 clear hr1 hc1
 have HB := Aside0.mk (Below.refl w.heap.size w)
 have H : ((accountingref19_Right.f l0).bind fun t469 => (if t469 = true then ((accountingref19_Right.f l1).bind fun t470 => (if t470 = true then ((some (([] : List (S34)) : List (S34))).bind fun y471 => (if y471.length + l0.length < 1466015503701 then ((some (y471 ++ l0 : List (S34))).bind fun y474 => (if y474.length + l1.length < 1466015503701 then ((accountingref19_Of.f k (y474 ++ l1)).bind fun bt480 => (some (bt480.1, bt480.2))) else (none))) else (none))) else (some (([] : List (S34)), 2)))) else (some (([] : List (S34)), 2)))) = some (r1, r2) := h
 clear h
 replace H := Option.bind_eq_some_iff.mp H
 obtain ⟨t469, A30, H⟩ := H
 try dsimp only at H
 have A3 := Aside0.mk A30
 clear A30
 by_cases c4 : t469 = true
 ·subst c4
  have H1 : ((accountingref19_Right.f l1).bind fun t470 => (if t470 = true then ((some (([] : List (S34)) : List (S34))).bind fun y471 => (if y471.length + l0.length < 1466015503701 then ((some (y471 ++ l0 : List (S34))).bind fun y474 => (if y474.length + l1.length < 1466015503701 then ((accountingref19_Of.f k (y474 ++ l1)).bind fun bt480 => (some (bt480.1, bt480.2))) else (none))) else (none))) else (some (([] : List (S34)), 2)))) = some (r1, r2) := by rw [if_pos rfl] at H; exact H
  clear H
  have H := H1
  clear H1
  replace H := Option.bind_eq_some_iff.mp H
  obtain ⟨t470, A50, H⟩ := H
  try dsimp only at H
  have A5 := Aside0.mk A50
  clear A50
  by_cases c6 : t470 = true
  ·subst c6
   have H1 : ((some (([] : List (S34)) : List (S34))).bind fun y471 => (if y471.length + l0.length < 1466015503701 then ((some (y471 ++ l0 : List (S34))).bind fun y474 => (if y474.length + l1.length < 1466015503701 then ((accountingref19_Of.f k (y474 ++ l1)).bind fun bt480 => (some (bt480.1, bt480.2))) else (none))) else (none))) = some (r1, r2) := by rw [if_pos rfl] at H; exact H
   clear H
   have H := H1
   clear H1
   obtain ⟨y471, hy471⟩ : ∃ y_ : List (S34), y_ = (([] : List (S34))) := ⟨_, rfl⟩
   replace H : (if y471.length + l0.length < 1466015503701 then ((some (y471 ++ l0 : List (S34))).bind fun y474 => (if y474.length + l1.length < 1466015503701 then ((accountingref19_Of.f k (y474 ++ l1)).bind fun bt480 => (some (bt480.1, bt480.2))) else (none))) else (none)) = some (r1, r2) := by first | (rw [hy471]; with_reducible exact H) | (have H2_ := (Option.bind_some _ _).symm.trans H; rw [hy471]; with_reducible exact H2_) | (have H2_ := (Option.bind_some _ _).symm.trans H; with_reducible exact H2_) | with_reducible exact H | (rw [hy471]; exact H) | exact H
   have Ny471 := Aside0.mk hy471
   clear hy471
   by_cases c7 : y471.length + l0.length < 1466015503701
   ·rw [if_pos c7] at H
    have LMc7 := Aside0.mk c7
    clear c7
    obtain ⟨y474, hy474⟩ : ∃ y_ : List (S34), y_ = (y471 ++ l0) := ⟨_, rfl⟩
    replace H : (if y474.length + l1.length < 1466015503701 then ((accountingref19_Of.f k (y474 ++ l1)).bind fun bt480 => (some (bt480.1, bt480.2))) else (none)) = some (r1, r2) := by first | (rw [hy474]; with_reducible exact H) | (have H2_ := (Option.bind_some _ _).symm.trans H; rw [hy474]; with_reducible exact H2_) | (have H2_ := (Option.bind_some _ _).symm.trans H; with_reducible exact H2_) | with_reducible exact H | (rw [hy474]; exact H) | exact H
    have Ny474 := Aside0.mk hy474
    clear hy474
    by_cases c8 : y474.length + l1.length < 1466015503701
    ·rw [if_pos c8] at H
     have LMc8 := Aside0.mk c8
     clear c8
     obtain ⟨y477, hy477⟩ : ∃ y_ : List (S34), y_ = (y474 ++ l1) := ⟨_, rfl⟩
     replace H : ((accountingref19_Of.f k y477).bind fun bt480 => (some (bt480.1, bt480.2))) = some (r1, r2) := by first | (rw [hy477]; with_reducible exact H) | (have H2_ := (Option.bind_some _ _).symm.trans H; rw [hy477]; with_reducible exact H2_) | (have H2_ := (Option.bind_some _ _).symm.trans H; with_reducible exact H2_) | with_reducible exact H | (rw [hy477]; exact H) | exact H
     have Ny477 := Aside0.mk hy477
     clear hy477
     replace H := Option.bind_eq_some_iff.mp H
     obtain ⟨⟨t480, t481⟩, A90, H⟩ := H
     replace H : (some (t480, t481)) = some (r1, r2) := H
     have A9 := Aside0.mk A90
     clear A90
     simp only [Option.some.injEq, Prod.mk.injEq] at H
     obtain ⟨rfl, rfl⟩ := H
     go_enter Try.func39, Try.ntmps39
     go_wp2_with (first | ((with_reducible refine gate_callee (f := 23) rfl ?_); refine goesL_ (some 7) rfl rfl Try.func23 (by kernel_rfl) rfl #[.slice A0 l0.length c0] rfl (by (try simp only [List.map_toArray, List.map_cons, List.map_nil]); first | done | rfl | (simp only [List.length_drop, List.length_take]; rfl)) ?_; (with_reducible refine (accountingref19_Right.calls _ _ l0 true _ ?side1 ?side2 A3.out).mono ?_); (case side1 => repeat (first | exact HR0.out | (with_reducible refine Kd.C_alloc ?_ _) | (with_reducible refine Kd.C_drewN ?_ _) | (with_reducible refine Kd.C_drew ?_))); (case side2 => exact HC0.out); rintro e w10 ⟨rfl, hb⟩; refine ⟨_, rfl, ?_⟩; have n0_ := Aside0.mk (below_step (by repeat (first | (with_reducible first | exact HB.out | apply below_alloc | apply pw_below_drewN | apply below_drew1) | exact HB.out)) hb); clear HB; have HB := n0_; clear n0_; (try clear hb); (try clear hb2); (try clear hk); (try clear hi)) | (go_at_call 23; (with_reducible refine (accountingref19_Right.calls _ _ l1 true _ ?side1 ?side2 A5.out).mono ?_); (case side1 => repeat (first | exact (Kd.C_below HR1.out HB.out) | exact (Kd.C_drewN (Kd.C_below HR1.out HB.out) _) | (with_reducible refine Kd.C_alloc ?_ _) | (with_reducible refine Kd.C_drewN ?_ _) | (with_reducible refine Kd.C_drew ?_))); (case side2 => exact HC1.out); rintro e w11 ⟨rfl, hb⟩; have n0_ := Aside0.mk (below_step (by repeat (first | (with_reducible first | exact HB.out | apply below_alloc | apply pw_below_drewN | apply below_drew1) | exact HB.out)) hb); clear HB; have HB := n0_; clear n0_; (try clear hb); (try clear hb2); (try clear hk); (try clear hi)) | ((with_reducible refine gate_dst (N := 14) rfl ?_); refine Kd.R_lit k34 _ 34 ?hg (N := 14) ?hd (xs := ([] : List (S34))) (inner := []) (ok := fun _ => True) (okp := fun _ => True) ?hr ?hp (fun _ hk => hk) trivial (Below.refl _ _) (Nat.le_refl _) (by simp) ?_; (case hd => rfl); (case hg => rfl); (case hr => first | (go_simp; done) | (go_simp; rfl)); (case hp => exact (Reps.none _ _)); intro v472 w12 ho13 hb hg_ hnew_; clear hg_ hnew_; (first | rw [← Ny471.out] at ho13 | (simp only [Int.reduceToNat] at ho13; rw [← Ny471.out] at ho13)); have n0_ := Aside0.mk (Kd.R_lower ho13 (below_size (by repeat (first | (with_reducible first | exact HB.out | apply below_alloc | apply pw_below_drewN | apply below_drew1) | exact HB.out)))); have n1_ := Aside0.mk (below_step (by repeat (first | (with_reducible first | exact HB.out | apply below_alloc | apply pw_below_drewN | apply below_drew1) | exact HB.out)) hb); clear HB; have HO473 := n0_; have HB := n1_; clear n0_ n1_; clear hb ho13) | ((with_reducible refine gate_builtin (b := .append) (xs := #[.tmp 14, .tmp 15]) rfl ?_); at_builtin; refine Kd.R_append_rows k34 (w0 := w) w.heap.size rfl (.tmp 14) (.tmp 15) 22 34 (.agg #[(.string ⟨#[]⟩), (.string ⟨#[]⟩), (.string ⟨#[]⟩), (.string ⟨#[]⟩), (.string ⟨#[]⟩), (.int .i64 0), (.int .i64 0)]) 96 rfl Try.underlying22 info34 rfl (by decide) (by omega) v472 y471 l0 _ _ _ (fun _ => True) (fun _ => False) rfl rfl ?aO ?aR (fun _ _ h => h) (fun _ h => h.elim) ?aF ?aB ?aS ?aL ?_; (case aR => repeat (first | exact (Kd.C_below HR0.out HB.out) | exact (Kd.C_drewN (Kd.C_below HR0.out HB.out) _) | (with_reducible refine Kd.C_alloc ?_ _) | (with_reducible refine Kd.C_drewN ?_ _) | (with_reducible refine Kd.C_drew ?_))); (case aB => exact (by repeat (first | (with_reducible first | exact HB.out | apply below_alloc | apply pw_below_drewN | apply below_drew1) | exact HB.out))); (case aF => exact (fun _ _ => trivial)); (case aO => exact (by (with_reducible repeat (first | apply Kd.R_alloc | apply Kd.R_drewN | apply Kd.R_drew)); exact HO473.out)); (case aS => exact (below_size (by repeat (first | (with_reducible first | exact HB.out | apply below_alloc | apply pw_below_drewN | apply below_drew1) | exact HB.out)))); (case aL => have := LMc7.out; omega); intro v475 w14 ho hb hg hat; rw [← Ny474.out] at ho; have n0_ := Aside0.mk (hb); have n1_ := Aside0.mk (ho); clear HB; clear HO473; have HB := n0_; have HO476 := n1_; clear n0_ n1_; clear ho hb hg hat) | ((with_reducible refine gate_builtin (b := .append) (xs := #[.tmp 16, .tmp 17]) rfl ?_); at_builtin; refine Kd.R_append_rows k34 (w0 := w) w.heap.size rfl (.tmp 16) (.tmp 17) 22 34 (.agg #[(.string ⟨#[]⟩), (.string ⟨#[]⟩), (.string ⟨#[]⟩), (.string ⟨#[]⟩), (.string ⟨#[]⟩), (.int .i64 0), (.int .i64 0)]) 96 rfl Try.underlying22 info34 rfl (by decide) (by omega) v475 y474 l1 _ _ _ (fun _ => True) (fun _ => False) rfl rfl ?aO ?aR (fun _ _ h => h) (fun _ h => h.elim) ?aF ?aB ?aS ?aL ?_; (case aR => repeat (first | exact (Kd.C_below HR1.out HB.out) | exact (Kd.C_drewN (Kd.C_below HR1.out HB.out) _) | (with_reducible refine Kd.C_alloc ?_ _) | (with_reducible refine Kd.C_drewN ?_ _) | (with_reducible refine Kd.C_drew ?_))); (case aB => exact (by repeat (first | (with_reducible first | exact HB.out | apply below_alloc | apply pw_below_drewN | apply below_drew1) | exact HB.out))); (case aF => exact (fun _ _ => trivial)); (case aO => exact (by (with_reducible repeat (first | apply Kd.R_alloc | apply Kd.R_drewN | apply Kd.R_drew)); exact HO476.out)); (case aS => exact (below_size (by repeat (first | (with_reducible first | exact HB.out | apply below_alloc | apply pw_below_drewN | apply below_drew1) | exact HB.out)))); (case aL => have := LMc8.out; omega); intro v478 w15 ho hb hg hat; rw [← Ny477.out] at ho; have n0_ := Aside0.mk (hb); have n1_ := Aside0.mk (ho); clear HB; clear HO476; have HB := n0_; have HO479 := n1_; clear n0_ n1_; clear ho hb hg hat; obtain ⟨Ao16, co16, eo16⟩ := Kd.R_slice HO479.out; subst eo16) | ((with_reducible refine gate_callee (f := 20) rfl ?_); refine goesL_ (some 19) rfl rfl Try.func20 (by kernel_rfl) rfl #[.slice Ao16 y477.length co16] rfl (by (try simp only [List.map_toArray, List.map_cons, List.map_nil]); first | done | rfl | (simp only [List.length_drop, List.length_take]; rfl)) ?_; (with_reducible refine (accountingref19_Of.calls k _ _ y477 t480 t481 _ ?side1 ?side2 A9.out).mono ?_); (case side1 => repeat (first | exact (Kd.R_reads' HO479.out).2.2 | (with_reducible refine Kd.C_alloc ?_ _) | (with_reducible refine Kd.C_drewN ?_ _) | (with_reducible refine Kd.C_drew ?_))); (case side2 => exact (Kd.R_reads' HO479.out).2.1); rintro e w17 ⟨v482, rfl, ho0, hb⟩; refine ⟨_, rfl, ?_⟩; have n0_ := Aside0.mk (Kd.R_elder' (by (with_reducible repeat (first | apply Kd.R_alloc | apply Kd.R_drewN | apply Kd.R_drew)); exact HO479.out) (Kd.R_base ho0) hb); have n1_ := Aside0.mk (Kd.R_lower (Kd.R_new' ho0 (Kd.R_lt (by (with_reducible repeat (first | apply Kd.R_alloc | apply Kd.R_drewN | apply Kd.R_drew)); exact HO479.out))) (below_size (by repeat (first | (with_reducible first | exact HB.out | apply below_alloc | apply pw_below_drewN | apply below_drew1) | exact HB.out)))); have n2_ := Aside0.mk (below_step (by repeat (first | (with_reducible first | exact HB.out | apply below_alloc | apply pw_below_drewN | apply below_drew1) | exact HB.out)) hb); clear HO479; clear HB; have HO479 := n0_; have HO483 := n1_; have HB := n2_; clear n0_ n1_ n2_; (try clear hb); (try clear hb2); (try clear hk); (try clear hi); (try clear ho0)))
     go_ret2
     exact ⟨_, by first | rfl | (simp [errW_none, errW_some] <;> rfl) | (simp [*, errW_none, errW_some] <;> rfl), by (with_reducible repeat (first | apply Kd.R_alloc | apply Kd.R_drewN | apply Kd.R_drew)); exact Kd.R_mono HO483.out (fun _ hk => trivial), by repeat (first | (with_reducible first | exact HB.out | apply below_alloc | apply pw_below_drewN | apply below_drew1) | exact HB.out)⟩
    ·rw [if_neg c8] at H
     exact absurd H (by simp)
   ·rw [if_neg c7] at H
    exact absurd H (by simp)
  ·replace c6 := Bool.eq_false_iff.mpr c6
   subst c6
   have H1 : (some (([] : List (S34)), 2)) = some (r1, r2) := by rw [if_neg (show ¬ (false = true) by decide)] at H; exact H
   clear H
   have H := H1
   clear H1
   simp only [Option.some.injEq, Prod.mk.injEq] at H
   obtain ⟨rfl, rfl⟩ := H
   go_enter Try.func39, Try.ntmps39
   go_wp2_with (first | ((with_reducible refine gate_callee (f := 23) rfl ?_); refine goesL_ (some 7) rfl rfl Try.func23 (by kernel_rfl) rfl #[.slice A0 l0.length c0] rfl (by (try simp only [List.map_toArray, List.map_cons, List.map_nil]); first | done | rfl | (simp only [List.length_drop, List.length_take]; rfl)) ?_; (with_reducible refine (accountingref19_Right.calls _ _ l0 true _ ?side1 ?side2 A3.out).mono ?_); (case side1 => repeat (first | exact HR0.out | (with_reducible refine Kd.C_alloc ?_ _) | (with_reducible refine Kd.C_drewN ?_ _) | (with_reducible refine Kd.C_drew ?_))); (case side2 => exact HC0.out); rintro e w18 ⟨rfl, hb⟩; refine ⟨_, rfl, ?_⟩; have n0_ := Aside0.mk (below_step (by repeat (first | (with_reducible first | exact HB.out | apply below_alloc | apply pw_below_drewN | apply below_drew1) | exact HB.out)) hb); clear HB; have HB := n0_; clear n0_; (try clear hb); (try clear hb2); (try clear hk); (try clear hi)) | (go_at_call 23; (with_reducible refine (accountingref19_Right.calls _ _ l1 false _ ?side1 ?side2 A5.out).mono ?_); (case side1 => repeat (first | exact (Kd.C_below HR1.out HB.out) | exact (Kd.C_drewN (Kd.C_below HR1.out HB.out) _) | (with_reducible refine Kd.C_alloc ?_ _) | (with_reducible refine Kd.C_drewN ?_ _) | (with_reducible refine Kd.C_drew ?_))); (case side2 => exact HC1.out); rintro e w19 ⟨rfl, hb⟩; have n0_ := Aside0.mk (below_step (by repeat (first | (with_reducible first | exact HB.out | apply below_alloc | apply pw_below_drewN | apply below_drew1) | exact HB.out)) hb); clear HB; have HB := n0_; clear n0_; (try clear hb); (try clear hb2); (try clear hk); (try clear hi)))
   go_ret2
   exact ⟨_, by first | rfl | (simp [errW_none, errW_some] <;> rfl) | (simp [*, errW_none, errW_some] <;> rfl), by first | exact Kd.R_nil _ _ _ _ _ | exact Kd.N_nil _ _ _ _ _ | exact Kd.V_nil _ _ _ _ _ | exact Kd.Q_nil _ _ _ _ _ | exact Kd.S_nil _ _ _ _ _, by repeat (first | (with_reducible first | exact HB.out | apply below_alloc | apply pw_below_drewN | apply below_drew1) | exact HB.out)⟩
 ·replace c4 := Bool.eq_false_iff.mpr c4
  subst c4
  have H1 : (some (([] : List (S34)), 2)) = some (r1, r2) := by rw [if_neg (show ¬ (false = true) by decide)] at H; exact H
  clear H
  have H := H1
  clear H1
  simp only [Option.some.injEq, Prod.mk.injEq] at H
  obtain ⟨rfl, rfl⟩ := H
  go_enter Try.func39, Try.ntmps39
  go_wp2_with (first | ((with_reducible refine gate_callee (f := 23) rfl ?_); refine goesL_ (some 7) rfl rfl Try.func23 (by kernel_rfl) rfl #[.slice A0 l0.length c0] rfl (by (try simp only [List.map_toArray, List.map_cons, List.map_nil]); first | done | rfl | (simp only [List.length_drop, List.length_take]; rfl)) ?_; (with_reducible refine (accountingref19_Right.calls _ _ l0 false _ ?side1 ?side2 A3.out).mono ?_); (case side1 => repeat (first | exact HR0.out | (with_reducible refine Kd.C_alloc ?_ _) | (with_reducible refine Kd.C_drewN ?_ _) | (with_reducible refine Kd.C_drew ?_))); (case side2 => exact HC0.out); rintro e w20 ⟨rfl, hb⟩; refine ⟨_, rfl, ?_⟩; have n0_ := Aside0.mk (below_step (by repeat (first | (with_reducible first | exact HB.out | apply below_alloc | apply pw_below_drewN | apply below_drew1) | exact HB.out)) hb); clear HB; have HB := n0_; clear n0_; (try clear hb); (try clear hb2); (try clear hk); (try clear hi)))
  go_ret2
  exact ⟨_, by first | rfl | (simp [errW_none, errW_some] <;> rfl) | (simp [*, errW_none, errW_some] <;> rfl), by first | exact Kd.R_nil _ _ _ _ _ | exact Kd.N_nil _ _ _ _ _ | exact Kd.V_nil _ _ _ _ _ | exact Kd.Q_nil _ _ _ _ _ | exact Kd.S_nil _ _ _ _ _, by repeat (first | (with_reducible first | exact HB.out | apply below_alloc | apply pw_below_drewN | apply below_drew1) | exact HB.out)⟩
theorem eqA89 (d : Nat) (w : World) (x0 y0 : ByteArray) (x1 y1 : ByteArray) (x2 y2 : Int) :
    (Op.equalIn (d + 2) 89 (.agg #[.string x0, .string x1, .int .i64 x2]) (.agg #[.string y0, .string y1, .int .i64 y2])).run Try.prog w = .ok (x0.toList == y0.toList && (x1.toList == y1.toList && (x2 == y2))) w := by
  refine eqA_of Try.underlying89 (by kernel_rfl) ?_
  refine eqf_cons (by rfl) (by go_simp; rfl) (by go_simp; rfl) (by go_simp) ?_
  refine eqf_cons (by rfl) (by go_simp; rfl) (by go_simp; rfl) (by go_simp) ?_
  exact eqf_last (by rfl) (by go_simp; rfl) (by go_simp; rfl) (by go_simp)
/-! ### accountinglaw44_large: function 43 -/
def accountinglaw44_large.f (l0 : List (S34)) (l1 : List ByteArray) : Option (Bool) := if (l0.length : Int) > 200 then (some true) else (some (decide ((l1.length : Int) > 100)))
set_option maxHeartbeats 8000000 in
set_option maxRecDepth 100000 in
theorem accountinglaw44_large.calls (A0 : Option Addr) (c0 : Nat) (l0 : List (S34)) (A1 : Option Addr) (c1 : Nat) (l1 : List ByteArray) (r : Bool) (w : World) (hr0 : Kd.C k34 w A0 l0.length l0) (hc0 : l0.length ≤ c0) (hr1 : Kd.C Kd.string w A1 l1.length l1) (hc1 : l1.length ≤ c1) (h : accountinglaw44_large.f l0 l1 = some r) :
    Calls Try.prog 43 #[.slice A0 l0.length c0, .slice A1 l1.length c1] w fun e w' => e = .returned (.bool r) ∧ Drawn0 w w' := by
  have HR0 := Aside0.mk hr0
  have HC0 := Aside0.mk hc0
  clear hr0 hc0
  have HR1 := Aside0.mk hr1
  have HC1 := Aside0.mk hc1
  clear hr1 hc1
  have H : (if (l0.length : Int) > 200 then (some true) else (some (decide ((l1.length : Int) > 100)))) = some r := h
  clear h
  by_cases c3 : (l0.length : Int) > 200
  · rw [if_pos c3] at H
    have c3b0 : decide (200 < (l0.length : Int)) = true := decide_eq_true c3
    have c3b1 : decide (200 < l0.length) = true := decide_eq_true (by omega)
    clear c3
    obtain rfl := Option.some.inj H
    go_enter Try.func43, Try.ntmps43
    go_wp2
    go_ret
    exact ⟨by first | rfl | (simp; done) | (simp [*]; done), by repeat (first | exact Drawn0.refl _ | apply Drawn0.step)⟩
  · rw [if_neg c3] at H
    have c3b0 : decide (200 < (l0.length : Int)) = false := decide_eq_false c3
    have c3b1 : decide (200 < l0.length) = false := decide_eq_false (by omega)
    clear c3
    obtain rfl := Option.some.inj H
    go_enter Try.func43, Try.ntmps43
    go_wp2
    go_ret
    exact ⟨by first | rfl | (simp; done) | (simp [*]; done), by repeat (first | exact Drawn0.refl _ | apply Drawn0.step)⟩
-- NOT PRINTED: function 71 (interco_of)
-- NOT PRINTED: function 72 (interco_group_inside)
end Go.Proofs.Ytmflggbpiadkjaa.P
-- PRINTED by print.py (a twelfth state) out of the translation. Not trusted: Lean checks it.
namespace Go.Proofs.Ytmflggbpiadkjaa.P
open Go.RowKit Go.Proofs.YtmflggbpiadkjaaW.PrintWords Go.Proofs.YtmflggbpiadkjaaW.PrintLast Go.Proofs.YtmflggbpiadkjaaW.PrintMore
attribute [local go_sem] max2_int min2_int max_two min_two max_three min_three max_four min_four   -- for this text's walks alone
set_option linter.unusedVariables false
set_option linter.unusedSimpArgs false
attribute [local go_sem high] eqA89
/-! ### accountingref44_Same: function 49 -/
def accountingref44_Same.l0 : Nat → List (S89) → List (S89) → Int → Option (Bool)
  | 0, _, _, _ => none
  | k + 1, x0, x1, x5 => if x5 < (x0.length : Int) then (if 0 ≤ x5 then (if x5 < (x1.length : Int) then (if (!((((rd_T89 x0 x5).f0).toList) == (((rd_T89 x1 x5).f0).toList)) || (!((((rd_T89 x0 x5).f1).toList) == (((rd_T89 x1 x5).f1).toList)) || (!(((rd_T89 x0 x5).f2) == ((rd_T89 x1 x5).f2))))) = true then (some false) else (accountingref44_Same.l0 k x0 x1 (wrap64 (x5 + 1)))) else (none)) else (none)) else (some true)
def accountingref44_Same.f (k : Nat) (l0 : List (S89)) (l1 : List (S89)) : Option (Bool) := if (l0.length : Int) = (l1.length : Int) then (accountingref44_Same.l0 k l0 l1 0) else (some false)
theorem accountingref44_Same.mono_l : ∀ k, (∀ y0 y1 y2, LeO (accountingref44_Same.l0 k y0 y1 y2) (accountingref44_Same.l0 (k + 1) y0 y1 y2))
  | 0 => fun _ _ _ r h => by simp [accountingref44_Same.l0] at h
  | k + 1 => by
    have ih0 := accountingref44_Same.mono_l k
    · intro y0 y1 y2
      unfold accountingref44_Same.l0
      repeat' first
      | (with_reducible exact ih0 _ _ _)
      | (with_reducible exact LeO.refl _)
      | (with_reducible exact LeO.none _)
      | (with_reducible refine LeO.ite ?_ ?_)
      | (with_reducible refine LeO.bind ?_ (fun _ => ?_))
      | exact ih0 _ _ _
      | exact LeO.none _
      | refine LeO.ite ?_ ?_
      | refine LeO.bind ?_ (fun _ => ?_)
theorem accountingref44_Same.mono : ∀ a0 a1 k, LeO (accountingref44_Same.f k a0 a1) (accountingref44_Same.f (k + 1) a0 a1) := by
  intro a0 a1 k
  have ih0 := accountingref44_Same.mono_l k
  unfold accountingref44_Same.f
  repeat' first
      | (with_reducible exact ih0 _ _ _)
      | (with_reducible exact LeO.refl _)
      | (with_reducible exact LeO.none _)
      | (with_reducible refine LeO.ite ?_ ?_)
      | (with_reducible refine LeO.bind ?_ (fun _ => ?_))
      | exact ih0 _ _ _
      | exact LeO.none _
      | refine LeO.ite ?_ ?_
      | refine LeO.bind ?_ (fun _ => ?_)
set_option maxHeartbeats 8000000 in
set_option maxRecDepth 100000 in
theorem accountingref44_Same.calls (k : Nat) (A0 : Option Addr) (c0 : Nat) (l0 : List (S89)) (A1 : Option Addr) (c1 : Nat) (l1 : List (S89)) (r : Bool) (w : World) (hr0 : Kd.C k89 w A0 l0.length l0) (hc0 : l0.length ≤ c0) (hr1 : Kd.C k89 w A1 l1.length l1) (hc1 : l1.length ≤ c1) (h : accountingref44_Same.f k l0 l1 = some r) :
    Calls Try.prog 49 #[.slice A0 l0.length c0, .slice A1 l1.length c1] w fun e w' => e = .returned (.bool r) ∧ Drawn0 w w' := by
  have hu89 := Try.underlying89
  have HR0 := Aside0.mk hr0
  have HC0 := Aside0.mk hc0
  clear hr0 hc0
  have HR1 := Aside0.mk hr1
  have HC1 := Aside0.mk hc1
  clear hr1 hc1
  have H : (if (l0.length : Int) = (l1.length : Int) then (accountingref44_Same.l0 k l0 l1 0) else (some false)) = some r := h
  clear h
  by_cases c3 : (l0.length : Int) = (l1.length : Int)
  · rw [if_pos c3] at H
    have c3b0 : ((l0.length : Int) == (l1.length : Int)) = true := beq_iff_eq.mpr c3
    have c3b1 : ((l0.length : Int) != (l1.length : Int)) = false := bne_eq_false_iff_eq.mpr c3
    have c3b2 : (l0.length == l1.length) = true := by first | simpa using c3 | (simp at c3 ⊢; omega)
    clear c3
    have H' := Aside0.mk H
    clear H
    go_enter Try.func49, Try.ntmps49
    go_wp2
    repeat (go_quiet (fail); try go_wp2)
    go_loopg [5] k (fun kq v5 w' => ∃ (x5_1 : Int), v5 = .int .i64 x5_1 ∧ Aside0 (accountingref44_Same.l0 kq l0 l1 x5_1 = some r) ∧ Aside0 (kq ≤ k) ∧ Drawn0 w w')
    case atStart => exact ⟨(0), (by first | rfl | (simp; done) | (simp [*]; done)), H', ⟨Nat.le_refl _⟩, by repeat (first | exact Drawn0.refl _ | apply Drawn0.step)⟩
    case round =>
      clear H'
      try clear c1
      try clear p2
      try clear c3
      try clear c3b0
      try clear c3b1
      try clear c3b2
      obtain ⟨x5_1, rfl, HA, HK1, ⟨m1, rfl⟩⟩ := hrel
      cases gk with
      | zero => exact absurd HA.out (by simp [accountingref44_Same.l0])
      | succ k1 =>
        have H := HA.out
        clear HA
        simp only [accountingref44_Same.l0] at H
        by_cases c4 : x5_1 < (l0.length : Int)
        · rw [if_pos c4] at H
          have c4b0 : decide (x5_1 < (l0.length : Int)) = true := decide_eq_true c4
          clear c4
          by_cases c5 : 0 ≤ x5_1
          · rw [if_pos c5] at H
            have c5b0 : decide (0 ≤ x5_1) = true := decide_eq_true c5
            clear c5
            by_cases c6 : x5_1 < (l1.length : Int)
            · rw [if_pos c6] at H
              have c6b0 : decide (x5_1 < (l1.length : Int)) = true := decide_eq_true c6
              clear c6
              by_cases c7 : (!((((rd_T89 l0 x5_1).f0).toList) == (((rd_T89 l1 x5_1).f0).toList)) || (!((((rd_T89 l0 x5_1).f1).toList) == (((rd_T89 l1 x5_1).f1).toList)) || (!(((rd_T89 l0 x5_1).f2) == ((rd_T89 l1 x5_1).f2))))) = true
              · rw [if_pos c7] at H
                have c7b0 : (!((((rd_T89 l0 x5_1).f0).toList) == (((rd_T89 l1 x5_1).f0).toList)) || (!((((rd_T89 l0 x5_1).f1).toList) == (((rd_T89 l1 x5_1).f1).toList)) || (!(((rd_T89 l0 x5_1).f2) == ((rd_T89 l1 x5_1).f2))))) = true := c7
                clear c7
                obtain rfl := Option.some.inj H
                have p576 : 0 ≤ (x5_1 : Int) := of_decide_eq_true (by first | (with_reducible assumption) | assumption)
                have q576 : x5_1 < (l0.length : Int) := of_decide_eq_true (by first | (with_reducible assumption) | assumption)
                obtain ⟨ad576, e576, hx576_0, hx576_1, hx576_2⟩ := at_T89 HR0.out x5_1 p576 q576
                cases e576
                replace p576 := eq_true p576
                replace q576 := eq_true q576
                have p577 : 0 ≤ (x5_1 : Int) := of_decide_eq_true (by first | (with_reducible assumption) | assumption)
                have q577 : x5_1 < (l1.length : Int) := of_decide_eq_true (by first | (with_reducible assumption) | assumption)
                obtain ⟨ad577, e577, hx577_0, hx577_1, hx577_2⟩ := at_T89 HR1.out x5_1 p577 q577
                cases e577
                replace p577 := eq_true p577
                replace q577 := eq_true q577
                go_wp2
                repeat (go_quiet (fail); try go_wp2)
                go_ret
                exact ⟨by first | rfl | (simp; done) | (simp [*]; done), by repeat (first | exact Drawn0.refl _ | apply Drawn0.step)⟩
              · rw [if_neg c7] at H
                have c7b0 : (!((((rd_T89 l0 x5_1).f0).toList) == (((rd_T89 l1 x5_1).f0).toList)) || (!((((rd_T89 l0 x5_1).f1).toList) == (((rd_T89 l1 x5_1).f1).toList)) || (!(((rd_T89 l0 x5_1).f2) == ((rd_T89 l1 x5_1).f2))))) = false := by simpa using c7
                clear c7
                have H' := Aside0.mk H
                clear H
                have p576 : 0 ≤ (x5_1 : Int) := of_decide_eq_true (by first | (with_reducible assumption) | assumption)
                have q576 : x5_1 < (l0.length : Int) := of_decide_eq_true (by first | (with_reducible assumption) | assumption)
                obtain ⟨ad576, e576, hx576_0, hx576_1, hx576_2⟩ := at_T89 HR0.out x5_1 p576 q576
                cases e576
                replace p576 := eq_true p576
                replace q576 := eq_true q576
                have p577 : 0 ≤ (x5_1 : Int) := of_decide_eq_true (by first | (with_reducible assumption) | assumption)
                have q577 : x5_1 < (l1.length : Int) := of_decide_eq_true (by first | (with_reducible assumption) | assumption)
                obtain ⟨ad577, e577, hx577_0, hx577_1, hx577_2⟩ := at_T89 HR1.out x5_1 p577 q577
                cases e577
                replace p577 := eq_true p577
                replace q577 := eq_true q577
                go_wp2
                repeat (go_quiet (fail); try go_wp2)
                go_roundg k1
                case measure => have := HK1.out; omega
                case rel => exact ⟨(wrap64 (x5_1 + 1)), (by first | rfl | (simp; done) | (simp [*]; done)), H', ⟨by have := HK1.out; omega⟩, by repeat (first | exact Drawn0.refl _ | apply Drawn0.step)⟩
            · rw [if_neg c6] at H
              exact absurd H (by simp)
          · rw [if_neg c5] at H
            exact absurd H (by simp)
        · rw [if_neg c4] at H
          have c4b0 : decide (x5_1 < (l0.length : Int)) = false := decide_eq_false c4
          clear c4
          obtain rfl := Option.some.inj H
          go_wp2
          repeat (go_quiet (fail); try go_wp2)
          go_ret
          exact ⟨by first | rfl | (simp; done) | (simp [*]; done), by repeat (first | exact Drawn0.refl _ | apply Drawn0.step)⟩
  · rw [if_neg c3] at H
    have c3b0 : ((l0.length : Int) == (l1.length : Int)) = false := beq_eq_false_iff_ne.mpr c3
    have c3b1 : ((l0.length : Int) != (l1.length : Int)) = true := bne_iff_ne.mpr c3
    have c3b2 : (l0.length == l1.length) = false := by first | simpa using c3 | (simp at c3 ⊢; omega)
    obtain rfl := Option.some.inj H
    go_enter Try.func49, Try.ntmps49
    go_wp2
    repeat (go_quiet (fail); try go_wp2)
    go_ret
    exact ⟨by first | rfl | (simp; done) | (simp [*]; done), by repeat (first | exact Drawn0.refl _ | apply Drawn0.step)⟩
end Go.Proofs.Ytmflggbpiadkjaa.P
-- PRINTED by print.py (a twelfth state) out of the translation. Not trusted: Lean checks it.
namespace Go.Proofs.Ytmflggbpiadkjaa.P
open Go.RowKit Go.Proofs.YtmflggbpiadkjaaW.PrintWords Go.Proofs.YtmflggbpiadkjaaW.PrintLast Go.Proofs.YtmflggbpiadkjaaW.PrintMore
attribute [local go_sem] max2_int min2_int max_two min_two max_three min_three max_four min_four   -- for this text's walks alone
set_option linter.unusedVariables false
set_option linter.unusedSimpArgs false
-- NOT PRINTED: function 90 (words_every)
end Go.Proofs.Ytmflggbpiadkjaa.P
-- PRINTED by print.py (a twelfth state) out of the translation. Not trusted: Lean checks it.
namespace Go.Proofs.Ytmflggbpiadkjaa.P
open Go.RowKit Go.Proofs.YtmflggbpiadkjaaW.PrintWords Go.Proofs.YtmflggbpiadkjaaW.PrintLast Go.Proofs.YtmflggbpiadkjaaW.PrintMore
attribute [local go_sem] max2_int min2_int max_two min_two max_three min_three max_four min_four   -- for this text's walks alone
set_option linter.unusedVariables false
set_option linter.unusedSimpArgs false
/-! ### accountinglaw44_cell: function 74 -/
def accountinglaw44_cell.f (a0 : ByteArray) (a1 : ByteArray) (a2 : ByteArray) (a3 : Int) : Option (ByteArray × ByteArray × ByteArray × ByteArray × ByteArray × Int × Int) := some (a0, a1, (⟨#[69, 85, 82]⟩ : ByteArray), a2, (⟨#[]⟩ : ByteArray), a3, a3)
set_option maxHeartbeats 8000000 in
set_option maxRecDepth 100000 in
theorem accountinglaw44_cell.calls (a0 : ByteArray) (a1 : ByteArray) (a2 : ByteArray) (a3 : Int) (r1 : ByteArray) (r2 : ByteArray) (r3 : ByteArray) (r4 : ByteArray) (r5 : ByteArray) (r6 : Int) (r7 : Int) (w : World) (h : accountinglaw44_cell.f a0 a1 a2 a3 = some (r1, r2, r3, r4, r5, r6, r7)) :
    Calls Try.prog 74 #[.string a0, .string a1, .string a2, .int .i64 a3] w fun e w' => e = .returned (.agg #[.string r1, .string r2, .string r3, .string r4, .string r5, .int .i64 r6, .int .i64 r7]) ∧ Below w.heap.size w w' := by
  have hu34 := Try.underlying34
  have hu32 := Try.underlying32
  have HB := Aside0.mk (Below.refl w.heap.size w)
  have H : (some (a0, a1, (⟨#[69, 85, 82]⟩ : ByteArray), a2, (⟨#[]⟩ : ByteArray), a3, a3)) = some (r1, r2, r3, r4, r5, r6, r7) := h
  clear h
  simp only [Option.some.injEq, Prod.mk.injEq] at H
  obtain ⟨rfl, rfl, rfl, rfl, rfl, rfl, rfl⟩ := H
  go_enter Try.func74, Try.ntmps74
  go_wp2_with (first | ((with_reducible refine gate_dst (N := 8) rfl ?_); refine box_event ?hg (N := 8) ?hd (cs := #[.string (⟨#[]⟩ : ByteArray), .string (⟨#[]⟩ : ByteArray), .string (⟨#[]⟩ : ByteArray), .string (⟨#[]⟩ : ByteArray), .string (⟨#[]⟩ : ByteArray), .int .i64 0, .int .i64 0]) (t := 34) ?hr ?_; (case hd => rfl); (case hg => rfl); (case hr => first | (go_simp; done) | (go_simp; rfl)); intro gb605 hg w5 hbox hb; have n0_ := Aside0.mk (below_step (by repeat (first | (with_reducible first | exact HB.out | apply below_alloc | apply pw_below_drewN | apply below_drew1) | exact HB.out)) hb); have n1_ := Aside0.mk (hbox); have n2_ := Aside0.mk ((by rw [hg]; exact (below_size (by repeat (first | (with_reducible first | exact HB.out | apply below_alloc | apply pw_below_drewN | apply below_drew1) | exact HB.out))) : w.heap.size ≤ gb605)); have n3_ := Aside0.mk ((by rw [hg]; exact (below_size (by repeat (first | (with_reducible first | exact HB.out | apply below_alloc | apply pw_below_drewN | apply below_drew1) | exact HB.out))) : w.heap.size ≤ gb605)); clear HB; have HB := n0_; have BK605 := n1_; have GW605 := n2_; have GE605 := n3_; clear n0_ n1_ n2_ n3_; clear hb hbox hg; have hcz6_0 : w5.cell? ⟨gb605, 0, none⟩ = some (.string (⟨#[]⟩ : ByteArray)) := (blk_cell BK605.out 0).trans rfl; have hcz6_1 : w5.cell? ⟨gb605, 1, none⟩ = some (.string (⟨#[]⟩ : ByteArray)) := (blk_cell BK605.out 1).trans rfl; have hcz6_2 : w5.cell? ⟨gb605, 2, none⟩ = some (.string (⟨#[]⟩ : ByteArray)) := (blk_cell BK605.out 2).trans rfl; have hcz6_3 : w5.cell? ⟨gb605, 3, none⟩ = some (.string (⟨#[]⟩ : ByteArray)) := (blk_cell BK605.out 3).trans rfl; have hcz6_4 : w5.cell? ⟨gb605, 4, none⟩ = some (.string (⟨#[]⟩ : ByteArray)) := (blk_cell BK605.out 4).trans rfl; have hcz6_5 : w5.cell? ⟨gb605, 5, none⟩ = some (.int .i64 0) := (blk_cell BK605.out 5).trans rfl; have hcz6_6 : w5.cell? ⟨gb605, 6, none⟩ = some (.int .i64 0) := (blk_cell BK605.out 6).trans rfl; have hfz6_0 := blk_frozen BK605.out 0; have hfz6_1 := blk_frozen BK605.out 1; have hfz6_2 := blk_frozen BK605.out 2; have hfz6_3 := blk_frozen BK605.out 3; have hfz6_4 := blk_frozen BK605.out 4; have hfz6_5 := blk_frozen BK605.out 5; have hfz6_6 := blk_frozen BK605.out 6))
  refine bodyPost_ret (results_cell_row rfl _ _ gb605 34 #[.string a0, .string a1, .string (⟨#[69, 85, 82]⟩ : ByteArray), .string a2, .string (⟨#[]⟩ : ByteArray), .int .i64 a3, .int .i64 a3] (0, 0) _ rfl (by (with_reducible repeat (first | refine blk_drewN ?_ _ | refine blk_drew ?_ | refine blk_alloc ?_ _)); refine blk_put (cs := #[.string a0, .string a1, .string (⟨#[69, 85, 82]⟩ : ByteArray), .string a2, .string (⟨#[]⟩ : ByteArray), .int .i64 a3, .int .i64 0]) ?_ 6 _ rfl; (with_reducible repeat (first | refine blk_drewN ?_ _ | refine blk_drew ?_ | refine blk_alloc ?_ _)); refine blk_put (cs := #[.string a0, .string a1, .string (⟨#[69, 85, 82]⟩ : ByteArray), .string a2, .string (⟨#[]⟩ : ByteArray), .int .i64 0, .int .i64 0]) ?_ 5 _ rfl; (with_reducible repeat (first | refine blk_drewN ?_ _ | refine blk_drew ?_ | refine blk_alloc ?_ _)); refine blk_put (cs := #[.string a0, .string a1, .string (⟨#[69, 85, 82]⟩ : ByteArray), .string a2, .string (⟨#[]⟩ : ByteArray), .int .i64 0, .int .i64 0]) ?_ 4 _ rfl; (with_reducible repeat (first | refine blk_drewN ?_ _ | refine blk_drew ?_ | refine blk_alloc ?_ _)); refine blk_put (cs := #[.string a0, .string a1, .string (⟨#[69, 85, 82]⟩ : ByteArray), .string (⟨#[]⟩ : ByteArray), .string (⟨#[]⟩ : ByteArray), .int .i64 0, .int .i64 0]) ?_ 3 _ rfl; (with_reducible repeat (first | refine blk_drewN ?_ _ | refine blk_drew ?_ | refine blk_alloc ?_ _)); refine blk_put (cs := #[.string a0, .string a1, .string (⟨#[]⟩ : ByteArray), .string (⟨#[]⟩ : ByteArray), .string (⟨#[]⟩ : ByteArray), .int .i64 0, .int .i64 0]) ?_ 2 _ rfl; (with_reducible repeat (first | refine blk_drewN ?_ _ | refine blk_drew ?_ | refine blk_alloc ?_ _)); refine blk_put (cs := #[.string a0, .string (⟨#[]⟩ : ByteArray), .string (⟨#[]⟩ : ByteArray), .string (⟨#[]⟩ : ByteArray), .string (⟨#[]⟩ : ByteArray), .int .i64 0, .int .i64 0]) ?_ 1 _ rfl; (with_reducible repeat (first | refine blk_drewN ?_ _ | refine blk_drew ?_ | refine blk_alloc ?_ _)); refine blk_put (cs := #[.string (⟨#[]⟩ : ByteArray), .string (⟨#[]⟩ : ByteArray), .string (⟨#[]⟩ : ByteArray), .string (⟨#[]⟩ : ByteArray), .string (⟨#[]⟩ : ByteArray), .int .i64 0, .int .i64 0]) ?_ 0 _ rfl; (with_reducible repeat (first | refine blk_drewN ?_ _ | refine blk_drew ?_ | refine blk_alloc ?_ _)); exact BK605.out) Try.underlying34 rfl (by kernel_rfl)) rfl ?_
  exact ⟨by first | rfl | (simp [errW_none, errW_some] <;> rfl) | (simp [*, errW_none, errW_some] <;> rfl), by repeat (first | (with_reducible first | exact HB.out | apply below_alloc | apply pw_below_drewN | apply below_drew1 | refine below_set ?_ GE605.out) | exact HB.out)⟩
end Go.Proofs.Ytmflggbpiadkjaa.P
namespace Go.Proofs.Ytmflggbpiadkjaa.P
open Go.RowKit Go.Proofs.YtmflggbpiadkjaaW.PrintWords Go.Proofs.YtmflggbpiadkjaaW.PrintLast Go.Proofs.YtmflggbpiadkjaaW.PrintMore
attribute [local go_sem] max2_int min2_int max_two min_two max_three min_three max_four min_four   -- for this text's walks alone
set_option linter.unusedVariables false
set_option linter.unusedSimpArgs false
/-! ### accountingref44_member: function 86 -/
def accountingref44_member.l0 : Nat → List ByteArray → ByteArray → Int → Option (Bool)
 | 0, _, _, _ => none
 | k + 1, x0, x1, x5 => if x5 < (x0.length : Int) then (if 0 ≤ x5 then (if (rdOf ByteArray.empty x0 x5).toList = x1.toList then (some true) else (accountingref44_member.l0 k x0 x1 (wrap64 (x5 + 1)))) else (none)) else (some false)
def accountingref44_member.f (k : Nat) (l0 : List ByteArray) (a1 : ByteArray) : Option (Bool) := accountingref44_member.l0 k l0 a1 0
theorem accountingref44_member.mono_l : ∀ k, (∀ y0 y1 y2, LeO (accountingref44_member.l0 k y0 y1 y2) (accountingref44_member.l0 (k + 1) y0 y1 y2))
 | 0 => fun _ _ _ r h => by simp [accountingref44_member.l0] at h
 | k + 1 => by
  have ih0 := accountingref44_member.mono_l k
  ·intro y0 y1 y2
   unfold accountingref44_member.l0
   repeat' first
   | (with_reducible exact ih0 _ _ _)
   | (with_reducible exact LeO.refl _)
   | (with_reducible exact LeO.none _)
   | (with_reducible refine LeO.ite ?_ ?_)
   | (with_reducible refine LeO.bind ?_ (fun _ => ?_))
   | exact ih0 _ _ _
   | exact LeO.none _
   | refine LeO.ite ?_ ?_
   | refine LeO.bind ?_ (fun _ => ?_)
theorem accountingref44_member.mono : ∀ a0 a1 k, LeO (accountingref44_member.f k a0 a1) (accountingref44_member.f (k + 1) a0 a1) := by
 intro a0 a1 k
 have ih0 := accountingref44_member.mono_l k
 unfold accountingref44_member.f
 repeat' first
   | (with_reducible exact ih0 _ _ _)
   | (with_reducible exact LeO.refl _)
   | (with_reducible exact LeO.none _)
   | (with_reducible refine LeO.ite ?_ ?_)
   | (with_reducible refine LeO.bind ?_ (fun _ => ?_))
   | exact ih0 _ _ _
   | exact LeO.none _
   | refine LeO.ite ?_ ?_
   | refine LeO.bind ?_ (fun _ => ?_)
set_option maxHeartbeats 8000000 in
set_option maxRecDepth 100000 in
theorem accountingref44_member.calls (k : Nat) (A0 : Option Addr) (c0 : Nat) (l0 : List ByteArray) (a1 : ByteArray) (r : Bool) (w : World) (hr0 : Kd.C Kd.string w A0 l0.length l0) (hc0 : l0.length ≤ c0) (h : accountingref44_member.f k l0 a1 = some r) :
  Calls Try.prog 86 #[.slice A0 l0.length c0, .string a1] w fun e w' => e = .returned (.bool r) ∧ Drawn0 w w' := by
 have HR0 := Aside0.mk hr0
 have HC0 := Aside0.mk hc0
 clear hr0 hc0
 have H : (accountingref44_member.l0 k l0 a1 0) = some r := h
 clear h
 have H' := Aside0.mk H
 clear H
 go_enter Try.func86, Try.ntmps86
 go_wp2
 go_loopg [5] k (fun kq v5 w' => ∃ (x5_1 : Int), v5 = .int .i64 x5_1 ∧ Aside0 (accountingref44_member.l0 kq l0 a1 x5_1 = some r) ∧ Aside0 (kq ≤ k) ∧ Drawn0 w w')
 case atStart => exact ⟨(0), (by first | rfl | (simp; done) | (simp [*]; done)), H', ⟨Nat.le_refl _⟩, by repeat (first | exact Drawn0.refl _ | apply Drawn0.step)⟩
 case round =>
  clear H'
  try clear p2
  obtain ⟨x5_1, rfl, HA, HK1, ⟨m1, rfl⟩⟩ := hrel
  cases gk with
  | zero => exact absurd HA.out (by simp [accountingref44_member.l0])
  | succ k1 =>
   have H := HA.out
   clear HA
   simp only [accountingref44_member.l0] at H
   by_cases c3 : x5_1 < (l0.length : Int)
   ·rw [if_pos c3] at H
    have c3b0 : decide (x5_1 < (l0.length : Int)) = true := decide_eq_true c3
    clear c3
    by_cases c4 : 0 ≤ x5_1
    ·rw [if_pos c4] at H
     have c4b0 : decide (0 ≤ x5_1) = true := decide_eq_true c4
     clear c4
     by_cases c5 : (rdOf ByteArray.empty l0 x5_1).toList = a1.toList
     ·rw [if_pos c5] at H
      have c5b0 : ((rdOf ByteArray.empty l0 x5_1).toList == a1.toList) = true := beq_iff_eq.mpr c5
      have c5b1 : ((rdOf ByteArray.empty l0 x5_1).toList != a1.toList) = false := bne_eq_false_iff_eq.mpr c5
      clear c5
      obtain rfl := Option.some.inj H
      have p546 : 0 ≤ (x5_1 : Int) := of_decide_eq_true (by first | (with_reducible assumption) | assumption)
      have q546 : x5_1 < (l0.length : Int) := of_decide_eq_true (by first | (with_reducible assumption) | assumption)
      obtain ⟨ad546, e546, hx546_0⟩ := Kd.at_string HR0.out x5_1 p546 q546
      cases e546
      replace p546 := eq_true p546
      replace q546 := eq_true q546
      go_wp2
      go_ret
      exact ⟨by first | rfl | (simp; done) | (simp [*]; done), by repeat (first | exact Drawn0.refl _ | apply Drawn0.step)⟩
     ·rw [if_neg c5] at H
      have c5b0 : ((rdOf ByteArray.empty l0 x5_1).toList == a1.toList) = false := beq_eq_false_iff_ne.mpr c5
      have c5b1 : ((rdOf ByteArray.empty l0 x5_1).toList != a1.toList) = true := bne_iff_ne.mpr c5
      have H' := Aside0.mk H
      clear H
      have p546 : 0 ≤ (x5_1 : Int) := of_decide_eq_true (by first | (with_reducible assumption) | assumption)
      have q546 : x5_1 < (l0.length : Int) := of_decide_eq_true (by first | (with_reducible assumption) | assumption)
      obtain ⟨ad546, e546, hx546_0⟩ := Kd.at_string HR0.out x5_1 p546 q546
      cases e546
      replace p546 := eq_true p546
      replace q546 := eq_true q546
      go_wp2
      go_roundg k1
      case measure => have := HK1.out; omega
      case rel => exact ⟨(wrap64 (x5_1 + 1)), (by first | rfl | (simp; done) | (simp [*]; done)), H', ⟨by have := HK1.out; omega⟩, by repeat (first | exact Drawn0.refl _ | apply Drawn0.step)⟩
    ·rw [if_neg c4] at H
     exact absurd H (by simp)
   ·rw [if_neg c3] at H
    have c3b0 : decide (x5_1 < (l0.length : Int)) = false := decide_eq_false c3
    clear c3
    obtain rfl := Option.some.inj H
    go_wp2
    go_ret
    exact ⟨by first | rfl | (simp; done) | (simp [*]; done), by repeat (first | exact Drawn0.refl _ | apply Drawn0.step)⟩
/-! ### accountingref44_Is: function 73 -/
def accountingref44_Is.f (k : Nat) (a0_0 : ByteArray) (a0_1 : ByteArray) (a0_2 : ByteArray) (a0_3 : ByteArray) (a0_4 : ByteArray) (a0_5 : Int) (a0_6 : Int) (l1 : List ByteArray) : Option (Bool) := (accountingref44_member.f k l1 a0_0).bind fun t548 => (if t548 = true then ((accountingref44_member.f k l1 a0_3).bind fun t549 => (if t549 = true then (some (a0_0.toList != a0_3.toList)) else (some false))) else (some false))
theorem accountingref44_Is.mono : ∀ a0 a1 a2 a3 a4 a5 a6 a7 k, LeO (accountingref44_Is.f k a0 a1 a2 a3 a4 a5 a6 a7) (accountingref44_Is.f (k + 1) a0 a1 a2 a3 a4 a5 a6 a7) := by
 intro a0 a1 a2 a3 a4 a5 a6 a7 k
 unfold accountingref44_Is.f
 repeat' first
   | (with_reducible exact accountingref44_member.mono _ _ _)
   | (with_reducible exact LeO.refl _)
   | (with_reducible exact LeO.none _)
   | (with_reducible refine LeO.ite ?_ ?_)
   | (with_reducible refine LeO.bind ?_ (fun _ => ?_))
   | exact accountingref44_member.mono _ _ _
   | exact LeO.none _
   | refine LeO.ite ?_ ?_
   | refine LeO.bind ?_ (fun _ => ?_)
set_option maxHeartbeats 8000000 in
set_option maxRecDepth 100000 in
theorem accountingref44_Is.calls (k : Nat) (a0_0 : ByteArray) (a0_1 : ByteArray) (a0_2 : ByteArray) (a0_3 : ByteArray) (a0_4 : ByteArray) (a0_5 : Int) (a0_6 : Int) (A1 : Option Addr) (c1 : Nat) (l1 : List ByteArray) (r : Bool) (w : World) (hr1 : Kd.C Kd.string w A1 l1.length l1) (hc1 : l1.length ≤ c1) (h : accountingref44_Is.f k a0_0 a0_1 a0_2 a0_3 a0_4 a0_5 a0_6 l1 = some r) :
  Calls Try.prog 73 #[.agg #[.string a0_0, .string a0_1, .string a0_2, .string a0_3, .string a0_4, .int .i64 a0_5, .int .i64 a0_6], .slice A1 l1.length c1] w fun e w' => e = .returned (.bool r) ∧ Below w.heap.size w w' := by
 have hu34 := Try.underlying34
 have HR1 := Aside0.mk hr1
 have HC1 := Aside0.mk hc1
 clear hr1 hc1
 have HB := Aside0.mk (Below.refl w.heap.size w)
 have H : ((accountingref44_member.f k l1 a0_0).bind fun t548 => (if t548 = true then ((accountingref44_member.f k l1 a0_3).bind fun t549 => (if t549 = true then (some (a0_0.toList != a0_3.toList)) else (some false))) else (some false))) = some r := h
 clear h
 replace H := Option.bind_eq_some_iff.mp H
 obtain ⟨t548, A30, H⟩ := H
 try dsimp only at H
 have A3 := Aside0.mk A30
 clear A30
 by_cases c4 : t548 = true
 ·subst c4
  have H1 : ((accountingref44_member.f k l1 a0_3).bind fun t549 => (if t549 = true then (some (a0_0.toList != a0_3.toList)) else (some false))) = some r := by rw [if_pos rfl] at H; exact H
  clear H
  have H := H1
  clear H1
  replace H := Option.bind_eq_some_iff.mp H
  obtain ⟨t549, A50, H⟩ := H
  replace H : (if t549 = true then (some (a0_0.toList != a0_3.toList)) else (some false)) = some r := H
  have A5 := Aside0.mk A50
  clear A50
  by_cases c6 : t549 = true
  ·subst c6
   have H1 : (some (a0_0.toList != a0_3.toList)) = some r := by rw [if_pos rfl] at H; exact H
   clear H
   have H := H1
   clear H1
   obtain rfl := Option.some.inj H
   go_enter Try.func73, Try.ntmps73
   go_wp2_with (first | ((with_reducible refine gate_dst (N := 2) rfl ?_); refine box_event ?hg (N := 2) ?hd (cs := #[.string a0_0, .string a0_1, .string a0_2, .string a0_3, .string a0_4, .int .i64 a0_5, .int .i64 a0_6]) (t := 34) ?hr ?_; (case hd => rfl); (case hg => rfl); (case hr => first | (go_simp; done) | (go_simp; rfl)); intro gb547 hg w7 hbox hb; have n0_ := Aside0.mk (below_step (by repeat (first | (with_reducible first | exact HB.out | apply below_alloc | apply pw_below_drewN | apply below_drew1) | exact HB.out)) hb); have n1_ := Aside0.mk (hbox); have n2_ := Aside0.mk ((by rw [hg]; exact (below_size (by repeat (first | (with_reducible first | exact HB.out | apply below_alloc | apply pw_below_drewN | apply below_drew1) | exact HB.out))) : w.heap.size ≤ gb547)); have n3_ := Aside0.mk ((by rw [hg]; exact (below_size (by repeat (first | (with_reducible first | exact HB.out | apply below_alloc | apply pw_below_drewN | apply below_drew1) | exact HB.out))) : w.heap.size ≤ gb547)); clear HB; have HB := n0_; have BK547 := n1_; have GW547 := n2_; have GE547 := n3_; clear n0_ n1_ n2_ n3_; clear hb hbox hg; have hcz8_0 : w7.cell? ⟨gb547, 0, none⟩ = some (.string a0_0) := (blk_cell BK547.out 0).trans rfl; have hcz8_1 : w7.cell? ⟨gb547, 1, none⟩ = some (.string a0_1) := (blk_cell BK547.out 1).trans rfl; have hcz8_2 : w7.cell? ⟨gb547, 2, none⟩ = some (.string a0_2) := (blk_cell BK547.out 2).trans rfl; have hcz8_3 : w7.cell? ⟨gb547, 3, none⟩ = some (.string a0_3) := (blk_cell BK547.out 3).trans rfl; have hcz8_4 : w7.cell? ⟨gb547, 4, none⟩ = some (.string a0_4) := (blk_cell BK547.out 4).trans rfl; have hcz8_5 : w7.cell? ⟨gb547, 5, none⟩ = some (.int .i64 a0_5) := (blk_cell BK547.out 5).trans rfl; have hcz8_6 : w7.cell? ⟨gb547, 6, none⟩ = some (.int .i64 a0_6) := (blk_cell BK547.out 6).trans rfl; have hfz8_0 := blk_frozen BK547.out 0; have hfz8_1 := blk_frozen BK547.out 1; have hfz8_2 := blk_frozen BK547.out 2; have hfz8_3 := blk_frozen BK547.out 3; have hfz8_4 := blk_frozen BK547.out 4; have hfz8_5 := blk_frozen BK547.out 5; have hfz8_6 := blk_frozen BK547.out 6) | ((with_reducible refine gate_callee (f := 86) rfl ?_); refine goesL_ (some 9) rfl rfl Try.func86 (by kernel_rfl) rfl #[.slice A1 l1.length c1, .string a0_0] rfl (by (try simp only [List.map_toArray, List.map_cons, List.map_nil]); first | done | rfl | (simp only [List.length_drop, List.length_take]; rfl)) ?_; (with_reducible refine (accountingref44_member.calls k _ _ l1 a0_0 true _ ?side1 ?side2 A3.out).mono ?_); (case side1 => repeat (first | exact (Kd.C_below HR1.out HB.out) | exact (Kd.C_drewN (Kd.C_below HR1.out HB.out) _) | (with_reducible refine Kd.C_alloc ?_ _) | (with_reducible refine Kd.C_drewN ?_ _) | (with_reducible refine Kd.C_drew ?_))); (case side2 => exact HC1.out); rintro e w' ⟨rfl, ⟨nd, rfl⟩⟩; refine ⟨_, rfl, ?_⟩) | (go_at_call 86; (with_reducible refine (accountingref44_member.calls k _ _ l1 a0_3 true _ ?side1 ?side2 A5.out).mono ?_); (case side1 => repeat (first | exact (Kd.C_below HR1.out (by repeat (first | (with_reducible first | exact HB.out | apply below_alloc | apply pw_below_drewN | apply below_drew1 | refine below_set ?_ GE547.out) | exact HB.out))) | (with_reducible refine Kd.C_alloc ?_ _) | (with_reducible refine Kd.C_drewN ?_ _) | (with_reducible refine Kd.C_drew ?_))); (case side2 => exact HC1.out); rintro e w' ⟨rfl, ⟨nd, rfl⟩⟩))
   go_ret
   exact ⟨by first | rfl | (simp [errW_none, errW_some] <;> rfl) | (simp [*, errW_none, errW_some] <;> rfl), by repeat (first | (with_reducible first | exact HB.out | apply below_alloc | apply pw_below_drewN | apply below_drew1 | refine below_set ?_ GE547.out) | exact HB.out)⟩
  ·replace c6 := Bool.eq_false_iff.mpr c6
   subst c6
   have H1 : (some false) = some r := by rw [if_neg (show ¬ (false = true) by decide)] at H; exact H
   clear H
   have H := H1
   clear H1
   obtain rfl := Option.some.inj H
   go_enter Try.func73, Try.ntmps73
   go_wp2_with (first | ((with_reducible refine gate_dst (N := 2) rfl ?_); refine box_event ?hg (N := 2) ?hd (cs := #[.string a0_0, .string a0_1, .string a0_2, .string a0_3, .string a0_4, .int .i64 a0_5, .int .i64 a0_6]) (t := 34) ?hr ?_; (case hd => rfl); (case hg => rfl); (case hr => first | (go_simp; done) | (go_simp; rfl)); intro gb547 hg w9 hbox hb; have n0_ := Aside0.mk (below_step (by repeat (first | (with_reducible first | exact HB.out | apply below_alloc | apply pw_below_drewN | apply below_drew1) | exact HB.out)) hb); have n1_ := Aside0.mk (hbox); have n2_ := Aside0.mk ((by rw [hg]; exact (below_size (by repeat (first | (with_reducible first | exact HB.out | apply below_alloc | apply pw_below_drewN | apply below_drew1) | exact HB.out))) : w.heap.size ≤ gb547)); have n3_ := Aside0.mk ((by rw [hg]; exact (below_size (by repeat (first | (with_reducible first | exact HB.out | apply below_alloc | apply pw_below_drewN | apply below_drew1) | exact HB.out))) : w.heap.size ≤ gb547)); clear HB; have HB := n0_; have BK547 := n1_; have GW547 := n2_; have GE547 := n3_; clear n0_ n1_ n2_ n3_; clear hb hbox hg; have hcz10_0 : w9.cell? ⟨gb547, 0, none⟩ = some (.string a0_0) := (blk_cell BK547.out 0).trans rfl; have hcz10_1 : w9.cell? ⟨gb547, 1, none⟩ = some (.string a0_1) := (blk_cell BK547.out 1).trans rfl; have hcz10_2 : w9.cell? ⟨gb547, 2, none⟩ = some (.string a0_2) := (blk_cell BK547.out 2).trans rfl; have hcz10_3 : w9.cell? ⟨gb547, 3, none⟩ = some (.string a0_3) := (blk_cell BK547.out 3).trans rfl; have hcz10_4 : w9.cell? ⟨gb547, 4, none⟩ = some (.string a0_4) := (blk_cell BK547.out 4).trans rfl; have hcz10_5 : w9.cell? ⟨gb547, 5, none⟩ = some (.int .i64 a0_5) := (blk_cell BK547.out 5).trans rfl; have hcz10_6 : w9.cell? ⟨gb547, 6, none⟩ = some (.int .i64 a0_6) := (blk_cell BK547.out 6).trans rfl; have hfz10_0 := blk_frozen BK547.out 0; have hfz10_1 := blk_frozen BK547.out 1; have hfz10_2 := blk_frozen BK547.out 2; have hfz10_3 := blk_frozen BK547.out 3; have hfz10_4 := blk_frozen BK547.out 4; have hfz10_5 := blk_frozen BK547.out 5; have hfz10_6 := blk_frozen BK547.out 6) | ((with_reducible refine gate_callee (f := 86) rfl ?_); refine goesL_ (some 9) rfl rfl Try.func86 (by kernel_rfl) rfl #[.slice A1 l1.length c1, .string a0_0] rfl (by (try simp only [List.map_toArray, List.map_cons, List.map_nil]); first | done | rfl | (simp only [List.length_drop, List.length_take]; rfl)) ?_; (with_reducible refine (accountingref44_member.calls k _ _ l1 a0_0 true _ ?side1 ?side2 A3.out).mono ?_); (case side1 => repeat (first | exact (Kd.C_below HR1.out HB.out) | exact (Kd.C_drewN (Kd.C_below HR1.out HB.out) _) | (with_reducible refine Kd.C_alloc ?_ _) | (with_reducible refine Kd.C_drewN ?_ _) | (with_reducible refine Kd.C_drew ?_))); (case side2 => exact HC1.out); rintro e w' ⟨rfl, ⟨nd, rfl⟩⟩; refine ⟨_, rfl, ?_⟩) | (go_at_call 86; (with_reducible refine (accountingref44_member.calls k _ _ l1 a0_3 false _ ?side1 ?side2 A5.out).mono ?_); (case side1 => repeat (first | exact (Kd.C_below HR1.out (by repeat (first | (with_reducible first | exact HB.out | apply below_alloc | apply pw_below_drewN | apply below_drew1 | refine below_set ?_ GE547.out) | exact HB.out))) | (with_reducible refine Kd.C_alloc ?_ _) | (with_reducible refine Kd.C_drewN ?_ _) | (with_reducible refine Kd.C_drew ?_))); (case side2 => exact HC1.out); rintro e w' ⟨rfl, ⟨nd, rfl⟩⟩))
   go_ret
   exact ⟨by first | rfl | (simp [errW_none, errW_some] <;> rfl) | (simp [*, errW_none, errW_some] <;> rfl), by repeat (first | (with_reducible first | exact HB.out | apply below_alloc | apply pw_below_drewN | apply below_drew1 | refine below_set ?_ GE547.out) | exact HB.out)⟩
 ·replace c4 := Bool.eq_false_iff.mpr c4
  subst c4
  have H1 : (some false) = some r := by rw [if_neg (show ¬ (false = true) by decide)] at H; exact H
  clear H
  have H := H1
  clear H1
  obtain rfl := Option.some.inj H
  go_enter Try.func73, Try.ntmps73
  go_wp2_with (first | ((with_reducible refine gate_dst (N := 2) rfl ?_); refine box_event ?hg (N := 2) ?hd (cs := #[.string a0_0, .string a0_1, .string a0_2, .string a0_3, .string a0_4, .int .i64 a0_5, .int .i64 a0_6]) (t := 34) ?hr ?_; (case hd => rfl); (case hg => rfl); (case hr => first | (go_simp; done) | (go_simp; rfl)); intro gb547 hg w11 hbox hb; have n0_ := Aside0.mk (below_step (by repeat (first | (with_reducible first | exact HB.out | apply below_alloc | apply pw_below_drewN | apply below_drew1) | exact HB.out)) hb); have n1_ := Aside0.mk (hbox); have n2_ := Aside0.mk ((by rw [hg]; exact (below_size (by repeat (first | (with_reducible first | exact HB.out | apply below_alloc | apply pw_below_drewN | apply below_drew1) | exact HB.out))) : w.heap.size ≤ gb547)); have n3_ := Aside0.mk ((by rw [hg]; exact (below_size (by repeat (first | (with_reducible first | exact HB.out | apply below_alloc | apply pw_below_drewN | apply below_drew1) | exact HB.out))) : w.heap.size ≤ gb547)); clear HB; have HB := n0_; have BK547 := n1_; have GW547 := n2_; have GE547 := n3_; clear n0_ n1_ n2_ n3_; clear hb hbox hg; have hcz12_0 : w11.cell? ⟨gb547, 0, none⟩ = some (.string a0_0) := (blk_cell BK547.out 0).trans rfl; have hcz12_1 : w11.cell? ⟨gb547, 1, none⟩ = some (.string a0_1) := (blk_cell BK547.out 1).trans rfl; have hcz12_2 : w11.cell? ⟨gb547, 2, none⟩ = some (.string a0_2) := (blk_cell BK547.out 2).trans rfl; have hcz12_3 : w11.cell? ⟨gb547, 3, none⟩ = some (.string a0_3) := (blk_cell BK547.out 3).trans rfl; have hcz12_4 : w11.cell? ⟨gb547, 4, none⟩ = some (.string a0_4) := (blk_cell BK547.out 4).trans rfl; have hcz12_5 : w11.cell? ⟨gb547, 5, none⟩ = some (.int .i64 a0_5) := (blk_cell BK547.out 5).trans rfl; have hcz12_6 : w11.cell? ⟨gb547, 6, none⟩ = some (.int .i64 a0_6) := (blk_cell BK547.out 6).trans rfl; have hfz12_0 := blk_frozen BK547.out 0; have hfz12_1 := blk_frozen BK547.out 1; have hfz12_2 := blk_frozen BK547.out 2; have hfz12_3 := blk_frozen BK547.out 3; have hfz12_4 := blk_frozen BK547.out 4; have hfz12_5 := blk_frozen BK547.out 5; have hfz12_6 := blk_frozen BK547.out 6) | ((with_reducible refine gate_callee (f := 86) rfl ?_); refine goesL_ (some 9) rfl rfl Try.func86 (by kernel_rfl) rfl #[.slice A1 l1.length c1, .string a0_0] rfl (by (try simp only [List.map_toArray, List.map_cons, List.map_nil]); first | done | rfl | (simp only [List.length_drop, List.length_take]; rfl)) ?_; (with_reducible refine (accountingref44_member.calls k _ _ l1 a0_0 false _ ?side1 ?side2 A3.out).mono ?_); (case side1 => repeat (first | exact (Kd.C_below HR1.out HB.out) | exact (Kd.C_drewN (Kd.C_below HR1.out HB.out) _) | (with_reducible refine Kd.C_alloc ?_ _) | (with_reducible refine Kd.C_drewN ?_ _) | (with_reducible refine Kd.C_drew ?_))); (case side2 => exact HC1.out); rintro e w' ⟨rfl, ⟨nd, rfl⟩⟩; refine ⟨_, rfl, ?_⟩))
  go_ret
  exact ⟨by first | rfl | (simp [errW_none, errW_some] <;> rfl) | (simp [*, errW_none, errW_some] <;> rfl), by repeat (first | (with_reducible first | exact HB.out | apply below_alloc | apply pw_below_drewN | apply below_drew1 | refine below_set ?_ GE547.out) | exact HB.out)⟩
/-! ### accountingref44_Inside: function 45 -/
def accountingref44_Inside.l0 : Nat → List (S34) → List ByteArray → List (S34) → List (S34) → Int → Option ((List (S34)) × (List (S34)))
 | 0, _, _, _, _, _ => none
 | k + 1, x0, x1, x6, x7, x8 => if x8 < (x0.length : Int) then (if 0 ≤ x8 then ((accountingref44_Is.f k ((rd_T34 x0 x8).f0.f0) ((rd_T34 x0 x8).f0.f1) ((rd_T34 x0 x8).f0.f2) ((rd_T34 x0 x8).f0.f3) ((rd_T34 x0 x8).f0.f4) ((rd_T34 x0 x8).f1) ((rd_T34 x0 x8).f2) x1).bind fun t551 => (if t551 = true then (if x6.length < 1466015503701 then (accountingref44_Inside.l0 k x0 x1 (x6 ++ [(⟨(⟨(rd_T34 x0 x8).f0.f0, (rd_T34 x0 x8).f0.f1, (rd_T34 x0 x8).f0.f2, (rd_T34 x0 x8).f0.f3, (rd_T34 x0 x8).f0.f4⟩ : S32), (rd_T34 x0 x8).f1, (rd_T34 x0 x8).f2⟩ : S34)]) x7 (wrap64 (x8 + 1))) else (none)) else (if x7.length < 1466015503701 then (accountingref44_Inside.l0 k x0 x1 x6 (x7 ++ [(⟨(⟨(rd_T34 x0 x8).f0.f0, (rd_T34 x0 x8).f0.f1, (rd_T34 x0 x8).f0.f2, (rd_T34 x0 x8).f0.f3, (rd_T34 x0 x8).f0.f4⟩ : S32), (rd_T34 x0 x8).f1, (rd_T34 x0 x8).f2⟩ : S34)]) (wrap64 (x8 + 1))) else (none)))) else (none)) else (some (x6, x7))
def accountingref44_Inside.f (k : Nat) (l0 : List (S34)) (l1 : List ByteArray) : Option ((List (S34)) × (List (S34))) := accountingref44_Inside.l0 k l0 l1 ([] : List (S34)) ([] : List (S34)) 0
theorem accountingref44_Inside.mono_l : ∀ k, (∀ y0 y1 y2 y3 y4, LeO (accountingref44_Inside.l0 k y0 y1 y2 y3 y4) (accountingref44_Inside.l0 (k + 1) y0 y1 y2 y3 y4))
 | 0 => fun _ _ _ _ _ r h => by simp [accountingref44_Inside.l0] at h
 | k + 1 => by
  have ih0 := accountingref44_Inside.mono_l k
  ·intro y0 y1 y2 y3 y4
   unfold accountingref44_Inside.l0
   repeat' first
   | (with_reducible exact ih0 _ _ _ _ _)
   | (with_reducible exact accountingref44_Is.mono _ _ _ _ _ _ _ _ _)
   | (with_reducible exact LeO.refl _)
   | (with_reducible exact LeO.none _)
   | (with_reducible refine LeO.ite ?_ ?_)
   | (with_reducible refine LeO.bind ?_ (fun _ => ?_))
   | exact ih0 _ _ _ _ _
   | exact accountingref44_Is.mono _ _ _ _ _ _ _ _ _
   | exact LeO.none _
   | refine LeO.ite ?_ ?_
   | refine LeO.bind ?_ (fun _ => ?_)
theorem accountingref44_Inside.mono : ∀ a0 a1 k, LeO (accountingref44_Inside.f k a0 a1) (accountingref44_Inside.f (k + 1) a0 a1) := by
 intro a0 a1 k
 have ih0 := accountingref44_Inside.mono_l k
 unfold accountingref44_Inside.f
 repeat' first
   | (with_reducible exact ih0 _ _ _ _ _)
   | (with_reducible exact accountingref44_Is.mono _ _ _ _ _ _ _ _ _)
   | (with_reducible exact LeO.refl _)
   | (with_reducible exact LeO.none _)
   | (with_reducible refine LeO.ite ?_ ?_)
   | (with_reducible refine LeO.bind ?_ (fun _ => ?_))
   | exact ih0 _ _ _ _ _
   | exact accountingref44_Is.mono _ _ _ _ _ _ _ _ _
   | exact LeO.none _
   | refine LeO.ite ?_ ?_
   | refine LeO.bind ?_ (fun _ => ?_)
set_option maxHeartbeats 8000000 in
set_option maxRecDepth 100000 in
theorem accountingref44_Inside.calls (k : Nat) (A0 : Option Addr) (c0 : Nat) (l0 : List (S34)) (A1 : Option Addr) (c1 : Nat) (l1 : List ByteArray) (r1 : List (S34)) (r2 : List (S34)) (w : World) (hr0 : Kd.C k34 w A0 l0.length l0) (hc0 : l0.length ≤ c0) (hr1 : Kd.C Kd.string w A1 l1.length l1) (hc1 : l1.length ≤ c1) (h : accountingref44_Inside.f k l0 l1 = some (r1, r2)) :
  Calls Try.prog 45 #[.slice A0 l0.length c0, .slice A1 l1.length c1] w fun e w' => ∃ v0_ v1_ : Value, e = .returned (.tuple #[v0_, v1_]) ∧ Kd.R k34 34 w' w.heap.size (fun k_ => some k_ ≠ (v1_ : Value).ownBlock) v0_ r1 ∧ Kd.R k34 34 w' w.heap.size (fun k_ => some k_ ≠ (v0_ : Value).ownBlock) v1_ r2 ∧ Below w.heap.size w w' := by
 have hu34 := Try.underlying34
 have HR0 := Aside0.mk hr0
 have HC0 := Aside0.mk hc0
 clear hr0 hc0
 have HR1 := Aside0.mk hr1
 have HC1 := Aside0.mk hc1
 clear hr1 hc1
 have HB := Aside0.mk (Below.refl w.heap.size w)
 have H : (accountingref44_Inside.l0 k l0 l1 ([] : List (S34)) ([] : List (S34)) 0) = some (r1, r2) := h
 clear h
 have H' := Aside0.mk H
 clear H
 go_enter Try.func45, Try.ntmps45
 go_wp2
 go_loopg [6, 7, 8] k (fun kq v6 v7 v8 w' => ∃ (x6_1 : List (S34)) (x7_1 : List (S34)) (x8_1 : Int), v8 = .int .i64 x8_1 ∧ Aside0 (accountingref44_Inside.l0 kq l0 l1 x6_1 x7_1 x8_1 = some (r1, r2)) ∧ Aside0 (kq ≤ k) ∧ Aside0 (Kd.R k34 34 w' w.heap.size (fun k_ => some k_ ≠ (v7 : Value).ownBlock) v6 x6_1) ∧ Aside0 (Kd.R k34 34 w' w.heap.size (fun k_ => some k_ ≠ (v6 : Value).ownBlock) v7 x7_1) ∧ Aside0 (Below w.heap.size w w'))
 case atStart => exact ⟨(([] : List (S34))), (([] : List (S34))), (0), (by first | rfl | (simp; done) | (simp [*]; done)), H', ⟨Nat.le_refl _⟩, ⟨by first | exact Kd.R_nil _ _ _ _ _ | exact Kd.N_nil _ _ _ _ _ | exact Kd.V_nil _ _ _ _ _ | exact Kd.Q_nil _ _ _ _ _ | exact Kd.S_nil _ _ _ _ _⟩, ⟨by first | exact Kd.R_nil _ _ _ _ _ | exact Kd.N_nil _ _ _ _ _ | exact Kd.V_nil _ _ _ _ _ | exact Kd.Q_nil _ _ _ _ _ | exact Kd.S_nil _ _ _ _ _⟩, ⟨by repeat (first | (with_reducible first | exact HB.out | apply below_alloc | apply pw_below_drewN | apply below_drew1) | exact HB.out)⟩⟩
 case round =>
  clear H'
  try clear c1
  try clear p2
  obtain ⟨x6_1, x7_1, x8_1, rfl, HA, HK1, HO_6, HO_7, HB⟩ := hrel
  cases gk with
  | zero => exact absurd HA.out (by simp [accountingref44_Inside.l0])
  | succ k1 =>
   have H := HA.out
   clear HA
   simp only [accountingref44_Inside.l0] at H
   by_cases c3 : x8_1 < (l0.length : Int)
   ·rw [if_pos c3] at H
    have c3b0 : decide (x8_1 < (l0.length : Int)) = true := decide_eq_true c3
    clear c3
    by_cases c4 : 0 ≤ x8_1
    ·rw [if_pos c4] at H
     have c4b0 : decide (0 ≤ x8_1) = true := decide_eq_true c4
     clear c4
     replace H := Option.bind_eq_some_iff.mp H
     obtain ⟨t551, A50, H⟩ := H
     try dsimp only at H
     have A5 := Aside0.mk A50
     clear A50
     by_cases c6 : t551 = true
     ·subst c6
      have H1 : (if x6_1.length < 1466015503701 then (accountingref44_Inside.l0 k1 l0 l1 (x6_1 ++ [(⟨(⟨(rd_T34 l0 x8_1).f0.f0, (rd_T34 l0 x8_1).f0.f1, (rd_T34 l0 x8_1).f0.f2, (rd_T34 l0 x8_1).f0.f3, (rd_T34 l0 x8_1).f0.f4⟩ : S32), (rd_T34 l0 x8_1).f1, (rd_T34 l0 x8_1).f2⟩ : S34)]) x7_1 (wrap64 (x8_1 + 1))) else (none)) = some (r1, r2) := by rw [if_pos rfl] at H; exact H
      clear H
      have H := H1
      clear H1
      by_cases c7 : x6_1.length < 1466015503701
      ·rw [if_pos c7] at H
       have LMc7 := Aside0.mk c7
       clear c7
       obtain ⟨y553, hy553⟩ : ∃ y_ : List (S34), y_ = (x6_1 ++ [(⟨(⟨(rd_T34 l0 x8_1).f0.f0, (rd_T34 l0 x8_1).f0.f1, (rd_T34 l0 x8_1).f0.f2, (rd_T34 l0 x8_1).f0.f3, (rd_T34 l0 x8_1).f0.f4⟩ : S32), (rd_T34 l0 x8_1).f1, (rd_T34 l0 x8_1).f2⟩ : S34)]) := ⟨_, rfl⟩
       replace H : (accountingref44_Inside.l0 k1 l0 l1 y553 x7_1 (wrap64 (x8_1 + 1))) = some (r1, r2) := by first | (rw [hy553]; with_reducible exact H) | (have H2_ := (Option.bind_some _ _).symm.trans H; rw [hy553]; with_reducible exact H2_) | (have H2_ := (Option.bind_some _ _).symm.trans H; with_reducible exact H2_) | with_reducible exact H | (rw [hy553]; exact H) | exact H
       have Ny553 := Aside0.mk hy553
       clear hy553
       have H' := Aside0.mk H
       clear H
       have p550 : 0 ≤ (x8_1 : Int) := of_decide_eq_true (by first | (with_reducible assumption) | assumption)
       have q550 : x8_1 < (l0.length : Int) := of_decide_eq_true (by first | (with_reducible assumption) | assumption)
       obtain ⟨ad550, e550, hx550_0, hx550_1, hx550_2, hx550_3, hx550_4, hx550_5, hx550_6⟩ := at_T34 HR0.out x8_1 p550 q550
       cases e550
       replace hx550_0 := (HB.out.cell (World.block_lt_of_cell? w _ hx550_0)).trans hx550_0
       replace hx550_1 := (HB.out.cell (World.block_lt_of_cell? w _ hx550_1)).trans hx550_1
       replace hx550_2 := (HB.out.cell (World.block_lt_of_cell? w _ hx550_2)).trans hx550_2
       replace hx550_3 := (HB.out.cell (World.block_lt_of_cell? w _ hx550_3)).trans hx550_3
       replace hx550_4 := (HB.out.cell (World.block_lt_of_cell? w _ hx550_4)).trans hx550_4
       replace hx550_5 := (HB.out.cell (World.block_lt_of_cell? w _ hx550_5)).trans hx550_5
       replace hx550_6 := (HB.out.cell (World.block_lt_of_cell? w _ hx550_6)).trans hx550_6
       replace p550 := eq_true p550
       replace q550 := eq_true q550
       go_wp2_with (first | ((with_reducible refine gate_callee (f := 73) rfl ?_); refine goesL_ (some 20) rfl rfl Try.func73 (by kernel_rfl) rfl #[.agg #[.string ((rd_T34 l0 x8_1).f0.f0), .string ((rd_T34 l0 x8_1).f0.f1), .string ((rd_T34 l0 x8_1).f0.f2), .string ((rd_T34 l0 x8_1).f0.f3), .string ((rd_T34 l0 x8_1).f0.f4), .int .i64 ((rd_T34 l0 x8_1).f1), .int .i64 ((rd_T34 l0 x8_1).f2)], .slice A1 l1.length c1] rfl (by (try simp only [List.map_toArray, List.map_cons, List.map_nil]); first | done | rfl | (simp only [List.length_drop, List.length_take]; rfl)) ?_; (with_reducible refine (accountingref44_Is.calls k1 ((rd_T34 l0 x8_1).f0.f0) ((rd_T34 l0 x8_1).f0.f1) ((rd_T34 l0 x8_1).f0.f2) ((rd_T34 l0 x8_1).f0.f3) ((rd_T34 l0 x8_1).f0.f4) ((rd_T34 l0 x8_1).f1) ((rd_T34 l0 x8_1).f2) _ _ l1 true _ ?side1 ?side2 A5.out).mono ?_); (case side1 => repeat (first | exact (Kd.C_below HR1.out HB.out) | exact (Kd.C_drewN (Kd.C_below HR1.out HB.out) _) | (with_reducible refine Kd.C_alloc ?_ _) | (with_reducible refine Kd.C_drewN ?_ _) | (with_reducible refine Kd.C_drew ?_))); (case side2 => exact HC1.out); rintro e w8 ⟨rfl, hb⟩; refine ⟨_, rfl, ?_⟩; have n0_ := Aside0.mk (Kd.R_below (by (with_reducible repeat (first | apply Kd.R_alloc | apply Kd.R_drewN | apply Kd.R_drew)); exact HO_6.out) hb); have n1_ := Aside0.mk (Kd.R_below (by (with_reducible repeat (first | apply Kd.R_alloc | apply Kd.R_drewN | apply Kd.R_drew)); exact HO_7.out) hb); have n2_ := Aside0.mk (below_step (by repeat (first | (with_reducible first | exact HB.out | apply below_alloc | apply pw_below_drewN | apply below_drew1) | exact HB.out)) hb); clear HO_6; clear HO_7; clear HB; have HO_6 := n0_; have HO_7 := n1_; have HB := n2_; clear n0_ n1_ n2_; (try clear hb); (try clear hb2); (try clear hk); (try clear hi); have p552 : 0 ≤ (x8_1 : Int) := of_decide_eq_true (by first | (with_reducible assumption) | assumption); have q552 : x8_1 < (l0.length : Int) := of_decide_eq_true (by first | (with_reducible assumption) | assumption); obtain ⟨ad552, e552, hx552_0, hx552_1, hx552_2, hx552_3, hx552_4, hx552_5, hx552_6⟩ := at_T34 HR0.out x8_1 p552 q552; obtain rfl : ad550 = ad552 := (by injection e552); replace hx552_0 := (HB.out.cell (World.block_lt_of_cell? w _ hx552_0)).trans hx552_0; replace hx552_1 := (HB.out.cell (World.block_lt_of_cell? w _ hx552_1)).trans hx552_1; replace hx552_2 := (HB.out.cell (World.block_lt_of_cell? w _ hx552_2)).trans hx552_2; replace hx552_3 := (HB.out.cell (World.block_lt_of_cell? w _ hx552_3)).trans hx552_3; replace hx552_4 := (HB.out.cell (World.block_lt_of_cell? w _ hx552_4)).trans hx552_4; replace hx552_5 := (HB.out.cell (World.block_lt_of_cell? w _ hx552_5)).trans hx552_5; replace hx552_6 := (HB.out.cell (World.block_lt_of_cell? w _ hx552_6)).trans hx552_6; replace p552 := eq_true p552; replace q552 := eq_true q552) | ((with_reducible refine gate_builtin (b := .append) (xs := #[.tmp 21, .tmp 26]) rfl ?_); at_builtin; refine Kd.R_append k34 (w0 := w) w.heap.size rfl (.tmp 21) (.tmp 26) 22 34 (.agg #[(.string ⟨#[]⟩), (.string ⟨#[]⟩), (.string ⟨#[]⟩), (.string ⟨#[]⟩), (.string ⟨#[]⟩), (.int .i64 0), (.int .i64 0)]) 96 rfl Try.underlying22 info34 rfl (by decide) (by omega) u6 x6_1 (⟨(⟨(rd_T34 l0 x8_1).f0.f0, (rd_T34 l0 x8_1).f0.f1, (rd_T34 l0 x8_1).f0.f2, (rd_T34 l0 x8_1).f0.f3, (rd_T34 l0 x8_1).f0.f4⟩ : S32), (rd_T34 l0 x8_1).f1, (rd_T34 l0 x8_1).f2⟩ : S34) [.string ((rd_T34 l0 x8_1).f0.f0), .string ((rd_T34 l0 x8_1).f0.f1), .string ((rd_T34 l0 x8_1).f0.f2), .string ((rd_T34 l0 x8_1).f0.f3), .string ((rd_T34 l0 x8_1).f0.f4), .int .i64 ((rd_T34 l0 x8_1).f1), .int .i64 ((rd_T34 l0 x8_1).f2)] (fun k_ => some k_ ≠ (u7 : Value).ownBlock) (fun _ => False) rfl rfl ?aP (fun _ hk => hk.elim) ?aF ?aO ?aB ?aS ?aL ?_; (case aP => exact k34_mkM _ _ _ (⟨(⟨(rd_T34 l0 x8_1).f0.f0, (rd_T34 l0 x8_1).f0.f1, (rd_T34 l0 x8_1).f0.f2, (rd_T34 l0 x8_1).f0.f3, (rd_T34 l0 x8_1).f0.f4⟩ : S32), (rd_T34 l0 x8_1).f1, (rd_T34 l0 x8_1).f2⟩ : S34)); (case aB => exact (by repeat (first | (with_reducible first | exact HB.out | apply below_alloc | apply pw_below_drewN | apply below_drew1) | exact HB.out))); (case aF => exact (fun k_ hk => Kd.fresh' (Kd.R_lt (by (with_reducible repeat (first | apply Kd.R_alloc | apply Kd.R_drewN | apply Kd.R_drew)); exact HO_7.out)) k_ hk)); (case aO => exact (by (with_reducible repeat (first | apply Kd.R_alloc | apply Kd.R_drewN | apply Kd.R_drew)); exact HO_6.out)); (case aS => exact (below_size (by repeat (first | (with_reducible first | exact HB.out | apply below_alloc | apply pw_below_drewN | apply below_drew1) | exact HB.out)))); (case aL => have := LMc7.out; omega); intro v554 w9 ho hb hg hat; rw [← Ny553.out] at ho; have n0_ := Aside0.mk (Kd.R_after (ok := (fun _ => True)) (by (with_reducible repeat (first | apply Kd.R_alloc | apply Kd.R_drewN | apply Kd.R_drew)); exact Kd.R_mono HO_7.out (fun _ hk => ⟨trivial, hk⟩)) hg hat); have n1_ := Aside0.mk (hb); have n2_ := Aside0.mk (ho); clear HO_7; clear HB; clear HO_6; have HO_7 := n0_; have HB := n1_; have HO555 := n2_; clear n0_ n1_ n2_; clear ho hb hg hat))
       go_roundg k1
       case measure => have := HK1.out; omega
       case rel => exact ⟨(y553), (x7_1), (wrap64 (x8_1 + 1)), (by first | rfl | (simp; done) | (simp [*]; done)), H', ⟨by have := HK1.out; omega⟩, ⟨by (with_reducible repeat (first | apply Kd.R_alloc | apply Kd.R_drewN | apply Kd.R_drew)); exact HO555.out⟩, ⟨by (with_reducible repeat (first | apply Kd.R_alloc | apply Kd.R_drewN | apply Kd.R_drew)); exact Kd.R_mono HO_7.out (fun _ hk => hk.2)⟩, ⟨by repeat (first | (with_reducible first | exact HB.out | apply below_alloc | apply pw_below_drewN | apply below_drew1) | exact HB.out)⟩⟩
      ·rw [if_neg c7] at H
       exact absurd H (by simp)
     ·replace c6 := Bool.eq_false_iff.mpr c6
      subst c6
      have H1 : (if x7_1.length < 1466015503701 then (accountingref44_Inside.l0 k1 l0 l1 x6_1 (x7_1 ++ [(⟨(⟨(rd_T34 l0 x8_1).f0.f0, (rd_T34 l0 x8_1).f0.f1, (rd_T34 l0 x8_1).f0.f2, (rd_T34 l0 x8_1).f0.f3, (rd_T34 l0 x8_1).f0.f4⟩ : S32), (rd_T34 l0 x8_1).f1, (rd_T34 l0 x8_1).f2⟩ : S34)]) (wrap64 (x8_1 + 1))) else (none)) = some (r1, r2) := by rw [if_neg (show ¬ (false = true) by decide)] at H; exact H
      clear H
      have H := H1
      clear H1
      by_cases c10 : x7_1.length < 1466015503701
      ·rw [if_pos c10] at H
       have LMc10 := Aside0.mk c10
       clear c10
       obtain ⟨y557, hy557⟩ : ∃ y_ : List (S34), y_ = (x7_1 ++ [(⟨(⟨(rd_T34 l0 x8_1).f0.f0, (rd_T34 l0 x8_1).f0.f1, (rd_T34 l0 x8_1).f0.f2, (rd_T34 l0 x8_1).f0.f3, (rd_T34 l0 x8_1).f0.f4⟩ : S32), (rd_T34 l0 x8_1).f1, (rd_T34 l0 x8_1).f2⟩ : S34)]) := ⟨_, rfl⟩
       replace H : (accountingref44_Inside.l0 k1 l0 l1 x6_1 y557 (wrap64 (x8_1 + 1))) = some (r1, r2) := by first | (rw [hy557]; with_reducible exact H) | (have H2_ := (Option.bind_some _ _).symm.trans H; rw [hy557]; with_reducible exact H2_) | (have H2_ := (Option.bind_some _ _).symm.trans H; with_reducible exact H2_) | with_reducible exact H | (rw [hy557]; exact H) | exact H
       have Ny557 := Aside0.mk hy557
       clear hy557
       have H' := Aside0.mk H
       clear H
       have p550 : 0 ≤ (x8_1 : Int) := of_decide_eq_true (by first | (with_reducible assumption) | assumption)
       have q550 : x8_1 < (l0.length : Int) := of_decide_eq_true (by first | (with_reducible assumption) | assumption)
       obtain ⟨ad550, e550, hx550_0, hx550_1, hx550_2, hx550_3, hx550_4, hx550_5, hx550_6⟩ := at_T34 HR0.out x8_1 p550 q550
       cases e550
       replace hx550_0 := (HB.out.cell (World.block_lt_of_cell? w _ hx550_0)).trans hx550_0
       replace hx550_1 := (HB.out.cell (World.block_lt_of_cell? w _ hx550_1)).trans hx550_1
       replace hx550_2 := (HB.out.cell (World.block_lt_of_cell? w _ hx550_2)).trans hx550_2
       replace hx550_3 := (HB.out.cell (World.block_lt_of_cell? w _ hx550_3)).trans hx550_3
       replace hx550_4 := (HB.out.cell (World.block_lt_of_cell? w _ hx550_4)).trans hx550_4
       replace hx550_5 := (HB.out.cell (World.block_lt_of_cell? w _ hx550_5)).trans hx550_5
       replace hx550_6 := (HB.out.cell (World.block_lt_of_cell? w _ hx550_6)).trans hx550_6
       replace p550 := eq_true p550
       replace q550 := eq_true q550
       go_wp2_with (first | ((with_reducible refine gate_callee (f := 73) rfl ?_); refine goesL_ (some 20) rfl rfl Try.func73 (by kernel_rfl) rfl #[.agg #[.string ((rd_T34 l0 x8_1).f0.f0), .string ((rd_T34 l0 x8_1).f0.f1), .string ((rd_T34 l0 x8_1).f0.f2), .string ((rd_T34 l0 x8_1).f0.f3), .string ((rd_T34 l0 x8_1).f0.f4), .int .i64 ((rd_T34 l0 x8_1).f1), .int .i64 ((rd_T34 l0 x8_1).f2)], .slice A1 l1.length c1] rfl (by (try simp only [List.map_toArray, List.map_cons, List.map_nil]); first | done | rfl | (simp only [List.length_drop, List.length_take]; rfl)) ?_; (with_reducible refine (accountingref44_Is.calls k1 ((rd_T34 l0 x8_1).f0.f0) ((rd_T34 l0 x8_1).f0.f1) ((rd_T34 l0 x8_1).f0.f2) ((rd_T34 l0 x8_1).f0.f3) ((rd_T34 l0 x8_1).f0.f4) ((rd_T34 l0 x8_1).f1) ((rd_T34 l0 x8_1).f2) _ _ l1 false _ ?side1 ?side2 A5.out).mono ?_); (case side1 => repeat (first | exact (Kd.C_below HR1.out HB.out) | exact (Kd.C_drewN (Kd.C_below HR1.out HB.out) _) | (with_reducible refine Kd.C_alloc ?_ _) | (with_reducible refine Kd.C_drewN ?_ _) | (with_reducible refine Kd.C_drew ?_))); (case side2 => exact HC1.out); rintro e w11 ⟨rfl, hb⟩; refine ⟨_, rfl, ?_⟩; have n0_ := Aside0.mk (Kd.R_below (by (with_reducible repeat (first | apply Kd.R_alloc | apply Kd.R_drewN | apply Kd.R_drew)); exact HO_6.out) hb); have n1_ := Aside0.mk (Kd.R_below (by (with_reducible repeat (first | apply Kd.R_alloc | apply Kd.R_drewN | apply Kd.R_drew)); exact HO_7.out) hb); have n2_ := Aside0.mk (below_step (by repeat (first | (with_reducible first | exact HB.out | apply below_alloc | apply pw_below_drewN | apply below_drew1) | exact HB.out)) hb); clear HO_6; clear HO_7; clear HB; have HO_6 := n0_; have HO_7 := n1_; have HB := n2_; clear n0_ n1_ n2_; (try clear hb); (try clear hb2); (try clear hk); (try clear hi); have p556 : 0 ≤ (x8_1 : Int) := of_decide_eq_true (by first | (with_reducible assumption) | assumption); have q556 : x8_1 < (l0.length : Int) := of_decide_eq_true (by first | (with_reducible assumption) | assumption); obtain ⟨ad556, e556, hx556_0, hx556_1, hx556_2, hx556_3, hx556_4, hx556_5, hx556_6⟩ := at_T34 HR0.out x8_1 p556 q556; obtain rfl : ad550 = ad556 := (by injection e556); replace hx556_0 := (HB.out.cell (World.block_lt_of_cell? w _ hx556_0)).trans hx556_0; replace hx556_1 := (HB.out.cell (World.block_lt_of_cell? w _ hx556_1)).trans hx556_1; replace hx556_2 := (HB.out.cell (World.block_lt_of_cell? w _ hx556_2)).trans hx556_2; replace hx556_3 := (HB.out.cell (World.block_lt_of_cell? w _ hx556_3)).trans hx556_3; replace hx556_4 := (HB.out.cell (World.block_lt_of_cell? w _ hx556_4)).trans hx556_4; replace hx556_5 := (HB.out.cell (World.block_lt_of_cell? w _ hx556_5)).trans hx556_5; replace hx556_6 := (HB.out.cell (World.block_lt_of_cell? w _ hx556_6)).trans hx556_6; replace p556 := eq_true p556; replace q556 := eq_true q556) | ((with_reducible refine gate_builtin (b := .append) (xs := #[.tmp 28, .tmp 33]) rfl ?_); at_builtin; refine Kd.R_append k34 (w0 := w) w.heap.size rfl (.tmp 28) (.tmp 33) 22 34 (.agg #[(.string ⟨#[]⟩), (.string ⟨#[]⟩), (.string ⟨#[]⟩), (.string ⟨#[]⟩), (.string ⟨#[]⟩), (.int .i64 0), (.int .i64 0)]) 96 rfl Try.underlying22 info34 rfl (by decide) (by omega) u7 x7_1 (⟨(⟨(rd_T34 l0 x8_1).f0.f0, (rd_T34 l0 x8_1).f0.f1, (rd_T34 l0 x8_1).f0.f2, (rd_T34 l0 x8_1).f0.f3, (rd_T34 l0 x8_1).f0.f4⟩ : S32), (rd_T34 l0 x8_1).f1, (rd_T34 l0 x8_1).f2⟩ : S34) [.string ((rd_T34 l0 x8_1).f0.f0), .string ((rd_T34 l0 x8_1).f0.f1), .string ((rd_T34 l0 x8_1).f0.f2), .string ((rd_T34 l0 x8_1).f0.f3), .string ((rd_T34 l0 x8_1).f0.f4), .int .i64 ((rd_T34 l0 x8_1).f1), .int .i64 ((rd_T34 l0 x8_1).f2)] (fun k_ => some k_ ≠ (u6 : Value).ownBlock) (fun _ => False) rfl rfl ?aP (fun _ hk => hk.elim) ?aF ?aO ?aB ?aS ?aL ?_; (case aP => exact k34_mkM _ _ _ (⟨(⟨(rd_T34 l0 x8_1).f0.f0, (rd_T34 l0 x8_1).f0.f1, (rd_T34 l0 x8_1).f0.f2, (rd_T34 l0 x8_1).f0.f3, (rd_T34 l0 x8_1).f0.f4⟩ : S32), (rd_T34 l0 x8_1).f1, (rd_T34 l0 x8_1).f2⟩ : S34)); (case aB => exact (by repeat (first | (with_reducible first | exact HB.out | apply below_alloc | apply pw_below_drewN | apply below_drew1) | exact HB.out))); (case aF => exact (fun k_ hk => Kd.fresh' (Kd.R_lt (by (with_reducible repeat (first | apply Kd.R_alloc | apply Kd.R_drewN | apply Kd.R_drew)); exact HO_6.out)) k_ hk)); (case aO => exact (by (with_reducible repeat (first | apply Kd.R_alloc | apply Kd.R_drewN | apply Kd.R_drew)); exact HO_7.out)); (case aS => exact (below_size (by repeat (first | (with_reducible first | exact HB.out | apply below_alloc | apply pw_below_drewN | apply below_drew1) | exact HB.out)))); (case aL => have := LMc10.out; omega); intro v558 w12 ho hb hg hat; rw [← Ny557.out] at ho; have n0_ := Aside0.mk (Kd.R_after (ok := (fun _ => True)) (by (with_reducible repeat (first | apply Kd.R_alloc | apply Kd.R_drewN | apply Kd.R_drew)); exact Kd.R_mono HO_6.out (fun _ hk => ⟨trivial, hk⟩)) hg hat); have n1_ := Aside0.mk (hb); have n2_ := Aside0.mk (ho); clear HO_6; clear HB; clear HO_7; have HO_6 := n0_; have HB := n1_; have HO559 := n2_; clear n0_ n1_ n2_; clear ho hb hg hat))
       go_roundg k1
       case measure => have := HK1.out; omega
       case rel => exact ⟨(x6_1), (y557), (wrap64 (x8_1 + 1)), (by first | rfl | (simp; done) | (simp [*]; done)), H', ⟨by have := HK1.out; omega⟩, ⟨by (with_reducible repeat (first | apply Kd.R_alloc | apply Kd.R_drewN | apply Kd.R_drew)); exact Kd.R_mono HO_6.out (fun _ hk => hk.2)⟩, ⟨by (with_reducible repeat (first | apply Kd.R_alloc | apply Kd.R_drewN | apply Kd.R_drew)); exact HO559.out⟩, ⟨by repeat (first | (with_reducible first | exact HB.out | apply below_alloc | apply pw_below_drewN | apply below_drew1) | exact HB.out)⟩⟩
      ·rw [if_neg c10] at H
       exact absurd H (by simp)
    ·rw [if_neg c4] at H
     exact absurd H (by simp)
   ·rw [if_neg c3] at H
    have c3b0 : decide (x8_1 < (l0.length : Int)) = false := decide_eq_false c3
    clear c3
    simp only [Option.some.injEq, Prod.mk.injEq] at H
    obtain ⟨rfl, rfl⟩ := H
    go_wp2
    go_ret2
    exact ⟨_, _, by first | rfl | (simp [errW_none, errW_some] <;> rfl) | (simp [*, errW_none, errW_some] <;> rfl), by (with_reducible repeat (first | apply Kd.R_alloc | apply Kd.R_drewN | apply Kd.R_drew)); exact HO_6.out, by (with_reducible repeat (first | apply Kd.R_alloc | apply Kd.R_drewN | apply Kd.R_drew)); exact HO_7.out, by repeat (first | (with_reducible first | exact HB.out | apply below_alloc | apply pw_below_drewN | apply below_drew1) | exact HB.out)⟩
end Go.Proofs.Ytmflggbpiadkjaa.P
namespace Go.Proofs.Ytmflggbpiadkjaa.P
open Go.RowKit Go.Proofs.YtmflggbpiadkjaaW.PrintWords Go.Proofs.YtmflggbpiadkjaaW.PrintLast Go.Proofs.YtmflggbpiadkjaaW.PrintMore
set_option linter.unusedVariables false
set_option linter.unusedSimpArgs false
def isCodeByte (c : Int) : Bool := decide (97 ≤ c ∧ c ≤ 122 ∨ 65 ≤ c ∧ c ≤ 90 ∨ c = 95 ∨ 48 ≤ c ∧ c ≤ 57)
def allFrom (p : Int → Bool) (s : ByteArray) (i : Nat) : Bool := (s.data.toList.drop i).all fun c => p c.toNat
theorem allFrom_step (p : Int → Bool) (s : ByteArray) (i : Nat) (h : i < s.size) : allFrom p s i = (p (bt s i) && allFrom p s (i + 1)) := by
 have h' : i < s.data.toList.length := by simpa using h
 unfold allFrom
 rw [List.drop_eq_getElem_cons h', List.all_cons]
 congr 1
 unfold bt
 rw [dif_pos (by simpa using h)]
 rfl
theorem allFrom_end (p : Int → Bool) (s : ByteArray) : allFrom p s s.size = true := by
 unfold allFrom
 rw [List.drop_of_length_le (by simp)]
 rfl
def words_Code.f (a0 : ByteArray) : Option Bool := some (decide (0 < a0.size) && (decide (a0.size ≤ 12) && allFrom isCodeByte a0 0))
def isLetter (c : Int) : Bool := decide (97 ≤ c ∧ c ≤ 122 ∨ 65 ≤ c ∧ c ≤ 90 ∨ c = 95)
def isDigit (c : Int) : Bool := decide (48 ≤ c ∧ c ≤ 57)
theorem isCodeByte_or (c : Int) : isCodeByte c = (isLetter c || isDigit c) := by
 unfold isCodeByte isLetter isDigit
 rw [Bool.eq_iff_iff]
 simp
 omega
set_option maxHeartbeats 1000000 in
theorem digit_calls (c : Int) (w : World) :
  Calls Try.prog 93 #[.int .u8 c] w fun e w' => e = .returned (.bool (isDigit c)) ∧ Drawn0 w w' := by
 by_cases h1 : 48 ≤ c <;> by_cases h2 : c ≤ 57
 all_goals
  go_enter Try.func93, Try.ntmps93
  go_wp2
  go_ret
  exact ⟨by simp [isDigit, h1, h2], by repeat (first | exact Drawn0.refl _ | apply Drawn0.step)⟩
set_option maxHeartbeats 1000000 in
theorem letter_calls (c : Int) (w : World) :
  Calls Try.prog 92 #[.int .u8 c] w fun e w' => e = .returned (.bool (isLetter c)) ∧ Drawn0 w w' := by
 by_cases h1 : 97 ≤ c <;> by_cases h2 : c ≤ 122 <;> by_cases h3 : 65 ≤ c <;> by_cases h4 : c ≤ 90
 all_goals
  go_enter Try.func92, Try.ntmps92
  go_wp2
  all_goals
   go_ret
   exact ⟨by (try show Ending.returned (Value.bool _) = Ending.returned (Value.bool _)); congr 2; unfold isLetter; rw [Bool.eq_iff_iff]; simp; omega, by repeat (first | exact Drawn0.refl _ | apply Drawn0.step)⟩
set_option maxHeartbeats 1000000 in
theorem codeByte_calls (c : Int) (w : World) :
  Calls Try.prog 91 #[.int .u8 c] w fun e w' => e = .returned (.bool (isCodeByte c)) ∧ Drawn0 w w' := by
 cases h1 : isLetter c <;> cases h2 : isDigit c
 all_goals
  have H1 := Lib.hid h1
  have H2 := Lib.hid h2
  clear h1 h2
  go_enter Try.func91, Try.ntmps91
  go_wp2_with (first | (go_at_call 92; (with_reducible refine (letter_calls c _).mono ?_); rintro e w' ⟨rfl, ⟨nd, rfl⟩⟩; rw [H1.out]) | (go_at_call 93; (with_reducible refine (digit_calls c _).mono ?_); rintro e w' ⟨rfl, ⟨nd, rfl⟩⟩; rw [H2.out]))
  go_ret
  exact ⟨by rw [isCodeByte_or, H1.out, H2.out]; rfl, by repeat (first | exact Drawn0.refl _ | apply Drawn0.step)⟩
set_option maxHeartbeats 2000000 in
theorem every_codeByte (s : ByteArray) (w : World) (hs : s.size ≤ 12) :
  Calls Try.prog 90 #[.string s, .func (.func 91) #[] #[]] w fun e w' => e = .returned (.bool (allFrom isCodeByte s 0)) ∧ Drawn0 w w' := by
 go_enter Try.func90, Try.ntmps90
 go_wp2
 go_loopw [5, 8, 9, 10, 11, 12, 13, 14, 15, 16, 17] (fun _ i _ _ _ _ _ _ _ _ _ w' => ∃ k : Int, 0 ≤ k ∧ k ≤ s.size ∧ i = .int .i64 k ∧ Aside0 (allFrom isCodeByte s 0 = allFrom isCodeByte s k.toNat) ∧ Drawn0 w w') (fun _ i _ _ _ _ _ _ _ _ _ _ => s.size - (intOf i).toNat)
 case atStart => exact ⟨0, by omega, by omega, rfl, ⟨rfl⟩, Drawn0.refl _⟩
 case round =>
  obtain ⟨k, hk0, hk, rfl, HA, ⟨n, rfl⟩⟩ := hrel
  by_cases hlt : k < (s.size : Int)
  ·have hst := allFrom_step isCodeByte s k.toNat (by omega)
   have Hst := Lib.hid hst
   clear hst
   have hx := bt_at s k
   have hbq : bt s ((k.toNat : Nat) : Int) = bt s k := by rw [Int.toNat_of_nonneg hk0]
   rw [hbq] at Hst
   clear hbq
   have p5 := eq_true hk0
   have q5 := eq_true hlt
   cases hb : isCodeByte (bt s k)
   all_goals
    have HB := Lib.hid hb
    clear hb
    go_wp2_with (first | (go_at_call 91; (with_reducible refine (codeByte_calls (bt s k) _).mono ?_); rintro e w' ⟨rfl, ⟨nd, rfl⟩⟩; rw [HB.out]))
   ·go_ret
    exact ⟨by rw [HA.out, Hst.out, HB.out]; rfl, by repeat (first | exact Drawn0.refl _ | apply Drawn0.step)⟩
   ·refine ⟨⟨k + 1, by omega, by omega, rfl, ⟨?_⟩, by repeat (first | exact Drawn0.refl _ | apply Drawn0.step)⟩, by simp [intOf]; omega⟩
    rw [HA.out, Hst.out, HB.out, show (k + 1).toNat = k.toNat + 1 by omega]; rfl
  ·have hlt' : k = (s.size : Int) := by omega
   subst hlt'
   go_wp2
   go_ret
   exact ⟨by rw [HA.out, Int.toNat_natCast, allFrom_end]; rfl, by repeat (first | exact Drawn0.refl _ | apply Drawn0.step)⟩
set_option maxHeartbeats 1000000 in
theorem words_Code.calls (a0 : ByteArray) (r : Bool) (w : World) (h : words_Code.f a0 = some r) :
  Calls Try.prog 78 #[.string a0] w fun e w' => e = .returned (.bool r) ∧ Drawn0 w w' := by
 have H := Lib.hid h
 clear h
 by_cases h0 : a0.toList = []
 ·have h0' : (a0.toList == []) = true := by simp [h0]
  have hz : a0.size = 0 := by have h := congrArg List.length (((ByteArray.toList_eq a0).symm).trans h0); simpa using h
  have HZ := Lib.hid hz
  clear hz
  go_enter Try.func78, Try.ntmps78
  go_wp2
  all_goals go_ret
  have H' := Option.some.inj H.out
  refine ⟨?_, by repeat (first | exact Drawn0.refl _ | apply Drawn0.step)⟩
  rw [← H', decide_eq_false (show ¬ 0 < a0.size by rw [HZ.out]; omega)]; rfl
 ·have hz : 0 < a0.size := by
   rcases Nat.eq_zero_or_pos a0.size with h | h
   ·exact absurd ((ByteArray.toList_eq a0).trans (List.length_eq_zero_iff.mp (by simpa using h))) h0
   ·exact h
  have h1' : (!a0.toList.isEmpty) = true := by simpa using h0
  by_cases h1 : (a0.size : Int) ≤ 12
  ·go_enter Try.func78, Try.ntmps78
   go_wp2_with (first | (go_at_call 90; (with_reducible refine (every_codeByte a0 _ (by omega)).mono ?_); rintro e w' ⟨rfl, ⟨nd, rfl⟩⟩))
   go_ret
   have H' := Option.some.inj H.out
   refine ⟨?_, by repeat (first | exact Drawn0.refl _ | apply Drawn0.step)⟩
   rw [← H', decide_eq_true (show a0.size ≤ 12 by omega), decide_eq_true hz]; rfl
  ·go_enter Try.func78, Try.ntmps78
   go_wp2
   go_ret
   have H' := Option.some.inj H.out
   refine ⟨?_, by repeat (first | exact Drawn0.refl _ | apply Drawn0.step)⟩
   rw [← H', decide_eq_false (show ¬ a0.size ≤ 12 by omega), decide_eq_true hz]; rfl
end Go.Proofs.Ytmflggbpiadkjaa.P
/- The contract of money.Code: which strings are currency codes. -/
namespace Go.Proofs.Ytmflggbpiadkjaa.P
open Go.RowKit Go.Lib Go.Proofs.YtmflggbpiadkjaaW.PrintWords Go.Proofs.YtmflggbpiadkjaaW.PrintLast Go.Proofs.YtmflggbpiadkjaaW.PrintMore
set_option linter.unusedVariables false
set_option linter.unusedSimpArgs false
def upC (c : UInt8) : Bool := decide (65 ≤ c.toNat) && decide (c.toNat ≤ 90)
/-- Is it three capital letters? -/
def monB (s : ByteArray) : Bool := decide (s.size = 3) && s.data.toList.all upC
theorem mon_bad {s : ByteArray} {i : Nat} (h : i < s.size) (hu : upC s[i] = false) : monB s = false := by
 unfold monB
 rw [Bool.and_eq_false_iff]
 right
 rw [List.all_eq_false]
 exact ⟨s[i], by
  rw [show s[i] = s.data.toList[i]'(by simpa using h) from by simp [ByteArray.getElem_eq_getElem_data]]
  exact List.getElem_mem _, by simp [hu]⟩
theorem mon_end {s : ByteArray} (h : ∀ j, (hj : j < s.size) → upC s[j] = true) : monB s = decide (s.size = 3) := by
 unfold monB
 rw [List.all_eq_true.2, Bool.and_true]
 intro c hc
 obtain ⟨j, hj, rfl⟩ := List.mem_iff_getElem.1 hc
 have hj' : j < s.size := by simpa using hj
 have := h j hj'
 rw [show s[j] = s.data.toList[j] from by simp [ByteArray.getElem_eq_getElem_data]] at this
 exact this
set_option maxHeartbeats 2000000 in
set_option maxRecDepth 100000 in
theorem money_calls (s : ByteArray) (w : World) (hs : s.size ≤ maxLen) : Calls Try.prog 77 #[.string s] w fun e w' => e = .returned (.bool (monB s)) ∧ Below w.heap.size w w' := by
 obtain ⟨g, hg⟩ : ∃ g, w.heap.size = g := ⟨_, rfl⟩
 obtain ⟨res, hres⟩ : ∃ r, monB s = r := ⟨_, rfl⟩
 have HR := Aside0.mk hres
 have hlen : s.size ≤ 9223372036854775807 := by unfold maxLen at hs; omega
 clear hs
 rw [hres]
 clear hres
 go_enter Try.func77, Try.ntmps77
 go_upto_region 3 with (fail)
 refine with_world (P := fun x => Code.wp _ _ _ _ x) _ ?_
 intro w1 hw1
 replace hw1 : w1 = w.alloc (.stringIter s 0) := hw1
 (try rw [hg])
 have HI := Aside0.mk (show w1.heap[g]? = some (.stringIter s 0) from by rw [hw1, ← hg]; exact blk_new _ _)
 have HB1 := Aside0.mk (show Below g w w1 from by rw [hw1, ← hg]; exact below_alloc (Below.refl _ _) _)
 clear hw1
 go_loopw [2, 3, 5, 8, 9, 10, 11, 12, 13, 14, 15, 16, 17, 18] (fun _ v3 _ _ _ _ _ _ _ _ _ _ _ _ wr => ∃ n : Nat, n ≤ s.size ∧ v3 = .int .i64 n ∧ Aside0 (wr.heap[g]? = some (.stringIter s n)) ∧ Aside0 (Below g w wr) ∧ Aside0 (∀ j, (hj : j < s.size) → j < n → upC s[j] = true)) (fun _ v3 _ _ _ _ _ _ _ _ _ _ _ _ _ => s.size - (intOf v3).toNat)
 case atStart => exact ⟨0, Nat.zero_le _, rfl, HI, HB1, ⟨fun j _ h => absurd h (by omega)⟩⟩
 case round =>
  clear HI HB1
  obtain ⟨n, hn, rfl, HI, HB, HU⟩ := hrel
  by_cases hlt : n < s.size
  ·by_cases hc : upC s[n] = true
   ·have hu := hc
    unfold upC at hu
    rw [Bool.and_eq_true, decide_eq_true_iff, decide_eq_true_iff] at hu
    have hnx := run_next_ascii_at (P := Try.prog) wr g s n 0 HI.out hlt (by omega)
    have HC := Aside0.mk hc
    clear hc
    obtain ⟨c, hcc⟩ : ∃ c : Int, ((s[n].toNat : Nat) : Int) = c := ⟨_, rfl⟩
    rw [hcc] at hnx
    have d1 : decide (c < 65) = false := decide_eq_false (by omega)
    have d2 : decide (90 < c) = false := decide_eq_false (by omega)
    have hw : wrap64 ((n : Int) + 1) = ((n + 1 : Nat) : Int) := by unfold wrap64; omega
    clear hcc
    go_wp2
    go_roundw
    case rel =>
     refine ⟨n + 1, by omega, by go_num, ⟨iterAt_heap wr g s n (n + 1) HI.out⟩, ⟨below_iterAt HB.out (Nat.le_refl _) s (n + 1)⟩, ⟨fun j hj hjn => ?_⟩⟩
     rcases Nat.lt_succ_iff_lt_or_eq.1 hjn with h | h
     ·exact HU.out j hj h
     ·subst h; exact HC.out
    case measure => simp [intOf]; omega
   ·have hc' : upC s[n] = false := by simpa using hc
    obtain ⟨r, k, hr, hnx⟩ : ∃ (r : Int) (k : Nat), (r < 65 ∨ 90 < r) ∧ (Instr.next (.pointer (some ⟨g, 0, none⟩)) true 0).run Try.prog wr = .ok (.tuple #[.bool true, .int .i64 n, .int .i32 r]) (wr.iterAt g s (n + k)) := by
     refine ⟨_, _, ?_, run_next_any_at (P := Try.prog) wr g s n 0 HI.out hlt⟩
     by_cases ha : (s[n]'hlt).toNat < 128
     ·rw [decode_ascii s n hlt ha]
      unfold upC at hc'
      rw [Bool.and_eq_false_iff, decide_eq_false_iff_not, decide_eq_false_iff_not] at hc'
      show ((s[n].toNat : Nat) : Int) < 65 ∨ 90 < ((s[n].toNat : Nat) : Int)
      omega
     ·have := (decode_high s n hlt (by omega)).1
      right
      omega
    have hres : false = res := (mon_bad hlt hc').symm.trans HR.out
    subst hres
    have HB2 := Aside0.mk (below_iterAt HB.out (Nat.le_refl g) s (n + k))
    clear hc hc'
    by_cases h1 : r < 65
    ·have d1 : decide (r < 65) = true := decide_eq_true h1
     go_wp2
     go_ret
     exact ⟨rfl, by first | exact HB2.out | (rw [hg]; exact HB2.out)⟩
    ·have d1 : decide (r < 65) = false := decide_eq_false h1
     have d2 : decide (90 < r) = true := decide_eq_true (by omega)
     go_wp2
     go_ret
     exact ⟨rfl, by first | exact HB2.out | (rw [hg]; exact HB2.out)⟩
  ·obtain rfl : n = s.size := by omega
   have hnx := run_next_end_at (P := Try.prog) wr g s s.size 0 HI.out hlt
   have hres : decide (s.size = 3) = res := (mon_end (fun j hj => HU.out j hj hj)).symm.trans HR.out
   go_wp2
   go_ret
   refine ⟨?_, by first | exact HB.out | (rw [hg]; exact HB.out)⟩
   rw [← hres]
   show Ending.returned (Value.bool ((s.size : Int) == 3)) = Ending.returned (Value.bool (decide (s.size = 3)))
   have e : ((s.size : Int) == 3) = decide (s.size = 3) := by rw [Bool.eq_iff_iff, beq_iff_eq, decide_eq_true_iff]; omega
   rw [e]
end Go.Proofs.Ytmflggbpiadkjaa.P
namespace Go.Proofs.Ytmflggbpiadkjaa.P
open Go.RowKit Go.Proofs.YtmflggbpiadkjaaW.PrintWords Go.Proofs.YtmflggbpiadkjaaW.PrintLast Go.Proofs.YtmflggbpiadkjaaW.PrintMore
def strings_Compare.f (a0 : ByteArray) (a1 : ByteArray) : Option Int := some (cmpB a0 a1)
theorem strings_Compare.calls (a0 : ByteArray) (a1 : ByteArray) (r : Int) (w : World) (h : strings_Compare.f a0 a1 = some r) :
  Calls Try.prog 66 #[.string a0, .string a1] w fun e w' => e = .returned (.int .i64 r) ∧ Drawn0 w w' := by
 cases h
 refine (compare_calls a0 a1 w).mono ?_
 rintro e w' ⟨rfl, rfl⟩
 exact ⟨rfl, Drawn0.refl _⟩
end Go.Proofs.Ytmflggbpiadkjaa.P
/- The contract of interco.compare (printed). -/
namespace Go.Proofs.Ytmflggbpiadkjaa.P
open Go.RowKit Go.Proofs.YtmflggbpiadkjaaW.PrintWords Go.Proofs.YtmflggbpiadkjaaW.PrintLast Go.Proofs.YtmflggbpiadkjaaW.PrintMore
attribute [local go_sem] max2_int min2_int max_two min_two max_three min_three max_four min_four   -- for this text's walks alone
set_option linter.unusedVariables false
set_option linter.unusedSimpArgs false
/-! ### interco_compare: function 100 -/
def interco_compare.f (a0_0 : ByteArray) (a0_1 : ByteArray) (a0_2 : Int) (a1_0 : ByteArray) (a1_1 : ByteArray) (a1_2 : Int) : Option (Int) := (strings_Compare.f a0_0 a1_0).bind fun t576 => (if t576 = 0 then ((strings_Compare.f a0_1 a1_1).bind fun t577 => (some t577)) else (some t576))
set_option maxHeartbeats 8000000 in
set_option maxRecDepth 100000 in
theorem interco_compare.calls (a0_0 : ByteArray) (a0_1 : ByteArray) (a0_2 : Int) (a1_0 : ByteArray) (a1_1 : ByteArray) (a1_2 : Int) (r : Int) (w : World) (h : interco_compare.f a0_0 a0_1 a0_2 a1_0 a1_1 a1_2 = some r) :
  Calls Try.prog 100 #[.agg #[.string a0_0, .string a0_1, .int .i64 a0_2], .agg #[.string a1_0, .string a1_1, .int .i64 a1_2]] w fun e w' => e = .returned (.int .i64 r) ∧ Below w.heap.size w w' := by
 have hu89 := Try.underlying89
 have HB := Aside0.mk (Below.refl w.heap.size w)
 have H : ((strings_Compare.f a0_0 a1_0).bind fun t576 => (if t576 = 0 then ((strings_Compare.f a0_1 a1_1).bind fun t577 => (some t577)) else (some t576))) = some r := h
 clear h
 replace H := Option.bind_eq_some_iff.mp H
 obtain ⟨t576, A30, H⟩ := H
 try dsimp only at H
 have A3 := Aside0.mk A30
 clear A30
 by_cases c4 : t576 = 0
 ·rw [if_pos c4] at H
  have c4b0 : (t576 == 0) = true := beq_iff_eq.mpr c4
  have c4b1 : (t576 != 0) = false := bne_eq_false_iff_eq.mpr c4
  clear c4
  replace H := Option.bind_eq_some_iff.mp H
  obtain ⟨t577, A50, H⟩ := H
  replace H : (some t577) = some r := H
  have A5 := Aside0.mk A50
  clear A50
  obtain rfl := Option.some.inj H
  go_enter Try.func100, Try.ntmps100
  go_wp2_with (first | ((with_reducible refine gate_dst (N := 2) rfl ?_); refine box_event ?hg (N := 2) ?hd (cs := #[.string a0_0, .string a0_1, .int .i64 a0_2]) (t := 89) ?hr ?_; (case hd => rfl); (case hg => rfl); (case hr => first | (go_simp; done) | (go_simp; rfl)); intro gb574 hg w6 hbox hb; have n0_ := Aside0.mk (below_step (by repeat (first | (with_reducible first | exact HB.out | apply below_alloc | apply pw_below_drewN | apply below_drew1) | exact HB.out)) hb); have n1_ := Aside0.mk (hbox); have n2_ := Aside0.mk ((by rw [hg]; exact (below_size (by repeat (first | (with_reducible first | exact HB.out | apply below_alloc | apply pw_below_drewN | apply below_drew1) | exact HB.out))) : w.heap.size ≤ gb574)); have n3_ := Aside0.mk ((by rw [hg]; exact (below_size (by repeat (first | (with_reducible first | exact HB.out | apply below_alloc | apply pw_below_drewN | apply below_drew1) | exact HB.out))) : w.heap.size ≤ gb574)); clear HB; have HB := n0_; have BK574 := n1_; have GW574 := n2_; have GE574 := n3_; clear n0_ n1_ n2_ n3_; clear hb hbox hg) | ((with_reducible refine gate_dst (N := 3) rfl ?_); refine box_event ?hg (N := 3) ?hd (cs := #[.string a1_0, .string a1_1, .int .i64 a1_2]) (t := 89) ?hr ?_; (case hd => rfl); (case hg => rfl); (case hr => first | (go_simp; done) | (go_simp; rfl)); intro gb575 hg w7 hbox hb; have n0_ := Aside0.mk (blk_below (g := gb574) (o := .cells #[.string a0_0, .string a0_1, .int .i64 a0_2] 89 (0, 0)) (by (with_reducible repeat (first | refine blk_drewN ?_ _ | refine blk_drew ?_ | refine blk_alloc ?_ _)); exact BK574.out) hb); have n1_ := Aside0.mk (below_step (by repeat (first | (with_reducible first | exact HB.out | apply below_alloc | apply pw_below_drewN | apply below_drew1 | refine below_set ?_ GE574.out) | exact HB.out)) hb); have n2_ := Aside0.mk (hbox); have n3_ := Aside0.mk ((by rw [hg]; exact (below_size (by repeat (first | (with_reducible first | exact HB.out | apply below_alloc | apply pw_below_drewN | apply below_drew1 | refine below_set ?_ GE574.out) | exact HB.out))) : w.heap.size ≤ gb575)); have n4_ := Aside0.mk ((by rw [hg]; exact (below_size (by repeat (first | (with_reducible first | exact HB.out | apply below_alloc | apply pw_below_drewN | apply below_drew1 | refine below_set ?_ GE574.out) | exact HB.out))) : w.heap.size ≤ gb575)); have n5_ := Aside0.mk ((by rw [hg]; exact Nat.ne_of_lt (blk_lt (g := gb574) (o := .cells #[.string a0_0, .string a0_1, .int .i64 a0_2] 89 (0, 0)) (by (with_reducible repeat (first | refine blk_drewN ?_ _ | refine blk_drew ?_ | refine blk_alloc ?_ _)); exact BK574.out)) : gb574 ≠ gb575)); have n6_ := Aside0.mk ((by rw [hg]; exact Nat.ne_of_gt (blk_lt (g := gb574) (o := .cells #[.string a0_0, .string a0_1, .int .i64 a0_2] 89 (0, 0)) (by (with_reducible repeat (first | refine blk_drewN ?_ _ | refine blk_drew ?_ | refine blk_alloc ?_ _)); exact BK574.out)) : gb575 ≠ gb574)); clear BK574; clear HB; have BK574 := n0_; have HB := n1_; have BK575 := n2_; have GW575 := n3_; have GE575 := n4_; have NB574_575 := n5_; have NB575_574 := n6_; clear n0_ n1_ n2_ n3_ n4_ n5_ n6_; clear hb hbox hg; have hnb8 := NB574_575.out; have hnc8 := NB575_574.out; have hcz9_0 : w7.cell? ⟨gb574, 0, none⟩ = some (.string a0_0) := (blk_cell BK574.out 0).trans rfl; have hcz9_1 : w7.cell? ⟨gb574, 1, none⟩ = some (.string a0_1) := (blk_cell BK574.out 1).trans rfl; have hcz9_2 : w7.cell? ⟨gb574, 2, none⟩ = some (.int .i64 a0_2) := (blk_cell BK574.out 2).trans rfl; have hfz9_0 := blk_frozen BK574.out 0; have hfz9_1 := blk_frozen BK574.out 1; have hfz9_2 := blk_frozen BK574.out 2; have hcz10_0 : w7.cell? ⟨gb575, 0, none⟩ = some (.string a1_0) := (blk_cell BK575.out 0).trans rfl; have hcz10_1 : w7.cell? ⟨gb575, 1, none⟩ = some (.string a1_1) := (blk_cell BK575.out 1).trans rfl; have hcz10_2 : w7.cell? ⟨gb575, 2, none⟩ = some (.int .i64 a1_2) := (blk_cell BK575.out 2).trans rfl; have hfz10_0 := blk_frozen BK575.out 0; have hfz10_1 := blk_frozen BK575.out 1; have hfz10_2 := blk_frozen BK575.out 2) | ((with_reducible refine gate_callee (f := 66) rfl ?_); refine goesL_ (some 10) rfl rfl Try.func66 (by kernel_rfl) rfl #[.string a0_0, .string a1_0] rfl (by (try simp only [List.map_toArray, List.map_cons, List.map_nil]); first | done | rfl | (simp only [List.length_drop, List.length_take]; rfl)) ?_; (with_reducible refine (strings_Compare.calls a0_0 a1_0 t576 _ A3.out).mono ?_); rintro e w' ⟨rfl, ⟨nd, rfl⟩⟩; refine ⟨_, rfl, ?_⟩) | ((with_reducible refine gate_callee (f := 66) rfl ?_); refine goesL_ (some 18) rfl rfl Try.func66 (by kernel_rfl) rfl #[.string a0_1, .string a1_1] rfl (by (try simp only [List.map_toArray, List.map_cons, List.map_nil]); first | done | rfl | (simp only [List.length_drop, List.length_take]; rfl)) ?_; (with_reducible refine (strings_Compare.calls a0_1 a1_1 t577 _ A5.out).mono ?_); rintro e w' ⟨rfl, ⟨nd, rfl⟩⟩; refine ⟨_, rfl, ?_⟩))
  go_ret
  exact ⟨by first | rfl | (simp [errW_none, errW_some] <;> rfl) | (simp [*, errW_none, errW_some] <;> rfl), by repeat (first | (with_reducible first | exact HB.out | apply below_alloc | apply pw_below_drewN | apply below_drew1 | refine below_set ?_ GE574.out | refine below_set ?_ GE575.out) | exact HB.out)⟩
 ·rw [if_neg c4] at H
  have c4b0 : (t576 == 0) = false := beq_eq_false_iff_ne.mpr c4
  have c4b1 : (t576 != 0) = true := bne_iff_ne.mpr c4
  obtain rfl := Option.some.inj H
  go_enter Try.func100, Try.ntmps100
  go_wp2_with (first | ((with_reducible refine gate_dst (N := 2) rfl ?_); refine box_event ?hg (N := 2) ?hd (cs := #[.string a0_0, .string a0_1, .int .i64 a0_2]) (t := 89) ?hr ?_; (case hd => rfl); (case hg => rfl); (case hr => first | (go_simp; done) | (go_simp; rfl)); intro gb574 hg w11 hbox hb; have n0_ := Aside0.mk (below_step (by repeat (first | (with_reducible first | exact HB.out | apply below_alloc | apply pw_below_drewN | apply below_drew1) | exact HB.out)) hb); have n1_ := Aside0.mk (hbox); have n2_ := Aside0.mk ((by rw [hg]; exact (below_size (by repeat (first | (with_reducible first | exact HB.out | apply below_alloc | apply pw_below_drewN | apply below_drew1) | exact HB.out))) : w.heap.size ≤ gb574)); have n3_ := Aside0.mk ((by rw [hg]; exact (below_size (by repeat (first | (with_reducible first | exact HB.out | apply below_alloc | apply pw_below_drewN | apply below_drew1) | exact HB.out))) : w.heap.size ≤ gb574)); clear HB; have HB := n0_; have BK574 := n1_; have GW574 := n2_; have GE574 := n3_; clear n0_ n1_ n2_ n3_; clear hb hbox hg) | ((with_reducible refine gate_dst (N := 3) rfl ?_); refine box_event ?hg (N := 3) ?hd (cs := #[.string a1_0, .string a1_1, .int .i64 a1_2]) (t := 89) ?hr ?_; (case hd => rfl); (case hg => rfl); (case hr => first | (go_simp; done) | (go_simp; rfl)); intro gb575 hg w12 hbox hb; have n0_ := Aside0.mk (blk_below (g := gb574) (o := .cells #[.string a0_0, .string a0_1, .int .i64 a0_2] 89 (0, 0)) (by (with_reducible repeat (first | refine blk_drewN ?_ _ | refine blk_drew ?_ | refine blk_alloc ?_ _)); exact BK574.out) hb); have n1_ := Aside0.mk (below_step (by repeat (first | (with_reducible first | exact HB.out | apply below_alloc | apply pw_below_drewN | apply below_drew1 | refine below_set ?_ GE574.out) | exact HB.out)) hb); have n2_ := Aside0.mk (hbox); have n3_ := Aside0.mk ((by rw [hg]; exact (below_size (by repeat (first | (with_reducible first | exact HB.out | apply below_alloc | apply pw_below_drewN | apply below_drew1 | refine below_set ?_ GE574.out) | exact HB.out))) : w.heap.size ≤ gb575)); have n4_ := Aside0.mk ((by rw [hg]; exact (below_size (by repeat (first | (with_reducible first | exact HB.out | apply below_alloc | apply pw_below_drewN | apply below_drew1 | refine below_set ?_ GE574.out) | exact HB.out))) : w.heap.size ≤ gb575)); have n5_ := Aside0.mk ((by rw [hg]; exact Nat.ne_of_lt (blk_lt (g := gb574) (o := .cells #[.string a0_0, .string a0_1, .int .i64 a0_2] 89 (0, 0)) (by (with_reducible repeat (first | refine blk_drewN ?_ _ | refine blk_drew ?_ | refine blk_alloc ?_ _)); exact BK574.out)) : gb574 ≠ gb575)); have n6_ := Aside0.mk ((by rw [hg]; exact Nat.ne_of_gt (blk_lt (g := gb574) (o := .cells #[.string a0_0, .string a0_1, .int .i64 a0_2] 89 (0, 0)) (by (with_reducible repeat (first | refine blk_drewN ?_ _ | refine blk_drew ?_ | refine blk_alloc ?_ _)); exact BK574.out)) : gb575 ≠ gb574)); clear BK574; clear HB; have BK574 := n0_; have HB := n1_; have BK575 := n2_; have GW575 := n3_; have GE575 := n4_; have NB574_575 := n5_; have NB575_574 := n6_; clear n0_ n1_ n2_ n3_ n4_ n5_ n6_; clear hb hbox hg; have hnb13 := NB574_575.out; have hnc13 := NB575_574.out; have hcz14_0 : w12.cell? ⟨gb574, 0, none⟩ = some (.string a0_0) := (blk_cell BK574.out 0).trans rfl; have hcz14_1 : w12.cell? ⟨gb574, 1, none⟩ = some (.string a0_1) := (blk_cell BK574.out 1).trans rfl; have hcz14_2 : w12.cell? ⟨gb574, 2, none⟩ = some (.int .i64 a0_2) := (blk_cell BK574.out 2).trans rfl; have hfz14_0 := blk_frozen BK574.out 0; have hfz14_1 := blk_frozen BK574.out 1; have hfz14_2 := blk_frozen BK574.out 2; have hcz15_0 : w12.cell? ⟨gb575, 0, none⟩ = some (.string a1_0) := (blk_cell BK575.out 0).trans rfl; have hcz15_1 : w12.cell? ⟨gb575, 1, none⟩ = some (.string a1_1) := (blk_cell BK575.out 1).trans rfl; have hcz15_2 : w12.cell? ⟨gb575, 2, none⟩ = some (.int .i64 a1_2) := (blk_cell BK575.out 2).trans rfl; have hfz15_0 := blk_frozen BK575.out 0; have hfz15_1 := blk_frozen BK575.out 1; have hfz15_2 := blk_frozen BK575.out 2) | ((with_reducible refine gate_callee (f := 66) rfl ?_); refine goesL_ (some 10) rfl rfl Try.func66 (by kernel_rfl) rfl #[.string a0_0, .string a1_0] rfl (by (try simp only [List.map_toArray, List.map_cons, List.map_nil]); first | done | rfl | (simp only [List.length_drop, List.length_take]; rfl)) ?_; (with_reducible refine (strings_Compare.calls a0_0 a1_0 t576 _ A3.out).mono ?_); rintro e w' ⟨rfl, ⟨nd, rfl⟩⟩; refine ⟨_, rfl, ?_⟩))
  go_ret
  exact ⟨by first | rfl | (simp [errW_none, errW_some] <;> rfl) | (simp [*, errW_none, errW_some] <;> rfl), by repeat (first | (with_reducible first | exact HB.out | apply below_alloc | apply pw_below_drewN | apply below_drew1 | refine below_set ?_ GE574.out | refine below_set ?_ GE575.out) | exact HB.out)⟩
-- NOT PRINTED: function 88 (interco_insert)
-- NOT PRINTED: function 75 (interco_pairs)
-- NOT PRINTED: function 47 (interco_Pairs)
end Go.Proofs.Ytmflggbpiadkjaa.P
/- The contract of slices.BinarySearchFunc at pairs (printed out of a doctored translation by gen_search.py, turned by turn_search.py). -/
namespace Go.Proofs.Ytmflggbpiadkjaa.P
open Go.RowKit Go.Proofs.YtmflggbpiadkjaaW.PrintWords Go.Proofs.YtmflggbpiadkjaaW.PrintLast Go.Proofs.YtmflggbpiadkjaaW.PrintMore
attribute [local go_sem] max2_int min2_int max_two min_two max_three min_three max_four min_four   -- for this text's walks alone
set_option linter.unusedVariables false
set_option linter.unusedSimpArgs false
section
variable {P : Program} {ops : Array Oper} {Q : Exit → Act → World → Prop}
/-- A call of a function value that stands in a slot, in a region that draws. -/
theorem goesF_ {oi : Oper} {N : Option Tmp} {a : Act} {w : World} {K : Act → World → Prop} {f : FuncId} {fn : Func} {g : Operand} {xs : Array Operand} {ts : Array TypeId} (hf : P.funcs[f]? = some fn) (hname : (fn.name == "runtime.NumGoroutine") = false) (hb : fn.body.isSome = true) (args : Array Value)
  (hw : Region.wanted oi (yielded ops a.tmps) = true) (hN : oi.dst = N) (hop : oi.op = .call { callee := .value g, args := xs, argTypes := ts }) (hgv : a.eval g = .func (.func f) #[] #[]) (hargs : xs.map a.eval = args)
  (h : Calls P f args w fun e w' => ∃ v, e = .returned v ∧ K (a.put N v) w') : if Region.wanted oi (yielded ops a.tmps) = true then Oper.wp P oi a w K Q else K (a.put N undef) w := by
 refine call_ f args hw hN ?_ h
 have he := enters_ hf hname hb args w
 unfold execOp
 simp [hop, resolve, Deferred.ofValue, invoke, hgv, hargs, he]
end
/-! ### bin_search: function 99 -/
def bin_search.l0 : Nat → List (S89) → Int → Int → Int → ByteArray → ByteArray → Int → Option (Int × Bool)
 | 0, _, _, _, _, _, _, _ => none
 | k + 1, x0, x8, x9, x10, x573000, x573001, x573002 => if x9 < x10 then (if 0 ≤ (wrap64 ((IntKind.u64.wrap (wrap64 (x9 + x10))) / 2)) then (if (wrap64 ((IntKind.u64.wrap (wrap64 (x9 + x10))) / 2)) < (x0.length : Int) then ((interco_compare.f ((rd_T89 x0 (wrap64 ((IntKind.u64.wrap (wrap64 (x9 + x10))) / 2))).f0) ((rd_T89 x0 (wrap64 ((IntKind.u64.wrap (wrap64 (x9 + x10))) / 2))).f1) ((rd_T89 x0 (wrap64 ((IntKind.u64.wrap (wrap64 (x9 + x10))) / 2))).f2) x573000 x573001 x573002).bind fun t574 => (if t574 < 0 then (bin_search.l0 k x0 x8 (wrap64 ((wrap64 ((IntKind.u64.wrap (wrap64 (x9 + x10))) / 2)) + 1)) x10 x573000 x573001 x573002) else (bin_search.l0 k x0 x8 x9 (wrap64 ((IntKind.u64.wrap (wrap64 (x9 + x10))) / 2)) x573000 x573001 x573002))) else (none)) else (none)) else (if x9 < x8 then (if 0 ≤ x9 then (if x9 < (x0.length : Int) then ((interco_compare.f ((rd_T89 x0 x9).f0) ((rd_T89 x0 x9).f1) ((rd_T89 x0 x9).f2) x573000 x573001 x573002).bind fun t576 => (some (x9, (t576 == 0)))) else (none)) else (none)) else (some (x9, false)))
def bin_search.f (k : Nat) (l0 : List (S89)) (a1_0 : ByteArray) (a1_1 : ByteArray) (a1_2 : Int) : Option (Int × Bool) := bin_search.l0 k l0 (l0.length : Int) 0 (l0.length : Int) a1_0 a1_1 a1_2
theorem bin_search.mono_l : ∀ k, (∀ y0 y1 y2 y3 y4 y5 y6, LeO (bin_search.l0 k y0 y1 y2 y3 y4 y5 y6) (bin_search.l0 (k + 1) y0 y1 y2 y3 y4 y5 y6))
 | 0 => fun _ _ _ _ _ _ _ r h => by simp [bin_search.l0] at h
 | k + 1 => by
  have ih0 := bin_search.mono_l k
  ·intro y0 y1 y2 y3 y4 y5 y6
   unfold bin_search.l0
   repeat' first
   | (with_reducible exact ih0 _ _ _ _ _ _ _)
   | (with_reducible exact LeO.refl _)
   | (with_reducible exact LeO.none _)
   | (with_reducible refine LeO.ite ?_ ?_)
   | (with_reducible refine LeO.bind ?_ (fun _ => ?_))
   | exact ih0 _ _ _ _ _ _ _
   | exact LeO.none _
   | refine LeO.ite ?_ ?_
   | refine LeO.bind ?_ (fun _ => ?_)
theorem bin_search.mono : ∀ a0 a1 a2 a3 k, LeO (bin_search.f k a0 a1 a2 a3) (bin_search.f (k + 1) a0 a1 a2 a3) := by
 intro a0 a1 a2 a3 k
 have ih0 := bin_search.mono_l k
 unfold bin_search.f
 repeat' first
   | (with_reducible exact ih0 _ _ _ _ _ _ _)
   | (with_reducible exact LeO.refl _)
   | (with_reducible exact LeO.none _)
   | (with_reducible refine LeO.ite ?_ ?_)
   | (with_reducible refine LeO.bind ?_ (fun _ => ?_))
   | exact ih0 _ _ _ _ _ _ _
   | exact LeO.none _
   | refine LeO.ite ?_ ?_
   | refine LeO.bind ?_ (fun _ => ?_)
def bin_search.T5 : Bool × List (List Nat × List Nat) := (true, [([], []), ([], []), ([], []), ([1, 2], [1, 2]), ([3], [3]), ([], []), ([0, 4, 5], [0, 4, 5]), ([6], [6])])
def bin_search.B5 : List Nat := [0, 0, 0, 6, 14, 0, 63, 127]
theorem bin_search.tab5 : rtab .any (opsOf Try.f99 5) = bin_search.T5 := by kernel_rfl
theorem bin_search.bits5 : waitsOk bin_search.T5.2 bin_search.B5 = true := by kernel_rfl
def bin_search.T8 : Bool × List (List Nat × List Nat) := (true, [([], []), ([], []), ([], []), ([1, 2], [1, 2]), ([3], [3]), ([4], [4]), ([4], [4]), ([4], [4]), ([6, 7, 4], [4, 6, 7]), ([8, 4], [4, 8]), ([4], [4]), ([5, 9, 10, 4, 4], [4, 5, 9, 10]), ([11, 4], [4, 11]), ([4, 12], [4, 12]), ([0, 11, 0], [0]), ([13, 14, 0, 1, 2, 3, 4, 5, 6, 7, 8, 9, 10, 11, 12, 13, 14], [13])])
def bin_search.B8 : List Nat := [0, 0, 0, 6, 14, 30, 30, 30, 222, 478, 30, 2046, 4094, 8190, 4095, 32767]
theorem bin_search.tab8 : rtab .any (opsOf Try.f99 8) = bin_search.T8 := by kernel_rfl
theorem bin_search.bits8 : waitsOk bin_search.T8.2 bin_search.B8 = true := by kernel_rfl
set_option maxHeartbeats 8000000 in
set_option maxRecDepth 100000 in
theorem bin_search.calls (k : Nat) (A0 : Option Addr) (c0 : Nat) (l0 : List (S89)) (a1_0 : ByteArray) (a1_1 : ByteArray) (a1_2 : Int) (r1 : Int) (r2 : Bool) (w : World) (hr0 : Kd.C k89 w A0 l0.length l0) (hc0 : l0.length ≤ c0) (h : bin_search.f k l0 a1_0 a1_1 a1_2 = some (r1, r2)) :
  Calls Try.prog 99 #[.slice A0 l0.length c0, .agg #[.string a1_0, .string a1_1, .int .i64 a1_2], .func (.func 100) #[] #[]] w fun e w' => e = .returned (.tuple #[.int .i64 r1, .bool r2]) ∧ Below w.heap.size w w' := by
 have hu89 := Try.underlying89
 have HR0 := Aside0.mk hr0
 have HC0 := Aside0.mk hc0
 clear hr0 hc0
 have HB := Aside0.mk (Below.refl w.heap.size w)
 have H : (bin_search.l0 k l0 (l0.length : Int) 0 (l0.length : Int) a1_0 a1_1 a1_2) = some (r1, r2) := h
 clear h
 have H' := Aside0.mk H
 clear H
 go_enter Try.func99, Try.ntmps99
 go_wp2_with (first | ((with_reducible refine gate_dst (N := 4) rfl ?_); refine box_event ?hg (N := 4) ?hd (cs := #[.string a1_0, .string a1_1, .int .i64 a1_2]) (t := 89) ?hr ?_; (case hd => rfl); (case hg => rfl); (case hr => first | (go_simp; done) | (go_simp; rfl)); intro gb572 hg w3 hbox hb; have n0_ := Aside0.mk (below_step (by repeat (first | (with_reducible first | exact HB.out | apply below_alloc | apply pw_below_drewN | apply below_drew1) | exact HB.out)) hb); have n1_ := Aside0.mk (hbox); have n2_ := Aside0.mk ((by rw [hg]; exact (below_size (by repeat (first | (with_reducible first | exact HB.out | apply below_alloc | apply pw_below_drewN | apply below_drew1) | exact HB.out))) : w.heap.size ≤ gb572)); have n3_ := Aside0.mk ((by rw [hg]; exact (below_size (by repeat (first | (with_reducible first | exact HB.out | apply below_alloc | apply pw_below_drewN | apply below_drew1) | exact HB.out))) : w.heap.size ≤ gb572)); clear HB; have HB := n0_; have BK572 := n1_; have GW572 := n2_; have GE572 := n3_; clear n0_ n1_ n2_ n3_; clear hb hbox hg))
 go_loopg [9, 10] k (fun kq v9 v10 w' => ∃ (x9_1 : Int) (x10_1 : Int), v9 = .int .i64 x9_1 ∧ v10 = .int .i64 x10_1 ∧ Aside0 (bin_search.l0 kq l0 (l0.length : Int) x9_1 x10_1 a1_0 a1_1 a1_2 = some (r1, r2)) ∧ Aside0 (kq ≤ k) ∧ Aside0 (w'.heap[gb572]? = some (.cells #[.string a1_0, .string a1_1, .int .i64 a1_2] 89 (0, 0))) ∧ Aside0 (Below w.heap.size w w'))
 case atStart => exact ⟨(0), ((l0.length : Int)), (by first | rfl | (simp; done) | (simp [*]; done)), (by first | rfl | (simp; done) | (simp [*]; done)), H', ⟨Nat.le_refl _⟩, ⟨by (with_reducible repeat (first | refine blk_drewN ?_ _ | refine blk_drew ?_ | refine blk_alloc ?_ _)); exact BK572.out⟩, ⟨by repeat (first | (with_reducible first | exact HB.out | apply below_alloc | apply pw_below_drewN | apply below_drew1 | refine below_set ?_ GE572.out) | exact HB.out)⟩⟩
 case round =>
  clear H'
  try clear p2
  obtain ⟨x9_1, x10_1, rfl, rfl, HA, HK1, BK572, HB⟩ := hrel
  cases gk with
  | zero => exact absurd HA.out (by simp [bin_search.l0])
  | succ k1 =>
   have H := HA.out
   clear HA
   simp only [bin_search.l0] at H
   by_cases c4 : x9_1 < x10_1
   ·rw [if_pos c4] at H
    have c4b0 : decide (x9_1 < x10_1) = true := decide_eq_true c4
    clear c4
    obtain ⟨ji5, hji5⟩ : ∃ j_ : Int, (wrap64 ((IntKind.u64.wrap (wrap64 (x9_1 + x10_1))) / 2)) = j_ := ⟨_, rfl⟩
    replace H : (if 0 ≤ (ji5) then (if (ji5) < (l0.length : Int) then ((interco_compare.f ((rd_T89 l0 (ji5)).f0) ((rd_T89 l0 (ji5)).f1) ((rd_T89 l0 (ji5)).f2) a1_0 a1_1 a1_2).bind fun t574 => (if t574 < 0 then (bin_search.l0 k1 l0 (l0.length : Int) (wrap64 ((ji5) + 1)) x10_1 a1_0 a1_1 a1_2) else (bin_search.l0 k1 l0 (l0.length : Int) x9_1 ji5 a1_0 a1_1 a1_2))) else (none)) else (none)) = some (r1, r2) := by first | (rw [hji5] at H; exact H) | (simp only [hji5] at H ⊢; exact H)
    have hji5w : (IntKind.i64.wrap ((IntKind.u64.wrap (wrap64 (x9_1 + x10_1))) / 2)) = ji5 := (i64_w _).trans hji5
    by_cases c6 : 0 ≤ (ji5)
    ·rw [if_pos c6] at H
     have c6b0 : decide (0 ≤ (ji5)) = true := decide_eq_true c6
     clear c6
     by_cases c7 : (ji5) < (l0.length : Int)
     ·rw [if_pos c7] at H
      have c7b0 : decide ((ji5) < (l0.length : Int)) = true := decide_eq_true c7
      clear c7
      replace H := Option.bind_eq_some_iff.mp H
      obtain ⟨t574, A80, H⟩ := H
      try dsimp only at H
      have A8 := Aside0.mk A80
      clear A80
      by_cases c9 : t574 < 0
      ·rw [if_pos c9] at H
       have c9b0 : decide (t574 < 0) = true := decide_eq_true c9
       clear c9
       have H' := Aside0.mk H
       clear H
       try go_wp2
       have n0_ := Aside0.mk (blk_drew BK572.out)
       have n1_ := Aside0.mk (below_drew1 HB.out)
       clear BK572
       clear HB
       have BK572 := n0_
       have HB := n1_
       clear n0_ n1_
       have p573 : 0 ≤ ((ji5) : Int) := of_decide_eq_true (by first | (with_reducible assumption) | assumption)
       have q573 : (ji5) < (l0.length : Int) := of_decide_eq_true (by first | (with_reducible assumption) | assumption)
       obtain ⟨ad573, e573, hx573_0, hx573_1, hx573_2⟩ := at_T89 HR0.out (ji5) p573 q573
       have hw573_2 := hx573_2
       have hw573_1 := hx573_1
       have hw573_0 := hx573_0
       cases e573
       replace hx573_0 := (HB.out.cell (World.block_lt_of_cell? w _ hx573_0)).trans hx573_0
       replace hx573_1 := (HB.out.cell (World.block_lt_of_cell? w _ hx573_1)).trans hx573_1
       replace hx573_2 := (HB.out.cell (World.block_lt_of_cell? w _ hx573_2)).trans hx573_2
       replace p573 := eq_true p573
       replace q573 := eq_true q573
       refine start_ (n := 8) (S := fun w' => w'.cell? ⟨gb572, 0, none⟩ = some (.string a1_0) ∧ w'.cell? ⟨gb572, 1, none⟩ = some (.string a1_1) ∧ w'.cell? ⟨gb572, 2, none⟩ = some (.int .i64 a1_2) ∧ w'.cell? (ad573.add (((ji5)).toNat * 3)) = some (.string ((rd_T89 l0 (ji5)).f0)) ∧ w'.cell? ⟨(ad573.add (((ji5)).toNat * 3)).block, (ad573.add (((ji5)).toNat * 3)).off + 1, none⟩ = some (.string ((rd_T89 l0 (ji5)).f1)) ∧ w'.cell? ⟨(ad573.add (((ji5)).toNat * 3)).block, (ad573.add (((ji5)).toNat * 3)).off + 2, none⟩ = some (.int .i64 ((rd_T89 l0 (ji5)).f2))) (ds := []) #[false, false, false, false, false, false, false, false] (by kernel_rfl) rfl rfl ⟨(blk_cell BK572.out 0).trans rfl, (blk_cell BK572.out 1).trans rfl, (blk_cell BK572.out 2).trans rfl, ((HB.out.cell (World.block_lt_of_cell? w _ hw573_0)).trans hw573_0), ((HB.out.cell (World.block_lt_of_cell? w _ hw573_1)).trans hw573_1), ((HB.out.cell (World.block_lt_of_cell? w _ hw573_2)).trans hw573_2)⟩ (fun hHeld => ?_); refine with_tabW bin_search.tab5 bin_search.bits5 (fun HT_ HW_ => ?_)
       generalize wr.drew = w10 at BK572 HB hx573_0 hx573_1 hx573_2 hHeld ⊢
       refine pure_ (i := 0) (N := some 24) (v := ?_) (a' := ?_) #[true, false, false, false, false, false, false, false] rfl rfl (any_of HT_.out (by kernel_rfl)) (fun _ _ _ h => h) (Or.inl ⟨by rfl, ?_⟩) ?_ ?_
       rotate_left
       ·intro w'
        go_simp
        with_reducible rfl
       rotate_left
       ·simp only [Act.put, List.setIfInBounds_toArray, List.set_cons_zero, List.set_cons_succ, i64_w, i32_w]
        rfl
       refine pure_ (i := 1) (N := some 25) (v := ?_) (a' := ?_) #[true, true, false, false, false, false, false, false] rfl rfl (any_of HT_.out (by kernel_rfl)) (fun _ _ _ h => h) (Or.inl ⟨by rfl, ?_⟩) ?_ ?_
       rotate_left
       ·intro w'
        go_simp
        with_reducible rfl
       rotate_left
       ·simp only [Act.put, List.setIfInBounds_toArray, List.set_cons_zero, List.set_cons_succ, i64_w, i32_w]
        rfl
       refine pure_ (i := 2) (N := some 26) (v := ?_) (a' := ?_) #[true, true, true, false, false, false, false, false] rfl rfl (any_of HT_.out (by kernel_rfl)) (fun _ _ _ h => h) (Or.inl ⟨by rfl, ?_⟩) ?_ ?_
       rotate_left
       ·intro w'
        go_simp
        with_reducible rfl
       rotate_left
       ·simp only [Act.put, List.setIfInBounds_toArray, List.set_cons_zero, List.set_cons_succ, i64_w, i32_w]
        rfl
       refine pure_ (i := 3) (N := some 27) (v := ?_) (a' := ?_) #[true, true, true, true, false, false, false, false] rfl rfl (any_of HT_.out (by kernel_rfl)) (fun _ _ _ h => h) (Or.inl ⟨by rfl, ?_⟩) ?_ ?_
       rotate_left
       ·intro w'
        go_simp
        with_reducible rfl
       rotate_left
       ·simp only [Act.put, List.setIfInBounds_toArray, List.set_cons_zero, List.set_cons_succ, i64_w, i32_w]
        rfl
       refine take_ (i := 4) (N := some 28) (v := ?_) (a' := ?_) #[true, true, true, true, true, false, false, false] rfl rfl (take_ofW HT_.out HW_.out (by kernel_rfl)) (fun _ _ _ h => h) (Or.inl ⟨by rfl, ?_⟩) hHeld ?_ ?_
       rotate_left
       ·rintro w' ⟨s0, s1, s2, s3, s4, s5⟩
        go_simp
        with_reducible rfl
       rotate_left
       ·simp only [Act.put, List.setIfInBounds_toArray, List.set_cons_zero, List.set_cons_succ, i64_w, i32_w]
        rfl
       refine take_ (i := 5) (N := some 29) (v := ?_) (a' := ?_) #[true, true, true, true, true, true, false, false] rfl rfl (take_ofW HT_.out HW_.out (by kernel_rfl)) (fun _ _ _ h => h) (Or.inl ⟨by rfl, ?_⟩) hHeld ?_ ?_
       rotate_left
       ·rintro w' ⟨s0, s1, s2, s3, s4, s5⟩
        go_simp
        with_reducible rfl
       rotate_left
       ·simp only [Act.put, List.setIfInBounds_toArray, List.set_cons_zero, List.set_cons_succ, i64_w, i32_w]
        rfl
       refine one_ (i := 6) (N := some 30) #[true, true, true, true, true, true, true, false] rfl rfl (one_of HT_.out (by kernel_rfl)) (by decide) (fun K hK => ?_)
       refine goesF_ Try.func100 (by kernel_rfl) rfl #[.agg #[.string ((rd_T89 l0 (ji5)).f0), .string ((rd_T89 l0 (ji5)).f1), .int .i64 ((rd_T89 l0 (ji5)).f2)], .agg #[.string a1_0, .string a1_1, .int .i64 a1_2]] (by rfl) rfl rfl rfl (by (try simp only [List.map_toArray, List.map_cons, List.map_nil]); first | done | (simp only [hji5]; rfl) | rfl | (simp only [List.length_drop, List.length_take]; rfl)) ?_
       with_reducible refine (interco_compare.calls ((rd_T89 l0 (ji5)).f0) ((rd_T89 l0 (ji5)).f1) ((rd_T89 l0 (ji5)).f2) a1_0 a1_1 a1_2 t574 _ A8.out).mono ?_
       rintro e w11 ⟨rfl, hb⟩
       refine ⟨_, rfl, ?_⟩
       have n0_ := Aside0.mk (blk_below (g := gb572) (o := .cells #[.string a1_0, .string a1_1, .int .i64 a1_2] 89 (0, 0)) (by (with_reducible repeat (first | refine blk_drewN ?_ _ | refine blk_drew ?_ | refine blk_alloc ?_ _)); exact BK572.out) hb)
       have n1_ := Aside0.mk (below_step (by repeat (first | (with_reducible first | exact HB.out | apply below_alloc | apply pw_below_drewN | apply below_drew1 | refine below_set ?_ GE572.out) | exact HB.out)) hb)
       clear BK572
       clear HB
       have BK572 := n0_
       have HB := n1_
       clear n0_ n1_
       (try clear hb)
       (try clear hb2)
       (try clear hk)
       (try clear hi)
       refine hK.out _ _ ⟨(blk_cell BK572.out 0).trans rfl, (blk_cell BK572.out 1).trans rfl, (blk_cell BK572.out 2).trans rfl, ((HB.out.cell (World.block_lt_of_cell? w _ hw573_0)).trans hw573_0), ((HB.out.cell (World.block_lt_of_cell? w _ hw573_1)).trans hw573_1), ((HB.out.cell (World.block_lt_of_cell? w _ hw573_2)).trans hw573_2)⟩ (fun hHeld => ?_)
       clear hK K
       refine norm_ (a' := ?_) ?_ ?_
       rotate_left
       ·show Act.put _ (some 30) _ = _
        simp only [Act.put, List.setIfInBounds_toArray, List.set_cons_zero, List.set_cons_succ, i64_w, i32_w]
        rfl
       refine pure_ (i := 7) (N := some 31) (v := ?_) (a' := ?_) #[true, true, true, true, true, true, true, true] rfl rfl (any_of HT_.out (by kernel_rfl)) (fun _ _ _ h => h) (Or.inl ⟨by rfl, ?_⟩) ?_ ?_
       rotate_left
       ·intro w'
        go_simp
        with_reducible rfl
       rotate_left
       ·simp only [Act.put, List.setIfInBounds_toArray, List.set_cons_zero, List.set_cons_succ, i64_w, i32_w]
        rfl
       refine done_ (done_of HT_.out (by kernel_rfl)) ?_
       try go_wp2
       go_roundg k1
       case measure => have := HK1.out; omega
       case rel => exact ⟨(wrap64 ((ji5) + 1)), (x10_1), (by first | rfl | (simp; done) | (simp only [← hji5] <;> (first | rfl | simp)) | (simp [*]; done)), (by first | rfl | (simp; done) | (simp [*]; done)), H', ⟨by have := HK1.out; omega⟩, ⟨by (with_reducible repeat (first | refine blk_drewN ?_ _ | refine blk_drew ?_ | refine blk_alloc ?_ _)); exact BK572.out⟩, ⟨by repeat (first | (with_reducible first | exact HB.out | apply below_alloc | apply pw_below_drewN | apply below_drew1 | refine below_set ?_ GE572.out) | exact HB.out)⟩⟩
      ·rw [if_neg c9] at H
       have c9b0 : decide (t574 < 0) = false := decide_eq_false c9
       clear c9
       have H' := Aside0.mk H
       clear H
       try go_wp2
       have n0_ := Aside0.mk (blk_drew BK572.out)
       have n1_ := Aside0.mk (below_drew1 HB.out)
       clear BK572
       clear HB
       have BK572 := n0_
       have HB := n1_
       clear n0_ n1_
       have p573 : 0 ≤ ((ji5) : Int) := of_decide_eq_true (by first | (with_reducible assumption) | assumption)
       have q573 : (ji5) < (l0.length : Int) := of_decide_eq_true (by first | (with_reducible assumption) | assumption)
       obtain ⟨ad573, e573, hx573_0, hx573_1, hx573_2⟩ := at_T89 HR0.out (ji5) p573 q573
       have hw573_2 := hx573_2
       have hw573_1 := hx573_1
       have hw573_0 := hx573_0
       cases e573
       replace hx573_0 := (HB.out.cell (World.block_lt_of_cell? w _ hx573_0)).trans hx573_0
       replace hx573_1 := (HB.out.cell (World.block_lt_of_cell? w _ hx573_1)).trans hx573_1
       replace hx573_2 := (HB.out.cell (World.block_lt_of_cell? w _ hx573_2)).trans hx573_2
       replace p573 := eq_true p573
       replace q573 := eq_true q573
       refine start_ (n := 8) (S := fun w' => w'.cell? ⟨gb572, 0, none⟩ = some (.string a1_0) ∧ w'.cell? ⟨gb572, 1, none⟩ = some (.string a1_1) ∧ w'.cell? ⟨gb572, 2, none⟩ = some (.int .i64 a1_2) ∧ w'.cell? (ad573.add (((ji5)).toNat * 3)) = some (.string ((rd_T89 l0 (ji5)).f0)) ∧ w'.cell? ⟨(ad573.add (((ji5)).toNat * 3)).block, (ad573.add (((ji5)).toNat * 3)).off + 1, none⟩ = some (.string ((rd_T89 l0 (ji5)).f1)) ∧ w'.cell? ⟨(ad573.add (((ji5)).toNat * 3)).block, (ad573.add (((ji5)).toNat * 3)).off + 2, none⟩ = some (.int .i64 ((rd_T89 l0 (ji5)).f2))) (ds := []) #[false, false, false, false, false, false, false, false] (by kernel_rfl) rfl rfl ⟨(blk_cell BK572.out 0).trans rfl, (blk_cell BK572.out 1).trans rfl, (blk_cell BK572.out 2).trans rfl, ((HB.out.cell (World.block_lt_of_cell? w _ hw573_0)).trans hw573_0), ((HB.out.cell (World.block_lt_of_cell? w _ hw573_1)).trans hw573_1), ((HB.out.cell (World.block_lt_of_cell? w _ hw573_2)).trans hw573_2)⟩ (fun hHeld => ?_); refine with_tabW bin_search.tab5 bin_search.bits5 (fun HT_ HW_ => ?_)
       generalize wr.drew = w12 at BK572 HB hx573_0 hx573_1 hx573_2 hHeld ⊢
       refine pure_ (i := 0) (N := some 24) (v := ?_) (a' := ?_) #[true, false, false, false, false, false, false, false] rfl rfl (any_of HT_.out (by kernel_rfl)) (fun _ _ _ h => h) (Or.inl ⟨by rfl, ?_⟩) ?_ ?_
       rotate_left
       ·intro w'
        go_simp
        with_reducible rfl
       rotate_left
       ·simp only [Act.put, List.setIfInBounds_toArray, List.set_cons_zero, List.set_cons_succ, i64_w, i32_w]
        rfl
       refine pure_ (i := 1) (N := some 25) (v := ?_) (a' := ?_) #[true, true, false, false, false, false, false, false] rfl rfl (any_of HT_.out (by kernel_rfl)) (fun _ _ _ h => h) (Or.inl ⟨by rfl, ?_⟩) ?_ ?_
       rotate_left
       ·intro w'
        go_simp
        with_reducible rfl
       rotate_left
       ·simp only [Act.put, List.setIfInBounds_toArray, List.set_cons_zero, List.set_cons_succ, i64_w, i32_w]
        rfl
       refine pure_ (i := 2) (N := some 26) (v := ?_) (a' := ?_) #[true, true, true, false, false, false, false, false] rfl rfl (any_of HT_.out (by kernel_rfl)) (fun _ _ _ h => h) (Or.inl ⟨by rfl, ?_⟩) ?_ ?_
       rotate_left
       ·intro w'
        go_simp
        with_reducible rfl
       rotate_left
       ·simp only [Act.put, List.setIfInBounds_toArray, List.set_cons_zero, List.set_cons_succ, i64_w, i32_w]
        rfl
       refine pure_ (i := 3) (N := some 27) (v := ?_) (a' := ?_) #[true, true, true, true, false, false, false, false] rfl rfl (any_of HT_.out (by kernel_rfl)) (fun _ _ _ h => h) (Or.inl ⟨by rfl, ?_⟩) ?_ ?_
       rotate_left
       ·intro w'
        go_simp
        with_reducible rfl
       rotate_left
       ·simp only [Act.put, List.setIfInBounds_toArray, List.set_cons_zero, List.set_cons_succ, i64_w, i32_w]
        rfl
       refine take_ (i := 4) (N := some 28) (v := ?_) (a' := ?_) #[true, true, true, true, true, false, false, false] rfl rfl (take_ofW HT_.out HW_.out (by kernel_rfl)) (fun _ _ _ h => h) (Or.inl ⟨by rfl, ?_⟩) hHeld ?_ ?_
       rotate_left
       ·rintro w' ⟨s0, s1, s2, s3, s4, s5⟩
        go_simp
        with_reducible rfl
       rotate_left
       ·simp only [Act.put, List.setIfInBounds_toArray, List.set_cons_zero, List.set_cons_succ, i64_w, i32_w]
        rfl
       refine take_ (i := 5) (N := some 29) (v := ?_) (a' := ?_) #[true, true, true, true, true, true, false, false] rfl rfl (take_ofW HT_.out HW_.out (by kernel_rfl)) (fun _ _ _ h => h) (Or.inl ⟨by rfl, ?_⟩) hHeld ?_ ?_
       rotate_left
       ·rintro w' ⟨s0, s1, s2, s3, s4, s5⟩
        go_simp
        with_reducible rfl
       rotate_left
       ·simp only [Act.put, List.setIfInBounds_toArray, List.set_cons_zero, List.set_cons_succ, i64_w, i32_w]
        rfl
       refine one_ (i := 6) (N := some 30) #[true, true, true, true, true, true, true, false] rfl rfl (one_of HT_.out (by kernel_rfl)) (by decide) (fun K hK => ?_)
       refine goesF_ Try.func100 (by kernel_rfl) rfl #[.agg #[.string ((rd_T89 l0 (ji5)).f0), .string ((rd_T89 l0 (ji5)).f1), .int .i64 ((rd_T89 l0 (ji5)).f2)], .agg #[.string a1_0, .string a1_1, .int .i64 a1_2]] (by rfl) rfl rfl rfl (by (try simp only [List.map_toArray, List.map_cons, List.map_nil]); first | done | (simp only [hji5]; rfl) | rfl | (simp only [List.length_drop, List.length_take]; rfl)) ?_
       with_reducible refine (interco_compare.calls ((rd_T89 l0 (ji5)).f0) ((rd_T89 l0 (ji5)).f1) ((rd_T89 l0 (ji5)).f2) a1_0 a1_1 a1_2 t574 _ A8.out).mono ?_
       rintro e w13 ⟨rfl, hb⟩
       refine ⟨_, rfl, ?_⟩
       have n0_ := Aside0.mk (blk_below (g := gb572) (o := .cells #[.string a1_0, .string a1_1, .int .i64 a1_2] 89 (0, 0)) (by (with_reducible repeat (first | refine blk_drewN ?_ _ | refine blk_drew ?_ | refine blk_alloc ?_ _)); exact BK572.out) hb)
       have n1_ := Aside0.mk (below_step (by repeat (first | (with_reducible first | exact HB.out | apply below_alloc | apply pw_below_drewN | apply below_drew1 | refine below_set ?_ GE572.out) | exact HB.out)) hb)
       clear BK572
       clear HB
       have BK572 := n0_
       have HB := n1_
       clear n0_ n1_
       (try clear hb)
       (try clear hb2)
       (try clear hk)
       (try clear hi)
       refine hK.out _ _ ⟨(blk_cell BK572.out 0).trans rfl, (blk_cell BK572.out 1).trans rfl, (blk_cell BK572.out 2).trans rfl, ((HB.out.cell (World.block_lt_of_cell? w _ hw573_0)).trans hw573_0), ((HB.out.cell (World.block_lt_of_cell? w _ hw573_1)).trans hw573_1), ((HB.out.cell (World.block_lt_of_cell? w _ hw573_2)).trans hw573_2)⟩ (fun hHeld => ?_)
       clear hK K
       refine norm_ (a' := ?_) ?_ ?_
       rotate_left
       ·show Act.put _ (some 30) _ = _
        simp only [Act.put, List.setIfInBounds_toArray, List.set_cons_zero, List.set_cons_succ, i64_w, i32_w]
        rfl
       refine pure_ (i := 7) (N := some 31) (v := ?_) (a' := ?_) #[true, true, true, true, true, true, true, true] rfl rfl (any_of HT_.out (by kernel_rfl)) (fun _ _ _ h => h) (Or.inl ⟨by rfl, ?_⟩) ?_ ?_
       rotate_left
       ·intro w'
        go_simp
        with_reducible rfl
       rotate_left
       ·simp only [Act.put, List.setIfInBounds_toArray, List.set_cons_zero, List.set_cons_succ, i64_w, i32_w]
        rfl
       refine done_ (done_of HT_.out (by kernel_rfl)) ?_
       try go_wp2
       go_roundg k1
       case measure => have := HK1.out; omega
       case rel => exact ⟨(x9_1), (ji5), (by first | rfl | (simp; done) | (simp [*]; done)), (by first | rfl | (simp; done) | (simp only [← hji5] <;> (first | rfl | simp)) | (simp [*]; done)), H', ⟨by have := HK1.out; omega⟩, ⟨by (with_reducible repeat (first | refine blk_drewN ?_ _ | refine blk_drew ?_ | refine blk_alloc ?_ _)); exact BK572.out⟩, ⟨by repeat (first | (with_reducible first | exact HB.out | apply below_alloc | apply pw_below_drewN | apply below_drew1 | refine below_set ?_ GE572.out) | exact HB.out)⟩⟩
     ·rw [if_neg c7] at H
      exact absurd H (by simp)
    ·rw [if_neg c6] at H
     exact absurd H (by simp)
   ·rw [if_neg c4] at H
    have c4b0 : decide (x9_1 < x10_1) = false := decide_eq_false c4
    clear c4
    by_cases c14 : x9_1 < (l0.length : Int)
    ·rw [if_pos c14] at H
     have c14b0 : decide (x9_1 < (l0.length : Int)) = true := decide_eq_true c14
     clear c14
     by_cases c15 : 0 ≤ x9_1
     ·rw [if_pos c15] at H
      have c15b0 : decide (0 ≤ x9_1) = true := decide_eq_true c15
      clear c15
      by_cases c16 : x9_1 < (l0.length : Int)
      ·rw [if_pos c16] at H
       have c16b0 : decide (x9_1 < (l0.length : Int)) = true := decide_eq_true c16
       clear c16
       replace H := Option.bind_eq_some_iff.mp H
       obtain ⟨t576, A170, H⟩ := H
       replace H : (some (x9_1, (t576 == 0))) = some (r1, r2) := H
       have A17 := Aside0.mk A170
       clear A170
       simp only [Option.some.injEq, Prod.mk.injEq] at H
       obtain ⟨rfl, rfl⟩ := H
       try go_wp2
       have n0_ := Aside0.mk (blk_drew BK572.out)
       have n1_ := Aside0.mk (below_drew1 HB.out)
       clear BK572
       clear HB
       have BK572 := n0_
       have HB := n1_
       clear n0_ n1_
       have p575 : 0 ≤ (x9_1 : Int) := of_decide_eq_true (by first | (with_reducible assumption) | assumption)
       have q575 : x9_1 < (l0.length : Int) := of_decide_eq_true (by first | (with_reducible assumption) | assumption)
       obtain ⟨ad575, e575, hx575_0, hx575_1, hx575_2⟩ := at_T89 HR0.out x9_1 p575 q575
       have hw575_2 := hx575_2
       have hw575_1 := hx575_1
       have hw575_0 := hx575_0
       cases e575
       replace hx575_0 := (HB.out.cell (World.block_lt_of_cell? w _ hx575_0)).trans hx575_0
       replace hx575_1 := (HB.out.cell (World.block_lt_of_cell? w _ hx575_1)).trans hx575_1
       replace hx575_2 := (HB.out.cell (World.block_lt_of_cell? w _ hx575_2)).trans hx575_2
       replace p575 := eq_true p575
       replace q575 := eq_true q575
       refine start_ (n := 16) (S := fun w' => w'.cell? ⟨gb572, 0, none⟩ = some (.string a1_0) ∧ w'.cell? ⟨gb572, 1, none⟩ = some (.string a1_1) ∧ w'.cell? ⟨gb572, 2, none⟩ = some (.int .i64 a1_2) ∧ w'.cell? (ad575.add ((x9_1).toNat * 3)) = some (.string ((rd_T89 l0 x9_1).f0)) ∧ w'.cell? ⟨(ad575.add ((x9_1).toNat * 3)).block, (ad575.add ((x9_1).toNat * 3)).off + 1, none⟩ = some (.string ((rd_T89 l0 x9_1).f1)) ∧ w'.cell? ⟨(ad575.add ((x9_1).toNat * 3)).block, (ad575.add ((x9_1).toNat * 3)).off + 2, none⟩ = some (.int .i64 ((rd_T89 l0 x9_1).f2))) (ds := []) #[false, false, false, false, false, false, false, false, false, false, false, false, false, false, false, false] (by kernel_rfl) rfl rfl ⟨(blk_cell BK572.out 0).trans rfl, (blk_cell BK572.out 1).trans rfl, (blk_cell BK572.out 2).trans rfl, ((HB.out.cell (World.block_lt_of_cell? w _ hw575_0)).trans hw575_0), ((HB.out.cell (World.block_lt_of_cell? w _ hw575_1)).trans hw575_1), ((HB.out.cell (World.block_lt_of_cell? w _ hw575_2)).trans hw575_2)⟩ (fun hHeld => ?_); refine with_tabW bin_search.tab8 bin_search.bits8 (fun HT_ HW_ => ?_)
       generalize wr.drew = w18 at BK572 HB hx575_0 hx575_1 hx575_2 hHeld ⊢
       refine pure_ (i := 0) (N := some 35) (v := ?_) (a' := ?_) #[true, false, false, false, false, false, false, false, false, false, false, false, false, false, false, false] rfl rfl (any_of HT_.out (by kernel_rfl)) (fun _ _ _ h => h) (Or.inl ⟨by rfl, ?_⟩) ?_ ?_
       rotate_left
       ·intro w'
        go_simp
        with_reducible rfl
       rotate_left
       ·simp only [Act.put, List.setIfInBounds_toArray, List.set_cons_zero, List.set_cons_succ, i64_w, i32_w]
        rfl
       refine pure_ (i := 1) (N := some 36) (v := ?_) (a' := ?_) #[true, true, false, false, false, false, false, false, false, false, false, false, false, false, false, false] rfl rfl (any_of HT_.out (by kernel_rfl)) (fun _ _ _ h => h) (Or.inl ⟨by rfl, ?_⟩) ?_ ?_
       rotate_left
       ·intro w'
        go_simp
        with_reducible rfl
       rotate_left
       ·simp only [Act.put, List.setIfInBounds_toArray, List.set_cons_zero, List.set_cons_succ, i64_w, i32_w]
        rfl
       refine pure_ (i := 2) (N := some 37) (v := ?_) (a' := ?_) #[true, true, true, false, false, false, false, false, false, false, false, false, false, false, false, false] rfl rfl (any_of HT_.out (by kernel_rfl)) (fun _ _ _ h => h) (Or.inl ⟨by rfl, ?_⟩) ?_ ?_
       rotate_left
       ·intro w'
        go_simp
        with_reducible rfl
       rotate_left
       ·simp only [Act.put, List.setIfInBounds_toArray, List.set_cons_zero, List.set_cons_succ, i64_w, i32_w]
        rfl
       refine pure_ (i := 3) (N := some 38) (v := ?_) (a' := ?_) #[true, true, true, true, false, false, false, false, false, false, false, false, false, false, false, false] rfl rfl (any_of HT_.out (by kernel_rfl)) (fun _ _ _ h => h) (Or.inl ⟨by rfl, ?_⟩) ?_ ?_
       rotate_left
       ·intro w'
        go_simp
        with_reducible rfl
       rotate_left
       ·simp only [Act.put, List.setIfInBounds_toArray, List.set_cons_zero, List.set_cons_succ, i64_w, i32_w]
        rfl
       refine pure_ (i := 4) (N := some 39) (v := ?_) (a' := ?_) #[true, true, true, true, true, false, false, false, false, false, false, false, false, false, false, false] rfl rfl (any_of HT_.out (by kernel_rfl)) (fun _ _ _ h => h) (Or.inl ⟨by rfl, ?_⟩) ?_ ?_
       rotate_left
       ·intro w'
        go_simp
        with_reducible rfl
       rotate_left
       ·simp only [Act.put, List.setIfInBounds_toArray, List.set_cons_zero, List.set_cons_succ, i64_w, i32_w]
        rfl
       refine pure_ (i := 5) (N := some 40) (v := ?_) (a' := ?_) #[true, true, true, true, true, true, false, false, false, false, false, false, false, false, false, false] rfl rfl (any_of HT_.out (by kernel_rfl)) (fun _ _ _ h => h) (Or.inl ⟨by rfl, ?_⟩) ?_ ?_
       rotate_left
       ·intro w'
        go_simp
        with_reducible rfl
       rotate_left
       ·simp only [Act.put, List.setIfInBounds_toArray, List.set_cons_zero, List.set_cons_succ, i64_w, i32_w]
        rfl
       refine pure_ (i := 6) (N := some 41) (v := ?_) (a' := ?_) #[true, true, true, true, true, true, true, false, false, false, false, false, false, false, false, false] rfl rfl (any_of HT_.out (by kernel_rfl)) (fun _ _ _ h => h) (Or.inl ⟨by rfl, ?_⟩) ?_ ?_
       rotate_left
       ·intro w'
        go_simp
        with_reducible rfl
       rotate_left
       ·simp only [Act.put, List.setIfInBounds_toArray, List.set_cons_zero, List.set_cons_succ, i64_w, i32_w]
        rfl
       refine pure_ (i := 7) (N := some 42) (v := ?_) (a' := ?_) #[true, true, true, true, true, true, true, true, false, false, false, false, false, false, false, false] rfl rfl (any_of HT_.out (by kernel_rfl)) (fun _ _ _ h => h) (Or.inl ⟨by rfl, ?_⟩) ?_ ?_
       rotate_left
       ·intro w'
        go_simp
        with_reducible rfl
       rotate_left
       ·simp only [Act.put, List.setIfInBounds_toArray, List.set_cons_zero, List.set_cons_succ, i64_w, i32_w]
        rfl
       refine pure_ (i := 8) (N := some 43) (v := ?_) (a' := ?_) #[true, true, true, true, true, true, true, true, true, false, false, false, false, false, false, false] rfl rfl (any_of HT_.out (by kernel_rfl)) (fun _ _ _ h => h) (Or.inl ⟨by rfl, ?_⟩) ?_ ?_
       rotate_left
       ·intro w'
        go_simp
        with_reducible rfl
       rotate_left
       ·simp only [Act.put, List.setIfInBounds_toArray, List.set_cons_zero, List.set_cons_succ, i64_w, i32_w]
        rfl
       refine take_ (i := 9) (N := some 44) (v := ?_) (a' := ?_) #[true, true, true, true, true, true, true, true, true, true, false, false, false, false, false, false] rfl rfl (take_ofW HT_.out HW_.out (by kernel_rfl)) (fun _ _ _ h => h) (Or.inl ⟨by rfl, ?_⟩) hHeld ?_ ?_
       rotate_left
       ·rintro w' ⟨s0, s1, s2, s3, s4, s5⟩
        go_simp
        with_reducible rfl
       rotate_left
       ·simp only [Act.put, List.setIfInBounds_toArray, List.set_cons_zero, List.set_cons_succ, i64_w, i32_w]
        rfl
       refine take_ (i := 10) (N := some 45) (v := ?_) (a' := ?_) #[true, true, true, true, true, true, true, true, true, true, true, false, false, false, false, false] rfl rfl (take_ofW HT_.out HW_.out (by kernel_rfl)) (fun _ _ _ h => h) (Or.inl ⟨by rfl, ?_⟩) hHeld ?_ ?_
       rotate_left
       ·rintro w' ⟨s0, s1, s2, s3, s4, s5⟩
        go_simp
        with_reducible rfl
       rotate_left
       ·simp only [Act.put, List.setIfInBounds_toArray, List.set_cons_zero, List.set_cons_succ, i64_w, i32_w]
        rfl
       refine one_ (i := 11) (N := some 46) #[true, true, true, true, true, true, true, true, true, true, true, true, false, false, false, false] rfl rfl (one_of HT_.out (by kernel_rfl)) (by decide) (fun K hK => ?_)
       refine goesF_ Try.func100 (by kernel_rfl) rfl #[.agg #[.string ((rd_T89 l0 x9_1).f0), .string ((rd_T89 l0 x9_1).f1), .int .i64 ((rd_T89 l0 x9_1).f2)], .agg #[.string a1_0, .string a1_1, .int .i64 a1_2]] (by rfl) rfl rfl rfl (by (try simp only [List.map_toArray, List.map_cons, List.map_nil]); first | done | rfl | (simp only [List.length_drop, List.length_take]; rfl)) ?_
       with_reducible refine (interco_compare.calls ((rd_T89 l0 x9_1).f0) ((rd_T89 l0 x9_1).f1) ((rd_T89 l0 x9_1).f2) a1_0 a1_1 a1_2 t576 _ A17.out).mono ?_
       rintro e w19 ⟨rfl, hb⟩
       refine ⟨_, rfl, ?_⟩
       have n0_ := Aside0.mk (blk_below (g := gb572) (o := .cells #[.string a1_0, .string a1_1, .int .i64 a1_2] 89 (0, 0)) (by (with_reducible repeat (first | refine blk_drewN ?_ _ | refine blk_drew ?_ | refine blk_alloc ?_ _)); exact BK572.out) hb)
       have n1_ := Aside0.mk (below_step (by repeat (first | (with_reducible first | exact HB.out | apply below_alloc | apply pw_below_drewN | apply below_drew1 | refine below_set ?_ GE572.out) | exact HB.out)) hb)
       clear BK572
       clear HB
       have BK572 := n0_
       have HB := n1_
       clear n0_ n1_
       (try clear hb)
       (try clear hb2)
       (try clear hk)
       (try clear hi)
       refine hK.out _ _ ⟨(blk_cell BK572.out 0).trans rfl, (blk_cell BK572.out 1).trans rfl, (blk_cell BK572.out 2).trans rfl, ((HB.out.cell (World.block_lt_of_cell? w _ hw575_0)).trans hw575_0), ((HB.out.cell (World.block_lt_of_cell? w _ hw575_1)).trans hw575_1), ((HB.out.cell (World.block_lt_of_cell? w _ hw575_2)).trans hw575_2)⟩ (fun hHeld => ?_)
       clear hK K
       refine norm_ (a' := ?_) ?_ ?_
       rotate_left
       ·show Act.put _ (some 46) _ = _
        simp only [Act.put, List.setIfInBounds_toArray, List.set_cons_zero, List.set_cons_succ, i64_w, i32_w]
        rfl
       refine pure_ (i := 12) (N := some 47) (v := ?_) (a' := ?_) #[true, true, true, true, true, true, true, true, true, true, true, true, true, false, false, false] rfl rfl (any_of HT_.out (by kernel_rfl)) (fun _ _ _ h => h) (Or.inl ⟨by rfl, ?_⟩) ?_ ?_
       rotate_left
       ·intro w'
        go_simp
        with_reducible rfl
       rotate_left
       ·simp only [Act.put, List.setIfInBounds_toArray, List.set_cons_zero, List.set_cons_succ, i64_w, i32_w]
        rfl
       refine pure_ (i := 13) (N := some 48) (v := ?_) (a' := ?_) #[true, true, true, true, true, true, true, true, true, true, true, true, true, true, false, false] rfl rfl (any_of HT_.out (by kernel_rfl)) (fun _ _ _ h => h) (Or.inl ⟨by rfl, ?_⟩) ?_ ?_
       rotate_left
       ·intro w'
        go_simp
        with_reducible rfl
       rotate_left
       ·simp only [Act.put, List.setIfInBounds_toArray, List.set_cons_zero, List.set_cons_succ, i64_w, i32_w]
        rfl
       refine pure_ (i := 14) (N := some 6) (v := ?_) (a' := ?_) #[true, true, true, true, true, true, true, true, true, true, true, true, true, true, true, false] rfl rfl (any_of HT_.out (by kernel_rfl)) (fun _ _ _ h => h) (Or.inl ⟨by rfl, ?_⟩) ?_ ?_
       rotate_left
       ·intro w'
        go_simp
        with_reducible rfl
       rotate_left
       ·simp only [Act.put, List.setIfInBounds_toArray, List.set_cons_zero, List.set_cons_succ, i64_w, i32_w]
        rfl
       refine pure_ (i := 15) (N := some 7) (v := ?_) (a' := ?_) #[true, true, true, true, true, true, true, true, true, true, true, true, true, true, true, true] rfl rfl (any_of HT_.out (by kernel_rfl)) (fun _ _ _ h => h) (Or.inl ⟨by rfl, ?_⟩) ?_ ?_
       rotate_left
       ·intro w'
        go_simp
        with_reducible rfl
       rotate_left
       ·simp only [Act.put, List.setIfInBounds_toArray, List.set_cons_zero, List.set_cons_succ, i64_w, i32_w]
        rfl
       refine done_ (done_of HT_.out (by kernel_rfl)) ?_
       try go_wp2
       go_ret2
       exact ⟨by first | rfl | (simp [errW_none, errW_some] <;> rfl) | (simp [*, errW_none, errW_some] <;> rfl), by repeat (first | (with_reducible first | exact HB.out | apply below_alloc | apply pw_below_drewN | apply below_drew1 | refine below_set ?_ GE572.out) | exact HB.out)⟩
      ·rw [if_neg c16] at H
       exact absurd H (by simp)
     ·rw [if_neg c15] at H
      exact absurd H (by simp)
    ·rw [if_neg c14] at H
     have c14b0 : decide (x9_1 < (l0.length : Int)) = false := decide_eq_false c14
     clear c14
     simp only [Option.some.injEq, Prod.mk.injEq] at H
     obtain ⟨rfl, rfl⟩ := H
     try go_wp2
     have n0_ := Aside0.mk (blk_drew BK572.out)
     have n1_ := Aside0.mk (below_drew1 HB.out)
     clear BK572
     clear HB
     have BK572 := n0_
     have HB := n1_
     clear n0_ n1_
     refine start_ (n := 16) (S := fun w' => True) (ds := []) #[false, false, false, false, false, false, false, false, false, false, false, false, false, false, false, false] (by kernel_rfl) rfl rfl trivial (fun hHeld => ?_); refine with_tabW bin_search.tab8 bin_search.bits8 (fun HT_ HW_ => ?_)
     generalize wr.drew = w20 at BK572 HB hHeld ⊢
     refine pure_ (i := 0) (N := some 35) (v := ?_) (a' := ?_) #[true, false, false, false, false, false, false, false, false, false, false, false, false, false, false, false] rfl rfl (any_of HT_.out (by kernel_rfl)) (fun _ _ _ h => h) (Or.inl ⟨by rfl, ?_⟩) ?_ ?_
     rotate_left
     ·intro w'
      go_simp
      with_reducible rfl
     rotate_left
     ·simp only [Act.put, List.setIfInBounds_toArray, List.set_cons_zero, List.set_cons_succ, i64_w, i32_w]
      rfl
     refine pure_ (i := 1) (N := some 36) (v := ?_) (a' := ?_) #[true, true, false, false, false, false, false, false, false, false, false, false, false, false, false, false] rfl rfl (any_of HT_.out (by kernel_rfl)) (fun _ _ _ h => h) (Or.inl ⟨by rfl, ?_⟩) ?_ ?_
     rotate_left
     ·intro w'
      go_simp
      with_reducible rfl
     rotate_left
     ·simp only [Act.put, List.setIfInBounds_toArray, List.set_cons_zero, List.set_cons_succ, i64_w, i32_w]
      rfl
     refine pure_ (i := 2) (N := some 37) (v := ?_) (a' := ?_) #[true, true, true, false, false, false, false, false, false, false, false, false, false, false, false, false] rfl rfl (any_of HT_.out (by kernel_rfl)) (fun _ _ _ h => h) (Or.inl ⟨by rfl, ?_⟩) ?_ ?_
     rotate_left
     ·intro w'
      go_simp
      with_reducible rfl
     rotate_left
     ·simp only [Act.put, List.setIfInBounds_toArray, List.set_cons_zero, List.set_cons_succ, i64_w, i32_w]
      rfl
     refine pure_ (i := 3) (N := some 38) (v := ?_) (a' := ?_) #[true, true, true, true, false, false, false, false, false, false, false, false, false, false, false, false] rfl rfl (any_of HT_.out (by kernel_rfl)) (fun _ _ _ h => h) (Or.inl ⟨by rfl, ?_⟩) ?_ ?_
     rotate_left
     ·intro w'
      go_simp
      with_reducible rfl
     rotate_left
     ·simp only [Act.put, List.setIfInBounds_toArray, List.set_cons_zero, List.set_cons_succ, i64_w, i32_w]
      rfl
     refine pure_ (i := 4) (N := some 39) (v := ?_) (a' := ?_) #[true, true, true, true, true, false, false, false, false, false, false, false, false, false, false, false] rfl rfl (any_of HT_.out (by kernel_rfl)) (fun _ _ _ h => h) (Or.inl ⟨by rfl, ?_⟩) ?_ ?_
     rotate_left
     ·intro w'
      go_simp
      with_reducible rfl
     rotate_left
     ·simp only [Act.put, List.setIfInBounds_toArray, List.set_cons_zero, List.set_cons_succ, i64_w, i32_w]
      rfl
     refine pure_ (i := 5) (N := some 40) (v := undef) (a' := ?_) #[true, true, true, true, true, true, false, false, false, false, false, false, false, false, false, false] rfl rfl (any_of HT_.out (by kernel_rfl)) (fun _ _ _ h => h) (Or.inr ⟨by rfl, rfl⟩) ?_ ?_
     rotate_left
     ·simp only [Act.put, List.setIfInBounds_toArray, List.set_cons_zero, List.set_cons_succ, i64_w, i32_w]
      rfl
     refine pure_ (i := 6) (N := some 41) (v := undef) (a' := ?_) #[true, true, true, true, true, true, true, false, false, false, false, false, false, false, false, false] rfl rfl (any_of HT_.out (by kernel_rfl)) (fun _ _ _ h => h) (Or.inr ⟨by rfl, rfl⟩) ?_ ?_
     rotate_left
     ·simp only [Act.put, List.setIfInBounds_toArray, List.set_cons_zero, List.set_cons_succ, i64_w, i32_w]
      rfl
     refine pure_ (i := 7) (N := some 42) (v := undef) (a' := ?_) #[true, true, true, true, true, true, true, true, false, false, false, false, false, false, false, false] rfl rfl (any_of HT_.out (by kernel_rfl)) (fun _ _ _ h => h) (Or.inr ⟨by rfl, rfl⟩) ?_ ?_
     rotate_left
     ·simp only [Act.put, List.setIfInBounds_toArray, List.set_cons_zero, List.set_cons_succ, i64_w, i32_w]
      rfl
     refine pure_ (i := 8) (N := some 43) (v := undef) (a' := ?_) #[true, true, true, true, true, true, true, true, true, false, false, false, false, false, false, false] rfl rfl (any_of HT_.out (by kernel_rfl)) (fun _ _ _ h => h) (Or.inr ⟨by rfl, rfl⟩) ?_ ?_
     rotate_left
     ·simp only [Act.put, List.setIfInBounds_toArray, List.set_cons_zero, List.set_cons_succ, i64_w, i32_w]
      rfl
     refine pure_ (i := 9) (N := some 44) (v := undef) (a' := ?_) #[true, true, true, true, true, true, true, true, true, true, false, false, false, false, false, false] rfl rfl (any_of HT_.out (by kernel_rfl)) (fun _ _ _ h => h) (Or.inr ⟨by rfl, rfl⟩) ?_ ?_
     rotate_left
     ·simp only [Act.put, List.setIfInBounds_toArray, List.set_cons_zero, List.set_cons_succ, i64_w, i32_w]
      rfl
     refine pure_ (i := 10) (N := some 45) (v := undef) (a' := ?_) #[true, true, true, true, true, true, true, true, true, true, true, false, false, false, false, false] rfl rfl (any_of HT_.out (by kernel_rfl)) (fun _ _ _ h => h) (Or.inr ⟨by rfl, rfl⟩) ?_ ?_
     rotate_left
     ·simp only [Act.put, List.setIfInBounds_toArray, List.set_cons_zero, List.set_cons_succ, i64_w, i32_w]
      rfl
     refine pure_ (i := 11) (N := some 46) (v := undef) (a' := ?_) #[true, true, true, true, true, true, true, true, true, true, true, true, false, false, false, false] rfl rfl (any_of HT_.out (by kernel_rfl)) (fun _ _ _ h => h) (Or.inr ⟨by rfl, rfl⟩) ?_ ?_
     rotate_left
     ·simp only [Act.put, List.setIfInBounds_toArray, List.set_cons_zero, List.set_cons_succ, i64_w, i32_w]
      rfl
     refine pure_ (i := 12) (N := some 47) (v := undef) (a' := ?_) #[true, true, true, true, true, true, true, true, true, true, true, true, true, false, false, false] rfl rfl (any_of HT_.out (by kernel_rfl)) (fun _ _ _ h => h) (Or.inr ⟨by rfl, rfl⟩) ?_ ?_
     rotate_left
     ·simp only [Act.put, List.setIfInBounds_toArray, List.set_cons_zero, List.set_cons_succ, i64_w, i32_w]
      rfl
     refine pure_ (i := 13) (N := some 48) (v := ?_) (a' := ?_) #[true, true, true, true, true, true, true, true, true, true, true, true, true, true, false, false] rfl rfl (any_of HT_.out (by kernel_rfl)) (fun _ _ _ h => h) (Or.inl ⟨by rfl, ?_⟩) ?_ ?_
     rotate_left
     ·intro w'
      go_simp
      with_reducible rfl
     rotate_left
     ·simp only [Act.put, List.setIfInBounds_toArray, List.set_cons_zero, List.set_cons_succ, i64_w, i32_w]
      rfl
     refine pure_ (i := 14) (N := some 6) (v := ?_) (a' := ?_) #[true, true, true, true, true, true, true, true, true, true, true, true, true, true, true, false] rfl rfl (any_of HT_.out (by kernel_rfl)) (fun _ _ _ h => h) (Or.inl ⟨by rfl, ?_⟩) ?_ ?_
     rotate_left
     ·intro w'
      go_simp
      with_reducible rfl
     rotate_left
     ·simp only [Act.put, List.setIfInBounds_toArray, List.set_cons_zero, List.set_cons_succ, i64_w, i32_w]
      rfl
     refine pure_ (i := 15) (N := some 7) (v := ?_) (a' := ?_) #[true, true, true, true, true, true, true, true, true, true, true, true, true, true, true, true] rfl rfl (any_of HT_.out (by kernel_rfl)) (fun _ _ _ h => h) (Or.inl ⟨by rfl, ?_⟩) ?_ ?_
     rotate_left
     ·intro w'
      go_simp
      with_reducible rfl
     rotate_left
     ·simp only [Act.put, List.setIfInBounds_toArray, List.set_cons_zero, List.set_cons_succ, i64_w, i32_w]
      rfl
     refine done_ (done_of HT_.out (by kernel_rfl)) ?_
     try go_wp2
     go_ret2
     exact ⟨by first | rfl | (simp [errW_none, errW_some] <;> rfl) | (simp [*, errW_none, errW_some] <;> rfl), by repeat (first | (with_reducible first | exact HB.out | apply below_alloc | apply pw_below_drewN | apply below_drew1 | refine below_set ?_ GE572.out) | exact HB.out)⟩
end Go.Proofs.Ytmflggbpiadkjaa.P
/- The contract of interco.insert: a pair is put where the search says. -/
namespace Go.Proofs.Ytmflggbpiadkjaa.P
open Go.RowKit Go.Proofs.YtmflggbpiadkjaaW.PrintWords Go.Proofs.YtmflggbpiadkjaaW.PrintLast Go.Proofs.YtmflggbpiadkjaaW.PrintMore
set_option linter.unusedVariables false
set_option linter.unusedSimpArgs false
theorem step_append_zero {P : Program} {ops : Array Oper} {o : Oper} {a : Act} {w : World} {K : Act → World → Prop} {Q : Exit → Act → World → Prop} {E : Prop}
  (hg : o.guard = none) (s x : Operand) (t : TypeId) (hop : o.op = Op.call { callee := Callee.builtin Builtin.append, args := #[s, x], argTypes := #[t, t] })
  (e : TypeId) (i : TypeInfo) (h1 : P.underlying t = some (.slice e)) (h2 : P.info? e = some i) (A : Option Addr) (n cap : Nat) (hle : n ≤ cap) (hs : a.eval s = .slice A n cap) (X : Value) (hx : a.eval x = X) (hsrc : Src P i.size t X 0 [] w)
  (hK : K (a.put o.dst (.slice A n cap)) w) :
  if Region.wanted o (yielded ops a.tmps) = true then Oper.wp P o a w K Q else E := by
 have hw : Region.wanted o (yielded ops a.tmps) = true := by simp [Region.wanted, hg]
 rw [if_pos hw]
 have hrun := run_append_nothing (P := P) w t t o.type e i h1 h2 A n cap hle X hsrc
 unfold Oper.wp
 simp [execOp, hop, resolve, invoke, builtin, hs, hx, hrun, Result.andThen]
 exact hK
theorem own_form {w : World} {base : Nat} {e : TypeId} {size : Nat} {v : Value} {n : Nat} {xs : List Value} (h : w.ownsRow base e size v n xs) (hn : 0 < n) : ∃ g c, v = .slice (some ⟨g, 0, none⟩) n c ∧ n ≤ c := by
 obtain ⟨h1, h2⟩ := h
 rcases h2 with ⟨rfl, h0⟩ | ⟨g, cap, cur, rfl, hg, hh, hr⟩
 ·omega
 ·exact ⟨g, cap, rfl, by omega⟩
theorem src_zero (w : World) (B : Option Addr) (c s : Nat) : Src Try.prog s 57 (.slice B 0 c) 0 [] w := by
 cases B with
 | none => exact Src.ofNil w Try.underlying57 c
 | some a => exact Src.ofSlice w Try.underlying57 a 0 c [] (by simp) (fun j u h => by simp at h) (fun u h => by simp at h)
def flatP : List S89 → List Value
 | [] => []
 | x :: r => .string x.f0 :: .string x.f1 :: .int .i64 x.f2 :: flatP r
theorem flatP_len (l : List S89) : (flatP l).length = l.length * 3 := by
 induction l with
 | nil => rfl
 | cons x r ih => simp only [flatP, List.length_cons, ih]; omega
theorem flatP_app (a b : List S89) : flatP (a ++ b) = flatP a ++ flatP b := by
 induction a with
 | nil => rfl
 | cons x r ih => simp [flatP, ih]
theorem flatP_one (l : List S89) : ∀ u ∈ flatP l, u.oneCell' = true := by
 induction l with
 | nil => simp [flatP]
 | cons x r ih =>
  intro u hu
  simp only [flatP, List.mem_cons] at hu
  rcases hu with rfl | rfl | rfl | hu
  ·rfl
  ·rfl
  ·rfl
  ·exact ih u hu
theorem flatP_at (l : List S89) : ∀ (j : Nat) (u : Value), (flatP l)[j]? = some u → ∃ x, l[j / 3]? = some x ∧ [Value.string x.f0, Value.string x.f1, Value.int .i64 x.f2][j % 3]? = some u := by
 induction l with
 | nil => intro j u h; simp [flatP] at h
 | cons x r ih =>
  intro j u h
  match j with
  | 0 => exact ⟨x, rfl, h⟩
  | 1 => exact ⟨x, rfl, h⟩
  | 2 => exact ⟨x, rfl, h⟩
  | j + 3 =>
   obtain ⟨y, h1, h2⟩ := ih j u h
   refine ⟨y, ?_, ?_⟩
   ·rw [show (j + 3) / 3 = j / 3 + 1 by omega]; exact h1
   ·rw [show (j + 3) % 3 = j % 3 by omega]; exact h2
theorem flatP_cells {w : World} {ad : Addr} {l : List S89} (h : Kd.C k89 w (some ad) l.length l) : ∀ j u, (flatP l)[j]? = some u → w.cell? (ad.add j) = some u := by
 intro j u hu
 obtain ⟨x, h1, h2⟩ := flatP_at l j u hu
 have hlt : j / 3 < l.length := (List.getElem?_eq_some_iff.1 h1).1
 obtain ⟨ad', e, hc⟩ := h.2.2 (by omega)
 obtain rfl : ad = ad' := Option.some.inj e
 obtain ⟨c, hcl, hK, hcell⟩ := hc _ _ h1
 obtain rfl := k89_open hK
 have := hcell (j % 3) u h2
 rw [show j / 3 * k89.sz + j % 3 = j by show j / 3 * 3 + j % 3 = j; omega] at this
 exact this
theorem flatP_take (l : List S89) (k : Nat) : flatP (l.take k) = (flatP l).take (k * 3) := by
 induction l generalizing k with
 | nil => simp [flatP]
 | cons x r ih =>
  cases k with
  | zero => simp [flatP]
  | succ k => rw [show (k + 1) * 3 = k * 3 + 3 by omega]; simp [flatP, ih]
theorem flatP_drop (l : List S89) (k : Nat) : flatP (l.drop k) = (flatP l).drop (k * 3) := by
 induction l generalizing k with
 | nil => simp [flatP]
 | cons x r ih =>
  cases k with
  | zero => simp [flatP]
  | succ k => rw [show (k + 1) * 3 = k * 3 + 3 by omega]; simp [flatP, ih]
theorem reps_flat (w : World) (base : Nat) (ok : Nat → Prop) (l : List S89) : Reps (k89.M w base ok) 3 l (flatP l) := by
 refine ⟨flatP_len l, fun j p hj => ?_⟩
 rw [← flatP_drop, show (flatP (l.drop j)).take 3 = flatP ((l.drop j).take 1) by rw [flatP_take]]
 have hlt : j < l.length := (List.getElem?_eq_some_iff.1 hj).1
 rw [List.drop_eq_getElem_cons hlt]
 have : l[j] = p := by rw [List.getElem?_eq_getElem hlt] at hj; exact Option.some.inj hj
 rw [this]
 exact k89_mkM w base ok p
theorem RP_flat {w : World} {base n : Nat} {v : Value} {l : List S89} (hn : l.length = n) (h : w.ownsRow base 89 3 v n (flatP l)) : Kd.R k89 89 w base (fun _ => True) v l := by
 subst hn
 exact ⟨fun _ _ => trivial, flatP l, h, reps_flat w base _ l⟩
set_option maxHeartbeats 4000000 in
set_option maxRecDepth 1000000 in
theorem put_lt (ad : Addr) (c0 : Nat) (l : List S89) (t0 t1 : ByteArray) (t2 : Int) (k kr : Nat) (bb : Bool) (w : World) (hr0 : Kd.C k89 w (some ad) l.length l) (hc0 : l.length ≤ c0) (hl : l.length ≤ 1000000) (hlt : k < l.length) (hs : bin_search.f kr l t0 t1 t2 = some ((k : Int), bb)) :
  Calls Try.prog 88 #[.slice (some ad) l.length c0, .agg #[.string t0, .string t1, .int .i64 t2]] w fun e w' => ∃ v0_ : Value, e = .returned (v0_) ∧ Kd.R k89 89 w' w.heap.size (fun _ => True) v0_ (l.take k ++ [⟨t0, t1, t2⟩] ++ l.drop k) ∧ Below w.heap.size w w' := by
 have HS := Aside0.mk hs
 have HC := Aside0.mk hr0
 clear hs hr0
 have hu89 := Try.underlying89
 obtain ⟨i0, hi0, hz0, hz1, hz2⟩ := info_parts info89
 go_enter Try.func88, Try.ntmps88
 go_upto_region 1 with (fail)
 refine with_world (P := fun x => Code.wp _ _ _ _ x) _ ?_
 intro w0 hw
 have BK0 := Aside0.mk (show w0.heap[w.heap.size]? = some (.cells #[.string t0, .string t1, .int .i64 t2] 89 (0, 0)) from by rw [hw]; exact blk_new _ _)
 have HB0 := Aside0.mk (show Below w.heap.size w w0 from by rw [hw]; exact below_alloc (Below.refl _ _) _)
 clear hw
 obtain ⟨g, hg⟩ : ∃ g, w.heap.size = g := ⟨_, rfl⟩
 have HG := Aside0.mk hg
 rw [hg] at BK0 ⊢
 clear hg
 have b0_0 := (blk_cell BK0.out 0).trans rfl
 have b0_1 := (blk_cell BK0.out 1).trans rfl
 have b0_2 := (blk_cell BK0.out 2).trans rfl
 go_upto_region 2 with (first | (go_at_call 99; (refine (bin_search.calls kr (some ad) c0 l t0 t1 t2 (k : Int) bb w0 (Kd.C_below HC.out HB0.out) hc0 HS.out).mono ?_); rintro e_ w1 ⟨rfl, hb_⟩; have HB := Aside0.mk (below_then HB0.out HB0.out.size hb_); have BK := Aside0.mk (blk_below BK0.out hb_); have hb1_ := Aside0.mk hb_; clear hb_))
 clear b0_0 b0_1 b0_2
 have b0 := (blk_cell BK.out 0).trans rfl
 have b1 := (blk_cell BK.out 1).trans rfl
 have b2 := (blk_cell BK.out 2).trans rfl
 have HR := Aside0.mk (Kd.C_below HC.out HB.out)
 have hkc : k ≤ c0 := by omega
 have hic : Int.toNat (k : Int) = k := Int.toNat_natCast k
 have hl2 : (l.length : Int) ≤ 1000000 := by omega
 have d1 : decide ((k : Int) < (l.length : Int)) = true := decide_eq_true (by omega)
 have d2 : decide (k < l.length) = true := decide_eq_true hlt
 have p0 : (0 : Int) ≤ (k : Int) := by omega
 have p1 : (k : Int) < (l.length : Int) := by omega
 have hne : ¬ c0 = k := by omega
 have hkk : k ≤ l.length := by omega
 have o1 := Aside0.mk (show (flatP (l.take k)).length = k * 3 by rw [flatP_len, List.length_take]; omega)
 have o2 := Aside0.mk (fun (m : Nat) => show ∀ b, some ad = some b → ∀ j u, (flatP (l.take k))[j]? = some u → ((w1.drewN m).alloc (.cells #[.string t0, .string t1, .int .i64 t2] 89)).cell? (b.add j) = some u from fun b e j u hu => by
  obtain rfl := Option.some.inj e
  have hC : Kd.C k89 ((w1.drewN m).alloc (.cells #[.string t0, .string t1, .int .i64 t2] 89)) (some ad) l.length l := Kd.C_below HR.out (below_alloc (pw_below_drewN (Below.refl _ _) m) _)
  rw [flatP_take] at hu
  exact flatP_cells hC j u ((List.getElem?_take_of_lt (by have := (List.getElem?_eq_some_iff.1 hu).1; simp at this; omega)).symm.trans hu))
 have o3 := Aside0.mk (fun (m : Nat) => show ∀ j u, [Value.string t0, Value.string t1, Value.int .i64 t2][j]? = some u → ((w1.drewN m).alloc (.cells #[.string t0, .string t1, .int .i64 t2] 89)).cell? ((⟨w1.heap.size, 0, none⟩ : Addr).add j) = some u from fun j u hu => by
  have hh : ((w1.drewN m).alloc (.cells #[.string t0, .string t1, .int .i64 t2] 89)).heap[w1.heap.size]? = some (.cells #[.string t0, .string t1, .int .i64 t2] 89 (0, 0)) := blk_new (w1.drewN m) _
  have := blk_cell hh j
  rw [show (⟨w1.heap.size, 0, none⟩ : Addr).add j = ⟨w1.heap.size, j, none⟩ by simp [Addr.add, eq_comm]]
  rw [this]; simpa using hu)
 have hbw := Aside0.mk (fun (m : Nat) => show Below w.heap.size w ((w1.drewN m).alloc (.cells #[.string t0, .string t1, .int .i64 t2] 89)) from HB.out.trans ((below_alloc (pw_below_drewN (Below.refl w1.heap.size w1) m) _).mono HB.out.size))
 have hbw1 := Aside0.mk (fun (m : Nat) => show Below w1.heap.size w1 ((w1.drewN m).alloc (.cells #[.string t0, .string t1, .int .i64 t2] 89)) from below_alloc (pw_below_drewN (Below.refl w1.heap.size w1) m) _)
 go_region_law (first | (refine step_append_grows rfl (.tmp 16) (.tmp 18) 57 rfl 89 i0 (.agg #[.string ⟨#[]⟩, .string ⟨#[]⟩, .int .i64 0]) 3 40 Try.underlying57 hi0 hz0 hz1 hz2 rfl (by decide) (some ad) k k (flatP (l.take k)) (by simp [Act.eval, Act.put]) (by simp) o1.out (o2.out _) ⟨w1.heap.size, 0, none⟩ 1 1 [.string t0, .string t1, .int .i64 t2] (by simp [Act.eval, Act.put]) rfl (o3.out _) (by simp [Value.oneCell']) (by omega) (by unfold maxLen; omega) (by omega) ?_; intro v1 w2 ho hg; have HO := Aside0.mk (own_weaken ho (hbw.out _).size); have HB2 := Aside0.mk (Below.grown (hbw.out _) hg (hbw.out _).size (fun k_ e_ => by simp at e_)); have HC2 := Aside0.mk (Kd.C_below HR.out (Below.grown (hbw1.out _) hg (hbw1.out _).size (fun k_ e_ => by simp at e_))); clear ho hg) | (refine step_append_lies _ rfl (.tmp 19) (.tmp 22) 57 rfl w.heap.size 89 i0 (.agg #[.string ⟨#[]⟩, .string ⟨#[]⟩, .int .i64 0]) 3 40 Try.underlying57 hi0 hz0 hz1 hz2 rfl (by decide) v1 (k + 1) (flatP (l.take k) ++ [.string t0, .string t1, .int .i64 t2]) (by simp [Act.eval, Act.put]) HO.out (ad.add (k * 3)) (l.length - k) (c0 - k) (flatP (l.drop k)) (by simp [Act.eval, Act.put]) (by rw [flatP_len, List.length_drop]) (fun j u hu => by rw [Go.Deep.add_add]; rw [flatP_drop, List.getElem?_drop] at hu; exact flatP_cells HC2.out _ u hu) (flatP_one _) (by omega) (by unfold maxLen; omega) (by omega) HB2.out.size w2.heap.size rfl ?_; intro g cap w3 ho3 hg3 _ _; have HO3 := Aside0.mk ho3; have HB3 := Aside0.mk (Below.grown HB2.out hg3 HB2.out.size (fun k_ e_ => own_base HO.out k_ e_)); clear ho3 hg3))
 go_wp2
 go_ret
 refine ⟨_, rfl, ?_, HB3.out⟩
 refine RP_flat ?_ ?_ (n := k + 1 + (l.length - k))
 ·simp; omega
 ·have := HO3.out
  rw [flatP_app, flatP_app]
  exact this
set_option maxHeartbeats 4000000 in
set_option maxRecDepth 1000000 in
theorem put_end (ad : Addr) (c0 : Nat) (l : List S89) (t0 t1 : ByteArray) (t2 : Int) (k kr : Nat) (bb : Bool) (w : World) (hr0 : Kd.C k89 w (some ad) l.length l) (hc0 : l.length ≤ c0) (hl : l.length ≤ 1000000) (hkl : k = l.length) (hs : bin_search.f kr l t0 t1 t2 = some ((k : Int), bb)) :
  Calls Try.prog 88 #[.slice (some ad) l.length c0, .agg #[.string t0, .string t1, .int .i64 t2]] w fun e w' => ∃ v0_ : Value, e = .returned (v0_) ∧ Kd.R k89 89 w' w.heap.size (fun _ => True) v0_ (l.take k ++ [⟨t0, t1, t2⟩] ++ l.drop k) ∧ Below w.heap.size w w' := by
 have HS := Aside0.mk hs
 have HC := Aside0.mk hr0
 clear hs hr0
 have hll : l.length ≤ k := by omega
 have hkk : k ≤ l.length := by omega
 have hkl' := Lib.hid hkl
 clear hkl
 have hu89 := Try.underlying89
 obtain ⟨i0, hi0, hz0, hz1, hz2⟩ := info_parts info89
 go_enter Try.func88, Try.ntmps88
 go_upto_region 1 with (fail)
 refine with_world (P := fun x => Code.wp _ _ _ _ x) _ ?_
 intro w0 hw
 have BK0 := Aside0.mk (show w0.heap[w.heap.size]? = some (.cells #[.string t0, .string t1, .int .i64 t2] 89 (0, 0)) from by rw [hw]; exact blk_new _ _)
 have HB0 := Aside0.mk (show Below w.heap.size w w0 from by rw [hw]; exact below_alloc (Below.refl _ _) _)
 clear hw
 obtain ⟨g, hg⟩ : ∃ g, w.heap.size = g := ⟨_, rfl⟩
 have HG := Aside0.mk hg
 rw [hg] at BK0 ⊢
 clear hg
 have b0_0 := (blk_cell BK0.out 0).trans rfl
 have b0_1 := (blk_cell BK0.out 1).trans rfl
 have b0_2 := (blk_cell BK0.out 2).trans rfl
 go_upto_region 2 with (first | (go_at_call 99; (refine (bin_search.calls kr (some ad) c0 l t0 t1 t2 (k : Int) bb w0 (Kd.C_below HC.out HB0.out) hc0 HS.out).mono ?_); rintro e_ w1 ⟨rfl, hb_⟩; have HB := Aside0.mk (below_then HB0.out HB0.out.size hb_); have BK := Aside0.mk (blk_below BK0.out hb_); have hb1_ := Aside0.mk hb_; clear hb_))
 clear b0_0 b0_1 b0_2
 have b0 := (blk_cell BK.out 0).trans rfl
 have b1 := (blk_cell BK.out 1).trans rfl
 have b2 := (blk_cell BK.out 2).trans rfl
 have HR := Aside0.mk (Kd.C_below HC.out HB.out)
 have hkc : k ≤ c0 := by omega
 have hic : Int.toNat (k : Int) = k := Int.toNat_natCast k
 have hl2 : (l.length : Int) ≤ 1000000 := by omega
 have d1 : decide ((k : Int) < (l.length : Int)) = false := decide_eq_false (by omega)
 have d2 : decide (k < l.length) = false := decide_eq_false (by omega)
 have p0 : (0 : Int) ≤ (k : Int) := by omega
 obtain ⟨B, hB⟩ : ∃ B : Option Addr, (if c0 = k then some ad else some (ad.add (k * 3))) = B := ⟨_, rfl⟩
 have o1 := Aside0.mk (show (flatP (l.take k)).length = k * 3 by rw [flatP_len, List.length_take]; omega)
 have o2 := Aside0.mk (fun (m : Nat) => show ∀ b, some ad = some b → ∀ j u, (flatP (l.take k))[j]? = some u → ((w1.drewN m).alloc (.cells #[.string t0, .string t1, .int .i64 t2] 89)).cell? (b.add j) = some u from fun b e j u hu => by
  obtain rfl := Option.some.inj e
  have hC : Kd.C k89 ((w1.drewN m).alloc (.cells #[.string t0, .string t1, .int .i64 t2] 89)) (some ad) l.length l := Kd.C_below HR.out (below_alloc (pw_below_drewN (Below.refl _ _) m) _)
  rw [flatP_take] at hu
  exact flatP_cells hC j u ((List.getElem?_take_of_lt (by have := (List.getElem?_eq_some_iff.1 hu).1; simp at this; omega)).symm.trans hu))
 have o3 := Aside0.mk (fun (m : Nat) => show ∀ j u, [Value.string t0, Value.string t1, Value.int .i64 t2][j]? = some u → ((w1.drewN m).alloc (.cells #[.string t0, .string t1, .int .i64 t2] 89)).cell? ((⟨w1.heap.size, 0, none⟩ : Addr).add j) = some u from fun j u hu => by
  have hh : ((w1.drewN m).alloc (.cells #[.string t0, .string t1, .int .i64 t2] 89)).heap[w1.heap.size]? = some (.cells #[.string t0, .string t1, .int .i64 t2] 89 (0, 0)) := blk_new (w1.drewN m) _
  have := blk_cell hh j
  rw [show (⟨w1.heap.size, 0, none⟩ : Addr).add j = ⟨w1.heap.size, j, none⟩ by simp [Addr.add, eq_comm]]
  rw [this]; simpa using hu)
 have hbw := Aside0.mk (fun (m : Nat) => show Below w.heap.size w ((w1.drewN m).alloc (.cells #[.string t0, .string t1, .int .i64 t2] 89)) from HB.out.trans ((below_alloc (pw_below_drewN (Below.refl w1.heap.size w1) m) _).mono HB.out.size))
 have hbw1 := Aside0.mk (fun (m : Nat) => show Below w1.heap.size w1 ((w1.drewN m).alloc (.cells #[.string t0, .string t1, .int .i64 t2] 89)) from below_alloc (pw_below_drewN (Below.refl w1.heap.size w1) m) _)
 go_region_law (first | (refine step_append_grows rfl (.tmp 16) (.tmp 18) 57 rfl 89 i0 (.agg #[.string ⟨#[]⟩, .string ⟨#[]⟩, .int .i64 0]) 3 40 Try.underlying57 hi0 hz0 hz1 hz2 rfl (by decide) (some ad) k k (flatP (l.take k)) (by simp [Act.eval, Act.put]) (by simp) o1.out (o2.out _) ⟨w1.heap.size, 0, none⟩ 1 1 [.string t0, .string t1, .int .i64 t2] (by simp [Act.eval, Act.put]) rfl (o3.out _) (by simp [Value.oneCell']) (by omega) (by unfold maxLen; omega) (by omega) ?_; intro v1 w2 ho hg; have HO := Aside0.mk (own_weaken ho (hbw.out _).size); have HB2 := Aside0.mk (Below.grown (hbw.out _) hg (hbw.out _).size (fun k_ e_ => by simp at e_)); have HC2 := Aside0.mk (Kd.C_below HR.out (Below.grown (hbw1.out _) hg (hbw1.out _).size (fun k_ e_ => by simp at e_))); clear ho hg) | (obtain ⟨g1, cp1, hv1, hcp1⟩ := own_form HO.out (by omega); subst hv1; refine step_append_zero rfl (.tmp 19) (.tmp 22) 57 rfl 89 i0 Try.underlying57 hi0 (some ⟨g1, 0, none⟩) (k + 1) cp1 hcp1 (by simp [Act.eval, Act.put]) (.slice B 0 (c0 - k)) (by simp [Act.eval, Act.put]) (src_zero _ _ _ _) ?_))
 go_wp2
 go_ret
 refine ⟨_, rfl, ?_, HB2.out⟩
 refine RP_flat ?_ ?_ (n := k + 1)
 ·simp; omega
 ·have := HO.out
  rw [flatP_app, flatP_app, List.drop_of_length_le (by omega), show flatP [] = [] from rfl, List.append_nil]
  exact this
set_option maxHeartbeats 4000000 in
set_option maxRecDepth 1000000 in
theorem put_nil  (c0 : Nat) (l : List S89) (t0 t1 : ByteArray) (t2 : Int) (k kr : Nat) (bb : Bool) (w : World) (hr0 : Kd.C k89 w none l.length l) (hc0 : l.length ≤ c0) (hl : l.length ≤ 1000000) (hkl : k = 0) (hl0 : l.length ≤ 0) (hs : bin_search.f kr l t0 t1 t2 = some ((k : Int), bb)) :
  Calls Try.prog 88 #[.slice none l.length c0, .agg #[.string t0, .string t1, .int .i64 t2]] w fun e w' => ∃ v0_ : Value, e = .returned (v0_) ∧ Kd.R k89 89 w' w.heap.size (fun _ => True) v0_ (l.take k ++ [⟨t0, t1, t2⟩] ++ l.drop k) ∧ Below w.heap.size w w' := by
 have HS := Aside0.mk hs
 have HC := Aside0.mk hr0
 clear hs hr0
 subst hkl
 have hu89 := Try.underlying89
 obtain ⟨i0, hi0, hz0, hz1, hz2⟩ := info_parts info89
 go_enter Try.func88, Try.ntmps88
 go_upto_region 1 with (fail)
 refine with_world (P := fun x => Code.wp _ _ _ _ x) _ ?_
 intro w0 hw
 have BK0 := Aside0.mk (show w0.heap[w.heap.size]? = some (.cells #[.string t0, .string t1, .int .i64 t2] 89 (0, 0)) from by rw [hw]; exact blk_new _ _)
 have HB0 := Aside0.mk (show Below w.heap.size w w0 from by rw [hw]; exact below_alloc (Below.refl _ _) _)
 clear hw
 obtain ⟨g, hg⟩ : ∃ g, w.heap.size = g := ⟨_, rfl⟩
 have HG := Aside0.mk hg
 rw [hg] at BK0 ⊢
 clear hg
 have b0_0 := (blk_cell BK0.out 0).trans rfl
 have b0_1 := (blk_cell BK0.out 1).trans rfl
 have b0_2 := (blk_cell BK0.out 2).trans rfl
 go_upto_region 2 with (first | (go_at_call 99; (refine (bin_search.calls kr none c0 l t0 t1 t2 ((0 : Nat) : Int) bb w0 (Kd.C_below HC.out HB0.out) hc0 HS.out).mono ?_); rintro e_ w1 ⟨rfl, hb_⟩; have HB := Aside0.mk (below_then HB0.out HB0.out.size hb_); have BK := Aside0.mk (blk_below BK0.out hb_); have hb1_ := Aside0.mk hb_; clear hb_))
 clear b0_0 b0_1 b0_2
 have b0 := (blk_cell BK.out 0).trans rfl
 have b1 := (blk_cell BK.out 1).trans rfl
 have b2 := (blk_cell BK.out 2).trans rfl
 have hic : Int.toNat (0 : Int) = 0 := rfl
 have d1 : decide ((0 : Int) < (l.length : Int)) = false := decide_eq_false (by omega)
 have d2 : decide (0 < l.length) = false := decide_eq_false (by omega)
 have d3 : (l.length : Int) ≤ 0 := by omega
 have d4 : (0 : Int) ≤ (l.length : Int) := by omega
 have o3 := Aside0.mk (fun (m : Nat) => show ∀ j u, [Value.string t0, Value.string t1, Value.int .i64 t2][j]? = some u → ((w1.drewN m).alloc (.cells #[.string t0, .string t1, .int .i64 t2] 89)).cell? ((⟨w1.heap.size, 0, none⟩ : Addr).add j) = some u from fun j u hu => by
  have hh : ((w1.drewN m).alloc (.cells #[.string t0, .string t1, .int .i64 t2] 89)).heap[w1.heap.size]? = some (.cells #[.string t0, .string t1, .int .i64 t2] 89 (0, 0)) := blk_new (w1.drewN m) _
  have := blk_cell hh j
  rw [show (⟨w1.heap.size, 0, none⟩ : Addr).add j = ⟨w1.heap.size, j, none⟩ by simp [Addr.add, eq_comm]]
  rw [this]; simpa using hu)
 have hbw := Aside0.mk (fun (m : Nat) => show Below w.heap.size w ((w1.drewN m).alloc (.cells #[.string t0, .string t1, .int .i64 t2] 89)) from HB.out.trans ((below_alloc (pw_below_drewN (Below.refl w1.heap.size w1) m) _).mono HB.out.size))
 have hbw1 := Aside0.mk (fun (m : Nat) => show Below w1.heap.size w1 ((w1.drewN m).alloc (.cells #[.string t0, .string t1, .int .i64 t2] 89)) from below_alloc (pw_below_drewN (Below.refl w1.heap.size w1) m) _)
 go_region_law (first | (refine step_append_grows rfl (.tmp 16) (.tmp 18) 57 rfl 89 i0 (.agg #[.string ⟨#[]⟩, .string ⟨#[]⟩, .int .i64 0]) 3 40 Try.underlying57 hi0 hz0 hz1 hz2 rfl (by decide) none 0 0 [] (by simp [Act.eval, Act.put]) (fun _ => ⟨rfl, rfl⟩) rfl (fun b e => by cases e) ⟨w1.heap.size, 0, none⟩ 1 1 [.string t0, .string t1, .int .i64 t2] (by simp [Act.eval, Act.put]) rfl (o3.out _) (by simp [Value.oneCell']) (by omega) (by unfold maxLen; omega) (by omega) ?_; intro v1 w2 ho hg; have HO := Aside0.mk (own_weaken ho (hbw.out _).size); have HB2 := Aside0.mk (Below.grown (hbw.out _) hg (hbw.out _).size (fun k_ e_ => by simp at e_)); clear ho hg) | (obtain ⟨g1, cp1, hv1, hcp1⟩ := own_form HO.out (by omega); subst hv1; refine step_append_zero rfl (.tmp 19) (.tmp 22) 57 rfl 89 i0 Try.underlying57 hi0 (some ⟨g1, 0, none⟩) 1 cp1 hcp1 (by simp [Act.eval, Act.put]) (.slice none 0 c0) (by simp [Act.eval, Act.put]; try omega) (src_zero _ _ _ _) ?_))
 go_wp2
 go_ret
 have e : l = [] := List.length_eq_zero_iff.mp (by omega)
 subst e
 exact ⟨_, rfl, RP_flat rfl HO.out, HB2.out⟩
theorem insert_calls (A : Option Addr) (c0 : Nat) (l : List S89) (t0 t1 : ByteArray) (t2 : Int) (k kr : Nat) (bb : Bool) (w : World) (hr0 : Kd.C k89 w A l.length l) (hc0 : l.length ≤ c0) (hl : l.length ≤ 1000000) (hk : k ≤ l.length) (hs : bin_search.f kr l t0 t1 t2 = some ((k : Int), bb)) :
  Calls Try.prog 88 #[.slice A l.length c0, .agg #[.string t0, .string t1, .int .i64 t2]] w fun e w' => ∃ v0_ : Value, e = .returned (v0_) ∧ Kd.R k89 89 w' w.heap.size (fun _ => True) v0_ (l.take k ++ [⟨t0, t1, t2⟩] ++ l.drop k) ∧ Below w.heap.size w w' := by
 cases A with
 | some ad =>
  rcases Nat.lt_or_ge k l.length with h | h
  ·exact put_lt ad c0 l t0 t1 t2 k kr bb w hr0 hc0 hl h hs
  ·exact put_end ad c0 l t0 t1 t2 k kr bb w hr0 hc0 hl (by omega) hs
 | none =>
  have h0 : l.length ≤ 0 := by
   rcases Nat.eq_zero_or_pos l.length with e | e
   ·omega
   ·obtain ⟨ad, e', _⟩ := hr0.2.2 e
    cases e'
  exact put_nil c0 l t0 t1 t2 k kr bb w hr0 hc0 hl (by omega) h0 hs
end Go.Proofs.Ytmflggbpiadkjaa.P
/- The group of members: interco.of and inside. -/
namespace Go.Proofs.Ytmflggbpiadkjaa.P
open Go.RowKit Go.Proofs.YtmflggbpiadkjaaW.PrintWords Go.Proofs.YtmflggbpiadkjaaW.PrintLast Go.Proofs.YtmflggbpiadkjaaW.PrintMore Go.Maps Go.ChangeShapes Go.WideShapes Go.WideMaps
set_option linter.unusedVariables false
set_option linter.unusedSimpArgs false
/-- Is s among l? -/
def hasB (l : List ByteArray) (s : ByteArray) : Bool := l.any (fun a => a.toList == s.toList)
theorem bytes_ext {a b : ByteArray} (h : a.toList = b.toList) : a = b := ByteArray.ext (Array.ext' (by rw [← ByteArray.toList_eq a, ← ByteArray.toList_eq b]; exact h))
/-- Is a key inside the group? -/
def insB (l : List ByteArray) (x : S32) : Bool := hasB l x.f0 && (hasB l x.f3 && !(x.f0.toList == x.f3.toList))
/-- An element, as it lies. -/
def vR (v : Value) : Option (DataW Value × List MemPlace) := some (.held v, [])
theorem zero4 (w : World) : (zeroValue 4).run Try.prog w = .ok (.bool false) w := by kernel_rfl
theorem strKeyed : Keyed Try.prog 9 := string_keyed Try.underlying9
theorem keyS {s : ByteArray} (h : s.size ≤ maxLen) : keyOf Try.prog 9 (.string s) = some (.string s.data.toList) := keyOf_string_mk Try.underlying9 h
theorem lit_ne {a b : ByteArray} (h : a ≠ b) : Lit.string a.data.toList ≠ Lit.string b.data.toList := by
 intro h'
 simp only [Lit.string.injEq] at h'
 exact h (ByteArray.ext (Array.ext' h'))
/-- Block b is a map, and an element is true where the key is among l. -/
def MapB (w : World) (b n : Nat) (l : List ByteArray) : Prop := ∃ D : DataW Value, w.ownsMap Try.prog 9 vR b n D ∧ ∀ s : ByteArray, s.size ≤ maxLen → D.atKey (.string s.data.toList) (.held (.bool false)) = .held (.bool (hasB l s))
theorem MapB.made (w : World) : MapB (w.alloc (.map #[] 0)) w.heap.size 0 [] := ⟨_, World.ownsMap_made w _ _ _, fun _ _ => rfl⟩
theorem MapB.look {w : World} {b n : Nat} {l : List ByteArray} (h : MapB w b n l) {s : ByteArray} (hs : s.size ≤ maxLen) : (Instr.lookup 83 (.map (some b)) (.string s) false).run Try.prog w = .ok (.bool (hasB l s)) w := by
 obtain ⟨D, ho, hD⟩ := h
 obtain ⟨v, ps, hrun, hv⟩ := ho.lookup strKeyed Try.underlying83 (zero4 w) (zd := .held (.bool false)) (zp := []) rfl (keyS hs)
 rw [hrun]
 simp only [vR, Option.some.injEq, Prod.mk.injEq] at hv
 rw [hD s hs] at hv
 simp only [DataW.held.injEq] at hv
 rw [hv.1]
theorem MapB.store {w : World} {b n : Nat} {l : List ByteArray} (h : MapB w b n l) (hn : n < maxLen) {s : ByteArray} (hs : s.size ≤ maxLen) :
  ∃ w', (Instr.mapUpdate 83 (.map (some b)) (.string s) (.bool true)).run Try.prog w = .ok () w' ∧ MapB w' b (n + 1) (l ++ [s]) ∧ w.grownBy w' (some b) := by
 obtain ⟨D, ho, hD⟩ := h
 obtain ⟨w', hrun, ho', hg⟩ := ho.update strKeyed Try.underlying83 hn (val := .bool true) (d := .held (.bool true)) (ps := []) (keyS hs) rfl
 refine ⟨w', hrun, ⟨_, ho', fun t ht => ?_⟩, hg⟩
 by_cases e : t = s
 ·subst e
  rw [atKey_put_same ho.isMap (strKeyed.key (keyS hs)), show hasB (l ++ [t]) t = true by simp [hasB]]
 ·have hne : (s.toList == t.toList) = false := beq_eq_false_iff_ne.mpr (fun h => e (bytes_ext h.symm))
  have hh : hasB (l ++ [s]) t = hasB l t := by
   unfold hasB
   rw [List.any_append, List.any_cons, List.any_nil, hne, Bool.or_false, Bool.or_false]
  rw [atKey_put_other (lit_ne e), hD t ht, hh]
theorem MapB.move {w w' : World} {b n : Nat} {l : List ByteArray} (h : MapB w b n l) (hm : w'.heap[b]? = w.heap[b]?) : MapB w' b n l := by
 obtain ⟨D, ⟨es, clock, h1, h2⟩, hD⟩ := h
 exact ⟨D, ⟨es, clock, hm.trans h1, h2⟩, hD⟩
theorem MapB.lt {w : World} {b n : Nat} {l : List ByteArray} (h : MapB w b n l) : b < w.heap.size := by
 obtain ⟨D, ⟨es, clock, h1, h2⟩, hD⟩ := h
 exact (Array.getElem?_eq_some_iff.1 h1).1
theorem MapB.below {w w' : World} {b n : Nat} {l : List ByteArray} (h : MapB w b n l) (hb : Below w.heap.size w w') : MapB w' b n l := h.move (hb.block b h.lt)
set_option maxHeartbeats 2000000 in
set_option maxRecDepth 100000 in
theorem groupof_calls (A : Option Addr) (c : Nat) (l : List ByteArray) (w : World) (h : Kd.C Kd.string w A l.length l) (hc : l.length ≤ c) (hl : l.length ≤ 1000000) (hs : ∀ s ∈ l, s.size ≤ maxLen) :
  Calls Try.prog 71 #[.slice A l.length c] w fun e w' => ∃ b n, e = .returned (.map (some b)) ∧ MapB w' b n l ∧ w.heap.size ≤ b ∧ Below w.heap.size w w' := by
 have HC := Aside0.mk h
 have HS := Aside0.mk hs
 clear h hs
 go_enter Try.func71, Try.ntmps71
 have hmm := @run_makeMap Try.prog
 go_upto_region 2 with (fail)
 clear hmm
 refine with_world (P := fun x => Code.wp _ _ _ _ x) _ ?_
 intro w1 hw1
 have HM1 := Aside0.mk (show MapB w1 w.heap.size 0 [] from by rw [hw1]; exact MapB.made w)
 have HB1 := Aside0.mk (show Below w.heap.size w w1 from by rw [hw1]; exact below_alloc (Below.refl _ _) _)
 clear hw1
 obtain ⟨m, hm⟩ : ∃ m, w.heap.size = m := ⟨_, rfl⟩
 have HSZ := Aside0.mk hm
 rw [hm] at HM1 HB1 ⊢
 clear hm
 go_wp2
 go_loopw [5, 9, 10, 11, 12, 13, 14, 15] (fun _ v9 _ _ _ _ _ _ wr => ∃ k : Nat, k ≤ l.length ∧ v9 = .int .i64 k ∧ Aside0 (Below m w wr) ∧ Aside0 (MapB wr m k (l.take k))) (fun _ v9 _ _ _ _ _ _ _ => l.length - (intOf v9).toNat)
 case atStart => exact ⟨0, Nat.zero_le _, rfl, HB1, HM1⟩
 case round =>
  clear HB1 HM1
  obtain ⟨k, hk, rfl, HB, HM⟩ := hrel
  by_cases hlt : k < l.length
  ·have hbw := HSZ.out
   obtain ⟨ad, e, q0⟩ := Kd.at_string (Kd.C_below HC.out (by rw [HSZ.out]; exact HB.out)) (k : Int) (by omega) (by omega)
   subst e
   rw [Int.toNat_natCast] at q0
   have d1 : decide ((k : Int) < (l.length : Int)) = true := decide_eq_true (by omega)
   have d2 : decide (k < l.length) = true := decide_eq_true hlt
   have p0 : (0 : Int) ≤ (k : Int) := by omega
   have p1 : (k : Int) < (l.length : Int) := by omega
   have hsk : rdOf ByteArray.empty l (k : Int) = l[k] := by simp [rdOf, hlt]
   have hsz := HS.out l[k] (List.getElem_mem hlt)
   obtain ⟨s, hs⟩ : ∃ s, rdOf ByteArray.empty l (k : Int) = s := ⟨_, rfl⟩
   rw [hs] at q0 hsk
   rw [← hsk] at hsz
   have HTK := Aside0.mk (show l.take (k + 1) = l.take k ++ [s] from by rw [List.take_add_one, List.getElem?_eq_getElem hlt, hsk]; rfl)
   clear hs hsk hbw
   obtain ⟨w5, hup, hM5, hg5⟩ := HM.out.store (by unfold maxLen; omega) hsz
   have HM5 := Aside0.mk hM5
   have HG5 := Aside0.mk hg5
   clear hM5 hg5
   go_wp2
   go_roundw
   case rel =>
    refine ⟨k + 1, by omega, by go_num, ⟨?_⟩, ⟨?_⟩⟩
    ·have hb := HB.out
     exact ⟨HG5.out.os.trans hb.os, HG5.out.tape.trans hb.tape, HG5.out.output.trans hb.output, Nat.le_trans hb.size HG5.out.size, fun x hx => (HG5.out.block x (by have := hb.size; have := HSZ.out; omega) (fun e => by have := Option.some.inj e; omega)).trans (hb.block x hx)⟩
    ·rw [HTK.out]
     exact HM5.out
   case measure => simp [intOf]; omega
  ·obtain rfl : k = l.length := by omega
   have d1 : decide ((l.length : Int) < (l.length : Int)) = false := decide_eq_false (by omega)
   go_wp2
   go_ret
   have hM := HM.out
   rw [List.take_length] at hM
   exact ⟨m, _, rfl, hM, by have := HSZ.out; omega, by rw [HSZ.out]; exact HB.out⟩
theorem MapB.tells {w : World} {b n : Nat} {l : List ByteArray} (h : MapB w b n l) : ∃ es clk, w.heap[b]? = some (.map es clk) ∧ ∀ W : World, W.heap[b]? = some (.map es clk) → MapB W b n l := by
 obtain ⟨D, ⟨es, clk, h1, h2⟩, hD⟩ := h
 exact ⟨es, clk, h1, fun W hW => ⟨D, ⟨es, clk, hW, h2⟩, hD⟩⟩
theorem map_far {w : World} {g : Nat} {es : Array MapEntry} {clk : Nat} (h : w.heap[g]? = some (.map es clk)) {p : Addr} (hp : g ≠ p.block) (u : Value) : (w.setCell p u).heap[g]? = some (.map es clk) := (Below.heap_setCell w p u g hp).trans h
theorem R_ne_map {α : Type} {d : Kd α} {e : Nat} {w : World} {base : Nat} {ok : Nat → Prop} {v : Value} {xs : List α} (h : d.R e w base ok v xs) {g : Nat} {es : Array MapEntry} {clk : Nat} (hb : w.heap[g]? = some (.map es clk)) : some g ≠ v.ownBlock := by
 intro hk
 obtain ⟨cs, hc⟩ := Kd.R_typed h g hk.symm
 rw [hb] at hc
 cases hc
theorem rd_mem {l : List S34} {i : Int} (h0 : 0 ≤ i) (h1 : i < (l.length : Int)) : rd_T34 l i ∈ l := by
 obtain ⟨n, rfl⟩ := Int.eq_ofNat_of_zero_le h0
 have hn : n < l.length := by omega
 have e : rd_T34 l (n : Int) = l[n] := by simp [rd_T34, hn]
 show rd_T34 l (n : Int) ∈ l
 rw [e]
 exact List.getElem_mem hn
def interco_inside.f (l : List ByteArray) (a0 : ByteArray) (a1 : ByteArray) (a2 : ByteArray) (a3 : ByteArray) (a4 : ByteArray) : Option Bool := some (insB l ⟨a0, a1, a2, a3, a4⟩)
set_option maxHeartbeats 2000000 in
set_option maxRecDepth 100000 in
theorem inside_calls (b n : Nat) (l : List ByteArray) (x : S32) (w : World) (h : MapB w b n l) (h0 : x.f0.size ≤ maxLen) (h3 : x.f3.size ≤ maxLen) :
  Calls Try.prog 72 #[.map (some b), .agg #[.string x.f0, .string x.f1, .string x.f2, .string x.f3, .string x.f4]] w fun e w' => e = .returned (.bool (insB l x)) ∧ Below w.heap.size w w' := by
 obtain ⟨f0, f1, f2, f3, f4⟩ := x
 unfold insB
 have HM := Aside0.mk h
 clear h
 go_enter Try.func72, Try.ntmps72
 go_upto_region 1 with (fail)
 refine with_world (P := fun x => Code.wp _ _ _ _ x) _ ?_
 intro w1 hw1
 have hbx := (show w1.heap[w.heap.size]? = some (.cells #[.string f0, .string f1, .string f2, .string f3, .string f4] 32 (0, 0)) from by rw [hw1]; exact blk_new _ _)
 have HB1 := Aside0.mk (show Below w.heap.size w w1 from by rw [hw1]; exact below_alloc (Below.refl _ _) _)
 clear hw1
 obtain ⟨g, hg⟩ : ∃ g, w.heap.size = g := ⟨_, rfl⟩
 have HG := Aside0.mk hg
 rw [hg] at hbx ⊢
 clear hg
 have c0 : w1.cell? ⟨g, 0, none⟩ = some (.string f0) := (blk_cell hbx 0).trans rfl
 have c3 : w1.cell? ⟨g, 3, none⟩ = some (.string f3) := (blk_cell hbx 3).trans rfl
 have l0 := (HM.out.below HB1.out).look h0
 have l3 := (HM.out.below HB1.out).look h3
 clear hbx
 cases e0 : hasB l f0
 ·rw [e0] at l0
  go_wp2
  go_ret
  exact ⟨by simp, HB1.out⟩
 ·cases e3 : hasB l f3
  ·rw [e0] at l0; rw [e3] at l3
   go_wp2
   go_ret
   exact ⟨by simp, HB1.out⟩
  ·rw [e0] at l0; rw [e3] at l3
   go_wp2
   go_ret
   exact ⟨by simp, HB1.out⟩
theorem inside_at (b : Nat) {n : Nat} (l : List ByteArray) (x : S32) (r : Bool) {w : World} (h : MapB w b n l) (hx : x.f0.size ≤ maxLen ∧ x.f3.size ≤ maxLen) (hr : interco_inside.f l x.f0 x.f1 x.f2 x.f3 x.f4 = some r) :
  Calls Try.prog 72 #[.map (some b), .agg #[.string x.f0, .string x.f1, .string x.f2, .string x.f3, .string x.f4]] w fun e w' => e = .returned (.bool r) ∧ Below w.heap.size w w' := by
 cases hr
 exact inside_calls b n l x w h hx.1 hx.2
end Go.Proofs.Ytmflggbpiadkjaa.P
/- The groups of bases by pairs of members: interco.pairs' map. -/
namespace Go.Proofs.Ytmflggbpiadkjaa.P
open Go.RowKit Go.Proofs.YtmflggbpiadkjaaW.PrintWords Go.Proofs.YtmflggbpiadkjaaW.PrintLast Go.Proofs.YtmflggbpiadkjaaW.PrintMore Go.Maps Go.ChangeShapes Go.WideShapes Go.WideMaps
set_option linter.unusedVariables false
set_option linter.unusedSimpArgs false
theorem law103 : KeyLaw Try.prog 103 := deep_law (m := 2) (by omega) (by kernel_rfl) (by kernel_rfl) (by rw [Try.underlying103])
def keyV (a b : ByteArray) : Value := .agg #[.string a, .string b]
theorem key103 {a b : ByteArray} (ha : a.size ≤ maxLen) (hb : b.size ≤ maxLen) : ∃ kl, keyOf Try.prog 103 (keyV a b) = some kl := by
 unfold keyOf
 rw [Try.underlying103]
 have h1 : Try.prog.keyType 103 = true := by kernel_rfl
 have c2 : Try.prog.cellsOf 103 = 2 := by kernel_rfl
 have c9 : Try.prog.cellsOf 9 = 1 := by kernel_rfl
 have hf : (keyV a b).formed Try.prog 103 = true := by
  unfold keyV
  simp [Value.formed, Try.underlying103, c2]
 simp only [h1, hf, Bool.and_self, if_true]
 obtain ⟨m, hm⟩ : ∃ m, Try.prog.types.size = m + 1 := ⟨Try.prog.types.size - 1, by kernel_rfl⟩
 have inner : ∀ s : ByteArray, s.size ≤ maxLen → Try.prog.keyLits (m + 1) 9 [.string s] = some [Lit.string s.data.toList] := fun s hs => by
  unfold Program.keyLits
  rw [Try.underlying9]
  simp [hs]
 have hl : ∃ L, Try.prog.keyLits (Try.prog.types.size + 1) 103 (keyV a b).cells.toList = some L := by
  rw [hm]
  unfold Program.keyLits
  rw [Try.underlying103]
  unfold keyV
  simp [Value.cells, c2, c9, inner a ha, inner b hb]
 obtain ⟨L, hl⟩ := hl
 exact ⟨_, by rw [hl]; rfl⟩
theorem keyV_inj {a b a' b' : ByteArray} (h : keyV a b = keyV a' b') : (a, b) = (a', b') := by
 unfold keyV at h
 simp only [Value.agg.injEq, Array.mk.injEq, List.cons.injEq, Value.string.injEq, and_true] at h
 rw [h.1, h.2]
abbrev K2 := ByteArray × ByteArray
/-- The map's entries: keys and values, in the order of their making. -/
def esOf (gs : List (K2 × Value)) : Array MapEntry := (gs.mapIdx fun i p => (⟨keyV p.1.1 p.1.2, p.2, i⟩ : MapEntry)).toArray
theorem esOf_get (gs : List (K2 × Value)) (j : Nat) : (esOf gs).toList[j]? = (gs[j]?).map (fun p => (⟨keyV p.1.1 p.1.2, p.2, j⟩ : MapEntry)) := by
 unfold esOf
 rw [List.toList_toArray, List.getElem?_mapIdx]
theorem esOf_mem {gs : List (K2 × Value)} {e : MapEntry} (h : e ∈ (esOf gs).toList) : ∃ j p, gs[j]? = some p ∧ e = ⟨keyV p.1.1 p.1.2, p.2, j⟩ := by
 obtain ⟨j, hj⟩ := List.mem_iff_getElem?.1 h
 rw [esOf_get] at hj
 cases hp : gs[j]? with
 | none => rw [hp] at hj; cases hj
 | some p => rw [hp] at hj; exact ⟨j, p, hp, (Option.some.inj hj).symm⟩
theorem esOf_push (gs : List (K2 × Value)) (p : K2 × Value) : esOf (gs ++ [p]) = (esOf gs).push ⟨keyV p.1.1 p.1.2, p.2, gs.length⟩ := by
 unfold esOf
 rw [List.mapIdx_append]
 simp
theorem esOf_born (gs : List (K2 × Value)) : ((esOf gs).toList.map (·.born)).Nodup := by
 have e : (esOf gs).toList.map (·.born) = List.range gs.length := by
  refine List.ext_getElem? (fun j => ?_)
  rw [List.getElem?_map, esOf_get]
  cases hp : gs[j]? with
  | none =>
   rw [List.getElem?_eq_none_iff] at hp
   rw [List.getElem?_eq_none (by simpa using hp)]
   rfl
  | some p =>
   have hj := (List.getElem?_eq_some_iff.1 hp).1
   rw [List.getElem?_range hj]
   rfl
 rw [e]
 exact List.nodup_range
theorem esOf_set (gs : List (K2 × Value)) (j : Nat) (p : K2 × Value) (hp : gs[j]? = some p) (v : Value) : (esOf gs).modify j (fun e => { e with val := v }) = esOf (gs.set j (p.1, v)) := by
 apply Array.ext'
 rw [Array.toList_modify]
 refine List.ext_getElem? (fun q => ?_)
 rw [List.getElem?_modify, esOf_get, esOf_get, List.getElem?_set]
 have hj := (List.getElem?_eq_some_iff.1 hp).1
 by_cases h : j = q
 ·subst h
  rw [if_pos rfl, if_pos hj, hp]
  simp
 ·rw [if_neg h]
  cases gs[q]? with
  | none => simp [h]
  | some x => simp [h]
open Go.ChangeMaps (setBlock)
theorem setBlock_same {w : World} {b : Nat} {o : Obj} (h : w.heap[b]? = some o) : setBlock w b o = w := by
 unfold setBlock
 have hlt := (Array.getElem?_eq_some_iff.1 h).1
 have e : w.heap.setIfInBounds b o = w.heap := by
  apply Array.ext'
  rw [Array.toList_setIfInBounds]
  refine List.ext_getElem? (fun q => ?_)
  rw [List.getElem?_set]
  by_cases hq : b = q
  ·subst hq
   rw [if_pos rfl, if_pos (by simpa using hlt)]
   simpa using h.symm
  ·rw [if_neg hq]
 rw [e]
theorem zero67 (w : World) : (zeroValue 67).run Try.prog w = .ok (.slice none 0 0) w := by kernel_rfl
theorem keys_ok {gs : List (K2 × Value)} (hs : ∀ p ∈ gs, p.1.1.size ≤ maxLen ∧ p.1.2.size ≤ maxLen) : ∀ e ∈ (esOf gs).toList, ∃ l, keyOf Try.prog 103 e.key = some l := by
 intro e he
 obtain ⟨j, p, hp, rfl⟩ := esOf_mem he
 have := hs p (List.mem_of_getElem? hp)
 exact key103 this.1 this.2
/-- The entry of a new key is made. -/
theorem entry_new {w : World} {b : Nat} {gs : List (K2 × Value)} (hb : w.heap[b]? = some (.map (esOf gs) gs.length)) (hs : ∀ p ∈ gs, p.1.1.size ≤ maxLen ∧ p.1.2.size ≤ maxLen) {x y : ByteArray} (hx : x.size ≤ maxLen) (hy : y.size ≤ maxLen) (hn : ∀ p ∈ gs, p.1 ≠ (x, y)) :
  (Instr.mapEntry 101 (.map (some b)) (keyV x y)).run Try.prog w = .ok (.tuple #[.slice none 0 0, goInt gs.length]) (setBlock w b (.map (esOf (gs ++ [((x, y), .slice none 0 0)])) (gs.length + 1))) := by
 obtain ⟨kl, hk⟩ := key103 hx hy
 rcases law103.find w hk (esOf gs).toList (keys_ok hs) with ⟨h1, h2⟩ | ⟨j, e0, h1, h2, h3⟩
 ·rw [esOf_push]
  simp [Instr.mapEntry, run_underlying Try.underlying101, MapKept.run_getObj_map hb, law103.check w false hk, h1, zero67, MapKept.run_setObj_map _ hb, Result.andThen, setBlock]
 ·exfalso
  obtain ⟨j', p, hp, rfl⟩ := esOf_mem (List.mem_of_getElem? h2)
  exact hn p (List.mem_of_getElem? hp) (keyV_inj h3)
/-- The entry of a key that is there. -/
theorem entry_old {w : World} {b : Nat} {gs : List (K2 × Value)} (hb : w.heap[b]? = some (.map (esOf gs) gs.length)) (hs : ∀ p ∈ gs, p.1.1.size ≤ maxLen ∧ p.1.2.size ≤ maxLen) {x y : ByteArray} {j : Nat} {v : Value} (hj : gs[j]? = some ((x, y), v)) (hd : ∀ i p, gs[i]? = some p → p.1 = (x, y) → i = j) :
  (Instr.mapEntry 101 (.map (some b)) (keyV x y)).run Try.prog w = .ok (.tuple #[v, goInt j]) w := by
 have hxy := hs _ (List.mem_of_getElem? hj)
 obtain ⟨kl, hk⟩ := key103 hxy.1 hxy.2
 rcases law103.find w hk (esOf gs).toList (keys_ok hs) with ⟨h1, h2⟩ | ⟨j', e0, h1, h2, h3⟩
 ·exfalso
  exact h2 ⟨keyV x y, v, j⟩ (List.mem_of_getElem? (i := j) (by rw [esOf_get, hj]; rfl)) rfl
 ·rw [esOf_get] at h2
  cases hp : gs[j']? with
  | none => rw [hp] at h2; cases h2
  | some p =>
   rw [hp] at h2
   obtain rfl := Option.some.inj h2
   obtain rfl : j' = j := hd j' p hp (keyV_inj h3)
   obtain rfl : p = ((x, y), v) := Option.some.inj (hp.symm.trans hj)
   have hge : (esOf gs)[j']? = some ⟨keyV x y, v, j'⟩ := by
    have := esOf_get gs j'
    rw [hj] at this
    simpa using this
   have hsame : (esOf gs).modify j' (fun e => { e with key := keyV x y }) = esOf gs := by
    apply Array.ext'
    rw [Array.toList_modify]
    refine List.ext_getElem? (fun q => ?_)
    rw [List.getElem?_modify]
    by_cases h : j' = q
    ·subst h
     rw [esOf_get, hj]; simp
    ·simp [h]
   simp [Instr.mapEntry, run_underlying Try.underlying101, MapKept.run_getObj_map hb, law103.check w false hk, h1, hge, law103.stays w hk, hsame, MapKept.run_setObj_map _ hb, Result.andThen]
   exact setBlock_same hb
/-- The entry gets its value. -/
theorem entry_store {w : World} {b n : Nat} {gs : List (K2 × Value)} (hb : w.heap[b]? = some (.map (esOf gs) n)) {j : Nat} {p : K2 × Value} (hj : gs[j]? = some p) (v : Value) :
  (Instr.entryStore 101 (.map (some b)) (goInt j) v).run Try.prog w = .ok () (setBlock w b (.map (esOf (gs.set j (p.1, v))) n)) := by
 have hidx : (esOf gs).findIdx? (fun e => ((e.born : Nat) : Int) == ((j : Nat) : Int)) = some j := by
  rw [WideElems.findIdx_arr]
  exact WideElems.findIdx_born (esOf_born gs) (e0 := ⟨keyV p.1.1 p.1.2, p.2, j⟩) (by rw [esOf_get, hj]; rfl)
 rw [← esOf_set gs j p hj v]
 simp [Instr.entryStore, MapKept.run_getObj_map hb, asInt, asIntOf, goInt, hidx, MapKept.run_setObj_map _ hb, Result.andThen, setBlock]
end Go.Proofs.Ytmflggbpiadkjaa.P
/- One more base in the groups: what the three operations on the map leave. -/
namespace Go.Proofs.Ytmflggbpiadkjaa.P
open Go.RowKit Go.Proofs.YtmflggbpiadkjaaW.PrintWords Go.Proofs.YtmflggbpiadkjaaW.PrintLast Go.Proofs.YtmflggbpiadkjaaW.PrintMore Go.Maps Go.ChangeShapes Go.WideShapes Go.WideMaps
open Go.ChangeMaps (setBlock)
set_option linter.unusedVariables false
set_option linter.unusedSimpArgs false
/-- A base more for a pair. -/
def addG (k : K2) (x : Int) : List (K2 × List Int) → List (K2 × List Int)
 | [] => [(k, [x])]
 | q :: r => if q.1 = k then (q.1, q.2 ++ [x]) :: r else q :: addG k x r
theorem addG_new (k : K2) (x : Int) : ∀ (G : List (K2 × List Int)), (∀ q ∈ G, q.1 ≠ k) → addG k x G = G ++ [(k, [x])]
 | [], _ => rfl
 | q :: r, h => by
  unfold addG
  rw [if_neg (h q (by simp)), addG_new k x r (fun p hp => h p (by simp [hp]))]
  rfl
theorem addG_old (k : K2) (x : Int) : ∀ (G : List (K2 × List Int)) (j : Nat) (q : K2 × List Int), G[j]? = some q → q.1 = k → (∀ i p, i < j → G[i]? = some p → p.1 ≠ k) → addG k x G = G.set j (q.1, q.2 ++ [x])
 | [], j, q, h, _, _ => by simp at h
 | p :: r, 0, q, h, hk, _ => by
  obtain rfl : p = q := by simpa using h
  unfold addG
  rw [if_pos hk]
  rfl
 | p :: r, j + 1, q, h, hk, hn => by
  unfold addG
  rw [if_neg (hn 0 p (by omega) rfl), addG_old k x r j q (by simpa using h) hk (fun i p' hi hp => hn (i + 1) p' (by omega) (by simpa using hp))]
  rfl
structure Grps (W : World) (b : Nat) (gs : List (K2 × Value)) (G : List (K2 × List Int)) : Prop where
 map : W.heap[b]? = some (.map (esOf gs) gs.length)
 len : gs.length = G.length
 key : ∀ (j : Nat) (p : K2 × Value) (q : K2 × List Int), gs[j]? = some p → G[j]? = some q → p.1 = q.1
 row : ∀ (j : Nat) (p : K2 × Value) (q : K2 × List Int), gs[j]? = some p → G[j]? = some q → W.ownsRow (b + 1) 3 1 p.2 q.2.length (q.2.map (Value.int .i64))
 apart : ∀ (i j : Nat) (p q : K2 × Value), i ≠ j → gs[i]? = some p → gs[j]? = some q → ∀ g, p.2.ownBlock = some g → q.2.ownBlock ≠ some g
 diff : ∀ (i j : Nat) (p q : K2 × Value), gs[i]? = some p → gs[j]? = some q → p.1 = q.1 → i = j
 siz : ∀ p ∈ gs, p.1.1.size ≤ maxLen ∧ p.1.2.size ≤ maxLen
theorem Grps.lt {W : World} {b : Nat} {gs : List (K2 × Value)} {G : List (K2 × List Int)} (h : Grps W b gs G) : b < W.heap.size := (Array.getElem?_eq_some_iff.1 h.map).1
theorem row_ne {W : World} {b e size : Nat} {v : Value} {n : Nat} {xs : List Value} (h : W.ownsRow (b + 1) e size v n xs) : v.ownBlock = none ∨ v.ownBlock ≠ some b := by
 cases hv : v.ownBlock with
 | none => exact .inl rfl
 | some g =>
  right
  have := h.lt g hv
  intro e
  have := Option.some.inj e
  omega
theorem grown_setBlock (w : World) (b : Nat) (o : Obj) : w.grownBy (setBlock w b o) (some b) :=
 ⟨rfl, rfl, rfl, by unfold setBlock; simp, fun i hi hne => by
  unfold setBlock
  have : b ≠ i := fun e => hne (by rw [e])
  simp [Array.getElem?_setIfInBounds, this]⟩
theorem grown_alloc (w : World) (o : Obj) (row : Option Nat) : w.grownBy (w.alloc o) row :=
 ⟨rfl, rfl, rfl, (below_alloc (Below.refl w.heap.size w) o).size, fun i hi _ => Below.heap_alloc w o i hi⟩
theorem heap_setBlock {w : World} {b : Nat} (h : b < w.heap.size) (o : Obj) : (setBlock w b o).heap[b]? = some o := by
 show (w.heap.setIfInBounds b o)[b]? = some o
 rw [Array.getElem?_setIfInBounds, if_pos rfl, if_pos h]
theorem size_setBlock (w : World) (b : Nat) (o : Obj) : (setBlock w b o).heap.size = w.heap.size := by unfold setBlock; simp
/-- All blocks are as they were, or new. -/
theorem Grps.grown {W W' : World} {b : Nat} {gs : List (K2 × Value)} {G : List (K2 × List Int)} (h : Grps W b gs G) (hg : W.grownBy W' none) : Grps W' b gs G :=
 ⟨(hg.block b h.lt (by simp)).trans h.map, h.len, h.key, fun j p q h1 h2 => (h.row j p q h1 h2).kept hg (by
  cases hv : p.2.ownBlock with
  | none => exact .inl rfl
  | some g => exact .inr (by simp)), h.apart, h.diff, h.siz⟩
theorem Grps.below {W W' : World} {b : Nat} {gs : List (K2 × Value)} {G : List (K2 × List Int)} (h : Grps W b gs G) (hb : Below W.heap.size W W') : Grps W' b gs G :=
 h.grown ⟨hb.os, hb.tape, hb.output, hb.size, fun i hi _ => hb.block i hi⟩
/-- What the append of a value to a row leaves for the map: the store. -/
theorem grp_end {W1 W2 : World} {b : Nat} {gs : List (K2 × Value)} {G : List (K2 × List Int)} {j : Nat} {x y : ByteArray} {n : Int} {v v' : Value} {xs : List Int} (h : Grps W1 b gs G) (hj : gs[j]? = some ((x, y), v)) (hq : G[j]? = some ((x, y), xs))
  (hown : W2.ownsRow (b + 1) 3 1 v' (xs.length + 1) (xs.map (Value.int .i64) ++ [.int .i64 n])) (hg : W1.grownBy W2 v.ownBlock) (hv : v'.ownBlock = v.ownBlock ∨ v'.ownBlock = some W1.heap.size) :
  ∃ W3 gs', (Instr.entryStore 101 (.map (some b)) (goInt j) v').run Try.prog W2 = .ok () W3 ∧ Grps W3 b gs' (G.set j ((x, y), xs ++ [n])) ∧ Below b W1 W3 ∧ gs'.length = gs.length := by
 have hrow := h.row j _ _ hj hq
 have hb2 : W2.heap[b]? = some (.map (esOf gs) gs.length) := (hg.block b h.lt (by
  rcases row_ne hrow with e | e
  ·rw [show v.ownBlock = none from e]; simp
  ·exact fun e2 => e e2.symm)).trans h.map
 have hlt2 : b < W2.heap.size := (Array.getElem?_eq_some_iff.1 hb2).1
 have hjl := (List.getElem?_eq_some_iff.1 hj).1
 refine ⟨_, gs.set j ((x, y), v'), entry_store hb2 hj v', ?_, ?_, by simp⟩
 ·have hset : ∀ (i : Nat) (p : K2 × Value), (gs.set j ((x, y), v'))[i]? = some p → (i = j ∧ p = ((x, y), v')) ∨ (i ≠ j ∧ gs[i]? = some p) := by
   intro i p hp
   rw [List.getElem?_set] at hp
   by_cases e : j = i
   ·subst e
    rw [if_pos rfl, if_pos hjl] at hp
    exact .inl ⟨rfl, (Option.some.inj hp).symm⟩
   ·rw [if_neg e] at hp
    exact .inr ⟨fun e2 => e e2.symm, hp⟩
  have hsetG : ∀ (i : Nat) (q : K2 × List Int), (G.set j ((x, y), xs ++ [n]))[i]? = some q → (i = j ∧ q = ((x, y), xs ++ [n])) ∨ (i ≠ j ∧ G[i]? = some q) := by
   intro i p hp
   rw [List.getElem?_set] at hp
   by_cases e : j = i
   ·subst e
    rw [if_pos rfl, if_pos (by have := h.len; omega)] at hp
    exact .inl ⟨rfl, (Option.some.inj hp).symm⟩
   ·rw [if_neg e] at hp
    exact .inr ⟨fun e2 => e e2.symm, hp⟩
  have away : ∀ (i : Nat) (p : K2 × Value), i ≠ j → gs[i]? = some p → p.2.ownBlock = none ∨ p.2.ownBlock ≠ v.ownBlock := by
   intro i p hi hp
   cases hpo : p.2.ownBlock with
   | none => exact .inl rfl
   | some g => exact .inr (fun e => h.apart i j p _ hi hp hj g hpo e.symm)
  refine ⟨?_, by simpa using h.len, ?_, ?_, ?_, ?_, ?_⟩
  ·rw [List.length_set]; exact heap_setBlock hlt2 _
  ·intro i p q hp hq'
   rcases hset i p hp with ⟨rfl, rfl⟩ | ⟨hi, hp⟩
   ·rcases hsetG i q hq' with ⟨_, rfl⟩ | ⟨hi, _⟩
    ·rfl
    ·exact absurd rfl hi
   ·rcases hsetG i q hq' with ⟨e, _⟩ | ⟨_, hq'⟩
    ·exact absurd e hi
    ·exact h.key i p q hp hq'
  ·intro i p q hp hq'
   rcases hset i p hp with ⟨rfl, rfl⟩ | ⟨hi, hp⟩
   ·rcases hsetG i q hq' with ⟨_, rfl⟩ | ⟨hi, _⟩
    ·have := hown.kept (grown_setBlock W2 b (.map (esOf (gs.set i ((x, y), v'))) gs.length)) (row_ne hown)
     show World.ownsRow _ _ _ _ v' (xs ++ [n]).length ((xs ++ [n]).map (Value.int .i64))
     rw [List.length_append, List.map_append]
     exact this
    ·exact absurd rfl hi
   ·rcases hsetG i q hq' with ⟨e, _⟩ | ⟨_, hq'⟩
    ·exact absurd e hi
    ·have h1 := (h.row i p q hp hq').kept hg (away i p hi hp)
     exact h1.kept (grown_setBlock W2 b _) (row_ne h1)
  ·intro i i' p q hne hp hq' g hpg hqg
   have hnew : ∀ (i : Nat) (p : K2 × Value), gs[i]? = some p → p.2.ownBlock ≠ some W1.heap.size := by
    intro i p hp e
    obtain ⟨q', hq'⟩ : ∃ q', G[i]? = some q' := ⟨G[i]'(by have := (List.getElem?_eq_some_iff.1 hp).1; have := h.len; omega), List.getElem?_eq_getElem _⟩
    have := (h.row i p q' hp hq').lt _ e
    omega
   rcases hset i p hp with ⟨e1, e2⟩ | ⟨hi, hp2⟩
   ·rcases hset i' q hq' with ⟨e3, e4⟩ | ⟨hi', hq2⟩
    ·exact hne (e1.trans e3.symm)
    ·subst e2
     rcases hv with e | e
     ·exact h.apart j i' _ q (fun e5 => hi' e5.symm) hj hq2 g (e.symm.trans hpg) hqg
     ·exact hnew i' q hq2 (hqg.trans (hpg.symm.trans e))
   ·rcases hset i' q hq' with ⟨e3, e4⟩ | ⟨hi', hq2⟩
    ·subst e4
     rcases hv with e | e
     ·exact h.apart i j p _ hi hp2 hj g hpg (e.symm.trans hqg)
     ·exact hnew i p hp2 (hpg.trans (hqg.symm.trans e))
    ·exact h.apart i i' p q hne hp2 hq2 g hpg hqg
  ·intro i i' p q hp hq' e
   have key : ∀ (i : Nat) (p : K2 × Value), (gs.set j ((x, y), v'))[i]? = some p → ∃ p', gs[i]? = some p' ∧ p'.1 = p.1 := by
    intro i p hp
    rcases hset i p hp with ⟨rfl, rfl⟩ | ⟨hi, hp⟩
    ·exact ⟨_, hj, rfl⟩
    ·exact ⟨p, hp, rfl⟩
   obtain ⟨p', h1, e1⟩ := key i p hp
   obtain ⟨q', h2, e2⟩ := key i' q hq'
   exact h.diff i i' p' q' h1 h2 (e1.trans (e.trans e2.symm))
  ·intro p hp
   obtain ⟨i, hi⟩ := List.mem_iff_getElem?.1 hp
   rcases hset i p hi with ⟨rfl, rfl⟩ | ⟨_, hi⟩
   ·exact h.siz ((x, y), v) (List.mem_of_getElem? hj)
   ·exact h.siz p (List.mem_of_getElem? hi)
 ·refine ⟨hg.os, hg.tape, hg.output, by rw [size_setBlock]; exact hg.size, fun k hk => ?_⟩
  have h1 := (grown_setBlock W2 b (.map (esOf (gs.set j ((x, y), v'))) gs.length)).block k (Nat.lt_of_lt_of_le (by have := h.lt; omega) hg.size) (fun e => by have := Option.some.inj e; omega)
  refine h1.trans (hg.block k (by have := h.lt; omega) (fun e => ?_))
  have := hrow.lt k e.symm
  omega
/-- The three operations: the entry, the append, the store. -/
theorem grp_step {W : World} {b : Nat} {gs : List (K2 × Value)} {G : List (K2 × List Int)} (h : Grps W b gs G) {x y : ByteArray} (hx : x.size ≤ maxLen) (hy : y.size ≤ maxLen) (n : Int) (hlen : ∀ q ∈ G, q.2.length ≤ 1000000) :
  ∃ (v : Value) (st : Nat) (W1 : World) (xs : List Int), (Instr.mapEntry 101 (.map (some b)) (keyV x y)).run Try.prog W = .ok (.tuple #[v, goInt st]) W1 ∧ W1.ownsRow (b + 1) 3 1 v xs.length (xs.map (Value.int .i64)) ∧ xs.length ≤ 1000000 ∧ b + 1 ≤ W1.heap.size ∧
   (∀ (p : Addr) (u : Value), p.block ≠ b → W.cell? p = some u → W1.cell? p = some u) ∧ Below b W W1 ∧
   ∀ (v' : Value) (W2 : World), W2.ownsRow (b + 1) 3 1 v' (xs.length + 1) (xs.map (Value.int .i64) ++ [.int .i64 n]) → W1.grownBy W2 v.ownBlock → (v'.ownBlock = v.ownBlock ∨ v'.ownBlock = some W1.heap.size) →
    ∃ W3 gs', (Instr.entryStore 101 (.map (some b)) (goInt st) v').run Try.prog W2 = .ok () W3 ∧ Grps W3 b gs' (addG (x, y) n G) ∧ Below b W W3 := by
 by_cases hk : ∃ (j : Nat) (v : Value), gs[j]? = some ((x, y), v)
 ·obtain ⟨j, v, hj⟩ := hk
  have hjl := (List.getElem?_eq_some_iff.1 hj).1
  obtain ⟨q, hq⟩ : ∃ q, G[j]? = some q := ⟨G[j]'(by have := h.len; omega), List.getElem?_eq_getElem _⟩
  obtain ⟨qk, xs⟩ := q
  have hqk : (x, y) = qk := h.key j _ _ hj hq
  subst hqk
  have hl := hlen _ (List.mem_of_getElem? hq)
  refine ⟨v, j, W, xs, entry_old h.map h.siz hj (fun i p hp e => h.diff i j p _ hp hj e), h.row j _ _ hj hq, hl, h.lt, fun _ _ _ hc => hc, Below.refl _ _, fun v' W2 h1 h2 h3 => ?_⟩
  obtain ⟨W3, gs', hr, hG, hB, _⟩ := grp_end h hj hq h1 h2 h3
  refine ⟨W3, gs', hr, ?_, hB⟩
  rw [addG_old (x, y) n G j _ hq rfl (fun i p hi hp e => by
   obtain ⟨p', hp'⟩ : ∃ p', gs[i]? = some p' := ⟨gs[i]'(by omega), List.getElem?_eq_getElem _⟩
   have := h.diff i j p' _ hp' hj ((h.key i p' p hp' hp).trans e)
   omega)]
  exact hG
 ·have hn : ∀ p ∈ gs, p.1 ≠ (x, y) := by
   intro p hp e
   obtain ⟨j, hj⟩ := List.mem_iff_getElem?.1 hp
   obtain ⟨pk, pv⟩ := p
   subst e
   exact hk ⟨j, pv, hj⟩
  have hnG : ∀ q ∈ G, q.1 ≠ (x, y) := by
   intro q hq e
   obtain ⟨j, hj⟩ := List.mem_iff_getElem?.1 hq
   obtain ⟨p, hp⟩ : ∃ p, gs[j]? = some p := ⟨gs[j]'(by have := (List.getElem?_eq_some_iff.1 hj).1; have := h.len; omega), List.getElem?_eq_getElem _⟩
   exact hn p (List.mem_of_getElem? hp) ((h.key j p q hp hj).trans e)
  have hg1 := grown_setBlock W b (.map (esOf (gs ++ [((x, y), .slice none 0 0)])) (gs.length + 1))
  have h1 : Grps (setBlock W b (.map (esOf (gs ++ [((x, y), .slice none 0 0)])) (gs.length + 1))) b (gs ++ [((x, y), .slice none 0 0)]) (G ++ [((x, y), [])]) := by
   have app : ∀ (i : Nat) (p : K2 × Value), (gs ++ [((x, y), Value.slice none 0 0)])[i]? = some p → (gs[i]? = some p) ∨ (i = gs.length ∧ p = ((x, y), .slice none 0 0)) := by
    intro i p hp
    rcases Nat.lt_or_ge i gs.length with hl | hl
    ·rw [List.getElem?_append_left hl] at hp; exact .inl hp
    ·rw [List.getElem?_append_right hl] at hp
     have hi : i - gs.length < 1 := (List.getElem?_eq_some_iff.1 hp).1
     have : i = gs.length := by omega
     subst this
     simp at hp
     exact .inr ⟨rfl, hp.symm⟩
   have appG : ∀ (i : Nat) (q : K2 × List Int), (G ++ [((x, y), ([] : List Int))])[i]? = some q → (i < G.length ∧ G[i]? = some q) ∨ (i = G.length ∧ q = ((x, y), [])) := by
    intro i p hp
    rcases Nat.lt_or_ge i G.length with hl | hl
    ·rw [List.getElem?_append_left hl] at hp; exact .inl ⟨hl, hp⟩
    ·rw [List.getElem?_append_right hl] at hp
     have hi : i - G.length < 1 := (List.getElem?_eq_some_iff.1 hp).1
     have : i = G.length := by omega
     subst this
     simp at hp
     exact .inr ⟨rfl, hp.symm⟩
   have lg := h.len
   refine ⟨by rw [List.length_append]; exact heap_setBlock h.lt _, by simp [lg], ?_, ?_, ?_, ?_, ?_⟩
   ·intro i p q hp hq
    rcases app i p hp with hp | ⟨rfl, rfl⟩
    ·rcases appG i q hq with ⟨_, hq⟩ | ⟨e, _⟩
     ·exact h.key i p q hp hq
     ·have := (List.getElem?_eq_some_iff.1 hp).1; omega
    ·rcases appG _ q hq with ⟨e, _⟩ | ⟨_, rfl⟩
     ·omega
     ·rfl
   ·intro i p q hp hq
    rcases app i p hp with hp | ⟨rfl, rfl⟩
    ·rcases appG i q hq with ⟨_, hq⟩ | ⟨e, _⟩
     ·have := h.row i p q hp hq
      exact this.kept hg1 (row_ne this)
     ·have := (List.getElem?_eq_some_iff.1 hp).1; omega
    ·rcases appG _ q hq with ⟨e, _⟩ | ⟨_, rfl⟩
     ·omega
     ·exact World.ownsRow_nil _ _ _ _
   ·intro i i' p q hne hp hq g hpg hqg
    rcases app i p hp with hp | ⟨rfl, rfl⟩
    ·rcases app i' q hq with hq | ⟨rfl, rfl⟩
     ·exact h.apart i i' p q hne hp hq g hpg hqg
     ·simp [Value.ownBlock] at hqg
    ·simp [Value.ownBlock] at hpg
   ·intro i i' p q hp hq e
    rcases app i p hp with hp | ⟨rfl, rfl⟩
    ·rcases app i' q hq with hq | ⟨rfl, rfl⟩
     ·exact h.diff i i' p q hp hq e
     ·exact absurd e (hn p (List.mem_of_getElem? hp))
    ·rcases app i' q hq with hq | ⟨rfl, rfl⟩
     ·exact absurd e.symm (hn q (List.mem_of_getElem? hq))
     ·rfl
   ·intro p hp
    rcases List.mem_append.1 hp with hp | hp
    ·exact h.siz p hp
    ·simp only [List.mem_singleton] at hp
     subst hp
     exact ⟨hx, hy⟩
  have hj : (gs ++ [((x, y), Value.slice none 0 0)])[gs.length]? = some ((x, y), .slice none 0 0) := by simp
  have hq : (G ++ [((x, y), ([] : List Int))])[gs.length]? = some ((x, y), []) := by rw [h.len]; simp
  have hB1 : Below b W (setBlock W b (.map (esOf (gs ++ [((x, y), .slice none 0 0)])) (gs.length + 1))) :=
   ⟨hg1.os, hg1.tape, hg1.output, hg1.size, fun k hk => hg1.block k (by have := h.lt; omega) (fun e => by have := Option.some.inj e; omega)⟩
  refine ⟨.slice none 0 0, gs.length, _, [], entry_new h.map h.siz hx hy hn, World.ownsRow_nil _ _ _ _, by simp, by rw [size_setBlock]; exact h.lt, fun p u hp hc => ?_, hB1, fun v' W2 h2 h3 h4 => ?_⟩
  ·have hlt := World.block_lt_of_cell? W p hc
   have e := hg1.block p.block hlt (fun e => hp (Option.some.inj e))
   rw [← hc]
   simp only [World.cell?, e]
  ·obtain ⟨W3, gs', hr, hG, hB, _⟩ := grp_end (x := x) (y := y) (n := n) (xs := []) h1 hj hq h2 h3 h4
   refine ⟨W3, gs', hr, ?_, hB1.trans hB⟩
   rw [addG_new (x, y) n G hnG]
   have e : (G ++ [((x, y), ([] : List Int))]).set gs.length ((x, y), [] ++ [n]) = G ++ [((x, y), [n])] := by
    rw [h.len, List.set_append_right _ _ (Nat.le_refl _), Nat.sub_self]
    rfl
   rw [e] at hG
   exact hG
end Go.Proofs.Ytmflggbpiadkjaa.P
namespace Go.Proofs.Ytmflggbpiadkjaa.P
open Go.RowKit Go.Proofs.YtmflggbpiadkjaaW.PrintWords Go.Proofs.YtmflggbpiadkjaaW.PrintLast Go.Proofs.YtmflggbpiadkjaaW.PrintMore
attribute [local go_sem] max2_int min2_int max_two min_two max_three min_three max_four min_four   -- for this text's walks alone
set_option linter.unusedVariables false
set_option linter.unusedSimpArgs false
/-! ### interco_coupleOf: function 87 -/
def interco_coupleOf.f (a0_0 : ByteArray) (a0_1 : ByteArray) (a0_2 : ByteArray) (a0_3 : ByteArray) (a0_4 : ByteArray) : Option (ByteArray × ByteArray) := if (Op.bytesLess a0_0.toList a0_3.toList) = true then (some (a0_0, a0_3)) else (some (a0_3, a0_0))
set_option maxHeartbeats 8000000 in
set_option maxRecDepth 100000 in
theorem interco_coupleOf.calls (a0_0 : ByteArray) (a0_1 : ByteArray) (a0_2 : ByteArray) (a0_3 : ByteArray) (a0_4 : ByteArray) (r1 : ByteArray) (r2 : ByteArray) (w : World) (h : interco_coupleOf.f a0_0 a0_1 a0_2 a0_3 a0_4 = some (r1, r2)) :
    Calls Try.prog 87 #[.agg #[.string a0_0, .string a0_1, .string a0_2, .string a0_3, .string a0_4]] w fun e w' => e = .returned (.agg #[.string r1, .string r2]) ∧ Below w.heap.size w w' := by
  have hu32 := Try.underlying32
  have hu103 := Try.underlying103
  have HB := Aside0.mk (Below.refl w.heap.size w)
  have H : (if (Op.bytesLess a0_0.toList a0_3.toList) = true then (some (a0_0, a0_3)) else (some (a0_3, a0_0))) = some (r1, r2) := h
  clear h
  by_cases c2 : (Op.bytesLess a0_0.toList a0_3.toList) = true
  · rw [if_pos c2] at H
    have c2b0 : (Op.bytesLess a0_0.toList a0_3.toList) = true := c2
    clear c2
    simp only [Option.some.injEq, Prod.mk.injEq] at H
    obtain ⟨rfl, rfl⟩ := H
    go_enter Try.func87, Try.ntmps87
    go_wp2_with (first | ((with_reducible refine gate_dst (N := 1) rfl ?_); refine box_event ?hg (N := 1) ?hd (cs := #[.string a0_0, .string a0_1, .string a0_2, .string a0_3, .string a0_4]) (t := 32) ?hr ?_; (case hd => rfl); (case hg => rfl); (case hr => first | (go_simp; done) | (go_simp; rfl)); intro gb560 hg w3 hbox hb; have n0_ := Aside0.mk (below_step (by repeat (first | (with_reducible first | exact HB.out | apply below_alloc | apply pw_below_drewN | apply below_drew1) | exact HB.out)) hb); have n1_ := Aside0.mk (hbox); have n2_ := Aside0.mk ((by rw [hg]; exact (below_size (by repeat (first | (with_reducible first | exact HB.out | apply below_alloc | apply pw_below_drewN | apply below_drew1) | exact HB.out))) : w.heap.size ≤ gb560)); have n3_ := Aside0.mk ((by rw [hg]; exact (below_size (by repeat (first | (with_reducible first | exact HB.out | apply below_alloc | apply pw_below_drewN | apply below_drew1) | exact HB.out))) : w.heap.size ≤ gb560)); clear HB; have HB := n0_; have BK560 := n1_; have GW560 := n2_; have GE560 := n3_; clear n0_ n1_ n2_ n3_; clear hb hbox hg) | ((with_reducible refine gate_dst (N := 2) rfl ?_); refine box_event ?hg (N := 2) ?hd (cs := #[.string (⟨#[]⟩ : ByteArray), .string (⟨#[]⟩ : ByteArray)]) (t := 103) ?hr ?_; (case hd => rfl); (case hg => rfl); (case hr => first | (go_simp; done) | (go_simp; rfl)); intro gb561 hg w4 hbox hb; have n0_ := Aside0.mk (blk_below (g := gb560) (o := .cells #[.string a0_0, .string a0_1, .string a0_2, .string a0_3, .string a0_4] 32 (0, 0)) (by (with_reducible repeat (first | refine blk_drewN ?_ _ | refine blk_drew ?_ | refine blk_alloc ?_ _)); exact BK560.out) hb); have n1_ := Aside0.mk (below_step (by repeat (first | (with_reducible first | exact HB.out | apply below_alloc | apply pw_below_drewN | apply below_drew1 | refine below_set ?_ GE560.out) | exact HB.out)) hb); have n2_ := Aside0.mk (hbox); have n3_ := Aside0.mk ((by rw [hg]; exact (below_size (by repeat (first | (with_reducible first | exact HB.out | apply below_alloc | apply pw_below_drewN | apply below_drew1 | refine below_set ?_ GE560.out) | exact HB.out))) : w.heap.size ≤ gb561)); have n4_ := Aside0.mk ((by rw [hg]; exact (below_size (by repeat (first | (with_reducible first | exact HB.out | apply below_alloc | apply pw_below_drewN | apply below_drew1 | refine below_set ?_ GE560.out) | exact HB.out))) : w.heap.size ≤ gb561)); have n5_ := Aside0.mk ((by rw [hg]; exact Nat.ne_of_lt (blk_lt (g := gb560) (o := .cells #[.string a0_0, .string a0_1, .string a0_2, .string a0_3, .string a0_4] 32 (0, 0)) (by (with_reducible repeat (first | refine blk_drewN ?_ _ | refine blk_drew ?_ | refine blk_alloc ?_ _)); exact BK560.out)) : gb560 ≠ gb561)); have n6_ := Aside0.mk ((by rw [hg]; exact Nat.ne_of_gt (blk_lt (g := gb560) (o := .cells #[.string a0_0, .string a0_1, .string a0_2, .string a0_3, .string a0_4] 32 (0, 0)) (by (with_reducible repeat (first | refine blk_drewN ?_ _ | refine blk_drew ?_ | refine blk_alloc ?_ _)); exact BK560.out)) : gb561 ≠ gb560)); clear BK560; clear HB; have BK560 := n0_; have HB := n1_; have BK561 := n2_; have GW561 := n3_; have GE561 := n4_; have NB560_561 := n5_; have NB561_560 := n6_; clear n0_ n1_ n2_ n3_ n4_ n5_ n6_; clear hb hbox hg; have hnb5 := NB560_561.out; have hnc5 := NB561_560.out; have hcz6_0 : w4.cell? ⟨gb560, 0, none⟩ = some (.string a0_0) := (blk_cell BK560.out 0).trans rfl; have hcz6_1 : w4.cell? ⟨gb560, 1, none⟩ = some (.string a0_1) := (blk_cell BK560.out 1).trans rfl; have hcz6_2 : w4.cell? ⟨gb560, 2, none⟩ = some (.string a0_2) := (blk_cell BK560.out 2).trans rfl; have hcz6_3 : w4.cell? ⟨gb560, 3, none⟩ = some (.string a0_3) := (blk_cell BK560.out 3).trans rfl; have hcz6_4 : w4.cell? ⟨gb560, 4, none⟩ = some (.string a0_4) := (blk_cell BK560.out 4).trans rfl; have hfz6_0 := blk_frozen BK560.out 0; have hfz6_1 := blk_frozen BK560.out 1; have hfz6_2 := blk_frozen BK560.out 2; have hfz6_3 := blk_frozen BK560.out 3; have hfz6_4 := blk_frozen BK560.out 4; have hcz7_0 : w4.cell? ⟨gb561, 0, none⟩ = some (.string (⟨#[]⟩ : ByteArray)) := (blk_cell BK561.out 0).trans rfl; have hcz7_1 : w4.cell? ⟨gb561, 1, none⟩ = some (.string (⟨#[]⟩ : ByteArray)) := (blk_cell BK561.out 1).trans rfl; have hfz7_0 := blk_frozen BK561.out 0; have hfz7_1 := blk_frozen BK561.out 1))
    refine bodyPost_ret (results_cell_row rfl _ _ gb561 103 #[.string a0_0, .string a0_3] (0, 0) _ rfl (by (with_reducible repeat (first | refine blk_drewN ?_ _ | refine blk_drew ?_ | refine blk_alloc ?_ _)); refine blk_put (cs := #[.string a0_0, .string (⟨#[]⟩ : ByteArray)]) ?_ 1 _ rfl; (with_reducible repeat (first | refine blk_drewN ?_ _ | refine blk_drew ?_ | refine blk_alloc ?_ _)); refine blk_put (cs := #[.string (⟨#[]⟩ : ByteArray), .string (⟨#[]⟩ : ByteArray)]) ?_ 0 _ rfl; (with_reducible repeat (first | refine blk_drewN ?_ _ | refine blk_drew ?_ | refine blk_alloc ?_ _)); exact BK561.out) Try.underlying103 rfl (by kernel_rfl)) rfl ?_
    exact ⟨by first | rfl | (simp [errW_none, errW_some] <;> rfl) | (simp [*, errW_none, errW_some] <;> rfl), by repeat (first | (with_reducible first | exact HB.out | apply below_alloc | apply pw_below_drewN | apply below_drew1 | refine below_set ?_ GE560.out | refine below_set ?_ GE561.out) | exact HB.out)⟩
  · rw [if_neg c2] at H
    have c2b0 : (Op.bytesLess a0_0.toList a0_3.toList) = false := by simpa using c2
    clear c2
    simp only [Option.some.injEq, Prod.mk.injEq] at H
    obtain ⟨rfl, rfl⟩ := H
    go_enter Try.func87, Try.ntmps87
    go_wp2_with (first | ((with_reducible refine gate_dst (N := 1) rfl ?_); refine box_event ?hg (N := 1) ?hd (cs := #[.string a0_0, .string a0_1, .string a0_2, .string a0_3, .string a0_4]) (t := 32) ?hr ?_; (case hd => rfl); (case hg => rfl); (case hr => first | (go_simp; done) | (go_simp; rfl)); intro gb560 hg w8 hbox hb; have n0_ := Aside0.mk (below_step (by repeat (first | (with_reducible first | exact HB.out | apply below_alloc | apply pw_below_drewN | apply below_drew1) | exact HB.out)) hb); have n1_ := Aside0.mk (hbox); have n2_ := Aside0.mk ((by rw [hg]; exact (below_size (by repeat (first | (with_reducible first | exact HB.out | apply below_alloc | apply pw_below_drewN | apply below_drew1) | exact HB.out))) : w.heap.size ≤ gb560)); have n3_ := Aside0.mk ((by rw [hg]; exact (below_size (by repeat (first | (with_reducible first | exact HB.out | apply below_alloc | apply pw_below_drewN | apply below_drew1) | exact HB.out))) : w.heap.size ≤ gb560)); clear HB; have HB := n0_; have BK560 := n1_; have GW560 := n2_; have GE560 := n3_; clear n0_ n1_ n2_ n3_; clear hb hbox hg) | ((with_reducible refine gate_dst (N := 2) rfl ?_); refine box_event ?hg (N := 2) ?hd (cs := #[.string (⟨#[]⟩ : ByteArray), .string (⟨#[]⟩ : ByteArray)]) (t := 103) ?hr ?_; (case hd => rfl); (case hg => rfl); (case hr => first | (go_simp; done) | (go_simp; rfl)); intro gb561 hg w9 hbox hb; have n0_ := Aside0.mk (blk_below (g := gb560) (o := .cells #[.string a0_0, .string a0_1, .string a0_2, .string a0_3, .string a0_4] 32 (0, 0)) (by (with_reducible repeat (first | refine blk_drewN ?_ _ | refine blk_drew ?_ | refine blk_alloc ?_ _)); exact BK560.out) hb); have n1_ := Aside0.mk (below_step (by repeat (first | (with_reducible first | exact HB.out | apply below_alloc | apply pw_below_drewN | apply below_drew1 | refine below_set ?_ GE560.out) | exact HB.out)) hb); have n2_ := Aside0.mk (hbox); have n3_ := Aside0.mk ((by rw [hg]; exact (below_size (by repeat (first | (with_reducible first | exact HB.out | apply below_alloc | apply pw_below_drewN | apply below_drew1 | refine below_set ?_ GE560.out) | exact HB.out))) : w.heap.size ≤ gb561)); have n4_ := Aside0.mk ((by rw [hg]; exact (below_size (by repeat (first | (with_reducible first | exact HB.out | apply below_alloc | apply pw_below_drewN | apply below_drew1 | refine below_set ?_ GE560.out) | exact HB.out))) : w.heap.size ≤ gb561)); have n5_ := Aside0.mk ((by rw [hg]; exact Nat.ne_of_lt (blk_lt (g := gb560) (o := .cells #[.string a0_0, .string a0_1, .string a0_2, .string a0_3, .string a0_4] 32 (0, 0)) (by (with_reducible repeat (first | refine blk_drewN ?_ _ | refine blk_drew ?_ | refine blk_alloc ?_ _)); exact BK560.out)) : gb560 ≠ gb561)); have n6_ := Aside0.mk ((by rw [hg]; exact Nat.ne_of_gt (blk_lt (g := gb560) (o := .cells #[.string a0_0, .string a0_1, .string a0_2, .string a0_3, .string a0_4] 32 (0, 0)) (by (with_reducible repeat (first | refine blk_drewN ?_ _ | refine blk_drew ?_ | refine blk_alloc ?_ _)); exact BK560.out)) : gb561 ≠ gb560)); clear BK560; clear HB; have BK560 := n0_; have HB := n1_; have BK561 := n2_; have GW561 := n3_; have GE561 := n4_; have NB560_561 := n5_; have NB561_560 := n6_; clear n0_ n1_ n2_ n3_ n4_ n5_ n6_; clear hb hbox hg; have hnb10 := NB560_561.out; have hnc10 := NB561_560.out; have hcz11_0 : w9.cell? ⟨gb560, 0, none⟩ = some (.string a0_0) := (blk_cell BK560.out 0).trans rfl; have hcz11_1 : w9.cell? ⟨gb560, 1, none⟩ = some (.string a0_1) := (blk_cell BK560.out 1).trans rfl; have hcz11_2 : w9.cell? ⟨gb560, 2, none⟩ = some (.string a0_2) := (blk_cell BK560.out 2).trans rfl; have hcz11_3 : w9.cell? ⟨gb560, 3, none⟩ = some (.string a0_3) := (blk_cell BK560.out 3).trans rfl; have hcz11_4 : w9.cell? ⟨gb560, 4, none⟩ = some (.string a0_4) := (blk_cell BK560.out 4).trans rfl; have hfz11_0 := blk_frozen BK560.out 0; have hfz11_1 := blk_frozen BK560.out 1; have hfz11_2 := blk_frozen BK560.out 2; have hfz11_3 := blk_frozen BK560.out 3; have hfz11_4 := blk_frozen BK560.out 4; have hcz12_0 : w9.cell? ⟨gb561, 0, none⟩ = some (.string (⟨#[]⟩ : ByteArray)) := (blk_cell BK561.out 0).trans rfl; have hcz12_1 : w9.cell? ⟨gb561, 1, none⟩ = some (.string (⟨#[]⟩ : ByteArray)) := (blk_cell BK561.out 1).trans rfl; have hfz12_0 := blk_frozen BK561.out 0; have hfz12_1 := blk_frozen BK561.out 1))
    refine bodyPost_ret (results_cell_row rfl _ _ gb561 103 #[.string a0_3, .string a0_0] (0, 0) _ rfl (by (with_reducible repeat (first | refine blk_drewN ?_ _ | refine blk_drew ?_ | refine blk_alloc ?_ _)); refine blk_put (cs := #[.string a0_3, .string (⟨#[]⟩ : ByteArray)]) ?_ 1 _ rfl; (with_reducible repeat (first | refine blk_drewN ?_ _ | refine blk_drew ?_ | refine blk_alloc ?_ _)); refine blk_put (cs := #[.string (⟨#[]⟩ : ByteArray), .string (⟨#[]⟩ : ByteArray)]) ?_ 0 _ rfl; (with_reducible repeat (first | refine blk_drewN ?_ _ | refine blk_drew ?_ | refine blk_alloc ?_ _)); exact BK561.out) Try.underlying103 rfl (by kernel_rfl)) rfl ?_
    exact ⟨by first | rfl | (simp [errW_none, errW_some] <;> rfl) | (simp [*, errW_none, errW_some] <;> rfl), by repeat (first | (with_reducible first | exact HB.out | apply below_alloc | apply pw_below_drewN | apply below_drew1 | refine below_set ?_ GE560.out | refine below_set ?_ GE561.out) | exact HB.out)⟩
-- NOT PRINTED: function 99 (api_Pair)
-- NOT PRINTED: function 100 (interco_compare)
-- NOT PRINTED: function 88 (interco_insert)
end Go.Proofs.Ytmflggbpiadkjaa.P
