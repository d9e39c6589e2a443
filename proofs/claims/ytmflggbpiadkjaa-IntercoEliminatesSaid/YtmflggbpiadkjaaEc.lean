/- Texts of mine and of the print, joined: RgtJ, HandQ, Px48, OpnJ, SpecU, HandPrp, HandPrs, HandInq, HandMk, HandInr. -/
import Derived.Test.YtmflggbpiadkjaaEb
import Derived.BigQuiet
import Derived.Test.YtmflggbpiadkjaaEa
import Derived.Deep.RegionLaw
import Derived.Deep.RegionLawGrows
import Derived.Deep.AppendLies
import Derived.Lib.Hide
import Derived.Deep.Slices
import Derived.Deep.Upon
import Derived.Deep.AppendSrc
import Derived.RegionTactic
import Derived.Carry
import Derived.Maps.OwnRows
import Derived.Maps.OwnSet
import Derived.Maps.Views
import Derived.DeepKeys3
import Derived.WideKeyEntry
import Derived.Maps.AppendAt
import Derived.Laws.AppendOwn
import Derived.ChangeArms
import Derived.ChangeSame
import Derived.WideShapes
import Derived.Maps.RangeRun
import Derived.Laws.IdiomRangeMap
import Derived.Laws.MakeOwn
namespace Go.Proofs.Ytmflggbpiadkjaa.P
open Go.RowKit Go.Sort Go.Proofs.YtmflggbpiadkjaaW.PrintWords Go.Proofs.YtmflggbpiadkjaaW.PrintLast Go.Proofs.YtmflggbpiadkjaaW.PrintMore
set_option linter.unusedVariables false
set_option linter.unusedSimpArgs false
theorem bytes_lessc : ∀ (a b : List UInt8), Lib.compareBytes a b = if Op.bytesLess a b = true then -1 else if Op.bytesLess b a = true then 1 else 0
 | [], [] => rfl
 | [], _ :: _ => rfl
 | _ :: _, [] => rfl
 | x :: a, y :: b => by
  have ih := bytes_lessc a b
  unfold Lib.compareBytes Op.bytesLess
  by_cases h1 : x < y
  ·simp [h1]
  ·by_cases h2 : y < x
   ·have h3 : (x == y) = false := by
     rw [beq_eq_false_iff_ne]
     intro e
     subst e
     exact h1 h2
    simp [h1, h2, h3]
   ·have h3 : x = y := UInt8.le_antisymm (UInt8.not_lt.1 h2) (UInt8.not_lt.1 h1)
    subst h3
    simp [h1, ih]
theorem cmpB_less (a b : ByteArray) : cmpB a b = if Op.bytesLess a.toList b.toList = true then -1 else if Op.bytesLess b.toList a.toList = true then 1 else 0 := by
 rw [ByteArray.toList_eq, ByteArray.toList_eq]
 exact bytes_lessc _ _
theorem refcompare_calls (a b : ByteArray) (w : World) : Calls Try.prog 67 #[.string a, .string b] w fun e w' => e = .returned (.int .i64 (cmpB a b)) ∧ w' = w := by
 have H := cmpB_less a b
 by_cases c1 : Op.bytesLess a.toList b.toList = true
 ·rw [if_pos c1] at H
  have HH := Aside0.mk H
  clear H
  go_enter Try.func67, Try.ntmps67
  go_wp2
  go_ret
  exact ⟨by rw [HH.out]; rfl, rfl⟩
 ·rw [if_neg c1] at H
  have c1b : Op.bytesLess a.toList b.toList = false := by simpa using c1
  clear c1
  by_cases c2 : Op.bytesLess b.toList a.toList = true
  ·rw [if_pos c2] at H
   have HH := Aside0.mk H
   clear H
   go_enter Try.func67, Try.ntmps67
   go_wp2
   go_ret
   exact ⟨by rw [HH.out]; rfl, rfl⟩
  ·rw [if_neg c2] at H
   have c2b : Op.bytesLess b.toList a.toList = false := by simpa using c2
   have HH := Aside0.mk H
   clear H c2
   go_enter Try.func67, Try.ntmps67
   go_wp2
   go_ret
   exact ⟨by rw [HH.out]; rfl, rfl⟩
theorem fits_calls (n : Int) (w : World) : Calls Try.prog 59 #[.int .i64 n] w fun e w' => e = .returned (.bool (fitB n)) ∧ w' = w := by
 have HF := Aside0.mk (show fitB n = (decide (-1000000000000000 ≤ n) && decide (n ≤ 1000000000000000)) from rfl)
 by_cases h1 : -1000000000000000 ≤ n
 ·have d1 : decide (-1000000000000000 ≤ n) = true := decide_eq_true h1
  by_cases h2 : n ≤ 1000000000000000
  ·have d2 : decide (n ≤ 1000000000000000) = true := decide_eq_true h2
   rw [d1, d2] at HF
   go_enter Try.func59, Try.ntmps59
   go_wp2
   go_ret
   exact ⟨by rw [HF.out]; rfl, rfl⟩
  ·have d2 : decide (n ≤ 1000000000000000) = false := decide_eq_false h2
   rw [d1, d2] at HF
   go_enter Try.func59, Try.ntmps59
   go_wp2
   go_ret
   exact ⟨by rw [HF.out]; rfl, rfl⟩
 ·have d1 : decide (-1000000000000000 ≤ n) = false := decide_eq_false h1
  rw [d1] at HF
  go_enter Try.func59, Try.ntmps59
  go_wp2
  go_ret
  exact ⟨by rw [HF.out]; rfl, rfl⟩
theorem sl_cell {w : World} {b : Nat} {x : S32} (h : w.heap[b]? = some (.cells #[.string x.f0, .string x.f1, .string x.f2, .string x.f3, .string x.f4] 9 (0, 0))) {k : Nat} (hk : k < 5) : w.cell? ⟨b, k, none⟩ = some (.string (kfld x k)) := by
 refine (blk_cell h k).trans ?_
 rcases (by omega : k = 0 ∨ k = 1 ∨ k = 2 ∨ k = 3 ∨ k = 4) with rfl | rfl | rfl | rfl | rfl <;> rfl
set_option maxHeartbeats 4000000 in
set_option maxRecDepth 100000 in
theorem refcmp_calls (x y : S32) (w : World) : Calls Try.prog 30 #[.agg #[.string x.f0, .string x.f1, .string x.f2, .string x.f3, .string x.f4], .agg #[.string y.f0, .string y.f1, .string y.f2, .string y.f3, .string y.f4]] w fun e w' => e = .returned (.int .i64 (cmpK x y)) ∧ Grw w w' := by
 go_enter Try.func30, Try.ntmps30
 go_upto_region 3 with (fail)
 refine with_world (P := fun x => Code.wp _ _ _ _ x) _ ?_
 intro w1 hw1
 obtain ⟨g, hg⟩ : ∃ g, w.heap.size = g := ⟨_, rfl⟩
 have HB := Aside0.mk (show w1.heap[g + 2]? = some (.cells #[.string x.f0, .string x.f1, .string x.f2, .string x.f3, .string x.f4] 9 (0, 0)) from by
  rw [hw1, ← hg]
  exact blk_alloc (blk_newAt _ _ _ (by simp)) _)
 have HC := Aside0.mk (show w1.heap[g + 3]? = some (.cells #[.string y.f0, .string y.f1, .string y.f2, .string y.f3, .string y.f4] 9 (0, 0)) from by
  rw [hw1, ← hg]
  exact blk_newAt _ _ _ (by simp))
 have HG2 := Aside0.mk (show Grw w w1 from by rw [hw1]; exact ((((Grw.refl w).alloc _).alloc _).alloc _).alloc _)
 have e2 : w.heap.size + 1 + 1 = g + 2 := by omega
 have e3 : w.heap.size + 1 + 1 + 1 = g + 3 := by omega
 simp only [hg] at e2 e3 ⊢
 obtain ⟨b, hb⟩ : ∃ b, g + 2 = b := ⟨_, rfl⟩
 obtain ⟨c, hc⟩ : ∃ c, b + 1 = c := ⟨_, rfl⟩
 rw [hb] at HB
 rw [show g + 3 = c by omega] at HC
 simp only [hb, hc]
 clear hw1 e2 e3 hb hc hg
 have HE0 := Aside0.mk (show cmpL ((flds x y).drop 0) = cmpK x y from rfl)
 go_wp2
 go_loopw [7, 8, 31, 32, 33, 34, 35, 36, 37, 38, 39, 40, 41, 42, 43, 44, 45, 46] (fun v7 _ _ _ _ _ _ _ _ _ _ _ _ _ _ _ _ _ wr => ∃ k : Nat, k ≤ 5 ∧ v7 = .int .i64 k ∧ Aside0 (cmpL ((flds x y).drop k) = cmpK x y) ∧ Aside0 (wr.heap[b]? = some (.cells #[.string x.f0, .string x.f1, .string x.f2, .string x.f3, .string x.f4] 9 (0, 0))) ∧ Aside0 (wr.heap[c]? = some (.cells #[.string y.f0, .string y.f1, .string y.f2, .string y.f3, .string y.f4] 9 (0, 0))) ∧ Aside0 (Grw w wr)) (fun v7 _ _ _ _ _ _ _ _ _ _ _ _ _ _ _ _ _ _ => 5 - (intOf v7).toNat)
 case atStart => exact ⟨0, by omega, rfl, HE0, HB, HC, HG2⟩
 case round =>
  clear HE0 HB HC HG2
  obtain ⟨k, hk, rfl, HE, HB, HC, HG⟩ := hrel
  by_cases hlt : k < 5
  ·have d1 : decide ((k : Int) < 5) = true := decide_eq_true (by omega)
   have d2 : decide (k < 5) = true := decide_eq_true hlt
   have p0 : (0 : Int) ≤ (k : Int) := by omega
   have p1 : (k : Int) < 5 := by omega
   have hd := HE.out
   rw [flds_drop x y hlt] at hd
   have hd : (if cmpB (kfld x k) (kfld y k) = 0 then cmpL ((flds x y).drop (k + 1)) else cmpB (kfld x k) (kfld y k)) = cmpK x y := hd
   have qb : wr.cell? ⟨b, k, none⟩ = some (.string (kfld x k)) := sl_cell HB.out hlt
   have qc : wr.cell? ⟨c, k, none⟩ = some (.string (kfld y k)) := sl_cell HC.out hlt
   obtain ⟨u, hu⟩ : ∃ u, kfld x k = u := ⟨_, rfl⟩
   obtain ⟨v, hv⟩ : ∃ v, kfld y k = v := ⟨_, rfl⟩
   rw [hu] at hd qb
   rw [hv] at hd qc
   clear hu hv
   obtain ⟨z, hz⟩ : ∃ z, cmpB u v = z := ⟨_, rfl⟩
   rw [hz] at hd
   have HZ := Aside0.mk hz
   clear hz
   go_wp2
   go_quiet ((go_at_call 67; (refine (refcompare_calls u v _).mono ?_); rw [HZ.out]; rintro e_ w_ ⟨rfl, rfl⟩; exact ⟨rfl, _, rfl⟩))
   by_cases hz0 : z = 0
   ·have dz : (z != (0 : Int)) = false := bne_eq_false_iff_eq.mpr hz0
    rw [if_pos hz0] at hd
    have HD := Aside0.mk hd
    clear hd hz0
    go_wp2
    go_roundw
    case rel => exact ⟨k + 1, by omega, by go_num, HD, HB, HC, ⟨HG.out.drewN _⟩⟩
    case measure => simp [intOf]; omega
   ·have dz : (z != (0 : Int)) = true := bne_iff_ne.mpr hz0
    rw [if_neg hz0] at hd
    subst hd
    clear hz0
    go_wp2
    go_ret
    exact ⟨rfl, HG.out.drewN _⟩
  ·obtain rfl : k = 5 := by omega
   have hd : (0 : Int) = cmpK x y := HE.out
   have HD := Aside0.mk hd
   clear hd
   go_wp2
   go_ret
   exact ⟨congrArg (fun z => Ending.returned (Value.int .i64 z)) HD.out, HG.out⟩
end Go.Proofs.Ytmflggbpiadkjaa.P
namespace Go.Proofs.Ytmflggbpiadkjaa.P
open Go.RowKit Go.Sort Go.Proofs.YtmflggbpiadkjaaW.PrintWords Go.Proofs.YtmflggbpiadkjaaW.PrintLast Go.Proofs.YtmflggbpiadkjaaW.PrintMore
set_option linter.unusedVariables false
set_option linter.unusedSimpArgs false
def badC (x : S34) : Bool := (decide (x.f1 = 0) && decide (x.f2 = 0)) || !fitB x.f1 || !fitB x.f2
def badAt (l : List S34) (i : Nat) : Bool := badC (rd_T34 l (i : Int)) || (decide (0 < i) && decide (0 ≤ cmpK (rd_T34 l ((i - 1 : Nat) : Int)).f0 (rd_T34 l (i : Int)).f0))
def rightB (l : List S34) : Bool := (List.range l.length).all (fun i => !badAt l i)
theorem right_bad {l : List S34} {k : Nat} (hk : k < l.length) (h : badAt l k = true) : rightB l = false := by
 unfold rightB
 rw [List.all_eq_false]
 exact ⟨k, List.mem_range.2 hk, by simp [h]⟩
theorem right_good {l : List S34} (h : ∀ j, j < l.length → badAt l j = false) : rightB l = true := by
 unfold rightB
 rw [List.all_eq_true]
 intro j hj
 rw [h j (List.mem_range.1 hj)]
 rfl
theorem far_grw (n : Int) {r : Bool} (h : fitB n = r) (w : World) : Calls Try.prog 60 #[.int .i64 n] w fun e w' => e = .returned (.bool (!r)) ∧ w' = w := by
 refine (far_calls n w).mono ?_
 rintro e w' ⟨rfl, rfl⟩
 exact ⟨by rw [h], rfl⟩
theorem fits_grw (n : Int) {r : Bool} (h : fitB n = r) (w : World) : Calls Try.prog 59 #[.int .i64 n] w fun e w' => e = .returned (.bool r) ∧ w' = w := by
 refine (fits_calls n w).mono ?_
 rintro e w' ⟨rfl, rfl⟩
 exact ⟨by rw [h], rfl⟩
end Go.Proofs.Ytmflggbpiadkjaa.P
namespace Go.Proofs.Ytmflggbpiadkjaa.P
open Go.RowKit Go.Sort Go.Proofs.YtmflggbpiadkjaaW.PrintWords Go.Proofs.YtmflggbpiadkjaaW.PrintLast Go.Proofs.YtmflggbpiadkjaaW.PrintMore
set_option linter.unusedVariables false
set_option linter.unusedSimpArgs false
set_option maxHeartbeats 4000000 in
set_option maxRecDepth 100000 in
theorem right_calls (A : Option Addr) (c : Nat) (l : List S34) (w : World) (h : Kd.C k34 w A l.length l) (hc : l.length ≤ c) :
  Calls Try.prog 22 #[.slice A l.length c] w fun e w' => e = .returned (.bool (rightB l)) ∧ Grw w w' := by
 have HC := Aside0.mk h
 obtain ⟨n, hn⟩ : ∃ n, l.length = n := ⟨_, rfl⟩
 have HMX := Aside0.mk (show n ≤ 9223372036854775807 from hn ▸ Kd.C_max h)
 have HN := Aside0.mk hn
 rw [hn] at hc HC ⊢
 clear h hn
 have HG0 := Aside0.mk (Grw.refl w)
 go_enter Try.func22, Try.ntmps22
 go_wp2
 go_loopw [3, 4, 7, 8, 9, 10, 11, 12, 13, 14, 15, 16, 17, 18, 19, 20, 21, 22, 23, 24, 25, 26, 27, 28, 29, 30, 31, 32, 33, 34, 35, 36, 37, 38, 39, 40, 41, 42, 43, 44, 45, 46] (fun _ _ v _ _ _ _ _ _ _ _ _ _ _ _ _ _ _ _ _ _ _ _ _ _ _ _ _ _ _ _ _ _ _ _ _ _ _ _ _ _ _ wr => ∃ k : Nat, k ≤ n ∧ v = .int .i64 k ∧ Aside0 (∀ j : Nat, j < k → badAt l j = false) ∧ Aside0 (Grw w wr)) (fun _ _ v _ _ _ _ _ _ _ _ _ _ _ _ _ _ _ _ _ _ _ _ _ _ _ _ _ _ _ _ _ _ _ _ _ _ _ _ _ _ _ _ => n - (intOf v).toNat)
 case atStart => exact ⟨0, Nat.zero_le _, rfl, ⟨fun j hj => absurd hj (Nat.not_lt_zero _)⟩, HG0⟩
 case round =>
  clear HG0
  obtain ⟨k, hk, rfl, HALL, HG⟩ := hrel
  by_cases hlt : k < n
  ·have d1 : decide ((k : Int) < (n : Int)) = true := decide_eq_true (by omega)
   have d2 : decide (k < n) = true := decide_eq_true hlt
   have K0 : (0 : Int) ≤ (k : Int) := by omega
   have K1 : (k : Int) < (n : Int) := by omega
   have hmx := HMX.out
   have HK := Aside0.mk (show k < l.length from by rw [HN.out]; exact hlt)
   obtain ⟨ad, e, x0, x1, x2, x3, x4, x5, x6⟩ := at_T34 (Kd.C_below HC.out HG.out.below) (k : Int) K0 K1
   rw [Int.toNat_natCast] at x0 x1 x2 x3 x4 x5 x6
   obtain ⟨x, hx⟩ : ∃ x, rd_T34 l (k : Int) = x := ⟨_, rfl⟩
   rw [hx] at x0 x1 x2 x3 x4 x5 x6
   subst e
   go_upto_region 4 with (fail)
   refine with_world (P := fun x => Code.wp _ _ _ _ x) _ ?_
   intro w2 hw2
   obtain ⟨b, hb⟩ : ∃ b, wr.heap.size = b := ⟨_, rfl⟩
   have BX := (show w2.heap[b]? = some (.cells #[.string x.f0.f0, .string x.f0.f1, .string x.f0.f2, .string x.f0.f3, .string x.f0.f4, .int .i64 x.f1, .int .i64 x.f2] 34 (0, 0)) from by rw [hw2, ← hb]; exact blk_new wr _)
   have HG2 := Aside0.mk (show Grw w w2 from by rw [hw2]; exact HG.out.alloc _)
   rw [hb]
   clear hw2 hb x0 x1 x2 x3 x4 x5 x6
   have x0 : w2.cell? ⟨b, 0, none⟩ = some (.string x.f0.f0) := (blk_cell BX 0).trans rfl
   have x1 : w2.cell? ⟨b, 1, none⟩ = some (.string x.f0.f1) := (blk_cell BX 1).trans rfl
   have x2 : w2.cell? ⟨b, 2, none⟩ = some (.string x.f0.f2) := (blk_cell BX 2).trans rfl
   have x3 : w2.cell? ⟨b, 3, none⟩ = some (.string x.f0.f3) := (blk_cell BX 3).trans rfl
   have x4 : w2.cell? ⟨b, 4, none⟩ = some (.string x.f0.f4) := (blk_cell BX 4).trans rfl
   have x5 : w2.cell? ⟨b, 5, none⟩ = some (.int .i64 x.f1) := (blk_cell BX 5).trans rfl
   have x6 : w2.cell? ⟨b, 6, none⟩ = some (.int .i64 x.f2) := (blk_cell BX 6).trans rfl
   clear BX HG
   have HC2 := Aside0.mk (Kd.C_below HC.out HG2.out.below)
   by_cases hA : x.f1 = 0
   ·have eA : (x.f1 == (0 : Int)) = true := by rw [hA]; rfl
    by_cases hB : x.f2 = 0
    ·have eB : (x.f2 == (0 : Int)) = true := by rw [hB]; rfl
     have HBAD := Aside0.mk (show badAt l k = true from by
      unfold badAt badC
      rw [hx]
      simp [hA, hB])
     clear hA hB
     go_region
     all_goals
      have HG5 := Aside0.mk (show Grw w w2.drew from HG2.out.drew)
      go_wp2
      go_ret
      exact ⟨by rw [right_bad HK.out HBAD.out]; rfl, HG5.out⟩
    ·have eB : (x.f2 == (0 : Int)) = false := beq_false_of_ne hB
     have HNZ := Aside0.mk (show ¬ (x.f1 = 0 ∧ x.f2 = 0) from fun h => hB h.2)
     clear hA hB
     have mixed : Try.prog.follows .mixedOrders = true := by kernel_rfl
     cases hf1 : fitB x.f1 with
     | false =>
      have HBAD := Aside0.mk (show badAt l k = true from by
       unfold badAt badC
       rw [hx]
       simp [hf1])
      have F1 : ∀ W, Calls Try.prog 60 #[.int .i64 x.f1] W fun e w' => e = .returned (.bool true) ∧ w' = W := fun W => far_grw x.f1 hf1 W
      clear hf1
      go_wp2
      go_quiet (first | (go_at_call 60; (with_reducible refine (F1 _).mono ?_); rintro e_ w_ ⟨rfl, rfl⟩; exact ⟨rfl, _, rfl⟩))
      have HG5 := Aside0.mk (show Grw w _ from HG2.out.drewN nq)
      all_goals
       go_wp2
       go_ret
       exact ⟨by rw [right_bad HK.out HBAD.out]; rfl, HG5.out⟩
     | true =>
      have F1 : ∀ W, Calls Try.prog 60 #[.int .i64 x.f1] W fun e w' => e = .returned (.bool false) ∧ w' = W := fun W => far_grw x.f1 hf1 W
      cases hf2 : fitB x.f2 with
      | false =>
       have HBAD := Aside0.mk (show badAt l k = true from by
        unfold badAt badC
        rw [hx]
        simp [hf2])
       have F2 : ∀ W, Calls Try.prog 60 #[.int .i64 x.f2] W fun e w' => e = .returned (.bool true) ∧ w' = W := fun W => far_grw x.f2 hf2 W
       clear hf1 hf2
       go_wp2
       go_quiet (first | (go_at_call 60; (with_reducible refine (F1 _).mono ?_); rintro e_ w_ ⟨rfl, rfl⟩; exact ⟨rfl, _, rfl⟩) | (go_at_call 60; (with_reducible refine (F2 _).mono ?_); rintro e_ w_ ⟨rfl, rfl⟩; exact ⟨rfl, _, rfl⟩))
       have HG5 := Aside0.mk (show Grw w _ from HG2.out.drewN nq)
       all_goals
        go_wp2
        go_ret
        exact ⟨by rw [right_bad HK.out HBAD.out]; rfl, HG5.out⟩
      | true =>
       have F2 : ∀ W, Calls Try.prog 60 #[.int .i64 x.f2] W fun e w' => e = .returned (.bool false) ∧ w' = W := fun W => far_grw x.f2 hf2 W
       by_cases h0 : k = 0
       ·have HBAD := Aside0.mk (show badAt l k = false from by
         unfold badAt badC
         rw [hx]
         have hnz := HNZ.out
         simp [hf1, hf2, h0]
         intro h1 h2
         exact hnz ⟨h1, h2⟩)
        have g0 : decide ((0 : Int) < (k : Int)) = false := decide_eq_false (by omega)
        have g0' : decide (0 < k) = false := decide_eq_false (by omega)
        clear hf1 hf2
        go_wp2
        go_quiet (first | (go_at_call 60; (with_reducible refine (F1 _).mono ?_); rintro e_ w_ ⟨rfl, rfl⟩; exact ⟨rfl, _, rfl⟩) | (go_at_call 60; (with_reducible refine (F2 _).mono ?_); rintro e_ w_ ⟨rfl, rfl⟩; exact ⟨rfl, _, rfl⟩))
        have HG5 := Aside0.mk (show Grw w _ from HG2.out.drewN nq)
        all_goals
         go_wp2
         go_roundw
         case rel =>
          refine ⟨k + 1, by omega, by go_num, ⟨fun j hj => ?_⟩, HG5⟩
          rcases Nat.lt_or_ge j k with h3 | h3
          ·exact HALL.out j h3
          ·obtain rfl : j = k := by omega
           exact HBAD.out
         case measure => simp [intOf]; omega
       ·obtain ⟨p, hp⟩ : ∃ p, k - 1 = p := ⟨_, rfl⟩
        have g0 : decide ((0 : Int) < (k : Int)) = true := decide_eq_true (by omega)
        have g0' : decide (0 < k) = true := decide_eq_true (by omega)
        have s1 : (k : Int) - 1 = (p : Int) := by omega
        have s2 : IntKind.i64.wrap ((k : Int) - 1) = (p : Int) := by rw [s1, IntKind.wrap_i64]; omega
        have s3 : IntKind.i64.wrap (p : Int) = (p : Int) := by rw [IntKind.wrap_i64]; omega
        have P0 : (0 : Int) ≤ (p : Int) := by omega
        have P1 : (p : Int) < (n : Int) := by omega
        obtain ⟨ad2, e2, y0, y1, y2, y3, y4, y5, y6⟩ := at_T34 HC2.out (p : Int) P0 P1
        cases e2
        rw [Int.toNat_natCast] at y0 y1 y2 y3 y4 y5 y6
        obtain ⟨y, hy⟩ : ∃ y, rd_T34 l (p : Int) = y := ⟨_, rfl⟩
        rw [hy] at y0 y1 y2 y3 y4
        clear y5 y6
        obtain ⟨z, hz⟩ : ∃ z, cmpK y.f0 x.f0 = z := ⟨_, rfl⟩
        have hcmp := cmp_calls y.f0 x.f0
        rw [hz] at hcmp
        by_cases hz0 : 0 ≤ z
        ·have HBAD := Aside0.mk (show badAt l k = true from by
          unfold badAt
          rw [hp, hx, hy, hz, decide_eq_true hz0, decide_eq_true (show 0 < k by omega)]
          simp)
         have dz : decide (0 ≤ z) = true := decide_eq_true hz0
         clear hf1 hf2 hz hy hp hz0
         have x0 := cell_all x0
         have x1 := cell_all x1
         have x2 := cell_all x2
         have x3 := cell_all x3
         have x4 := cell_all x4
         have x5 := cell_all x5
         have x6 := cell_all x6
         have y0 := cell_all y0
         have y1 := cell_all y1
         have y2 := cell_all y2
         have y3 := cell_all y3
         have y4 := cell_all y4
         have G1 : ∀ W, Calls Try.prog 60 #[.int .i64 x.f1] W fun e w' => e = .returned (.bool false) ∧ Grw W w' := fun W => (F1 W).mono (by rintro e w' ⟨rfl, rfl⟩; exact ⟨rfl, Grw.refl _⟩)
         have G2 : ∀ W, Calls Try.prog 60 #[.int .i64 x.f2] W fun e w' => e = .returned (.bool false) ∧ Grw W w' := fun W => (F2 W).mono (by rintro e w' ⟨rfl, rfl⟩; exact ⟨rfl, Grw.refl _⟩)
         go_wp2_with fail
         refine wp_region_quiet_grown (by assumption) (by kernel_rfl) ?_
         repeat (first | go_big_quiet_skip | quiet_step (first | (go_at_call 60; (with_reducible refine Calls.grown_of (G1 _))) | (go_at_call 60; (with_reducible refine Calls.grown_of (G2 _))) | (go_at_call 29; (with_reducible refine Calls.grown_of (hcmp _)))))
         refine wpQuiet_nil ?_
         intro _ hw'
         obtain ⟨⟨nq, osq⟩, hw''⟩ := hw'
         subst hw''
         have HG5 := Aside0.mk (show Grw w _ from HG2.out.trans ⟨nq, osq, rfl⟩)
         all_goals
          go_wp2
          go_ret
          exact ⟨by rw [right_bad HK.out HBAD.out]; rfl, HG5.out⟩
        ·have HBAD := Aside0.mk (show badAt l k = false from by
          unfold badAt badC
          rw [hp, hx, hy, hz, decide_eq_false hz0]
          have hnz := HNZ.out
          simp [hf1, hf2]
          intro h1 h2
          exact hnz ⟨h1, h2⟩)
         have dz : decide (0 ≤ z) = false := decide_eq_false hz0
         clear hf1 hf2 hz hy hp hz0
         have x0 := cell_all x0
         have x1 := cell_all x1
         have x2 := cell_all x2
         have x3 := cell_all x3
         have x4 := cell_all x4
         have x5 := cell_all x5
         have x6 := cell_all x6
         have y0 := cell_all y0
         have y1 := cell_all y1
         have y2 := cell_all y2
         have y3 := cell_all y3
         have y4 := cell_all y4
         have G1 : ∀ W, Calls Try.prog 60 #[.int .i64 x.f1] W fun e w' => e = .returned (.bool false) ∧ Grw W w' := fun W => (F1 W).mono (by rintro e w' ⟨rfl, rfl⟩; exact ⟨rfl, Grw.refl _⟩)
         have G2 : ∀ W, Calls Try.prog 60 #[.int .i64 x.f2] W fun e w' => e = .returned (.bool false) ∧ Grw W w' := fun W => (F2 W).mono (by rintro e w' ⟨rfl, rfl⟩; exact ⟨rfl, Grw.refl _⟩)
         go_wp2_with fail
         refine wp_region_quiet_grown (by assumption) (by kernel_rfl) ?_
         repeat (first | go_big_quiet_skip | quiet_step (first | (go_at_call 60; (with_reducible refine Calls.grown_of (G1 _))) | (go_at_call 60; (with_reducible refine Calls.grown_of (G2 _))) | (go_at_call 29; (with_reducible refine Calls.grown_of (hcmp _)))))
         refine wpQuiet_nil ?_
         intro _ hw'
         obtain ⟨⟨nq, osq⟩, hw''⟩ := hw'
         subst hw''
         have HG5 := Aside0.mk (show Grw w _ from HG2.out.trans ⟨nq, osq, rfl⟩)
         all_goals
          go_wp2
          go_roundw
          case rel =>
           refine ⟨k + 1, by omega, by go_num, ⟨fun j hj => ?_⟩, HG5⟩
           rcases Nat.lt_or_ge j k with h3 | h3
           ·exact HALL.out j h3
           ·obtain rfl : j = k := by omega
            exact HBAD.out
          case measure => simp [intOf]; omega
   ·have eA : (x.f1 == (0 : Int)) = false := beq_false_of_ne hA
    have HNZ := Aside0.mk (show ¬ (x.f1 = 0 ∧ x.f2 = 0) from fun h => hA h.1)
    clear hA
    have mixed : Try.prog.follows .mixedOrders = true := by kernel_rfl
    cases hf1 : fitB x.f1 with
    | false =>
     have HBAD := Aside0.mk (show badAt l k = true from by
      unfold badAt badC
      rw [hx]
      simp [hf1])
     have F1 : ∀ W, Calls Try.prog 60 #[.int .i64 x.f1] W fun e w' => e = .returned (.bool true) ∧ w' = W := fun W => far_grw x.f1 hf1 W
     clear hf1
     go_wp2
     go_quiet (first | (go_at_call 60; (with_reducible refine (F1 _).mono ?_); rintro e_ w_ ⟨rfl, rfl⟩; exact ⟨rfl, _, rfl⟩))
     have HG5 := Aside0.mk (show Grw w _ from HG2.out.drewN nq)
     all_goals
      go_wp2
      go_ret
      exact ⟨by rw [right_bad HK.out HBAD.out]; rfl, HG5.out⟩
    | true =>
     have F1 : ∀ W, Calls Try.prog 60 #[.int .i64 x.f1] W fun e w' => e = .returned (.bool false) ∧ w' = W := fun W => far_grw x.f1 hf1 W
     cases hf2 : fitB x.f2 with
     | false =>
      have HBAD := Aside0.mk (show badAt l k = true from by
       unfold badAt badC
       rw [hx]
       simp [hf2])
      have F2 : ∀ W, Calls Try.prog 60 #[.int .i64 x.f2] W fun e w' => e = .returned (.bool true) ∧ w' = W := fun W => far_grw x.f2 hf2 W
      clear hf1 hf2
      go_wp2
      go_quiet (first | (go_at_call 60; (with_reducible refine (F1 _).mono ?_); rintro e_ w_ ⟨rfl, rfl⟩; exact ⟨rfl, _, rfl⟩) | (go_at_call 60; (with_reducible refine (F2 _).mono ?_); rintro e_ w_ ⟨rfl, rfl⟩; exact ⟨rfl, _, rfl⟩))
      have HG5 := Aside0.mk (show Grw w _ from HG2.out.drewN nq)
      all_goals
       go_wp2
       go_ret
       exact ⟨by rw [right_bad HK.out HBAD.out]; rfl, HG5.out⟩
     | true =>
      have F2 : ∀ W, Calls Try.prog 60 #[.int .i64 x.f2] W fun e w' => e = .returned (.bool false) ∧ w' = W := fun W => far_grw x.f2 hf2 W
      by_cases h0 : k = 0
      ·have HBAD := Aside0.mk (show badAt l k = false from by
        unfold badAt badC
        rw [hx]
        have hnz := HNZ.out
        simp [hf1, hf2, h0]
        intro h1 h2
        exact hnz ⟨h1, h2⟩)
       have g0 : decide ((0 : Int) < (k : Int)) = false := decide_eq_false (by omega)
       have g0' : decide (0 < k) = false := decide_eq_false (by omega)
       clear hf1 hf2
       go_wp2
       go_quiet (first | (go_at_call 60; (with_reducible refine (F1 _).mono ?_); rintro e_ w_ ⟨rfl, rfl⟩; exact ⟨rfl, _, rfl⟩) | (go_at_call 60; (with_reducible refine (F2 _).mono ?_); rintro e_ w_ ⟨rfl, rfl⟩; exact ⟨rfl, _, rfl⟩))
       have HG5 := Aside0.mk (show Grw w _ from HG2.out.drewN nq)
       all_goals
        go_wp2
        go_roundw
        case rel =>
         refine ⟨k + 1, by omega, by go_num, ⟨fun j hj => ?_⟩, HG5⟩
         rcases Nat.lt_or_ge j k with h3 | h3
         ·exact HALL.out j h3
         ·obtain rfl : j = k := by omega
          exact HBAD.out
        case measure => simp [intOf]; omega
      ·obtain ⟨p, hp⟩ : ∃ p, k - 1 = p := ⟨_, rfl⟩
       have g0 : decide ((0 : Int) < (k : Int)) = true := decide_eq_true (by omega)
       have g0' : decide (0 < k) = true := decide_eq_true (by omega)
       have s1 : (k : Int) - 1 = (p : Int) := by omega
       have s2 : IntKind.i64.wrap ((k : Int) - 1) = (p : Int) := by rw [s1, IntKind.wrap_i64]; omega
       have s3 : IntKind.i64.wrap (p : Int) = (p : Int) := by rw [IntKind.wrap_i64]; omega
       have P0 : (0 : Int) ≤ (p : Int) := by omega
       have P1 : (p : Int) < (n : Int) := by omega
       obtain ⟨ad2, e2, y0, y1, y2, y3, y4, y5, y6⟩ := at_T34 HC2.out (p : Int) P0 P1
       cases e2
       rw [Int.toNat_natCast] at y0 y1 y2 y3 y4 y5 y6
       obtain ⟨y, hy⟩ : ∃ y, rd_T34 l (p : Int) = y := ⟨_, rfl⟩
       rw [hy] at y0 y1 y2 y3 y4
       clear y5 y6
       obtain ⟨z, hz⟩ : ∃ z, cmpK y.f0 x.f0 = z := ⟨_, rfl⟩
       have hcmp := cmp_calls y.f0 x.f0
       rw [hz] at hcmp
       by_cases hz0 : 0 ≤ z
       ·have HBAD := Aside0.mk (show badAt l k = true from by
         unfold badAt
         rw [hp, hx, hy, hz, decide_eq_true hz0, decide_eq_true (show 0 < k by omega)]
         simp)
        have dz : decide (0 ≤ z) = true := decide_eq_true hz0
        clear hf1 hf2 hz hy hp hz0
        have x0 := cell_all x0
        have x1 := cell_all x1
        have x2 := cell_all x2
        have x3 := cell_all x3
        have x4 := cell_all x4
        have x5 := cell_all x5
        have x6 := cell_all x6
        have y0 := cell_all y0
        have y1 := cell_all y1
        have y2 := cell_all y2
        have y3 := cell_all y3
        have y4 := cell_all y4
        have G1 : ∀ W, Calls Try.prog 60 #[.int .i64 x.f1] W fun e w' => e = .returned (.bool false) ∧ Grw W w' := fun W => (F1 W).mono (by rintro e w' ⟨rfl, rfl⟩; exact ⟨rfl, Grw.refl _⟩)
        have G2 : ∀ W, Calls Try.prog 60 #[.int .i64 x.f2] W fun e w' => e = .returned (.bool false) ∧ Grw W w' := fun W => (F2 W).mono (by rintro e w' ⟨rfl, rfl⟩; exact ⟨rfl, Grw.refl _⟩)
        go_wp2_with fail
        refine wp_region_quiet_grown (by assumption) (by kernel_rfl) ?_
        repeat (first | go_big_quiet_skip | quiet_step (first | (go_at_call 60; (with_reducible refine Calls.grown_of (G1 _))) | (go_at_call 60; (with_reducible refine Calls.grown_of (G2 _))) | (go_at_call 29; (with_reducible refine Calls.grown_of (hcmp _)))))
        refine wpQuiet_nil ?_
        intro _ hw'
        obtain ⟨⟨nq, osq⟩, hw''⟩ := hw'
        subst hw''
        have HG5 := Aside0.mk (show Grw w _ from HG2.out.trans ⟨nq, osq, rfl⟩)
        all_goals
         go_wp2
         go_ret
         exact ⟨by rw [right_bad HK.out HBAD.out]; rfl, HG5.out⟩
       ·have HBAD := Aside0.mk (show badAt l k = false from by
         unfold badAt badC
         rw [hp, hx, hy, hz, decide_eq_false hz0]
         have hnz := HNZ.out
         simp [hf1, hf2]
         intro h1 h2
         exact hnz ⟨h1, h2⟩)
        have dz : decide (0 ≤ z) = false := decide_eq_false hz0
        clear hf1 hf2 hz hy hp hz0
        have x0 := cell_all x0
        have x1 := cell_all x1
        have x2 := cell_all x2
        have x3 := cell_all x3
        have x4 := cell_all x4
        have x5 := cell_all x5
        have x6 := cell_all x6
        have y0 := cell_all y0
        have y1 := cell_all y1
        have y2 := cell_all y2
        have y3 := cell_all y3
        have y4 := cell_all y4
        have G1 : ∀ W, Calls Try.prog 60 #[.int .i64 x.f1] W fun e w' => e = .returned (.bool false) ∧ Grw W w' := fun W => (F1 W).mono (by rintro e w' ⟨rfl, rfl⟩; exact ⟨rfl, Grw.refl _⟩)
        have G2 : ∀ W, Calls Try.prog 60 #[.int .i64 x.f2] W fun e w' => e = .returned (.bool false) ∧ Grw W w' := fun W => (F2 W).mono (by rintro e w' ⟨rfl, rfl⟩; exact ⟨rfl, Grw.refl _⟩)
        go_wp2_with fail
        refine wp_region_quiet_grown (by assumption) (by kernel_rfl) ?_
        repeat (first | go_big_quiet_skip | quiet_step (first | (go_at_call 60; (with_reducible refine Calls.grown_of (G1 _))) | (go_at_call 60; (with_reducible refine Calls.grown_of (G2 _))) | (go_at_call 29; (with_reducible refine Calls.grown_of (hcmp _)))))
        refine wpQuiet_nil ?_
        intro _ hw'
        obtain ⟨⟨nq, osq⟩, hw''⟩ := hw'
        subst hw''
        have HG5 := Aside0.mk (show Grw w _ from HG2.out.trans ⟨nq, osq, rfl⟩)
        all_goals
         go_wp2
         go_roundw
         case rel =>
          refine ⟨k + 1, by omega, by go_num, ⟨fun j hj => ?_⟩, HG5⟩
          rcases Nat.lt_or_ge j k with h3 | h3
          ·exact HALL.out j h3
          ·obtain rfl : j = k := by omega
           exact HBAD.out
         case measure => simp [intOf]; omega
  ·obtain rfl : k = n := by omega
   have d1 : decide ((k : Int) < (k : Int)) = false := decide_eq_false (by omega)
   have d2 : decide (k < k) = false := decide_eq_false (by omega)
   have HR := Aside0.mk (right_good (l := l) (fun j hj => HALL.out j (by rw [HN.out] at hj; exact hj)))
   go_wp2
   go_ret
   exact ⟨by rw [HR.out]; rfl, HG.out⟩
end Go.Proofs.Ytmflggbpiadkjaa.P
namespace Go.Proofs.Ytmflggbpiadkjaa.P
open Go.RowKit Go.Sort Go.Proofs.YtmflggbpiadkjaaW.PrintWords Go.Proofs.YtmflggbpiadkjaaW.PrintLast Go.Proofs.YtmflggbpiadkjaaW.PrintMore
set_option linter.unusedVariables false
set_option linter.unusedSimpArgs false
set_option maxHeartbeats 4000000 in
set_option maxRecDepth 100000 in
theorem refright_calls (A : Option Addr) (c : Nat) (l : List S34) (w : World) (h : Kd.C k34 w A l.length l) (hc : l.length ≤ c) :
  Calls Try.prog 23 #[.slice A l.length c] w fun e w' => e = .returned (.bool (rightB l)) ∧ Grw w w' := by
 have HC := Aside0.mk h
 obtain ⟨n, hn⟩ : ∃ n, l.length = n := ⟨_, rfl⟩
 have HMX := Aside0.mk (show n ≤ 9223372036854775807 from hn ▸ Kd.C_max h)
 have HN := Aside0.mk hn
 rw [hn] at hc HC ⊢
 clear h hn
 have HG0 := Aside0.mk (Grw.refl w)
 go_enter Try.func23, Try.ntmps23
 go_wp2
 go_loopw [2, 3, 4, 5, 6, 7, 8, 9, 10, 11, 12, 13, 14, 15, 16, 17, 18, 19, 20, 21, 22, 23, 24, 25, 26, 27, 28, 29, 30, 31, 32, 33, 34, 35, 36, 37, 38, 39, 40, 41, 42, 43, 44, 45, 46, 47, 48, 49, 50, 51, 52, 53, 54, 55, 56, 57, 58, 59, 60] (fun _ v _ _ _ _ _ _ _ _ _ _ _ _ _ _ _ _ _ _ _ _ _ _ _ _ _ _ _ _ _ _ _ _ _ _ _ _ _ _ _ _ _ _ _ _ _ _ _ _ _ _ _ _ _ _ _ _ _ wr => ∃ k : Nat, k ≤ n ∧ v = .int .i64 k ∧ Aside0 (∀ j : Nat, j < k → badAt l j = false) ∧ Aside0 (Grw w wr)) (fun _ v _ _ _ _ _ _ _ _ _ _ _ _ _ _ _ _ _ _ _ _ _ _ _ _ _ _ _ _ _ _ _ _ _ _ _ _ _ _ _ _ _ _ _ _ _ _ _ _ _ _ _ _ _ _ _ _ _ _ => n - (intOf v).toNat)
 case atStart => exact ⟨0, Nat.zero_le _, rfl, ⟨fun j hj => absurd hj (Nat.not_lt_zero _)⟩, HG0⟩
 case round =>
  clear HG0
  obtain ⟨k, hk, rfl, HALL, HG⟩ := hrel
  by_cases hlt : k < n
  ·have d1 : decide ((k : Int) < (n : Int)) = true := decide_eq_true (by omega)
   have d2 : decide (k < n) = true := decide_eq_true hlt
   have K0 : (0 : Int) ≤ (k : Int) := by omega
   have K1 : (k : Int) < (n : Int) := by omega
   have hmx := HMX.out
   have HK := Aside0.mk (show k < l.length from by rw [HN.out]; exact hlt)
   obtain ⟨ad, e, x0, x1, x2, x3, x4, x5, x6⟩ := at_T34 (Kd.C_below HC.out HG.out.below) (k : Int) K0 K1
   rw [Int.toNat_natCast] at x0 x1 x2 x3 x4 x5 x6
   obtain ⟨x, hx⟩ : ∃ x, rd_T34 l (k : Int) = x := ⟨_, rfl⟩
   rw [hx] at x0 x1 x2 x3 x4 x5 x6
   subst e
   go_upto_region 4 with (fail)
   have HG2 := HG
   clear HG
   rename World => w2
   have HC2 := Aside0.mk (Kd.C_below HC.out HG2.out.below)
   by_cases hA : x.f1 = 0
   ·have eA : (x.f1 == (0 : Int)) = true := by rw [hA]; rfl
    by_cases hB : x.f2 = 0
    ·have eB : (x.f2 == (0 : Int)) = true := by rw [hB]; rfl
     have HBAD := Aside0.mk (show badAt l k = true from by
      unfold badAt badC
      rw [hx]
      simp [hA, hB])
     clear hA hB
     go_region
     all_goals
      have HG5 := Aside0.mk (show Grw w w2.drew from HG2.out.drew)
      go_wp2
      go_ret
      exact ⟨by rw [right_bad HK.out HBAD.out]; rfl, HG5.out⟩
    ·have eB : (x.f2 == (0 : Int)) = false := beq_false_of_ne hB
     have HNZ := Aside0.mk (show ¬ (x.f1 = 0 ∧ x.f2 = 0) from fun h => hB h.2)
     clear hA hB
     have mixed : Try.prog.follows .mixedOrders = true := by kernel_rfl
     cases hf1 : fitB x.f1 with
     | false =>
      have HBAD := Aside0.mk (show badAt l k = true from by
       unfold badAt badC
       rw [hx]
       simp [hf1])
      have F1 : ∀ W, Calls Try.prog 59 #[.int .i64 x.f1] W fun e w' => e = .returned (.bool false) ∧ w' = W := fun W => fits_grw x.f1 hf1 W
      clear hf1
      go_wp2
      go_quiet (first | (go_at_call 59; (with_reducible refine (F1 _).mono ?_); rintro e_ w_ ⟨rfl, rfl⟩; exact ⟨rfl, _, rfl⟩))
      have HG5 := Aside0.mk (show Grw w _ from HG2.out.drewN nq)
      all_goals
       go_wp2
       go_ret
       exact ⟨by rw [right_bad HK.out HBAD.out]; rfl, HG5.out⟩
     | true =>
      have F1 : ∀ W, Calls Try.prog 59 #[.int .i64 x.f1] W fun e w' => e = .returned (.bool true) ∧ w' = W := fun W => fits_grw x.f1 hf1 W
      cases hf2 : fitB x.f2 with
      | false =>
       have HBAD := Aside0.mk (show badAt l k = true from by
        unfold badAt badC
        rw [hx]
        simp [hf2])
       have F2 : ∀ W, Calls Try.prog 59 #[.int .i64 x.f2] W fun e w' => e = .returned (.bool false) ∧ w' = W := fun W => fits_grw x.f2 hf2 W
       clear hf1 hf2
       go_wp2
       go_quiet (first | (go_at_call 59; (with_reducible refine (F1 _).mono ?_); rintro e_ w_ ⟨rfl, rfl⟩; exact ⟨rfl, _, rfl⟩) | (go_at_call 59; (with_reducible refine (F2 _).mono ?_); rintro e_ w_ ⟨rfl, rfl⟩; exact ⟨rfl, _, rfl⟩))
       have HG5 := Aside0.mk (show Grw w _ from HG2.out.drewN nq)
       all_goals
        go_wp2
        go_ret
        exact ⟨by rw [right_bad HK.out HBAD.out]; rfl, HG5.out⟩
      | true =>
       have F2 : ∀ W, Calls Try.prog 59 #[.int .i64 x.f2] W fun e w' => e = .returned (.bool true) ∧ w' = W := fun W => fits_grw x.f2 hf2 W
       by_cases h0 : k = 0
       ·have HBAD := Aside0.mk (show badAt l k = false from by
         unfold badAt badC
         rw [hx]
         have hnz := HNZ.out
         simp [hf1, hf2, h0]
         intro h1 h2
         exact hnz ⟨h1, h2⟩)
        have g0 : decide ((0 : Int) < (k : Int)) = false := decide_eq_false (by omega)
        have g0' : decide (0 < k) = false := decide_eq_false (by omega)
        clear hf1 hf2 h0
        go_wp2
        go_quiet (first | (go_at_call 59; (with_reducible refine (F1 _).mono ?_); rintro e_ w_ ⟨rfl, rfl⟩; exact ⟨rfl, _, rfl⟩) | (go_at_call 59; (with_reducible refine (F2 _).mono ?_); rintro e_ w_ ⟨rfl, rfl⟩; exact ⟨rfl, _, rfl⟩))
        have HG5 := Aside0.mk (show Grw w _ from HG2.out.drewN nq)
        all_goals
         go_wp2
         go_roundw
         case rel =>
          refine ⟨k + 1, by omega, by go_num, ⟨fun j hj => ?_⟩, HG5⟩
          rcases Nat.lt_or_ge j k with h3 | h3
          ·exact HALL.out j h3
          ·obtain rfl : j = k := by omega
           exact HBAD.out
         case measure => simp [intOf]; omega
       ·obtain ⟨p, hp⟩ : ∃ p, k - 1 = p := ⟨_, rfl⟩
        have g0 : decide ((0 : Int) < (k : Int)) = true := decide_eq_true (by omega)
        have g0' : decide (0 < k) = true := decide_eq_true (by omega)
        have s1 : (k : Int) - 1 = (p : Int) := by omega
        have s2 : IntKind.i64.wrap ((k : Int) - 1) = (p : Int) := by rw [s1, IntKind.wrap_i64]; omega
        have s3 : IntKind.i64.wrap (p : Int) = (p : Int) := by rw [IntKind.wrap_i64]; omega
        have P0 : (0 : Int) ≤ (p : Int) := by omega
        have P1 : (p : Int) < (n : Int) := by omega
        obtain ⟨ad2, e2, y0, y1, y2, y3, y4, y5, y6⟩ := at_T34 HC2.out (p : Int) P0 P1
        cases e2
        rw [Int.toNat_natCast] at y0 y1 y2 y3 y4 y5 y6
        obtain ⟨y, hy⟩ : ∃ y, rd_T34 l (p : Int) = y := ⟨_, rfl⟩
        rw [hy] at y0 y1 y2 y3 y4
        clear y5 y6
        obtain ⟨z, hz⟩ : ∃ z, cmpK y.f0 x.f0 = z := ⟨_, rfl⟩
        have hcmp := refcmp_calls y.f0 x.f0
        rw [hz] at hcmp
        by_cases hz0 : 0 ≤ z
        ·have HBAD := Aside0.mk (show badAt l k = true from by
          unfold badAt
          rw [hp, hx, hy, hz, decide_eq_true hz0, decide_eq_true (show 0 < k by omega)]
          simp)
         have dz : decide (0 ≤ z) = true := decide_eq_true hz0
         clear hf1 hf2 hz hy hp hz0
         have x0 := cell_all x0
         have x1 := cell_all x1
         have x2 := cell_all x2
         have x3 := cell_all x3
         have x4 := cell_all x4
         have x5 := cell_all x5
         have x6 := cell_all x6
         have y0 := cell_all y0
         have y1 := cell_all y1
         have y2 := cell_all y2
         have y3 := cell_all y3
         have y4 := cell_all y4
         have G1 : ∀ W, Calls Try.prog 59 #[.int .i64 x.f1] W fun e w' => e = .returned (.bool true) ∧ Grw W w' := fun W => (F1 W).mono (by rintro e w' ⟨rfl, rfl⟩; exact ⟨rfl, Grw.refl _⟩)
         have G2 : ∀ W, Calls Try.prog 59 #[.int .i64 x.f2] W fun e w' => e = .returned (.bool true) ∧ Grw W w' := fun W => (F2 W).mono (by rintro e w' ⟨rfl, rfl⟩; exact ⟨rfl, Grw.refl _⟩)
         go_wp2_with fail
         refine wp_region_quiet_grown (by assumption) (by kernel_rfl) ?_
         repeat (first | go_big_quiet_skip | quiet_step (first | (go_at_call 59; (with_reducible refine Calls.grown_of (G1 _))) | (go_at_call 59; (with_reducible refine Calls.grown_of (G2 _))) | (go_at_call 30; (with_reducible refine Calls.grown_of (hcmp _)))))
         refine wpQuiet_nil ?_
         intro _ hw'
         obtain ⟨⟨nq, osq⟩, hw''⟩ := hw'
         subst hw''
         have HG5 := Aside0.mk (show Grw w _ from HG2.out.trans ⟨nq, osq, rfl⟩)
         all_goals
          go_wp2
          go_ret
          exact ⟨by rw [right_bad HK.out HBAD.out]; rfl, HG5.out⟩
        ·have HBAD := Aside0.mk (show badAt l k = false from by
          unfold badAt badC
          rw [hp, hx, hy, hz, decide_eq_false hz0]
          have hnz := HNZ.out
          simp [hf1, hf2]
          intro h1 h2
          exact hnz ⟨h1, h2⟩)
         have dz : decide (0 ≤ z) = false := decide_eq_false hz0
         clear hf1 hf2 hz hy hp hz0
         have x0 := cell_all x0
         have x1 := cell_all x1
         have x2 := cell_all x2
         have x3 := cell_all x3
         have x4 := cell_all x4
         have x5 := cell_all x5
         have x6 := cell_all x6
         have y0 := cell_all y0
         have y1 := cell_all y1
         have y2 := cell_all y2
         have y3 := cell_all y3
         have y4 := cell_all y4
         have G1 : ∀ W, Calls Try.prog 59 #[.int .i64 x.f1] W fun e w' => e = .returned (.bool true) ∧ Grw W w' := fun W => (F1 W).mono (by rintro e w' ⟨rfl, rfl⟩; exact ⟨rfl, Grw.refl _⟩)
         have G2 : ∀ W, Calls Try.prog 59 #[.int .i64 x.f2] W fun e w' => e = .returned (.bool true) ∧ Grw W w' := fun W => (F2 W).mono (by rintro e w' ⟨rfl, rfl⟩; exact ⟨rfl, Grw.refl _⟩)
         go_wp2_with fail
         refine wp_region_quiet_grown (by assumption) (by kernel_rfl) ?_
         repeat (first | go_big_quiet_skip | quiet_step (first | (go_at_call 59; (with_reducible refine Calls.grown_of (G1 _))) | (go_at_call 59; (with_reducible refine Calls.grown_of (G2 _))) | (go_at_call 30; (with_reducible refine Calls.grown_of (hcmp _)))))
         refine wpQuiet_nil ?_
         intro _ hw'
         obtain ⟨⟨nq, osq⟩, hw''⟩ := hw'
         subst hw''
         have HG5 := Aside0.mk (show Grw w _ from HG2.out.trans ⟨nq, osq, rfl⟩)
         all_goals
          go_wp2
          go_roundw
          case rel =>
           refine ⟨k + 1, by omega, by go_num, ⟨fun j hj => ?_⟩, HG5⟩
           rcases Nat.lt_or_ge j k with h3 | h3
           ·exact HALL.out j h3
           ·obtain rfl : j = k := by omega
            exact HBAD.out
          case measure => simp [intOf]; omega
   ·have eA : (x.f1 == (0 : Int)) = false := beq_false_of_ne hA
    have HNZ := Aside0.mk (show ¬ (x.f1 = 0 ∧ x.f2 = 0) from fun h => hA h.1)
    clear hA
    have mixed : Try.prog.follows .mixedOrders = true := by kernel_rfl
    cases hf1 : fitB x.f1 with
    | false =>
     have HBAD := Aside0.mk (show badAt l k = true from by
      unfold badAt badC
      rw [hx]
      simp [hf1])
     have F1 : ∀ W, Calls Try.prog 59 #[.int .i64 x.f1] W fun e w' => e = .returned (.bool false) ∧ w' = W := fun W => fits_grw x.f1 hf1 W
     clear hf1
     go_wp2
     go_quiet (first | (go_at_call 59; (with_reducible refine (F1 _).mono ?_); rintro e_ w_ ⟨rfl, rfl⟩; exact ⟨rfl, _, rfl⟩))
     have HG5 := Aside0.mk (show Grw w _ from HG2.out.drewN nq)
     all_goals
      go_wp2
      go_ret
      exact ⟨by rw [right_bad HK.out HBAD.out]; rfl, HG5.out⟩
    | true =>
     have F1 : ∀ W, Calls Try.prog 59 #[.int .i64 x.f1] W fun e w' => e = .returned (.bool true) ∧ w' = W := fun W => fits_grw x.f1 hf1 W
     cases hf2 : fitB x.f2 with
     | false =>
      have HBAD := Aside0.mk (show badAt l k = true from by
       unfold badAt badC
       rw [hx]
       simp [hf2])
      have F2 : ∀ W, Calls Try.prog 59 #[.int .i64 x.f2] W fun e w' => e = .returned (.bool false) ∧ w' = W := fun W => fits_grw x.f2 hf2 W
      clear hf1 hf2
      go_wp2
      go_quiet (first | (go_at_call 59; (with_reducible refine (F1 _).mono ?_); rintro e_ w_ ⟨rfl, rfl⟩; exact ⟨rfl, _, rfl⟩) | (go_at_call 59; (with_reducible refine (F2 _).mono ?_); rintro e_ w_ ⟨rfl, rfl⟩; exact ⟨rfl, _, rfl⟩))
      have HG5 := Aside0.mk (show Grw w _ from HG2.out.drewN nq)
      all_goals
       go_wp2
       go_ret
       exact ⟨by rw [right_bad HK.out HBAD.out]; rfl, HG5.out⟩
     | true =>
      have F2 : ∀ W, Calls Try.prog 59 #[.int .i64 x.f2] W fun e w' => e = .returned (.bool true) ∧ w' = W := fun W => fits_grw x.f2 hf2 W
      by_cases h0 : k = 0
      ·have HBAD := Aside0.mk (show badAt l k = false from by
        unfold badAt badC
        rw [hx]
        have hnz := HNZ.out
        simp [hf1, hf2, h0]
        intro h1 h2
        exact hnz ⟨h1, h2⟩)
       have g0 : decide ((0 : Int) < (k : Int)) = false := decide_eq_false (by omega)
       have g0' : decide (0 < k) = false := decide_eq_false (by omega)
       clear hf1 hf2 h0
       go_wp2
       go_quiet (first | (go_at_call 59; (with_reducible refine (F1 _).mono ?_); rintro e_ w_ ⟨rfl, rfl⟩; exact ⟨rfl, _, rfl⟩) | (go_at_call 59; (with_reducible refine (F2 _).mono ?_); rintro e_ w_ ⟨rfl, rfl⟩; exact ⟨rfl, _, rfl⟩))
       have HG5 := Aside0.mk (show Grw w _ from HG2.out.drewN nq)
       all_goals
        go_wp2
        go_roundw
        case rel =>
         refine ⟨k + 1, by omega, by go_num, ⟨fun j hj => ?_⟩, HG5⟩
         rcases Nat.lt_or_ge j k with h3 | h3
         ·exact HALL.out j h3
         ·obtain rfl : j = k := by omega
          exact HBAD.out
        case measure => simp [intOf]; omega
      ·obtain ⟨p, hp⟩ : ∃ p, k - 1 = p := ⟨_, rfl⟩
       have g0 : decide ((0 : Int) < (k : Int)) = true := decide_eq_true (by omega)
       have g0' : decide (0 < k) = true := decide_eq_true (by omega)
       have s1 : (k : Int) - 1 = (p : Int) := by omega
       have s2 : IntKind.i64.wrap ((k : Int) - 1) = (p : Int) := by rw [s1, IntKind.wrap_i64]; omega
       have s3 : IntKind.i64.wrap (p : Int) = (p : Int) := by rw [IntKind.wrap_i64]; omega
       have P0 : (0 : Int) ≤ (p : Int) := by omega
       have P1 : (p : Int) < (n : Int) := by omega
       obtain ⟨ad2, e2, y0, y1, y2, y3, y4, y5, y6⟩ := at_T34 HC2.out (p : Int) P0 P1
       cases e2
       rw [Int.toNat_natCast] at y0 y1 y2 y3 y4 y5 y6
       obtain ⟨y, hy⟩ : ∃ y, rd_T34 l (p : Int) = y := ⟨_, rfl⟩
       rw [hy] at y0 y1 y2 y3 y4
       clear y5 y6
       obtain ⟨z, hz⟩ : ∃ z, cmpK y.f0 x.f0 = z := ⟨_, rfl⟩
       have hcmp := refcmp_calls y.f0 x.f0
       rw [hz] at hcmp
       by_cases hz0 : 0 ≤ z
       ·have HBAD := Aside0.mk (show badAt l k = true from by
         unfold badAt
         rw [hp, hx, hy, hz, decide_eq_true hz0, decide_eq_true (show 0 < k by omega)]
         simp)
        have dz : decide (0 ≤ z) = true := decide_eq_true hz0
        clear hf1 hf2 hz hy hp hz0
        have x0 := cell_all x0
        have x1 := cell_all x1
        have x2 := cell_all x2
        have x3 := cell_all x3
        have x4 := cell_all x4
        have x5 := cell_all x5
        have x6 := cell_all x6
        have y0 := cell_all y0
        have y1 := cell_all y1
        have y2 := cell_all y2
        have y3 := cell_all y3
        have y4 := cell_all y4
        have G1 : ∀ W, Calls Try.prog 59 #[.int .i64 x.f1] W fun e w' => e = .returned (.bool true) ∧ Grw W w' := fun W => (F1 W).mono (by rintro e w' ⟨rfl, rfl⟩; exact ⟨rfl, Grw.refl _⟩)
        have G2 : ∀ W, Calls Try.prog 59 #[.int .i64 x.f2] W fun e w' => e = .returned (.bool true) ∧ Grw W w' := fun W => (F2 W).mono (by rintro e w' ⟨rfl, rfl⟩; exact ⟨rfl, Grw.refl _⟩)
        go_wp2_with fail
        refine wp_region_quiet_grown (by assumption) (by kernel_rfl) ?_
        repeat (first | go_big_quiet_skip | quiet_step (first | (go_at_call 59; (with_reducible refine Calls.grown_of (G1 _))) | (go_at_call 59; (with_reducible refine Calls.grown_of (G2 _))) | (go_at_call 30; (with_reducible refine Calls.grown_of (hcmp _)))))
        refine wpQuiet_nil ?_
        intro _ hw'
        obtain ⟨⟨nq, osq⟩, hw''⟩ := hw'
        subst hw''
        have HG5 := Aside0.mk (show Grw w _ from HG2.out.trans ⟨nq, osq, rfl⟩)
        all_goals
         go_wp2
         go_ret
         exact ⟨by rw [right_bad HK.out HBAD.out]; rfl, HG5.out⟩
       ·have HBAD := Aside0.mk (show badAt l k = false from by
         unfold badAt badC
         rw [hp, hx, hy, hz, decide_eq_false hz0]
         have hnz := HNZ.out
         simp [hf1, hf2]
         intro h1 h2
         exact hnz ⟨h1, h2⟩)
        have dz : decide (0 ≤ z) = false := decide_eq_false hz0
        clear hf1 hf2 hz hy hp hz0
        have x0 := cell_all x0
        have x1 := cell_all x1
        have x2 := cell_all x2
        have x3 := cell_all x3
        have x4 := cell_all x4
        have x5 := cell_all x5
        have x6 := cell_all x6
        have y0 := cell_all y0
        have y1 := cell_all y1
        have y2 := cell_all y2
        have y3 := cell_all y3
        have y4 := cell_all y4
        have G1 : ∀ W, Calls Try.prog 59 #[.int .i64 x.f1] W fun e w' => e = .returned (.bool true) ∧ Grw W w' := fun W => (F1 W).mono (by rintro e w' ⟨rfl, rfl⟩; exact ⟨rfl, Grw.refl _⟩)
        have G2 : ∀ W, Calls Try.prog 59 #[.int .i64 x.f2] W fun e w' => e = .returned (.bool true) ∧ Grw W w' := fun W => (F2 W).mono (by rintro e w' ⟨rfl, rfl⟩; exact ⟨rfl, Grw.refl _⟩)
        go_wp2_with fail
        refine wp_region_quiet_grown (by assumption) (by kernel_rfl) ?_
        repeat (first | go_big_quiet_skip | quiet_step (first | (go_at_call 59; (with_reducible refine Calls.grown_of (G1 _))) | (go_at_call 59; (with_reducible refine Calls.grown_of (G2 _))) | (go_at_call 30; (with_reducible refine Calls.grown_of (hcmp _)))))
        refine wpQuiet_nil ?_
        intro _ hw'
        obtain ⟨⟨nq, osq⟩, hw''⟩ := hw'
        subst hw''
        have HG5 := Aside0.mk (show Grw w _ from HG2.out.trans ⟨nq, osq, rfl⟩)
        all_goals
         go_wp2
         go_roundw
         case rel =>
          refine ⟨k + 1, by omega, by go_num, ⟨fun j hj => ?_⟩, HG5⟩
          rcases Nat.lt_or_ge j k with h3 | h3
          ·exact HALL.out j h3
          ·obtain rfl : j = k := by omega
           exact HBAD.out
         case measure => simp [intOf]; omega
  ·obtain rfl : k = n := by omega
   have d1 : decide ((k : Int) < (k : Int)) = false := decide_eq_false (by omega)
   have d2 : decide (k < k) = false := decide_eq_false (by omega)
   have HR := Aside0.mk (right_good (l := l) (fun j hj => HALL.out j (by rw [HN.out] at hj; exact hj)))
   go_wp2
   go_ret
   exact ⟨by rw [HR.out]; rfl, HG.out⟩
end Go.Proofs.Ytmflggbpiadkjaa.P
namespace Go.Proofs.Ytmflggbpiadkjaa.P
open Go.RowKit Go.Sort Go.Proofs.YtmflggbpiadkjaaW.PrintWords Go.Proofs.YtmflggbpiadkjaaW.PrintLast Go.Proofs.YtmflggbpiadkjaaW.PrintMore
set_option linter.unusedVariables false
def sheet_Right.f (l0 : List S34) : Option Bool := some (rightB l0)
theorem sheet_Right.calls (A0 : Option Addr) (c0 : Nat) (l0 : List (S34)) (r : Bool) (w : World) (hr0 : Kd.C k34 w A0 l0.length l0) (hc0 : l0.length ≤ c0) (h : sheet_Right.f l0 = some r) :
  Calls Try.prog 22 #[.slice A0 l0.length c0] w fun e w' => e = .returned (.bool r) ∧ Below w.heap.size w w' := by
 cases h
 refine (right_calls A0 c0 l0 w hr0 hc0).mono ?_
 rintro e w' ⟨rfl, hg⟩
 exact ⟨rfl, hg.below⟩
def accountingref19_Right.f (l0 : List S34) : Option Bool := some (rightB l0)
theorem accountingref19_Right.calls (A0 : Option Addr) (c0 : Nat) (l0 : List (S34)) (r : Bool) (w : World) (hr0 : Kd.C k34 w A0 l0.length l0) (hc0 : l0.length ≤ c0) (h : accountingref19_Right.f l0 = some r) :
  Calls Try.prog 23 #[.slice A0 l0.length c0] w fun e w' => e = .returned (.bool r) ∧ Below w.heap.size w w' := by
 cases h
 refine (refright_calls A0 c0 l0 w hr0 hc0).mono ?_
 rintro e w' ⟨rfl, hg⟩
 exact ⟨rfl, hg.below⟩
end Go.Proofs.Ytmflggbpiadkjaa.P
namespace Go.Proofs.Ytmflggbpiadkjaa.P
open Go.RowKit Go.Proofs.YtmflggbpiadkjaaW.PrintWords Go.Proofs.YtmflggbpiadkjaaW.PrintLast Go.Proofs.YtmflggbpiadkjaaW.PrintMore
def strings_Compare.f (a0 : ByteArray) (a1 : ByteArray) : Option Int := some (cmpB a0 a1)
theorem strings_Compare.calls (a0 : ByteArray) (a1 : ByteArray) (r : Int) (w : World) (h : strings_Compare.f a0 a1 = some r) :
  Calls Try.prog 66 #[.string a0, .string a1] w fun e w' => e = .returned (.int .i64 r) ∧ Drawn0 w w' := by
 cases h
 refine (compare_calls a0 a1 w).mono ?_
 rintro e w' ⟨rfl, rfl⟩
 exact ⟨rfl, Drawn0.refl _⟩
end Go.Proofs.Ytmflggbpiadkjaa.P
namespace Go.Proofs.Ytmflggbpiadkjaa.P
open Go.RowKit Go.Proofs.YtmflggbpiadkjaaW.PrintWords Go.Proofs.YtmflggbpiadkjaaW.PrintLast Go.Proofs.YtmflggbpiadkjaaW.PrintMore
attribute [local go_sem] max2_int min2_int max_two min_two max_three min_three max_four min_four
set_option linter.unusedVariables false
set_option linter.unusedSimpArgs false
def interco_compare.f (a0_0 : ByteArray) (a0_1 : ByteArray) (a0_2 : Int) (a1_0 : ByteArray) (a1_1 : ByteArray) (a1_2 : Int) : Option (Int) := (strings_Compare.f a0_0 a1_0).bind fun t576 => (if t576 = 0 then ((strings_Compare.f a0_1 a1_1).bind fun t577 => (some t577)) else (some t576))
set_option maxHeartbeats 8000000 in
set_option maxRecDepth 100000 in
theorem interco_compare.calls (a0_0 : ByteArray) (a0_1 : ByteArray) (a0_2 : Int) (a1_0 : ByteArray) (a1_1 : ByteArray) (a1_2 : Int) (r : Int) (w : World) (h : interco_compare.f a0_0 a0_1 a0_2 a1_0 a1_1 a1_2 = some r) :
  Calls Try.prog 100 #[.agg #[.string a0_0, .string a0_1, .int .i64 a0_2], .agg #[.string a1_0, .string a1_1, .int .i64 a1_2]] w fun e w' => e = .returned (.int .i64 r) ∧ Below w.heap.size w w' := by
 have hu89 := Try.underlying89
 have HB := Aside0.mk (Below.refl w.heap.size w)
 have H : ((strings_Compare.f a0_0 a1_0).bind fun t576 => (if t576 = 0 then ((strings_Compare.f a0_1 a1_1).bind fun t577 => (some t577)) else (some t576))) = some r := h
 clear h
 replace H := Option.bind_eq_some_iff.mp H
 obtain ⟨t576, A30, H⟩ := H
 try dsimp only at H
 have A3 := Aside0.mk A30
 clear A30
 by_cases c4 : t576 = 0
 ·rw [if_pos c4] at H
  have c4b0 : (t576 == 0) = true := beq_iff_eq.mpr c4
  have c4b1 : (t576 != 0) = false := bne_eq_false_iff_eq.mpr c4
  clear c4
  replace H := Option.bind_eq_some_iff.mp H
  obtain ⟨t577, A50, H⟩ := H
  replace H : (some t577) = some r := H
  have A5 := Aside0.mk A50
  clear A50
  obtain rfl := Option.some.inj H
  go_enter Try.func100, Try.ntmps100
  go_wp2_with (first | ((with_reducible refine gate_dst (N := 2) rfl ?_); refine box_event ?hg (N := 2) ?hd (cs := #[.string a0_0, .string a0_1, .int .i64 a0_2]) (t := 89) ?hr ?_; (case hd => rfl); (case hg => rfl); (case hr => first | (go_simp; done) | (go_simp; rfl)); intro gb574 hg w6 hbox hb; have n0_ := Aside0.mk (below_step (by repeat (first | (with_reducible first | exact HB.out | apply below_alloc | apply pw_below_drewN | apply below_drew1) | exact HB.out)) hb); have n1_ := Aside0.mk (hbox); have n2_ := Aside0.mk ((by rw [hg]; exact (below_size (by repeat (first | (with_reducible first | exact HB.out | apply below_alloc | apply pw_below_drewN | apply below_drew1) | exact HB.out))) : w.heap.size ≤ gb574)); have n3_ := Aside0.mk ((by rw [hg]; exact (below_size (by repeat (first | (with_reducible first | exact HB.out | apply below_alloc | apply pw_below_drewN | apply below_drew1) | exact HB.out))) : w.heap.size ≤ gb574)); clear HB; have HB := n0_; have BK574 := n1_; have GW574 := n2_; have GE574 := n3_; clear n0_ n1_ n2_ n3_; clear hb hbox hg) | ((with_reducible refine gate_dst (N := 3) rfl ?_); refine box_event ?hg (N := 3) ?hd (cs := #[.string a1_0, .string a1_1, .int .i64 a1_2]) (t := 89) ?hr ?_; (case hd => rfl); (case hg => rfl); (case hr => first | (go_simp; done) | (go_simp; rfl)); intro gb575 hg w7 hbox hb; have n0_ := Aside0.mk (blk_below (g := gb574) (o := .cells #[.string a0_0, .string a0_1, .int .i64 a0_2] 89 (0, 0)) (by (with_reducible repeat (first | refine blk_drewN ?_ _ | refine blk_drew ?_ | refine blk_alloc ?_ _)); exact BK574.out) hb); have n1_ := Aside0.mk (below_step (by repeat (first | (with_reducible first | exact HB.out | apply below_alloc | apply pw_below_drewN | apply below_drew1 | refine below_set ?_ GE574.out) | exact HB.out)) hb); have n2_ := Aside0.mk (hbox); have n3_ := Aside0.mk ((by rw [hg]; exact (below_size (by repeat (first | (with_reducible first | exact HB.out | apply below_alloc | apply pw_below_drewN | apply below_drew1 | refine below_set ?_ GE574.out) | exact HB.out))) : w.heap.size ≤ gb575)); have n4_ := Aside0.mk ((by rw [hg]; exact (below_size (by repeat (first | (with_reducible first | exact HB.out | apply below_alloc | apply pw_below_drewN | apply below_drew1 | refine below_set ?_ GE574.out) | exact HB.out))) : w.heap.size ≤ gb575)); have n5_ := Aside0.mk ((by rw [hg]; exact Nat.ne_of_lt (blk_lt (g := gb574) (o := .cells #[.string a0_0, .string a0_1, .int .i64 a0_2] 89 (0, 0)) (by (with_reducible repeat (first | refine blk_drewN ?_ _ | refine blk_drew ?_ | refine blk_alloc ?_ _)); exact BK574.out)) : gb574 ≠ gb575)); have n6_ := Aside0.mk ((by rw [hg]; exact Nat.ne_of_gt (blk_lt (g := gb574) (o := .cells #[.string a0_0, .string a0_1, .int .i64 a0_2] 89 (0, 0)) (by (with_reducible repeat (first | refine blk_drewN ?_ _ | refine blk_drew ?_ | refine blk_alloc ?_ _)); exact BK574.out)) : gb575 ≠ gb574)); clear BK574; clear HB; have BK574 := n0_; have HB := n1_; have BK575 := n2_; have GW575 := n3_; have GE575 := n4_; have NB574_575 := n5_; have NB575_574 := n6_; clear n0_ n1_ n2_ n3_ n4_ n5_ n6_; clear hb hbox hg; have hnb8 := NB574_575.out; have hnc8 := NB575_574.out; have hcz9_0 : w7.cell? ⟨gb574, 0, none⟩ = some (.string a0_0) := (blk_cell BK574.out 0).trans rfl; have hcz9_1 : w7.cell? ⟨gb574, 1, none⟩ = some (.string a0_1) := (blk_cell BK574.out 1).trans rfl; have hcz9_2 : w7.cell? ⟨gb574, 2, none⟩ = some (.int .i64 a0_2) := (blk_cell BK574.out 2).trans rfl; have hfz9_0 := blk_frozen BK574.out 0; have hfz9_1 := blk_frozen BK574.out 1; have hfz9_2 := blk_frozen BK574.out 2; have hcz10_0 : w7.cell? ⟨gb575, 0, none⟩ = some (.string a1_0) := (blk_cell BK575.out 0).trans rfl; have hcz10_1 : w7.cell? ⟨gb575, 1, none⟩ = some (.string a1_1) := (blk_cell BK575.out 1).trans rfl; have hcz10_2 : w7.cell? ⟨gb575, 2, none⟩ = some (.int .i64 a1_2) := (blk_cell BK575.out 2).trans rfl; have hfz10_0 := blk_frozen BK575.out 0; have hfz10_1 := blk_frozen BK575.out 1; have hfz10_2 := blk_frozen BK575.out 2) | ((with_reducible refine gate_callee (f := 66) rfl ?_); refine goesL_ (some 10) rfl rfl Try.func66 (by kernel_rfl) rfl #[.string a0_0, .string a1_0] rfl (by (try simp only [List.map_toArray, List.map_cons, List.map_nil]); first | done | rfl | (simp only [List.length_drop, List.length_take]; rfl)) ?_; (with_reducible refine (strings_Compare.calls a0_0 a1_0 t576 _ A3.out).mono ?_); rintro e w' ⟨rfl, ⟨nd, rfl⟩⟩; refine ⟨_, rfl, ?_⟩) | ((with_reducible refine gate_callee (f := 66) rfl ?_); refine goesL_ (some 18) rfl rfl Try.func66 (by kernel_rfl) rfl #[.string a0_1, .string a1_1] rfl (by (try simp only [List.map_toArray, List.map_cons, List.map_nil]); first | done | rfl | (simp only [List.length_drop, List.length_take]; rfl)) ?_; (with_reducible refine (strings_Compare.calls a0_1 a1_1 t577 _ A5.out).mono ?_); rintro e w' ⟨rfl, ⟨nd, rfl⟩⟩; refine ⟨_, rfl, ?_⟩))
  go_ret
  exact ⟨by first | rfl | (simp [errW_none, errW_some] <;> rfl) | (simp [*, errW_none, errW_some] <;> rfl), by repeat (first | (with_reducible first | exact HB.out | apply below_alloc | apply pw_below_drewN | apply below_drew1 | refine below_set ?_ GE574.out | refine below_set ?_ GE575.out) | exact HB.out)⟩
 ·rw [if_neg c4] at H
  have c4b0 : (t576 == 0) = false := beq_eq_false_iff_ne.mpr c4
  have c4b1 : (t576 != 0) = true := bne_iff_ne.mpr c4
  obtain rfl := Option.some.inj H
  go_enter Try.func100, Try.ntmps100
  go_wp2_with (first | ((with_reducible refine gate_dst (N := 2) rfl ?_); refine box_event ?hg (N := 2) ?hd (cs := #[.string a0_0, .string a0_1, .int .i64 a0_2]) (t := 89) ?hr ?_; (case hd => rfl); (case hg => rfl); (case hr => first | (go_simp; done) | (go_simp; rfl)); intro gb574 hg w11 hbox hb; have n0_ := Aside0.mk (below_step (by repeat (first | (with_reducible first | exact HB.out | apply below_alloc | apply pw_below_drewN | apply below_drew1) | exact HB.out)) hb); have n1_ := Aside0.mk (hbox); have n2_ := Aside0.mk ((by rw [hg]; exact (below_size (by repeat (first | (with_reducible first | exact HB.out | apply below_alloc | apply pw_below_drewN | apply below_drew1) | exact HB.out))) : w.heap.size ≤ gb574)); have n3_ := Aside0.mk ((by rw [hg]; exact (below_size (by repeat (first | (with_reducible first | exact HB.out | apply below_alloc | apply pw_below_drewN | apply below_drew1) | exact HB.out))) : w.heap.size ≤ gb574)); clear HB; have HB := n0_; have BK574 := n1_; have GW574 := n2_; have GE574 := n3_; clear n0_ n1_ n2_ n3_; clear hb hbox hg) | ((with_reducible refine gate_dst (N := 3) rfl ?_); refine box_event ?hg (N := 3) ?hd (cs := #[.string a1_0, .string a1_1, .int .i64 a1_2]) (t := 89) ?hr ?_; (case hd => rfl); (case hg => rfl); (case hr => first | (go_simp; done) | (go_simp; rfl)); intro gb575 hg w12 hbox hb; have n0_ := Aside0.mk (blk_below (g := gb574) (o := .cells #[.string a0_0, .string a0_1, .int .i64 a0_2] 89 (0, 0)) (by (with_reducible repeat (first | refine blk_drewN ?_ _ | refine blk_drew ?_ | refine blk_alloc ?_ _)); exact BK574.out) hb); have n1_ := Aside0.mk (below_step (by repeat (first | (with_reducible first | exact HB.out | apply below_alloc | apply pw_below_drewN | apply below_drew1 | refine below_set ?_ GE574.out) | exact HB.out)) hb); have n2_ := Aside0.mk (hbox); have n3_ := Aside0.mk ((by rw [hg]; exact (below_size (by repeat (first | (with_reducible first | exact HB.out | apply below_alloc | apply pw_below_drewN | apply below_drew1 | refine below_set ?_ GE574.out) | exact HB.out))) : w.heap.size ≤ gb575)); have n4_ := Aside0.mk ((by rw [hg]; exact (below_size (by repeat (first | (with_reducible first | exact HB.out | apply below_alloc | apply pw_below_drewN | apply below_drew1 | refine below_set ?_ GE574.out) | exact HB.out))) : w.heap.size ≤ gb575)); have n5_ := Aside0.mk ((by rw [hg]; exact Nat.ne_of_lt (blk_lt (g := gb574) (o := .cells #[.string a0_0, .string a0_1, .int .i64 a0_2] 89 (0, 0)) (by (with_reducible repeat (first | refine blk_drewN ?_ _ | refine blk_drew ?_ | refine blk_alloc ?_ _)); exact BK574.out)) : gb574 ≠ gb575)); have n6_ := Aside0.mk ((by rw [hg]; exact Nat.ne_of_gt (blk_lt (g := gb574) (o := .cells #[.string a0_0, .string a0_1, .int .i64 a0_2] 89 (0, 0)) (by (with_reducible repeat (first | refine blk_drewN ?_ _ | refine blk_drew ?_ | refine blk_alloc ?_ _)); exact BK574.out)) : gb575 ≠ gb574)); clear BK574; clear HB; have BK574 := n0_; have HB := n1_; have BK575 := n2_; have GW575 := n3_; have GE575 := n4_; have NB574_575 := n5_; have NB575_574 := n6_; clear n0_ n1_ n2_ n3_ n4_ n5_ n6_; clear hb hbox hg; have hnb13 := NB574_575.out; have hnc13 := NB575_574.out; have hcz14_0 : w12.cell? ⟨gb574, 0, none⟩ = some (.string a0_0) := (blk_cell BK574.out 0).trans rfl; have hcz14_1 : w12.cell? ⟨gb574, 1, none⟩ = some (.string a0_1) := (blk_cell BK574.out 1).trans rfl; have hcz14_2 : w12.cell? ⟨gb574, 2, none⟩ = some (.int .i64 a0_2) := (blk_cell BK574.out 2).trans rfl; have hfz14_0 := blk_frozen BK574.out 0; have hfz14_1 := blk_frozen BK574.out 1; have hfz14_2 := blk_frozen BK574.out 2; have hcz15_0 : w12.cell? ⟨gb575, 0, none⟩ = some (.string a1_0) := (blk_cell BK575.out 0).trans rfl; have hcz15_1 : w12.cell? ⟨gb575, 1, none⟩ = some (.string a1_1) := (blk_cell BK575.out 1).trans rfl; have hcz15_2 : w12.cell? ⟨gb575, 2, none⟩ = some (.int .i64 a1_2) := (blk_cell BK575.out 2).trans rfl; have hfz15_0 := blk_frozen BK575.out 0; have hfz15_1 := blk_frozen BK575.out 1; have hfz15_2 := blk_frozen BK575.out 2) | ((with_reducible refine gate_callee (f := 66) rfl ?_); refine goesL_ (some 10) rfl rfl Try.func66 (by kernel_rfl) rfl #[.string a0_0, .string a1_0] rfl (by (try simp only [List.map_toArray, List.map_cons, List.map_nil]); first | done | rfl | (simp only [List.length_drop, List.length_take]; rfl)) ?_; (with_reducible refine (strings_Compare.calls a0_0 a1_0 t576 _ A3.out).mono ?_); rintro e w' ⟨rfl, ⟨nd, rfl⟩⟩; refine ⟨_, rfl, ?_⟩))
  go_ret
  exact ⟨by first | rfl | (simp [errW_none, errW_some] <;> rfl) | (simp [*, errW_none, errW_some] <;> rfl), by repeat (first | (with_reducible first | exact HB.out | apply below_alloc | apply pw_below_drewN | apply below_drew1 | refine below_set ?_ GE574.out | refine below_set ?_ GE575.out) | exact HB.out)⟩
end Go.Proofs.Ytmflggbpiadkjaa.P
namespace Go.Proofs.Ytmflggbpiadkjaa.P
open Go.RowKit Go.Proofs.YtmflggbpiadkjaaW.PrintWords Go.Proofs.YtmflggbpiadkjaaW.PrintLast Go.Proofs.YtmflggbpiadkjaaW.PrintMore
attribute [local go_sem] max2_int min2_int max_two min_two max_three min_three max_four min_four
set_option linter.unusedVariables false
set_option linter.unusedSimpArgs false
section
variable {P : Program} {ops : Array Oper} {Q : Exit → Act → World → Prop}
theorem goesF_ {oi : Oper} {N : Option Tmp} {a : Act} {w : World} {K : Act → World → Prop} {f : FuncId} {fn : Func} {g : Operand} {xs : Array Operand} {ts : Array TypeId} (hf : P.funcs[f]? = some fn) (hname : (fn.name == "runtime.NumGoroutine") = false) (hb : fn.body.isSome = true) (args : Array Value)
  (hw : Region.wanted oi (yielded ops a.tmps) = true) (hN : oi.dst = N) (hop : oi.op = .call { callee := .value g, args := xs, argTypes := ts }) (hgv : a.eval g = .func (.func f) #[] #[]) (hargs : xs.map a.eval = args)
  (h : Calls P f args w fun e w' => ∃ v, e = .returned v ∧ K (a.put N v) w') : if Region.wanted oi (yielded ops a.tmps) = true then Oper.wp P oi a w K Q else K (a.put N undef) w := by
 refine call_ f args hw hN ?_ h
 have he := enters_ hf hname hb args w
 unfold execOp
 simp [hop, resolve, Deferred.ofValue, invoke, hgv, hargs, he]
end
def bin_search.l0 : Nat → List (S89) → Int → Int → Int → ByteArray → ByteArray → Int → Option (Int × Bool)
 | 0, _, _, _, _, _, _, _ => none
 | k + 1, x0, x8, x9, x10, x573000, x573001, x573002 => if x9 < x10 then (if 0 ≤ (wrap64 ((IntKind.u64.wrap (wrap64 (x9 + x10))) / 2)) then (if (wrap64 ((IntKind.u64.wrap (wrap64 (x9 + x10))) / 2)) < (x0.length : Int) then ((interco_compare.f ((rd_T89 x0 (wrap64 ((IntKind.u64.wrap (wrap64 (x9 + x10))) / 2))).f0) ((rd_T89 x0 (wrap64 ((IntKind.u64.wrap (wrap64 (x9 + x10))) / 2))).f1) ((rd_T89 x0 (wrap64 ((IntKind.u64.wrap (wrap64 (x9 + x10))) / 2))).f2) x573000 x573001 x573002).bind fun t574 => (if t574 < 0 then (bin_search.l0 k x0 x8 (wrap64 ((wrap64 ((IntKind.u64.wrap (wrap64 (x9 + x10))) / 2)) + 1)) x10 x573000 x573001 x573002) else (bin_search.l0 k x0 x8 x9 (wrap64 ((IntKind.u64.wrap (wrap64 (x9 + x10))) / 2)) x573000 x573001 x573002))) else (none)) else (none)) else (if x9 < x8 then (if 0 ≤ x9 then (if x9 < (x0.length : Int) then ((interco_compare.f ((rd_T89 x0 x9).f0) ((rd_T89 x0 x9).f1) ((rd_T89 x0 x9).f2) x573000 x573001 x573002).bind fun t576 => (some (x9, (t576 == 0)))) else (none)) else (none)) else (some (x9, false)))
def bin_search.f (k : Nat) (l0 : List (S89)) (a1_0 : ByteArray) (a1_1 : ByteArray) (a1_2 : Int) : Option (Int × Bool) := bin_search.l0 k l0 (l0.length : Int) 0 (l0.length : Int) a1_0 a1_1 a1_2
theorem bin_search.mono_l : ∀ k, (∀ y0 y1 y2 y3 y4 y5 y6, LeO (bin_search.l0 k y0 y1 y2 y3 y4 y5 y6) (bin_search.l0 (k + 1) y0 y1 y2 y3 y4 y5 y6))
 | 0 => fun _ _ _ _ _ _ _ r h => by simp [bin_search.l0] at h
 | k + 1 => by
  have ih0 := bin_search.mono_l k
  ·intro y0 y1 y2 y3 y4 y5 y6
   unfold bin_search.l0
   repeat' first
   | (with_reducible exact ih0 _ _ _ _ _ _ _)
   | (with_reducible exact LeO.refl _)
   | (with_reducible exact LeO.none _)
   | (with_reducible refine LeO.ite ?_ ?_)
   | (with_reducible refine LeO.bind ?_ (fun _ => ?_))
   | exact ih0 _ _ _ _ _ _ _
   | exact LeO.none _
   | refine LeO.ite ?_ ?_
   | refine LeO.bind ?_ (fun _ => ?_)
theorem bin_search.mono : ∀ a0 a1 a2 a3 k, LeO (bin_search.f k a0 a1 a2 a3) (bin_search.f (k + 1) a0 a1 a2 a3) := by
 intro a0 a1 a2 a3 k
 have ih0 := bin_search.mono_l k
 unfold bin_search.f
 repeat' first
   | (with_reducible exact ih0 _ _ _ _ _ _ _)
   | (with_reducible exact LeO.refl _)
   | (with_reducible exact LeO.none _)
   | (with_reducible refine LeO.ite ?_ ?_)
   | (with_reducible refine LeO.bind ?_ (fun _ => ?_))
   | exact ih0 _ _ _ _ _ _ _
   | exact LeO.none _
   | refine LeO.ite ?_ ?_
   | refine LeO.bind ?_ (fun _ => ?_)
def bin_search.T5 : Bool × List (List Nat × List Nat) := (true, [([], []), ([], []), ([], []), ([1, 2], [1, 2]), ([3], [3]), ([], []), ([0, 4, 5], [0, 4, 5]), ([6], [6])])
def bin_search.B5 : List Nat := [0, 0, 0, 6, 14, 0, 63, 127]
theorem bin_search.tab5 : rtab .any (opsOf Try.f99 5) = bin_search.T5 := by kernel_rfl
theorem bin_search.bits5 : waitsOk bin_search.T5.2 bin_search.B5 = true := by kernel_rfl
def bin_search.T8 : Bool × List (List Nat × List Nat) := (true, [([], []), ([], []), ([], []), ([1, 2], [1, 2]), ([3], [3]), ([4], [4]), ([4], [4]), ([4], [4]), ([6, 7, 4], [4, 6, 7]), ([8, 4], [4, 8]), ([4], [4]), ([5, 9, 10, 4, 4], [4, 5, 9, 10]), ([11, 4], [4, 11]), ([4, 12], [4, 12]), ([0, 11, 0], [0]), ([13, 14, 0, 1, 2, 3, 4, 5, 6, 7, 8, 9, 10, 11, 12, 13, 14], [13])])
def bin_search.B8 : List Nat := [0, 0, 0, 6, 14, 30, 30, 30, 222, 478, 30, 2046, 4094, 8190, 4095, 32767]
theorem bin_search.tab8 : rtab .any (opsOf Try.f99 8) = bin_search.T8 := by kernel_rfl
theorem bin_search.bits8 : waitsOk bin_search.T8.2 bin_search.B8 = true := by kernel_rfl
set_option maxHeartbeats 8000000 in
set_option maxRecDepth 100000 in
theorem bin_search.calls (k : Nat) (A0 : Option Addr) (c0 : Nat) (l0 : List (S89)) (a1_0 : ByteArray) (a1_1 : ByteArray) (a1_2 : Int) (r1 : Int) (r2 : Bool) (w : World) (hr0 : Kd.C k89 w A0 l0.length l0) (hc0 : l0.length ≤ c0) (h : bin_search.f k l0 a1_0 a1_1 a1_2 = some (r1, r2)) :
  Calls Try.prog 99 #[.slice A0 l0.length c0, .agg #[.string a1_0, .string a1_1, .int .i64 a1_2], .func (.func 100) #[] #[]] w fun e w' => e = .returned (.tuple #[.int .i64 r1, .bool r2]) ∧ Below w.heap.size w w' := by
 have hu89 := Try.underlying89
 have HR0 := Aside0.mk hr0
 have HC0 := Aside0.mk hc0
 clear hr0 hc0
 have HB := Aside0.mk (Below.refl w.heap.size w)
 have H : (bin_search.l0 k l0 (l0.length : Int) 0 (l0.length : Int) a1_0 a1_1 a1_2) = some (r1, r2) := h
 clear h
 have H' := Aside0.mk H
 clear H
 go_enter Try.func99, Try.ntmps99
 go_wp2_with (first | ((with_reducible refine gate_dst (N := 4) rfl ?_); refine box_event ?hg (N := 4) ?hd (cs := #[.string a1_0, .string a1_1, .int .i64 a1_2]) (t := 89) ?hr ?_; (case hd => rfl); (case hg => rfl); (case hr => first | (go_simp; done) | (go_simp; rfl)); intro gb572 hg w3 hbox hb; have n0_ := Aside0.mk (below_step (by repeat (first | (with_reducible first | exact HB.out | apply below_alloc | apply pw_below_drewN | apply below_drew1) | exact HB.out)) hb); have n1_ := Aside0.mk (hbox); have n2_ := Aside0.mk ((by rw [hg]; exact (below_size (by repeat (first | (with_reducible first | exact HB.out | apply below_alloc | apply pw_below_drewN | apply below_drew1) | exact HB.out))) : w.heap.size ≤ gb572)); have n3_ := Aside0.mk ((by rw [hg]; exact (below_size (by repeat (first | (with_reducible first | exact HB.out | apply below_alloc | apply pw_below_drewN | apply below_drew1) | exact HB.out))) : w.heap.size ≤ gb572)); clear HB; have HB := n0_; have BK572 := n1_; have GW572 := n2_; have GE572 := n3_; clear n0_ n1_ n2_ n3_; clear hb hbox hg))
 go_loopg [9, 10] k (fun kq v9 v10 w' => ∃ (x9_1 : Int) (x10_1 : Int), v9 = .int .i64 x9_1 ∧ v10 = .int .i64 x10_1 ∧ Aside0 (bin_search.l0 kq l0 (l0.length : Int) x9_1 x10_1 a1_0 a1_1 a1_2 = some (r1, r2)) ∧ Aside0 (kq ≤ k) ∧ Aside0 (w'.heap[gb572]? = some (.cells #[.string a1_0, .string a1_1, .int .i64 a1_2] 89 (0, 0))) ∧ Aside0 (Below w.heap.size w w'))
 case atStart => exact ⟨(0), ((l0.length : Int)), (by first | rfl | (simp; done) | (simp [*]; done)), (by first | rfl | (simp; done) | (simp [*]; done)), H', ⟨Nat.le_refl _⟩, ⟨by (with_reducible repeat (first | refine blk_drewN ?_ _ | refine blk_drew ?_ | refine blk_alloc ?_ _)); exact BK572.out⟩, ⟨by repeat (first | (with_reducible first | exact HB.out | apply below_alloc | apply pw_below_drewN | apply below_drew1 | refine below_set ?_ GE572.out) | exact HB.out)⟩⟩
 case round =>
  clear H'
  try clear p2
  obtain ⟨x9_1, x10_1, rfl, rfl, HA, HK1, BK572, HB⟩ := hrel
  cases gk with
  | zero => exact absurd HA.out (by simp [bin_search.l0])
  | succ k1 =>
   have H := HA.out
   clear HA
   simp only [bin_search.l0] at H
   by_cases c4 : x9_1 < x10_1
   ·rw [if_pos c4] at H
    have c4b0 : decide (x9_1 < x10_1) = true := decide_eq_true c4
    clear c4
    obtain ⟨ji5, hji5⟩ : ∃ j_ : Int, (wrap64 ((IntKind.u64.wrap (wrap64 (x9_1 + x10_1))) / 2)) = j_ := ⟨_, rfl⟩
    replace H : (if 0 ≤ (ji5) then (if (ji5) < (l0.length : Int) then ((interco_compare.f ((rd_T89 l0 (ji5)).f0) ((rd_T89 l0 (ji5)).f1) ((rd_T89 l0 (ji5)).f2) a1_0 a1_1 a1_2).bind fun t574 => (if t574 < 0 then (bin_search.l0 k1 l0 (l0.length : Int) (wrap64 ((ji5) + 1)) x10_1 a1_0 a1_1 a1_2) else (bin_search.l0 k1 l0 (l0.length : Int) x9_1 ji5 a1_0 a1_1 a1_2))) else (none)) else (none)) = some (r1, r2) := by first | (rw [hji5] at H; exact H) | (simp only [hji5] at H ⊢; exact H)
    have hji5w : (IntKind.i64.wrap ((IntKind.u64.wrap (wrap64 (x9_1 + x10_1))) / 2)) = ji5 := (i64_w _).trans hji5
    by_cases c6 : 0 ≤ (ji5)
    ·rw [if_pos c6] at H
     have c6b0 : decide (0 ≤ (ji5)) = true := decide_eq_true c6
     clear c6
     by_cases c7 : (ji5) < (l0.length : Int)
     ·rw [if_pos c7] at H
      have c7b0 : decide ((ji5) < (l0.length : Int)) = true := decide_eq_true c7
      clear c7
      replace H := Option.bind_eq_some_iff.mp H
      obtain ⟨t574, A80, H⟩ := H
      try dsimp only at H
      have A8 := Aside0.mk A80
      clear A80
      by_cases c9 : t574 < 0
      ·rw [if_pos c9] at H
       have c9b0 : decide (t574 < 0) = true := decide_eq_true c9
       clear c9
       have H' := Aside0.mk H
       clear H
       try go_wp2
       have n0_ := Aside0.mk (blk_drew BK572.out)
       have n1_ := Aside0.mk (below_drew1 HB.out)
       clear BK572
       clear HB
       have BK572 := n0_
       have HB := n1_
       clear n0_ n1_
       have p573 : 0 ≤ ((ji5) : Int) := odt_
       have q573 : (ji5) < (l0.length : Int) := odt_
       obtain ⟨ad573, e573, hx573_0, hx573_1, hx573_2⟩ := at_T89 HR0.out (ji5) p573 q573
       have hw573_2 := hx573_2
       have hw573_1 := hx573_1
       have hw573_0 := hx573_0
       cases e573
       replace hx573_0 := bcl_ HB hx573_0
       replace hx573_1 := bcl_ HB hx573_1
       replace hx573_2 := bcl_ HB hx573_2
       replace p573 := eq_true p573
       replace q573 := eq_true q573
       refine start_ (n := 8) (S := fun w' => w'.cell? ⟨gb572, 0, none⟩ = some (.string a1_0) ∧ w'.cell? ⟨gb572, 1, none⟩ = some (.string a1_1) ∧ w'.cell? ⟨gb572, 2, none⟩ = some (.int .i64 a1_2) ∧ w'.cell? (ad573.add (((ji5)).toNat * 3)) = some (.string ((rd_T89 l0 (ji5)).f0)) ∧ w'.cell? ⟨(ad573.add (((ji5)).toNat * 3)).block, (ad573.add (((ji5)).toNat * 3)).off + 1, none⟩ = some (.string ((rd_T89 l0 (ji5)).f1)) ∧ w'.cell? ⟨(ad573.add (((ji5)).toNat * 3)).block, (ad573.add (((ji5)).toNat * 3)).off + 2, none⟩ = some (.int .i64 ((rd_T89 l0 (ji5)).f2))) (ds := []) #[false, false, false, false, false, false, false, false] (by kernel_rfl) rfl rfl ⟨(blk_cell BK572.out 0).trans rfl, (blk_cell BK572.out 1).trans rfl, (blk_cell BK572.out 2).trans rfl, ((HB.out.cell (World.block_lt_of_cell? w _ hw573_0)).trans hw573_0), ((HB.out.cell (World.block_lt_of_cell? w _ hw573_1)).trans hw573_1), ((HB.out.cell (World.block_lt_of_cell? w _ hw573_2)).trans hw573_2)⟩ (fun hHeld => ?_); refine with_tabW bin_search.tab5 bin_search.bits5 (fun HT_ HW_ => ?_)
       generalize wr.drew = w10 at BK572 HB hx573_0 hx573_1 hx573_2 hHeld ⊢
       refine pu_ 0 (some 24) (btz 8 1) HT_ ?_
       refine pu_ 1 (some 25) (btz 8 3) HT_ ?_
       refine pu_ 2 (some 26) (btz 8 7) HT_ ?_
       refine pu_ 3 (some 27) (btz 8 15) HT_ ?_
       refine ta_ 4 (some 28) (btz 8 31) HT_ HW_ hHeld rfl rfl (by rintro w' ⟨s0, s1, s2, s3, s4, s5⟩; go_simp; with_reducible rfl) ?_
       refine ta_ 5 (some 29) (btz 8 63) HT_ HW_ hHeld rfl rfl (by rintro w' ⟨s0, s1, s2, s3, s4, s5⟩; go_simp; with_reducible rfl) ?_
       refine one_ (i := 6) (N := some 30) #[true, true, true, true, true, true, true, false] rfl rfl (one_of HT_.out (by kernel_rfl)) (by decide) (fun K hK => ?_)
       refine goesF_ Try.func100 (by kernel_rfl) rfl #[.agg #[.string ((rd_T89 l0 (ji5)).f0), .string ((rd_T89 l0 (ji5)).f1), .int .i64 ((rd_T89 l0 (ji5)).f2)], .agg #[.string a1_0, .string a1_1, .int .i64 a1_2]] (by rfl) rfl rfl rfl (by (try simp only [List.map_toArray, List.map_cons, List.map_nil]); first | done | (simp only [hji5]; rfl) | rfl | (simp only [List.length_drop, List.length_take]; rfl)) ?_
       with_reducible refine (interco_compare.calls ((rd_T89 l0 (ji5)).f0) ((rd_T89 l0 (ji5)).f1) ((rd_T89 l0 (ji5)).f2) a1_0 a1_1 a1_2 t574 _ A8.out).mono ?_
       rintro e w11 ⟨rfl, hb⟩
       refine ⟨_, rfl, ?_⟩
       have n0_ := Aside0.mk (blk_below (g := gb572) (o := .cells #[.string a1_0, .string a1_1, .int .i64 a1_2] 89 (0, 0)) (by (with_reducible repeat (first | refine blk_drewN ?_ _ | refine blk_drew ?_ | refine blk_alloc ?_ _)); exact BK572.out) hb)
       have n1_ := Aside0.mk (below_step (by repeat (first | (with_reducible first | exact HB.out | apply below_alloc | apply pw_below_drewN | apply below_drew1 | refine below_set ?_ GE572.out) | exact HB.out)) hb)
       clear BK572
       clear HB
       have BK572 := n0_
       have HB := n1_
       clear n0_ n1_
       (try clear hb)
       (try clear hb2)
       (try clear hk)
       (try clear hi)
       refine hK.out _ _ ⟨(blk_cell BK572.out 0).trans rfl, (blk_cell BK572.out 1).trans rfl, (blk_cell BK572.out 2).trans rfl, ((HB.out.cell (World.block_lt_of_cell? w _ hw573_0)).trans hw573_0), ((HB.out.cell (World.block_lt_of_cell? w _ hw573_1)).trans hw573_1), ((HB.out.cell (World.block_lt_of_cell? w _ hw573_2)).trans hw573_2)⟩ (fun hHeld => ?_)
       clear hK K
       refine norm_ (a' := ?_) ?_ ?_
       rotate_left
       ·show Act.put _ (some 30) _ = _
        simp only [Act.put, List.setIfInBounds_toArray, List.set_cons_zero, List.set_cons_succ, i64_w, i32_w]
        rfl
       refine pu_ 7 (some 31) (btz 8 255) HT_ ?_
       refine done_ (done_of HT_.out (by kernel_rfl)) ?_
       try go_wp2
       go_roundg k1
       case measure => have := HK1.out; omega
       case rel => exact ⟨(wrap64 ((ji5) + 1)), (x10_1), (by first | rfl | (simp; done) | (simp only [← hji5] <;> (first | rfl | simp)) | (simp [*]; done)), (by first | rfl | (simp; done) | (simp [*]; done)), H', ⟨by have := HK1.out; omega⟩, ⟨by (with_reducible repeat (first | refine blk_drewN ?_ _ | refine blk_drew ?_ | refine blk_alloc ?_ _)); exact BK572.out⟩, ⟨by repeat (first | (with_reducible first | exact HB.out | apply below_alloc | apply pw_below_drewN | apply below_drew1 | refine below_set ?_ GE572.out) | exact HB.out)⟩⟩
      ·rw [if_neg c9] at H
       have c9b0 : decide (t574 < 0) = false := decide_eq_false c9
       clear c9
       have H' := Aside0.mk H
       clear H
       try go_wp2
       have n0_ := Aside0.mk (blk_drew BK572.out)
       have n1_ := Aside0.mk (below_drew1 HB.out)
       clear BK572
       clear HB
       have BK572 := n0_
       have HB := n1_
       clear n0_ n1_
       have p573 : 0 ≤ ((ji5) : Int) := odt_
       have q573 : (ji5) < (l0.length : Int) := odt_
       obtain ⟨ad573, e573, hx573_0, hx573_1, hx573_2⟩ := at_T89 HR0.out (ji5) p573 q573
       have hw573_2 := hx573_2
       have hw573_1 := hx573_1
       have hw573_0 := hx573_0
       cases e573
       replace hx573_0 := bcl_ HB hx573_0
       replace hx573_1 := bcl_ HB hx573_1
       replace hx573_2 := bcl_ HB hx573_2
       replace p573 := eq_true p573
       replace q573 := eq_true q573
       refine start_ (n := 8) (S := fun w' => w'.cell? ⟨gb572, 0, none⟩ = some (.string a1_0) ∧ w'.cell? ⟨gb572, 1, none⟩ = some (.string a1_1) ∧ w'.cell? ⟨gb572, 2, none⟩ = some (.int .i64 a1_2) ∧ w'.cell? (ad573.add (((ji5)).toNat * 3)) = some (.string ((rd_T89 l0 (ji5)).f0)) ∧ w'.cell? ⟨(ad573.add (((ji5)).toNat * 3)).block, (ad573.add (((ji5)).toNat * 3)).off + 1, none⟩ = some (.string ((rd_T89 l0 (ji5)).f1)) ∧ w'.cell? ⟨(ad573.add (((ji5)).toNat * 3)).block, (ad573.add (((ji5)).toNat * 3)).off + 2, none⟩ = some (.int .i64 ((rd_T89 l0 (ji5)).f2))) (ds := []) #[false, false, false, false, false, false, false, false] (by kernel_rfl) rfl rfl ⟨(blk_cell BK572.out 0).trans rfl, (blk_cell BK572.out 1).trans rfl, (blk_cell BK572.out 2).trans rfl, ((HB.out.cell (World.block_lt_of_cell? w _ hw573_0)).trans hw573_0), ((HB.out.cell (World.block_lt_of_cell? w _ hw573_1)).trans hw573_1), ((HB.out.cell (World.block_lt_of_cell? w _ hw573_2)).trans hw573_2)⟩ (fun hHeld => ?_); refine with_tabW bin_search.tab5 bin_search.bits5 (fun HT_ HW_ => ?_)
       generalize wr.drew = w12 at BK572 HB hx573_0 hx573_1 hx573_2 hHeld ⊢
       refine pu_ 0 (some 24) (btz 8 1) HT_ ?_
       refine pu_ 1 (some 25) (btz 8 3) HT_ ?_
       refine pu_ 2 (some 26) (btz 8 7) HT_ ?_
       refine pu_ 3 (some 27) (btz 8 15) HT_ ?_
       refine ta_ 4 (some 28) (btz 8 31) HT_ HW_ hHeld rfl rfl (by rintro w' ⟨s0, s1, s2, s3, s4, s5⟩; go_simp; with_reducible rfl) ?_
       refine ta_ 5 (some 29) (btz 8 63) HT_ HW_ hHeld rfl rfl (by rintro w' ⟨s0, s1, s2, s3, s4, s5⟩; go_simp; with_reducible rfl) ?_
       refine one_ (i := 6) (N := some 30) #[true, true, true, true, true, true, true, false] rfl rfl (one_of HT_.out (by kernel_rfl)) (by decide) (fun K hK => ?_)
       refine goesF_ Try.func100 (by kernel_rfl) rfl #[.agg #[.string ((rd_T89 l0 (ji5)).f0), .string ((rd_T89 l0 (ji5)).f1), .int .i64 ((rd_T89 l0 (ji5)).f2)], .agg #[.string a1_0, .string a1_1, .int .i64 a1_2]] (by rfl) rfl rfl rfl (by (try simp only [List.map_toArray, List.map_cons, List.map_nil]); first | done | (simp only [hji5]; rfl) | rfl | (simp only [List.length_drop, List.length_take]; rfl)) ?_
       with_reducible refine (interco_compare.calls ((rd_T89 l0 (ji5)).f0) ((rd_T89 l0 (ji5)).f1) ((rd_T89 l0 (ji5)).f2) a1_0 a1_1 a1_2 t574 _ A8.out).mono ?_
       rintro e w13 ⟨rfl, hb⟩
       refine ⟨_, rfl, ?_⟩
       have n0_ := Aside0.mk (blk_below (g := gb572) (o := .cells #[.string a1_0, .string a1_1, .int .i64 a1_2] 89 (0, 0)) (by (with_reducible repeat (first | refine blk_drewN ?_ _ | refine blk_drew ?_ | refine blk_alloc ?_ _)); exact BK572.out) hb)
       have n1_ := Aside0.mk (below_step (by repeat (first | (with_reducible first | exact HB.out | apply below_alloc | apply pw_below_drewN | apply below_drew1 | refine below_set ?_ GE572.out) | exact HB.out)) hb)
       clear BK572
       clear HB
       have BK572 := n0_
       have HB := n1_
       clear n0_ n1_
       (try clear hb)
       (try clear hb2)
       (try clear hk)
       (try clear hi)
       refine hK.out _ _ ⟨(blk_cell BK572.out 0).trans rfl, (blk_cell BK572.out 1).trans rfl, (blk_cell BK572.out 2).trans rfl, ((HB.out.cell (World.block_lt_of_cell? w _ hw573_0)).trans hw573_0), ((HB.out.cell (World.block_lt_of_cell? w _ hw573_1)).trans hw573_1), ((HB.out.cell (World.block_lt_of_cell? w _ hw573_2)).trans hw573_2)⟩ (fun hHeld => ?_)
       clear hK K
       refine norm_ (a' := ?_) ?_ ?_
       rotate_left
       ·show Act.put _ (some 30) _ = _
        simp only [Act.put, List.setIfInBounds_toArray, List.set_cons_zero, List.set_cons_succ, i64_w, i32_w]
        rfl
       refine pu_ 7 (some 31) (btz 8 255) HT_ ?_
       refine done_ (done_of HT_.out (by kernel_rfl)) ?_
       try go_wp2
       go_roundg k1
       case measure => have := HK1.out; omega
       case rel => exact ⟨(x9_1), (ji5), (by first | rfl | (simp; done) | (simp [*]; done)), (by first | rfl | (simp; done) | (simp only [← hji5] <;> (first | rfl | simp)) | (simp [*]; done)), H', ⟨by have := HK1.out; omega⟩, ⟨by (with_reducible repeat (first | refine blk_drewN ?_ _ | refine blk_drew ?_ | refine blk_alloc ?_ _)); exact BK572.out⟩, ⟨by repeat (first | (with_reducible first | exact HB.out | apply below_alloc | apply pw_below_drewN | apply below_drew1 | refine below_set ?_ GE572.out) | exact HB.out)⟩⟩
     ·rw [if_neg c7] at H
      exact absurd H (by simp)
    ·rw [if_neg c6] at H
     exact absurd H (by simp)
   ·rw [if_neg c4] at H
    have c4b0 : decide (x9_1 < x10_1) = false := decide_eq_false c4
    clear c4
    by_cases c14 : x9_1 < (l0.length : Int)
    ·rw [if_pos c14] at H
     have c14b0 : decide (x9_1 < (l0.length : Int)) = true := decide_eq_true c14
     clear c14
     by_cases c15 : 0 ≤ x9_1
     ·rw [if_pos c15] at H
      have c15b0 : decide (0 ≤ x9_1) = true := decide_eq_true c15
      clear c15
      by_cases c16 : x9_1 < (l0.length : Int)
      ·rw [if_pos c16] at H
       have c16b0 : decide (x9_1 < (l0.length : Int)) = true := decide_eq_true c16
       clear c16
       replace H := Option.bind_eq_some_iff.mp H
       obtain ⟨t576, A170, H⟩ := H
       replace H : (some (x9_1, (t576 == 0))) = some (r1, r2) := H
       have A17 := Aside0.mk A170
       clear A170
       simp only [Option.some.injEq, Prod.mk.injEq] at H
       obtain ⟨rfl, rfl⟩ := H
       try go_wp2
       have n0_ := Aside0.mk (blk_drew BK572.out)
       have n1_ := Aside0.mk (below_drew1 HB.out)
       clear BK572
       clear HB
       have BK572 := n0_
       have HB := n1_
       clear n0_ n1_
       have p575 : 0 ≤ (x9_1 : Int) := odt_
       have q575 : x9_1 < (l0.length : Int) := odt_
       obtain ⟨ad575, e575, hx575_0, hx575_1, hx575_2⟩ := at_T89 HR0.out x9_1 p575 q575
       have hw575_2 := hx575_2
       have hw575_1 := hx575_1
       have hw575_0 := hx575_0
       cases e575
       replace hx575_0 := bcl_ HB hx575_0
       replace hx575_1 := bcl_ HB hx575_1
       replace hx575_2 := bcl_ HB hx575_2
       replace p575 := eq_true p575
       replace q575 := eq_true q575
       refine start_ (n := 16) (S := fun w' => w'.cell? ⟨gb572, 0, none⟩ = some (.string a1_0) ∧ w'.cell? ⟨gb572, 1, none⟩ = some (.string a1_1) ∧ w'.cell? ⟨gb572, 2, none⟩ = some (.int .i64 a1_2) ∧ w'.cell? (ad575.add ((x9_1).toNat * 3)) = some (.string ((rd_T89 l0 x9_1).f0)) ∧ w'.cell? ⟨(ad575.add ((x9_1).toNat * 3)).block, (ad575.add ((x9_1).toNat * 3)).off + 1, none⟩ = some (.string ((rd_T89 l0 x9_1).f1)) ∧ w'.cell? ⟨(ad575.add ((x9_1).toNat * 3)).block, (ad575.add ((x9_1).toNat * 3)).off + 2, none⟩ = some (.int .i64 ((rd_T89 l0 x9_1).f2))) (ds := []) #[false, false, false, false, false, false, false, false, false, false, false, false, false, false, false, false] (by kernel_rfl) rfl rfl ⟨(blk_cell BK572.out 0).trans rfl, (blk_cell BK572.out 1).trans rfl, (blk_cell BK572.out 2).trans rfl, ((HB.out.cell (World.block_lt_of_cell? w _ hw575_0)).trans hw575_0), ((HB.out.cell (World.block_lt_of_cell? w _ hw575_1)).trans hw575_1), ((HB.out.cell (World.block_lt_of_cell? w _ hw575_2)).trans hw575_2)⟩ (fun hHeld => ?_); refine with_tabW bin_search.tab8 bin_search.bits8 (fun HT_ HW_ => ?_)
       generalize wr.drew = w18 at BK572 HB hx575_0 hx575_1 hx575_2 hHeld ⊢
       refine pu_ 0 (some 35) (btz 16 1) HT_ ?_
       refine pu_ 1 (some 36) (btz 16 3) HT_ ?_
       refine pu_ 2 (some 37) (btz 16 7) HT_ ?_
       refine pu_ 3 (some 38) (btz 16 15) HT_ ?_
       refine pu_ 4 (some 39) (btz 16 31) HT_ ?_
       refine pu_ 5 (some 40) (btz 16 63) HT_ ?_
       refine pu_ 6 (some 41) (btz 16 127) HT_ ?_
       refine pu_ 7 (some 42) (btz 16 255) HT_ ?_
       refine pu_ 8 (some 43) (btz 16 511) HT_ ?_
       refine ta_ 9 (some 44) (btz 16 1023) HT_ HW_ hHeld rfl rfl (by rintro w' ⟨s0, s1, s2, s3, s4, s5⟩; go_simp; with_reducible rfl) ?_
       refine ta_ 10 (some 45) (btz 16 2047) HT_ HW_ hHeld rfl rfl (by rintro w' ⟨s0, s1, s2, s3, s4, s5⟩; go_simp; with_reducible rfl) ?_
       refine one_ (i := 11) (N := some 46) #[true, true, true, true, true, true, true, true, true, true, true, true, false, false, false, false] rfl rfl (one_of HT_.out (by kernel_rfl)) (by decide) (fun K hK => ?_)
       refine goesF_ Try.func100 (by kernel_rfl) rfl #[.agg #[.string ((rd_T89 l0 x9_1).f0), .string ((rd_T89 l0 x9_1).f1), .int .i64 ((rd_T89 l0 x9_1).f2)], .agg #[.string a1_0, .string a1_1, .int .i64 a1_2]] (by rfl) rfl rfl rfl (by (try simp only [List.map_toArray, List.map_cons, List.map_nil]); first | done | rfl | (simp only [List.length_drop, List.length_take]; rfl)) ?_
       with_reducible refine (interco_compare.calls ((rd_T89 l0 x9_1).f0) ((rd_T89 l0 x9_1).f1) ((rd_T89 l0 x9_1).f2) a1_0 a1_1 a1_2 t576 _ A17.out).mono ?_
       rintro e w19 ⟨rfl, hb⟩
       refine ⟨_, rfl, ?_⟩
       have n0_ := Aside0.mk (blk_below (g := gb572) (o := .cells #[.string a1_0, .string a1_1, .int .i64 a1_2] 89 (0, 0)) (by (with_reducible repeat (first | refine blk_drewN ?_ _ | refine blk_drew ?_ | refine blk_alloc ?_ _)); exact BK572.out) hb)
       have n1_ := Aside0.mk (below_step (by repeat (first | (with_reducible first | exact HB.out | apply below_alloc | apply pw_below_drewN | apply below_drew1 | refine below_set ?_ GE572.out) | exact HB.out)) hb)
       clear BK572
       clear HB
       have BK572 := n0_
       have HB := n1_
       clear n0_ n1_
       (try clear hb)
       (try clear hb2)
       (try clear hk)
       (try clear hi)
       refine hK.out _ _ ⟨(blk_cell BK572.out 0).trans rfl, (blk_cell BK572.out 1).trans rfl, (blk_cell BK572.out 2).trans rfl, ((HB.out.cell (World.block_lt_of_cell? w _ hw575_0)).trans hw575_0), ((HB.out.cell (World.block_lt_of_cell? w _ hw575_1)).trans hw575_1), ((HB.out.cell (World.block_lt_of_cell? w _ hw575_2)).trans hw575_2)⟩ (fun hHeld => ?_)
       clear hK K
       refine norm_ (a' := ?_) ?_ ?_
       rotate_left
       ·show Act.put _ (some 46) _ = _
        simp only [Act.put, List.setIfInBounds_toArray, List.set_cons_zero, List.set_cons_succ, i64_w, i32_w]
        rfl
       refine pu_ 12 (some 47) (btz 16 8191) HT_ ?_
       refine pu_ 13 (some 48) (btz 16 16383) HT_ ?_
       refine pu_ 14 (some 6) (btz 16 32767) HT_ ?_
       refine pu_ 15 (some 7) (btz 16 65535) HT_ ?_
       refine done_ (done_of HT_.out (by kernel_rfl)) ?_
       try go_wp2
       go_ret2
       exact ⟨by first | rfl | (simp [errW_none, errW_some] <;> rfl) | (simp [*, errW_none, errW_some] <;> rfl), by repeat (first | (with_reducible first | exact HB.out | apply below_alloc | apply pw_below_drewN | apply below_drew1 | refine below_set ?_ GE572.out) | exact HB.out)⟩
      ·rw [if_neg c16] at H
       exact absurd H (by simp)
     ·rw [if_neg c15] at H
      exact absurd H (by simp)
    ·rw [if_neg c14] at H
     have c14b0 : decide (x9_1 < (l0.length : Int)) = false := decide_eq_false c14
     clear c14
     simp only [Option.some.injEq, Prod.mk.injEq] at H
     obtain ⟨rfl, rfl⟩ := H
     try go_wp2
     have n0_ := Aside0.mk (blk_drew BK572.out)
     have n1_ := Aside0.mk (below_drew1 HB.out)
     clear BK572
     clear HB
     have BK572 := n0_
     have HB := n1_
     clear n0_ n1_
     refine start_ (n := 16) (S := fun w' => True) (ds := []) #[false, false, false, false, false, false, false, false, false, false, false, false, false, false, false, false] (by kernel_rfl) rfl rfl trivial (fun hHeld => ?_); refine with_tabW bin_search.tab8 bin_search.bits8 (fun HT_ HW_ => ?_)
     generalize wr.drew = w20 at BK572 HB hHeld ⊢
     refine pu_ 0 (some 35) (btz 16 1) HT_ ?_
     refine pu_ 1 (some 36) (btz 16 3) HT_ ?_
     refine pu_ 2 (some 37) (btz 16 7) HT_ ?_
     refine pu_ 3 (some 38) (btz 16 15) HT_ ?_
     refine pu_ 4 (some 39) (btz 16 31) HT_ ?_
     refine un_ 5 (some 40) (btz 16 63) HT_ ?_
     refine un_ 6 (some 41) (btz 16 127) HT_ ?_
     refine un_ 7 (some 42) (btz 16 255) HT_ ?_
     refine un_ 8 (some 43) (btz 16 511) HT_ ?_
     refine un_ 9 (some 44) (btz 16 1023) HT_ ?_
     refine un_ 10 (some 45) (btz 16 2047) HT_ ?_
     refine un_ 11 (some 46) (btz 16 4095) HT_ ?_
     refine un_ 12 (some 47) (btz 16 8191) HT_ ?_
     refine pu_ 13 (some 48) (btz 16 16383) HT_ ?_
     refine pu_ 14 (some 6) (btz 16 32767) HT_ ?_
     refine pu_ 15 (some 7) (btz 16 65535) HT_ ?_
     refine done_ (done_of HT_.out (by kernel_rfl)) ?_
     try go_wp2
     go_ret2
     exact ⟨by first | rfl | (simp [errW_none, errW_some] <;> rfl) | (simp [*, errW_none, errW_some] <;> rfl), by repeat (first | (with_reducible first | exact HB.out | apply below_alloc | apply pw_below_drewN | apply below_drew1 | refine below_set ?_ GE572.out) | exact HB.out)⟩
end Go.Proofs.Ytmflggbpiadkjaa.P
namespace Go.Proofs.Ytmflggbpiadkjaa.P
open Go.RowKit Go.Proofs.YtmflggbpiadkjaaW.PrintWords Go.Proofs.YtmflggbpiadkjaaW.PrintLast Go.Proofs.YtmflggbpiadkjaaW.PrintMore
set_option linter.unusedVariables false
set_option linter.unusedSimpArgs false
theorem step_append_zero {P : Program} {ops : Array Oper} {o : Oper} {a : Act} {w : World} {K : Act → World → Prop} {Q : Exit → Act → World → Prop} {E : Prop}
  (hg : o.guard = none) (s x : Operand) (t : TypeId) (hop : o.op = Op.call { callee := Callee.builtin Builtin.append, args := #[s, x], argTypes := #[t, t] })
  (e : TypeId) (i : TypeInfo) (h1 : P.underlying t = some (.slice e)) (h2 : P.info? e = some i) (A : Option Addr) (n cap : Nat) (hle : n ≤ cap) (hs : a.eval s = .slice A n cap) (X : Value) (hx : a.eval x = X) (hsrc : Src P i.size t X 0 [] w)
  (hK : K (a.put o.dst (.slice A n cap)) w) :
  if Region.wanted o (yielded ops a.tmps) = true then Oper.wp P o a w K Q else E := by
 have hw : Region.wanted o (yielded ops a.tmps) = true := by simp [Region.wanted, hg]
 rw [if_pos hw]
 have hrun := run_append_nothing (P := P) w t t o.type e i h1 h2 A n cap hle X hsrc
 unfold Oper.wp
 simp [execOp, hop, resolve, invoke, builtin, hs, hx, hrun, Result.andThen]
 exact hK
theorem own_form {w : World} {base : Nat} {e : TypeId} {size : Nat} {v : Value} {n : Nat} {xs : List Value} (h : w.ownsRow base e size v n xs) (hn : 0 < n) : ∃ g c, v = .slice (some ⟨g, 0, none⟩) n c ∧ n ≤ c := by
 obtain ⟨h1, h2⟩ := h
 rcases h2 with ⟨rfl, h0⟩ | ⟨g, cap, cur, rfl, hg, hh, hr⟩
 ·omega
 ·exact ⟨g, cap, rfl, by omega⟩
theorem src_zero (w : World) (B : Option Addr) (c s : Nat) : Src Try.prog s 57 (.slice B 0 c) 0 [] w := by
 cases B with
 | none => exact Src.ofNil w Try.underlying57 c
 | some a => exact Src.ofSlice w Try.underlying57 a 0 c [] (by simp) (fun j u h => by simp at h) (fun u h => by simp at h)
def flatP : List S89 → List Value
 | [] => []
 | x :: r => .string x.f0 :: .string x.f1 :: .int .i64 x.f2 :: flatP r
theorem flatP_len (l : List S89) : (flatP l).length = l.length * 3 := by
 induction l with
 | nil => rfl
 | cons x r ih => simp only [flatP, List.length_cons, ih]; omega
theorem flatP_app (a b : List S89) : flatP (a ++ b) = flatP a ++ flatP b := by
 induction a with
 | nil => rfl
 | cons x r ih => simp [flatP, ih]
theorem flatP_one (l : List S89) : ∀ u ∈ flatP l, u.oneCell' = true := by
 induction l with
 | nil => simp [flatP]
 | cons x r ih =>
  intro u hu
  simp only [flatP, List.mem_cons] at hu
  rcases hu with rfl | rfl | rfl | hu
  ·rfl
  ·rfl
  ·rfl
  ·exact ih u hu
theorem flatP_at (l : List S89) : ∀ (j : Nat) (u : Value), (flatP l)[j]? = some u → ∃ x, l[j / 3]? = some x ∧ [Value.string x.f0, Value.string x.f1, Value.int .i64 x.f2][j % 3]? = some u := by
 induction l with
 | nil => intro j u h; simp [flatP] at h
 | cons x r ih =>
  intro j u h
  match j with
  | 0 => exact ⟨x, rfl, h⟩
  | 1 => exact ⟨x, rfl, h⟩
  | 2 => exact ⟨x, rfl, h⟩
  | j + 3 =>
   obtain ⟨y, h1, h2⟩ := ih j u h
   refine ⟨y, ?_, ?_⟩
   ·rw [show (j + 3) / 3 = j / 3 + 1 by omega]; exact h1
   ·rw [show (j + 3) % 3 = j % 3 by omega]; exact h2
theorem flatP_cells {w : World} {ad : Addr} {l : List S89} (h : Kd.C k89 w (some ad) l.length l) : ∀ j u, (flatP l)[j]? = some u → w.cell? (ad.add j) = some u := by
 intro j u hu
 obtain ⟨x, h1, h2⟩ := flatP_at l j u hu
 have hlt : j / 3 < l.length := (List.getElem?_eq_some_iff.1 h1).1
 obtain ⟨ad', e, hc⟩ := h.2.2 (by omega)
 obtain rfl : ad = ad' := Option.some.inj e
 obtain ⟨c, hcl, hK, hcell⟩ := hc _ _ h1
 obtain rfl := k89_open hK
 have := hcell (j % 3) u h2
 rw [show j / 3 * k89.sz + j % 3 = j by show j / 3 * 3 + j % 3 = j; omega] at this
 exact this
theorem flatP_take (l : List S89) (k : Nat) : flatP (l.take k) = (flatP l).take (k * 3) := by
 induction l generalizing k with
 | nil => simp [flatP]
 | cons x r ih =>
  cases k with
  | zero => simp [flatP]
  | succ k => rw [show (k + 1) * 3 = k * 3 + 3 by omega]; simp [flatP, ih]
theorem flatP_drop (l : List S89) (k : Nat) : flatP (l.drop k) = (flatP l).drop (k * 3) := by
 induction l generalizing k with
 | nil => simp [flatP]
 | cons x r ih =>
  cases k with
  | zero => simp [flatP]
  | succ k => rw [show (k + 1) * 3 = k * 3 + 3 by omega]; simp [flatP, ih]
theorem reps_flat (w : World) (base : Nat) (ok : Nat → Prop) (l : List S89) : Reps (k89.M w base ok) 3 l (flatP l) := by
 refine ⟨flatP_len l, fun j p hj => ?_⟩
 rw [← flatP_drop, show (flatP (l.drop j)).take 3 = flatP ((l.drop j).take 1) by rw [flatP_take]]
 have hlt : j < l.length := (List.getElem?_eq_some_iff.1 hj).1
 rw [List.drop_eq_getElem_cons hlt]
 have : l[j] = p := by rw [List.getElem?_eq_getElem hlt] at hj; exact Option.some.inj hj
 rw [this]
 exact k89_mkM w base ok p
theorem RP_flat {w : World} {base n : Nat} {v : Value} {l : List S89} (hn : l.length = n) (h : w.ownsRow base 89 3 v n (flatP l)) : Kd.R k89 89 w base (fun _ => True) v l := by
 subst hn
 exact ⟨fun _ _ => trivial, flatP l, h, reps_flat w base _ l⟩
set_option maxHeartbeats 4000000 in
set_option maxRecDepth 1000000 in
theorem put_lt (ad : Addr) (c0 : Nat) (l : List S89) (t0 t1 : ByteArray) (t2 : Int) (k kr : Nat) (bb : Bool) (w : World) (hr0 : Kd.C k89 w (some ad) l.length l) (hc0 : l.length ≤ c0) (hl : l.length ≤ 1000000) (hlt : k < l.length) (hs : bin_search.f kr l t0 t1 t2 = some ((k : Int), bb)) :
  Calls Try.prog 88 #[.slice (some ad) l.length c0, .agg #[.string t0, .string t1, .int .i64 t2]] w fun e w' => ∃ v0_ : Value, e = .returned (v0_) ∧ Kd.R k89 89 w' w.heap.size (fun _ => True) v0_ (l.take k ++ [⟨t0, t1, t2⟩] ++ l.drop k) ∧ Below w.heap.size w w' := by
 have HS := Aside0.mk hs
 have HC := Aside0.mk hr0
 clear hs hr0
 have hu89 := Try.underlying89
 obtain ⟨i0, hi0, hz0, hz1, hz2⟩ := info_parts info89
 go_enter Try.func88, Try.ntmps88
 go_upto_region 1 with (fail)
 refine with_world (P := fun x => Code.wp _ _ _ _ x) _ ?_
 intro w0 hw
 have BK0 := Aside0.mk (show w0.heap[w.heap.size]? = some (.cells #[.string t0, .string t1, .int .i64 t2] 89 (0, 0)) from by rw [hw]; exact blk_new _ _)
 have HB0 := Aside0.mk (show Below w.heap.size w w0 from by rw [hw]; exact below_alloc (Below.refl _ _) _)
 clear hw
 obtain ⟨g, hg⟩ : ∃ g, w.heap.size = g := ⟨_, rfl⟩
 have HG := Aside0.mk hg
 rw [hg] at BK0 ⊢
 clear hg
 have b0_0 := (blk_cell BK0.out 0).trans rfl
 have b0_1 := (blk_cell BK0.out 1).trans rfl
 have b0_2 := (blk_cell BK0.out 2).trans rfl
 go_upto_region 2 with (first | (go_at_call 99; (refine (bin_search.calls kr (some ad) c0 l t0 t1 t2 (k : Int) bb w0 (Kd.C_below HC.out HB0.out) hc0 HS.out).mono ?_); rintro e_ w1 ⟨rfl, hb_⟩; have HB := Aside0.mk (below_then HB0.out HB0.out.size hb_); have BK := Aside0.mk (blk_below BK0.out hb_); have hb1_ := Aside0.mk hb_; clear hb_))
 clear b0_0 b0_1 b0_2
 have b0 := (blk_cell BK.out 0).trans rfl
 have b1 := (blk_cell BK.out 1).trans rfl
 have b2 := (blk_cell BK.out 2).trans rfl
 have HR := Aside0.mk (Kd.C_below HC.out HB.out)
 have hkc : k ≤ c0 := by omega
 have hic : Int.toNat (k : Int) = k := Int.toNat_natCast k
 have hl2 : (l.length : Int) ≤ 1000000 := by omega
 have d1 : decide ((k : Int) < (l.length : Int)) = true := decide_eq_true (by omega)
 have d2 : decide (k < l.length) = true := decide_eq_true hlt
 have p0 : (0 : Int) ≤ (k : Int) := by omega
 have p1 : (k : Int) < (l.length : Int) := by omega
 have hne : ¬ c0 = k := by omega
 have hkk : k ≤ l.length := by omega
 have o1 := Aside0.mk (show (flatP (l.take k)).length = k * 3 by rw [flatP_len, List.length_take]; omega)
 have o2 := Aside0.mk (fun (m : Nat) => show ∀ b, some ad = some b → ∀ j u, (flatP (l.take k))[j]? = some u → ((w1.drewN m).alloc (.cells #[.string t0, .string t1, .int .i64 t2] 89)).cell? (b.add j) = some u from fun b e j u hu => by
  obtain rfl := Option.some.inj e
  have hC : Kd.C k89 ((w1.drewN m).alloc (.cells #[.string t0, .string t1, .int .i64 t2] 89)) (some ad) l.length l := Kd.C_below HR.out (below_alloc (pw_below_drewN (Below.refl _ _) m) _)
  rw [flatP_take] at hu
  exact flatP_cells hC j u ((List.getElem?_take_of_lt (by have := (List.getElem?_eq_some_iff.1 hu).1; simp at this; omega)).symm.trans hu))
 have o3 := Aside0.mk (fun (m : Nat) => show ∀ j u, [Value.string t0, Value.string t1, Value.int .i64 t2][j]? = some u → ((w1.drewN m).alloc (.cells #[.string t0, .string t1, .int .i64 t2] 89)).cell? ((⟨w1.heap.size, 0, none⟩ : Addr).add j) = some u from fun j u hu => by
  have hh : ((w1.drewN m).alloc (.cells #[.string t0, .string t1, .int .i64 t2] 89)).heap[w1.heap.size]? = some (.cells #[.string t0, .string t1, .int .i64 t2] 89 (0, 0)) := blk_new (w1.drewN m) _
  have := blk_cell hh j
  rw [show (⟨w1.heap.size, 0, none⟩ : Addr).add j = ⟨w1.heap.size, j, none⟩ by simp [Addr.add, eq_comm]]
  rw [this]; simpa using hu)
 have hbw := Aside0.mk (fun (m : Nat) => show Below w.heap.size w ((w1.drewN m).alloc (.cells #[.string t0, .string t1, .int .i64 t2] 89)) from HB.out.trans ((below_alloc (pw_below_drewN (Below.refl w1.heap.size w1) m) _).mono HB.out.size))
 have hbw1 := Aside0.mk (fun (m : Nat) => show Below w1.heap.size w1 ((w1.drewN m).alloc (.cells #[.string t0, .string t1, .int .i64 t2] 89)) from below_alloc (pw_below_drewN (Below.refl w1.heap.size w1) m) _)
 go_region_law (first | (refine step_append_grows rfl (.tmp 16) (.tmp 18) 57 rfl 89 i0 (.agg #[.string ⟨#[]⟩, .string ⟨#[]⟩, .int .i64 0]) 3 40 Try.underlying57 hi0 hz0 hz1 hz2 rfl (by decide) (some ad) k k (flatP (l.take k)) (by simp [Act.eval, Act.put]) (by simp) o1.out (o2.out _) ⟨w1.heap.size, 0, none⟩ 1 1 [.string t0, .string t1, .int .i64 t2] (by simp [Act.eval, Act.put]) rfl (o3.out _) (by simp [Value.oneCell']) (by omega) (by unfold maxLen; omega) (by omega) ?_; intro v1 w2 ho hg; have HO := Aside0.mk (own_weaken ho (hbw.out _).size); have HB2 := Aside0.mk (Below.grown (hbw.out _) hg (hbw.out _).size (fun k_ e_ => by simp at e_)); have HC2 := Aside0.mk (Kd.C_below HR.out (Below.grown (hbw1.out _) hg (hbw1.out _).size (fun k_ e_ => by simp at e_))); clear ho hg) | (refine step_append_lies _ rfl (.tmp 19) (.tmp 22) 57 rfl w.heap.size 89 i0 (.agg #[.string ⟨#[]⟩, .string ⟨#[]⟩, .int .i64 0]) 3 40 Try.underlying57 hi0 hz0 hz1 hz2 rfl (by decide) v1 (k + 1) (flatP (l.take k) ++ [.string t0, .string t1, .int .i64 t2]) (by simp [Act.eval, Act.put]) HO.out (ad.add (k * 3)) (l.length - k) (c0 - k) (flatP (l.drop k)) (by simp [Act.eval, Act.put]) (by rw [flatP_len, List.length_drop]) (fun j u hu => by rw [Go.Deep.add_add]; rw [flatP_drop, List.getElem?_drop] at hu; exact flatP_cells HC2.out _ u hu) (flatP_one _) (by omega) (by unfold maxLen; omega) (by omega) HB2.out.size w2.heap.size rfl ?_; intro g cap w3 ho3 hg3 _ _; have HO3 := Aside0.mk ho3; have HB3 := Aside0.mk (Below.grown HB2.out hg3 HB2.out.size (fun k_ e_ => own_base HO.out k_ e_)); clear ho3 hg3))
 go_wp2
 go_ret
 refine ⟨_, rfl, ?_, HB3.out⟩
 refine RP_flat ?_ ?_ (n := k + 1 + (l.length - k))
 ·simp; omega
 ·have := HO3.out
  rw [flatP_app, flatP_app]
  exact this
set_option maxHeartbeats 4000000 in
set_option maxRecDepth 1000000 in
theorem put_end (ad : Addr) (c0 : Nat) (l : List S89) (t0 t1 : ByteArray) (t2 : Int) (k kr : Nat) (bb : Bool) (w : World) (hr0 : Kd.C k89 w (some ad) l.length l) (hc0 : l.length ≤ c0) (hl : l.length ≤ 1000000) (hkl : k = l.length) (hs : bin_search.f kr l t0 t1 t2 = some ((k : Int), bb)) :
  Calls Try.prog 88 #[.slice (some ad) l.length c0, .agg #[.string t0, .string t1, .int .i64 t2]] w fun e w' => ∃ v0_ : Value, e = .returned (v0_) ∧ Kd.R k89 89 w' w.heap.size (fun _ => True) v0_ (l.take k ++ [⟨t0, t1, t2⟩] ++ l.drop k) ∧ Below w.heap.size w w' := by
 have HS := Aside0.mk hs
 have HC := Aside0.mk hr0
 clear hs hr0
 have hll : l.length ≤ k := by omega
 have hkk : k ≤ l.length := by omega
 have hkl' := Lib.hid hkl
 clear hkl
 have hu89 := Try.underlying89
 obtain ⟨i0, hi0, hz0, hz1, hz2⟩ := info_parts info89
 go_enter Try.func88, Try.ntmps88
 go_upto_region 1 with (fail)
 refine with_world (P := fun x => Code.wp _ _ _ _ x) _ ?_
 intro w0 hw
 have BK0 := Aside0.mk (show w0.heap[w.heap.size]? = some (.cells #[.string t0, .string t1, .int .i64 t2] 89 (0, 0)) from by rw [hw]; exact blk_new _ _)
 have HB0 := Aside0.mk (show Below w.heap.size w w0 from by rw [hw]; exact below_alloc (Below.refl _ _) _)
 clear hw
 obtain ⟨g, hg⟩ : ∃ g, w.heap.size = g := ⟨_, rfl⟩
 have HG := Aside0.mk hg
 rw [hg] at BK0 ⊢
 clear hg
 have b0_0 := (blk_cell BK0.out 0).trans rfl
 have b0_1 := (blk_cell BK0.out 1).trans rfl
 have b0_2 := (blk_cell BK0.out 2).trans rfl
 go_upto_region 2 with (first | (go_at_call 99; (refine (bin_search.calls kr (some ad) c0 l t0 t1 t2 (k : Int) bb w0 (Kd.C_below HC.out HB0.out) hc0 HS.out).mono ?_); rintro e_ w1 ⟨rfl, hb_⟩; have HB := Aside0.mk (below_then HB0.out HB0.out.size hb_); have BK := Aside0.mk (blk_below BK0.out hb_); have hb1_ := Aside0.mk hb_; clear hb_))
 clear b0_0 b0_1 b0_2
 have b0 := (blk_cell BK.out 0).trans rfl
 have b1 := (blk_cell BK.out 1).trans rfl
 have b2 := (blk_cell BK.out 2).trans rfl
 have HR := Aside0.mk (Kd.C_below HC.out HB.out)
 have hkc : k ≤ c0 := by omega
 have hic : Int.toNat (k : Int) = k := Int.toNat_natCast k
 have hl2 : (l.length : Int) ≤ 1000000 := by omega
 have d1 : decide ((k : Int) < (l.length : Int)) = false := decide_eq_false (by omega)
 have d2 : decide (k < l.length) = false := decide_eq_false (by omega)
 have p0 : (0 : Int) ≤ (k : Int) := by omega
 obtain ⟨B, hB⟩ : ∃ B : Option Addr, (if c0 = k then some ad else some (ad.add (k * 3))) = B := ⟨_, rfl⟩
 have o1 := Aside0.mk (show (flatP (l.take k)).length = k * 3 by rw [flatP_len, List.length_take]; omega)
 have o2 := Aside0.mk (fun (m : Nat) => show ∀ b, some ad = some b → ∀ j u, (flatP (l.take k))[j]? = some u → ((w1.drewN m).alloc (.cells #[.string t0, .string t1, .int .i64 t2] 89)).cell? (b.add j) = some u from fun b e j u hu => by
  obtain rfl := Option.some.inj e
  have hC : Kd.C k89 ((w1.drewN m).alloc (.cells #[.string t0, .string t1, .int .i64 t2] 89)) (some ad) l.length l := Kd.C_below HR.out (below_alloc (pw_below_drewN (Below.refl _ _) m) _)
  rw [flatP_take] at hu
  exact flatP_cells hC j u ((List.getElem?_take_of_lt (by have := (List.getElem?_eq_some_iff.1 hu).1; simp at this; omega)).symm.trans hu))
 have o3 := Aside0.mk (fun (m : Nat) => show ∀ j u, [Value.string t0, Value.string t1, Value.int .i64 t2][j]? = some u → ((w1.drewN m).alloc (.cells #[.string t0, .string t1, .int .i64 t2] 89)).cell? ((⟨w1.heap.size, 0, none⟩ : Addr).add j) = some u from fun j u hu => by
  have hh : ((w1.drewN m).alloc (.cells #[.string t0, .string t1, .int .i64 t2] 89)).heap[w1.heap.size]? = some (.cells #[.string t0, .string t1, .int .i64 t2] 89 (0, 0)) := blk_new (w1.drewN m) _
  have := blk_cell hh j
  rw [show (⟨w1.heap.size, 0, none⟩ : Addr).add j = ⟨w1.heap.size, j, none⟩ by simp [Addr.add, eq_comm]]
  rw [this]; simpa using hu)
 have hbw := Aside0.mk (fun (m : Nat) => show Below w.heap.size w ((w1.drewN m).alloc (.cells #[.string t0, .string t1, .int .i64 t2] 89)) from HB.out.trans ((below_alloc (pw_below_drewN (Below.refl w1.heap.size w1) m) _).mono HB.out.size))
 have hbw1 := Aside0.mk (fun (m : Nat) => show Below w1.heap.size w1 ((w1.drewN m).alloc (.cells #[.string t0, .string t1, .int .i64 t2] 89)) from below_alloc (pw_below_drewN (Below.refl w1.heap.size w1) m) _)
 go_region_law (first | (refine step_append_grows rfl (.tmp 16) (.tmp 18) 57 rfl 89 i0 (.agg #[.string ⟨#[]⟩, .string ⟨#[]⟩, .int .i64 0]) 3 40 Try.underlying57 hi0 hz0 hz1 hz2 rfl (by decide) (some ad) k k (flatP (l.take k)) (by simp [Act.eval, Act.put]) (by simp) o1.out (o2.out _) ⟨w1.heap.size, 0, none⟩ 1 1 [.string t0, .string t1, .int .i64 t2] (by simp [Act.eval, Act.put]) rfl (o3.out _) (by simp [Value.oneCell']) (by omega) (by unfold maxLen; omega) (by omega) ?_; intro v1 w2 ho hg; have HO := Aside0.mk (own_weaken ho (hbw.out _).size); have HB2 := Aside0.mk (Below.grown (hbw.out _) hg (hbw.out _).size (fun k_ e_ => by simp at e_)); have HC2 := Aside0.mk (Kd.C_below HR.out (Below.grown (hbw1.out _) hg (hbw1.out _).size (fun k_ e_ => by simp at e_))); clear ho hg) | (obtain ⟨g1, cp1, hv1, hcp1⟩ := own_form HO.out (by omega); subst hv1; refine step_append_zero rfl (.tmp 19) (.tmp 22) 57 rfl 89 i0 Try.underlying57 hi0 (some ⟨g1, 0, none⟩) (k + 1) cp1 hcp1 (by simp [Act.eval, Act.put]) (.slice B 0 (c0 - k)) (by simp [Act.eval, Act.put]) (src_zero _ _ _ _) ?_))
 go_wp2
 go_ret
 refine ⟨_, rfl, ?_, HB2.out⟩
 refine RP_flat ?_ ?_ (n := k + 1)
 ·simp; omega
 ·have := HO.out
  rw [flatP_app, flatP_app, List.drop_of_length_le (by omega), show flatP [] = [] from rfl, List.append_nil]
  exact this
set_option maxHeartbeats 4000000 in
set_option maxRecDepth 1000000 in
theorem put_nil  (c0 : Nat) (l : List S89) (t0 t1 : ByteArray) (t2 : Int) (k kr : Nat) (bb : Bool) (w : World) (hr0 : Kd.C k89 w none l.length l) (hc0 : l.length ≤ c0) (hl : l.length ≤ 1000000) (hkl : k = 0) (hl0 : l.length ≤ 0) (hs : bin_search.f kr l t0 t1 t2 = some ((k : Int), bb)) :
  Calls Try.prog 88 #[.slice none l.length c0, .agg #[.string t0, .string t1, .int .i64 t2]] w fun e w' => ∃ v0_ : Value, e = .returned (v0_) ∧ Kd.R k89 89 w' w.heap.size (fun _ => True) v0_ (l.take k ++ [⟨t0, t1, t2⟩] ++ l.drop k) ∧ Below w.heap.size w w' := by
 have HS := Aside0.mk hs
 have HC := Aside0.mk hr0
 clear hs hr0
 subst hkl
 have hu89 := Try.underlying89
 obtain ⟨i0, hi0, hz0, hz1, hz2⟩ := info_parts info89
 go_enter Try.func88, Try.ntmps88
 go_upto_region 1 with (fail)
 refine with_world (P := fun x => Code.wp _ _ _ _ x) _ ?_
 intro w0 hw
 have BK0 := Aside0.mk (show w0.heap[w.heap.size]? = some (.cells #[.string t0, .string t1, .int .i64 t2] 89 (0, 0)) from by rw [hw]; exact blk_new _ _)
 have HB0 := Aside0.mk (show Below w.heap.size w w0 from by rw [hw]; exact below_alloc (Below.refl _ _) _)
 clear hw
 obtain ⟨g, hg⟩ : ∃ g, w.heap.size = g := ⟨_, rfl⟩
 have HG := Aside0.mk hg
 rw [hg] at BK0 ⊢
 clear hg
 have b0_0 := (blk_cell BK0.out 0).trans rfl
 have b0_1 := (blk_cell BK0.out 1).trans rfl
 have b0_2 := (blk_cell BK0.out 2).trans rfl
 go_upto_region 2 with (first | (go_at_call 99; (refine (bin_search.calls kr none c0 l t0 t1 t2 ((0 : Nat) : Int) bb w0 (Kd.C_below HC.out HB0.out) hc0 HS.out).mono ?_); rintro e_ w1 ⟨rfl, hb_⟩; have HB := Aside0.mk (below_then HB0.out HB0.out.size hb_); have BK := Aside0.mk (blk_below BK0.out hb_); have hb1_ := Aside0.mk hb_; clear hb_))
 clear b0_0 b0_1 b0_2
 have b0 := (blk_cell BK.out 0).trans rfl
 have b1 := (blk_cell BK.out 1).trans rfl
 have b2 := (blk_cell BK.out 2).trans rfl
 have hic : Int.toNat (0 : Int) = 0 := rfl
 have d1 : decide ((0 : Int) < (l.length : Int)) = false := decide_eq_false (by omega)
 have d2 : decide (0 < l.length) = false := decide_eq_false (by omega)
 have d3 : (l.length : Int) ≤ 0 := by omega
 have d4 : (0 : Int) ≤ (l.length : Int) := by omega
 have o3 := Aside0.mk (fun (m : Nat) => show ∀ j u, [Value.string t0, Value.string t1, Value.int .i64 t2][j]? = some u → ((w1.drewN m).alloc (.cells #[.string t0, .string t1, .int .i64 t2] 89)).cell? ((⟨w1.heap.size, 0, none⟩ : Addr).add j) = some u from fun j u hu => by
  have hh : ((w1.drewN m).alloc (.cells #[.string t0, .string t1, .int .i64 t2] 89)).heap[w1.heap.size]? = some (.cells #[.string t0, .string t1, .int .i64 t2] 89 (0, 0)) := blk_new (w1.drewN m) _
  have := blk_cell hh j
  rw [show (⟨w1.heap.size, 0, none⟩ : Addr).add j = ⟨w1.heap.size, j, none⟩ by simp [Addr.add, eq_comm]]
  rw [this]; simpa using hu)
 have hbw := Aside0.mk (fun (m : Nat) => show Below w.heap.size w ((w1.drewN m).alloc (.cells #[.string t0, .string t1, .int .i64 t2] 89)) from HB.out.trans ((below_alloc (pw_below_drewN (Below.refl w1.heap.size w1) m) _).mono HB.out.size))
 have hbw1 := Aside0.mk (fun (m : Nat) => show Below w1.heap.size w1 ((w1.drewN m).alloc (.cells #[.string t0, .string t1, .int .i64 t2] 89)) from below_alloc (pw_below_drewN (Below.refl w1.heap.size w1) m) _)
 go_region_law (first | (refine step_append_grows rfl (.tmp 16) (.tmp 18) 57 rfl 89 i0 (.agg #[.string ⟨#[]⟩, .string ⟨#[]⟩, .int .i64 0]) 3 40 Try.underlying57 hi0 hz0 hz1 hz2 rfl (by decide) none 0 0 [] (by simp [Act.eval, Act.put]) (fun _ => ⟨rfl, rfl⟩) rfl (fun b e => by cases e) ⟨w1.heap.size, 0, none⟩ 1 1 [.string t0, .string t1, .int .i64 t2] (by simp [Act.eval, Act.put]) rfl (o3.out _) (by simp [Value.oneCell']) (by omega) (by unfold maxLen; omega) (by omega) ?_; intro v1 w2 ho hg; have HO := Aside0.mk (own_weaken ho (hbw.out _).size); have HB2 := Aside0.mk (Below.grown (hbw.out _) hg (hbw.out _).size (fun k_ e_ => by simp at e_)); clear ho hg) | (obtain ⟨g1, cp1, hv1, hcp1⟩ := own_form HO.out (by omega); subst hv1; refine step_append_zero rfl (.tmp 19) (.tmp 22) 57 rfl 89 i0 Try.underlying57 hi0 (some ⟨g1, 0, none⟩) 1 cp1 hcp1 (by simp [Act.eval, Act.put]) (.slice none 0 c0) (by simp [Act.eval, Act.put]; try omega) (src_zero _ _ _ _) ?_))
 go_wp2
 go_ret
 have e : l = [] := List.length_eq_zero_iff.mp (by omega)
 subst e
 exact ⟨_, rfl, RP_flat rfl HO.out, HB2.out⟩
theorem insert_calls (A : Option Addr) (c0 : Nat) (l : List S89) (t0 t1 : ByteArray) (t2 : Int) (k kr : Nat) (bb : Bool) (w : World) (hr0 : Kd.C k89 w A l.length l) (hc0 : l.length ≤ c0) (hl : l.length ≤ 1000000) (hk : k ≤ l.length) (hs : bin_search.f kr l t0 t1 t2 = some ((k : Int), bb)) :
  Calls Try.prog 88 #[.slice A l.length c0, .agg #[.string t0, .string t1, .int .i64 t2]] w fun e w' => ∃ v0_ : Value, e = .returned (v0_) ∧ Kd.R k89 89 w' w.heap.size (fun _ => True) v0_ (l.take k ++ [⟨t0, t1, t2⟩] ++ l.drop k) ∧ Below w.heap.size w w' := by
 cases A with
 | some ad =>
  rcases Nat.lt_or_ge k l.length with h | h
  ·exact put_lt ad c0 l t0 t1 t2 k kr bb w hr0 hc0 hl h hs
  ·exact put_end ad c0 l t0 t1 t2 k kr bb w hr0 hc0 hl (by omega) hs
 | none =>
  have h0 : l.length ≤ 0 := by
   rcases Nat.eq_zero_or_pos l.length with e | e
   ·omega
   ·obtain ⟨ad, e', _⟩ := hr0.2.2 e
    cases e'
  exact put_nil c0 l t0 t1 t2 k kr bb w hr0 hc0 hl (by omega) h0 hs
end Go.Proofs.Ytmflggbpiadkjaa.P
namespace Go.Proofs.Ytmflggbpiadkjaa.P
open Go.RowKit Go.Proofs.YtmflggbpiadkjaaW.PrintWords Go.Proofs.YtmflggbpiadkjaaW.PrintLast Go.Proofs.YtmflggbpiadkjaaW.PrintMore Go.Maps Go.ChangeShapes Go.WideShapes Go.WideMaps
set_option linter.unusedVariables false
set_option linter.unusedSimpArgs false
def hasB (l : List ByteArray) (s : ByteArray) : Bool := l.any (fun a => a.toList == s.toList)
theorem bytes_ext {a b : ByteArray} (h : a.toList = b.toList) : a = b := ByteArray.ext (Array.ext' (by rw [← ByteArray.toList_eq a, ← ByteArray.toList_eq b]; exact h))
def insB (l : List ByteArray) (x : S32) : Bool := hasB l x.f0 && (hasB l x.f3 && !(x.f0.toList == x.f3.toList))
def vR (v : Value) : Option (DataW Value × List MemPlace) := some (.held v, [])
theorem zero4 (w : World) : (zeroValue 4).run Try.prog w = .ok (.bool false) w := by kernel_rfl
theorem strKeyed : Keyed Try.prog 9 := string_keyed Try.underlying9
theorem keyS {s : ByteArray} (h : s.size ≤ maxLen) : keyOf Try.prog 9 (.string s) = some (.string s.data.toList) := keyOf_string_mk Try.underlying9 h
theorem lit_ne {a b : ByteArray} (h : a ≠ b) : Lit.string a.data.toList ≠ Lit.string b.data.toList := by
 intro h'
 simp only [Lit.string.injEq] at h'
 exact h (ByteArray.ext (Array.ext' h'))
def MapB (w : World) (b n : Nat) (l : List ByteArray) : Prop := ∃ D : DataW Value, w.ownsMap Try.prog 9 vR b n D ∧ ∀ s : ByteArray, s.size ≤ maxLen → D.atKey (.string s.data.toList) (.held (.bool false)) = .held (.bool (hasB l s))
theorem MapB.made (w : World) : MapB (w.alloc (.map #[] 0)) w.heap.size 0 [] := ⟨_, World.ownsMap_made w _ _ _, fun _ _ => rfl⟩
theorem MapB.look {w : World} {b n : Nat} {l : List ByteArray} (h : MapB w b n l) {s : ByteArray} (hs : s.size ≤ maxLen) : (Instr.lookup 83 (.map (some b)) (.string s) false).run Try.prog w = .ok (.bool (hasB l s)) w := by
 obtain ⟨D, ho, hD⟩ := h
 obtain ⟨v, ps, hrun, hv⟩ := ho.lookup strKeyed Try.underlying83 (zero4 w) (zd := .held (.bool false)) (zp := []) rfl (keyS hs)
 rw [hrun]
 simp only [vR, Option.some.injEq, Prod.mk.injEq] at hv
 rw [hD s hs] at hv
 simp only [DataW.held.injEq] at hv
 rw [hv.1]
theorem MapB.store {w : World} {b n : Nat} {l : List ByteArray} (h : MapB w b n l) (hn : n < maxLen) {s : ByteArray} (hs : s.size ≤ maxLen) :
  ∃ w', (Instr.mapUpdate 83 (.map (some b)) (.string s) (.bool true)).run Try.prog w = .ok () w' ∧ MapB w' b (n + 1) (l ++ [s]) ∧ w.grownBy w' (some b) := by
 obtain ⟨D, ho, hD⟩ := h
 obtain ⟨w', hrun, ho', hg⟩ := ho.update strKeyed Try.underlying83 hn (val := .bool true) (d := .held (.bool true)) (ps := []) (keyS hs) rfl
 refine ⟨w', hrun, ⟨_, ho', fun t ht => ?_⟩, hg⟩
 by_cases e : t = s
 ·subst e
  rw [atKey_put_same ho.isMap (strKeyed.key (keyS hs)), show hasB (l ++ [t]) t = true by simp [hasB]]
 ·have hne : (s.toList == t.toList) = false := beq_eq_false_iff_ne.mpr (fun h => e (bytes_ext h.symm))
  have hh : hasB (l ++ [s]) t = hasB l t := by
   unfold hasB
   rw [List.any_append, List.any_cons, List.any_nil, hne, Bool.or_false, Bool.or_false]
  rw [atKey_put_other (lit_ne e), hD t ht, hh]
theorem MapB.move {w w' : World} {b n : Nat} {l : List ByteArray} (h : MapB w b n l) (hm : w'.heap[b]? = w.heap[b]?) : MapB w' b n l := by
 obtain ⟨D, ⟨es, clock, h1, h2⟩, hD⟩ := h
 exact ⟨D, ⟨es, clock, hm.trans h1, h2⟩, hD⟩
theorem MapB.lt {w : World} {b n : Nat} {l : List ByteArray} (h : MapB w b n l) : b < w.heap.size := by
 obtain ⟨D, ⟨es, clock, h1, h2⟩, hD⟩ := h
 exact (Array.getElem?_eq_some_iff.1 h1).1
theorem MapB.below {w w' : World} {b n : Nat} {l : List ByteArray} (h : MapB w b n l) (hb : Below w.heap.size w w') : MapB w' b n l := h.move (hb.block b h.lt)
set_option maxHeartbeats 2000000 in
set_option maxRecDepth 100000 in
theorem groupof_calls (A : Option Addr) (c : Nat) (l : List ByteArray) (w : World) (h : Kd.C Kd.string w A l.length l) (hc : l.length ≤ c) (hl : l.length ≤ 1000000) (hs : ∀ s ∈ l, s.size ≤ maxLen) :
  Calls Try.prog 71 #[.slice A l.length c] w fun e w' => ∃ b n, e = .returned (.map (some b)) ∧ MapB w' b n l ∧ w.heap.size ≤ b ∧ Below w.heap.size w w' := by
 have HC := Aside0.mk h
 have HS := Aside0.mk hs
 clear h hs
 go_enter Try.func71, Try.ntmps71
 have hmm := @run_makeMap Try.prog
 go_upto_region 2 with (fail)
 clear hmm
 refine with_world (P := fun x => Code.wp _ _ _ _ x) _ ?_
 intro w1 hw1
 have HM1 := Aside0.mk (show MapB w1 w.heap.size 0 [] from by rw [hw1]; exact MapB.made w)
 have HB1 := Aside0.mk (show Below w.heap.size w w1 from by rw [hw1]; exact below_alloc (Below.refl _ _) _)
 clear hw1
 obtain ⟨m, hm⟩ : ∃ m, w.heap.size = m := ⟨_, rfl⟩
 have HSZ := Aside0.mk hm
 rw [hm] at HM1 HB1 ⊢
 clear hm
 go_wp2
 go_loopw [5, 9, 10, 11, 12, 13, 14, 15] (fun _ v9 _ _ _ _ _ _ wr => ∃ k : Nat, k ≤ l.length ∧ v9 = .int .i64 k ∧ Aside0 (Below m w wr) ∧ Aside0 (MapB wr m k (l.take k))) (fun _ v9 _ _ _ _ _ _ _ => l.length - (intOf v9).toNat)
 case atStart => exact ⟨0, Nat.zero_le _, rfl, HB1, HM1⟩
 case round =>
  clear HB1 HM1
  obtain ⟨k, hk, rfl, HB, HM⟩ := hrel
  by_cases hlt : k < l.length
  ·have hbw := HSZ.out
   obtain ⟨ad, e, q0⟩ := Kd.at_string (Kd.C_below HC.out (by rw [HSZ.out]; exact HB.out)) (k : Int) (by omega) (by omega)
   subst e
   rw [Int.toNat_natCast] at q0
   have d1 : decide ((k : Int) < (l.length : Int)) = true := decide_eq_true (by omega)
   have d2 : decide (k < l.length) = true := decide_eq_true hlt
   have p0 : (0 : Int) ≤ (k : Int) := by omega
   have p1 : (k : Int) < (l.length : Int) := by omega
   have hsk : rdOf ByteArray.empty l (k : Int) = l[k] := by simp [rdOf, hlt]
   have hsz := HS.out l[k] (List.getElem_mem hlt)
   obtain ⟨s, hs⟩ : ∃ s, rdOf ByteArray.empty l (k : Int) = s := ⟨_, rfl⟩
   rw [hs] at q0 hsk
   rw [← hsk] at hsz
   have HTK := Aside0.mk (show l.take (k + 1) = l.take k ++ [s] from by rw [List.take_add_one, List.getElem?_eq_getElem hlt, hsk]; rfl)
   clear hs hsk hbw
   obtain ⟨w5, hup, hM5, hg5⟩ := HM.out.store (by unfold maxLen; omega) hsz
   have HM5 := Aside0.mk hM5
   have HG5 := Aside0.mk hg5
   clear hM5 hg5
   go_wp2
   go_roundw
   case rel =>
    refine ⟨k + 1, by omega, by go_num, ⟨?_⟩, ⟨?_⟩⟩
    ·have hb := HB.out
     exact ⟨HG5.out.os.trans hb.os, HG5.out.tape.trans hb.tape, HG5.out.output.trans hb.output, Nat.le_trans hb.size HG5.out.size, fun x hx => (HG5.out.block x (by have := hb.size; have := HSZ.out; omega) (fun e => by have := Option.some.inj e; omega)).trans (hb.block x hx)⟩
    ·rw [HTK.out]
     exact HM5.out
   case measure => simp [intOf]; omega
  ·obtain rfl : k = l.length := by omega
   have d1 : decide ((l.length : Int) < (l.length : Int)) = false := decide_eq_false (by omega)
   go_wp2
   go_ret
   have hM := HM.out
   rw [List.take_length] at hM
   exact ⟨m, _, rfl, hM, by have := HSZ.out; omega, by rw [HSZ.out]; exact HB.out⟩
theorem MapB.tells {w : World} {b n : Nat} {l : List ByteArray} (h : MapB w b n l) : ∃ es clk, w.heap[b]? = some (.map es clk) ∧ ∀ W : World, W.heap[b]? = some (.map es clk) → MapB W b n l := by
 obtain ⟨D, ⟨es, clk, h1, h2⟩, hD⟩ := h
 exact ⟨es, clk, h1, fun W hW => ⟨D, ⟨es, clk, hW, h2⟩, hD⟩⟩
theorem map_far {w : World} {g : Nat} {es : Array MapEntry} {clk : Nat} (h : w.heap[g]? = some (.map es clk)) {p : Addr} (hp : g ≠ p.block) (u : Value) : (w.setCell p u).heap[g]? = some (.map es clk) := (Below.heap_setCell w p u g hp).trans h
theorem R_ne_map {α : Type} {d : Kd α} {e : Nat} {w : World} {base : Nat} {ok : Nat → Prop} {v : Value} {xs : List α} (h : d.R e w base ok v xs) {g : Nat} {es : Array MapEntry} {clk : Nat} (hb : w.heap[g]? = some (.map es clk)) : some g ≠ v.ownBlock := by
 intro hk
 obtain ⟨cs, hc⟩ := Kd.R_typed h g hk.symm
 rw [hb] at hc
 cases hc
theorem rd_mem {l : List S34} {i : Int} (h0 : 0 ≤ i) (h1 : i < (l.length : Int)) : rd_T34 l i ∈ l := by
 obtain ⟨n, rfl⟩ := Int.eq_ofNat_of_zero_le h0
 have hn : n < l.length := by omega
 have e : rd_T34 l (n : Int) = l[n] := by simp [rd_T34, hn]
 show rd_T34 l (n : Int) ∈ l
 rw [e]
 exact List.getElem_mem hn
def interco_inside.f (l : List ByteArray) (a0 : ByteArray) (a1 : ByteArray) (a2 : ByteArray) (a3 : ByteArray) (a4 : ByteArray) : Option Bool := some (insB l ⟨a0, a1, a2, a3, a4⟩)
set_option maxHeartbeats 2000000 in
set_option maxRecDepth 100000 in
theorem inside_calls (b n : Nat) (l : List ByteArray) (x : S32) (w : World) (h : MapB w b n l) (h0 : x.f0.size ≤ maxLen) (h3 : x.f3.size ≤ maxLen) :
  Calls Try.prog 72 #[.map (some b), .agg #[.string x.f0, .string x.f1, .string x.f2, .string x.f3, .string x.f4]] w fun e w' => e = .returned (.bool (insB l x)) ∧ Below w.heap.size w w' := by
 obtain ⟨f0, f1, f2, f3, f4⟩ := x
 unfold insB
 have HM := Aside0.mk h
 clear h
 go_enter Try.func72, Try.ntmps72
 go_upto_region 1 with (fail)
 refine with_world (P := fun x => Code.wp _ _ _ _ x) _ ?_
 intro w1 hw1
 have hbx := (show w1.heap[w.heap.size]? = some (.cells #[.string f0, .string f1, .string f2, .string f3, .string f4] 32 (0, 0)) from by rw [hw1]; exact blk_new _ _)
 have HB1 := Aside0.mk (show Below w.heap.size w w1 from by rw [hw1]; exact below_alloc (Below.refl _ _) _)
 clear hw1
 obtain ⟨g, hg⟩ : ∃ g, w.heap.size = g := ⟨_, rfl⟩
 have HG := Aside0.mk hg
 rw [hg] at hbx ⊢
 clear hg
 have c0 : w1.cell? ⟨g, 0, none⟩ = some (.string f0) := (blk_cell hbx 0).trans rfl
 have c3 : w1.cell? ⟨g, 3, none⟩ = some (.string f3) := (blk_cell hbx 3).trans rfl
 have l0 := (HM.out.below HB1.out).look h0
 have l3 := (HM.out.below HB1.out).look h3
 clear hbx
 cases e0 : hasB l f0
 ·rw [e0] at l0
  go_wp2
  go_ret
  exact ⟨by simp, HB1.out⟩
 ·cases e3 : hasB l f3
  ·rw [e0] at l0; rw [e3] at l3
   go_wp2
   go_ret
   exact ⟨by simp, HB1.out⟩
  ·rw [e0] at l0; rw [e3] at l3
   go_wp2
   go_ret
   exact ⟨by simp, HB1.out⟩
theorem inside_at (b : Nat) {n : Nat} (l : List ByteArray) (x : S32) (r : Bool) {w : World} (h : MapB w b n l) (hx : x.f0.size ≤ maxLen ∧ x.f3.size ≤ maxLen) (hr : interco_inside.f l x.f0 x.f1 x.f2 x.f3 x.f4 = some r) :
  Calls Try.prog 72 #[.map (some b), .agg #[.string x.f0, .string x.f1, .string x.f2, .string x.f3, .string x.f4]] w fun e w' => e = .returned (.bool r) ∧ Below w.heap.size w w' := by
 cases hr
 exact inside_calls b n l x w h hx.1 hx.2
end Go.Proofs.Ytmflggbpiadkjaa.P
namespace Go.Proofs.Ytmflggbpiadkjaa.P
open Go.RowKit Go.Proofs.YtmflggbpiadkjaaW.PrintWords Go.Proofs.YtmflggbpiadkjaaW.PrintLast Go.Proofs.YtmflggbpiadkjaaW.PrintMore Go.Maps Go.ChangeShapes Go.WideShapes Go.WideMaps
set_option linter.unusedVariables false
set_option linter.unusedSimpArgs false
theorem law103 : KeyLaw Try.prog 103 := deep_law (m := 2) (by omega) (by kernel_rfl) (by kernel_rfl) (by rw [Try.underlying103])
def keyV (a b : ByteArray) : Value := .agg #[.string a, .string b]
theorem key103 {a b : ByteArray} (ha : a.size ≤ maxLen) (hb : b.size ≤ maxLen) : ∃ kl, keyOf Try.prog 103 (keyV a b) = some kl := by
 unfold keyOf
 rw [Try.underlying103]
 have h1 : Try.prog.keyType 103 = true := by kernel_rfl
 have c2 : Try.prog.cellsOf 103 = 2 := by kernel_rfl
 have c9 : Try.prog.cellsOf 9 = 1 := by kernel_rfl
 have hf : (keyV a b).formed Try.prog 103 = true := by
  unfold keyV
  simp [Value.formed, Try.underlying103, c2]
 simp only [h1, hf, Bool.and_self, if_true]
 obtain ⟨m, hm⟩ : ∃ m, Try.prog.types.size = m + 1 := ⟨Try.prog.types.size - 1, by kernel_rfl⟩
 have inner : ∀ s : ByteArray, s.size ≤ maxLen → Try.prog.keyLits (m + 1) 9 [.string s] = some [Lit.string s.data.toList] := fun s hs => by
  unfold Program.keyLits
  rw [Try.underlying9]
  simp [hs]
 have hl : ∃ L, Try.prog.keyLits (Try.prog.types.size + 1) 103 (keyV a b).cells.toList = some L := by
  rw [hm]
  unfold Program.keyLits
  rw [Try.underlying103]
  unfold keyV
  simp [Value.cells, c2, c9, inner a ha, inner b hb]
 obtain ⟨L, hl⟩ := hl
 exact ⟨_, by rw [hl]; rfl⟩
theorem keyV_inj {a b a' b' : ByteArray} (h : keyV a b = keyV a' b') : (a, b) = (a', b') := by
 unfold keyV at h
 simp only [Value.agg.injEq, Array.mk.injEq, List.cons.injEq, Value.string.injEq, and_true] at h
 rw [h.1, h.2]
abbrev K2 := ByteArray × ByteArray
def esOf (gs : List (K2 × Value)) : Array MapEntry := (gs.mapIdx fun i p => (⟨keyV p.1.1 p.1.2, p.2, i⟩ : MapEntry)).toArray
theorem esOf_get (gs : List (K2 × Value)) (j : Nat) : (esOf gs).toList[j]? = (gs[j]?).map (fun p => (⟨keyV p.1.1 p.1.2, p.2, j⟩ : MapEntry)) := by
 unfold esOf
 rw [List.toList_toArray, List.getElem?_mapIdx]
theorem esOf_mem {gs : List (K2 × Value)} {e : MapEntry} (h : e ∈ (esOf gs).toList) : ∃ j p, gs[j]? = some p ∧ e = ⟨keyV p.1.1 p.1.2, p.2, j⟩ := by
 obtain ⟨j, hj⟩ := List.mem_iff_getElem?.1 h
 rw [esOf_get] at hj
 cases hp : gs[j]? with
 | none => rw [hp] at hj; cases hj
 | some p => rw [hp] at hj; exact ⟨j, p, hp, (Option.some.inj hj).symm⟩
theorem esOf_push (gs : List (K2 × Value)) (p : K2 × Value) : esOf (gs ++ [p]) = (esOf gs).push ⟨keyV p.1.1 p.1.2, p.2, gs.length⟩ := by
 unfold esOf
 rw [List.mapIdx_append]
 simp
theorem esOf_born (gs : List (K2 × Value)) : ((esOf gs).toList.map (·.born)).Nodup := by
 have e : (esOf gs).toList.map (·.born) = List.range gs.length := by
  refine List.ext_getElem? (fun j => ?_)
  rw [List.getElem?_map, esOf_get]
  cases hp : gs[j]? with
  | none =>
   rw [List.getElem?_eq_none_iff] at hp
   rw [List.getElem?_eq_none (by simpa using hp)]
   rfl
  | some p =>
   have hj := (List.getElem?_eq_some_iff.1 hp).1
   rw [List.getElem?_range hj]
   rfl
 rw [e]
 exact List.nodup_range
theorem esOf_set (gs : List (K2 × Value)) (j : Nat) (p : K2 × Value) (hp : gs[j]? = some p) (v : Value) : (esOf gs).modify j (fun e => { e with val := v }) = esOf (gs.set j (p.1, v)) := by
 apply Array.ext'
 rw [Array.toList_modify]
 refine List.ext_getElem? (fun q => ?_)
 rw [List.getElem?_modify, esOf_get, esOf_get, List.getElem?_set]
 have hj := (List.getElem?_eq_some_iff.1 hp).1
 by_cases h : j = q
 ·subst h
  rw [if_pos rfl, if_pos hj, hp]
  simp
 ·rw [if_neg h]
  cases gs[q]? with
  | none => simp [h]
  | some x => simp [h]
open Go.ChangeMaps (setBlock)
theorem setBlock_same {w : World} {b : Nat} {o : Obj} (h : w.heap[b]? = some o) : setBlock w b o = w := by
 unfold setBlock
 have hlt := (Array.getElem?_eq_some_iff.1 h).1
 have e : w.heap.setIfInBounds b o = w.heap := by
  apply Array.ext'
  rw [Array.toList_setIfInBounds]
  refine List.ext_getElem? (fun q => ?_)
  rw [List.getElem?_set]
  by_cases hq : b = q
  ·subst hq
   rw [if_pos rfl, if_pos (by simpa using hlt)]
   simpa using h.symm
  ·rw [if_neg hq]
 rw [e]
theorem zero67 (w : World) : (zeroValue 67).run Try.prog w = .ok (.slice none 0 0) w := by kernel_rfl
theorem keys_ok {gs : List (K2 × Value)} (hs : ∀ p ∈ gs, p.1.1.size ≤ maxLen ∧ p.1.2.size ≤ maxLen) : ∀ e ∈ (esOf gs).toList, ∃ l, keyOf Try.prog 103 e.key = some l := by
 intro e he
 obtain ⟨j, p, hp, rfl⟩ := esOf_mem he
 have := hs p (List.mem_of_getElem? hp)
 exact key103 this.1 this.2
theorem entry_new {w : World} {b : Nat} {gs : List (K2 × Value)} (hb : w.heap[b]? = some (.map (esOf gs) gs.length)) (hs : ∀ p ∈ gs, p.1.1.size ≤ maxLen ∧ p.1.2.size ≤ maxLen) {x y : ByteArray} (hx : x.size ≤ maxLen) (hy : y.size ≤ maxLen) (hn : ∀ p ∈ gs, p.1 ≠ (x, y)) :
  (Instr.mapEntry 101 (.map (some b)) (keyV x y)).run Try.prog w = .ok (.tuple #[.slice none 0 0, goInt gs.length]) (setBlock w b (.map (esOf (gs ++ [((x, y), .slice none 0 0)])) (gs.length + 1))) := by
 obtain ⟨kl, hk⟩ := key103 hx hy
 rcases law103.find w hk (esOf gs).toList (keys_ok hs) with ⟨h1, h2⟩ | ⟨j, e0, h1, h2, h3⟩
 ·rw [esOf_push]
  simp [Instr.mapEntry, run_underlying Try.underlying101, MapKept.run_getObj_map hb, law103.check w false hk, h1, zero67, MapKept.run_setObj_map _ hb, Result.andThen, setBlock]
 ·exfalso
  obtain ⟨j', p, hp, rfl⟩ := esOf_mem (List.mem_of_getElem? h2)
  exact hn p (List.mem_of_getElem? hp) (keyV_inj h3)
theorem entry_old {w : World} {b : Nat} {gs : List (K2 × Value)} (hb : w.heap[b]? = some (.map (esOf gs) gs.length)) (hs : ∀ p ∈ gs, p.1.1.size ≤ maxLen ∧ p.1.2.size ≤ maxLen) {x y : ByteArray} {j : Nat} {v : Value} (hj : gs[j]? = some ((x, y), v)) (hd : ∀ i p, gs[i]? = some p → p.1 = (x, y) → i = j) :
  (Instr.mapEntry 101 (.map (some b)) (keyV x y)).run Try.prog w = .ok (.tuple #[v, goInt j]) w := by
 have hxy := hs _ (List.mem_of_getElem? hj)
 obtain ⟨kl, hk⟩ := key103 hxy.1 hxy.2
 rcases law103.find w hk (esOf gs).toList (keys_ok hs) with ⟨h1, h2⟩ | ⟨j', e0, h1, h2, h3⟩
 ·exfalso
  exact h2 ⟨keyV x y, v, j⟩ (List.mem_of_getElem? (i := j) (by rw [esOf_get, hj]; rfl)) rfl
 ·rw [esOf_get] at h2
  cases hp : gs[j']? with
  | none => rw [hp] at h2; cases h2
  | some p =>
   rw [hp] at h2
   obtain rfl := Option.some.inj h2
   obtain rfl : j' = j := hd j' p hp (keyV_inj h3)
   obtain rfl : p = ((x, y), v) := Option.some.inj (hp.symm.trans hj)
   have hge : (esOf gs)[j']? = some ⟨keyV x y, v, j'⟩ := by
    have := esOf_get gs j'
    rw [hj] at this
    simpa using this
   have hsame : (esOf gs).modify j' (fun e => { e with key := keyV x y }) = esOf gs := by
    apply Array.ext'
    rw [Array.toList_modify]
    refine List.ext_getElem? (fun q => ?_)
    rw [List.getElem?_modify]
    by_cases h : j' = q
    ·subst h
     rw [esOf_get, hj]; simp
    ·simp [h]
   simp [Instr.mapEntry, run_underlying Try.underlying101, MapKept.run_getObj_map hb, law103.check w false hk, h1, hge, law103.stays w hk, hsame, MapKept.run_setObj_map _ hb, Result.andThen]
   exact setBlock_same hb
theorem entry_store {w : World} {b n : Nat} {gs : List (K2 × Value)} (hb : w.heap[b]? = some (.map (esOf gs) n)) {j : Nat} {p : K2 × Value} (hj : gs[j]? = some p) (v : Value) :
  (Instr.entryStore 101 (.map (some b)) (goInt j) v).run Try.prog w = .ok () (setBlock w b (.map (esOf (gs.set j (p.1, v))) n)) := by
 have hidx : (esOf gs).findIdx? (fun e => ((e.born : Nat) : Int) == ((j : Nat) : Int)) = some j := by
  rw [WideElems.findIdx_arr]
  exact WideElems.findIdx_born (esOf_born gs) (e0 := ⟨keyV p.1.1 p.1.2, p.2, j⟩) (by rw [esOf_get, hj]; rfl)
 rw [← esOf_set gs j p hj v]
 simp [Instr.entryStore, MapKept.run_getObj_map hb, asInt, asIntOf, goInt, hidx, MapKept.run_setObj_map _ hb, Result.andThen, setBlock]
end Go.Proofs.Ytmflggbpiadkjaa.P
namespace Go.Proofs.Ytmflggbpiadkjaa.P
open Go.RowKit Go.Proofs.YtmflggbpiadkjaaW.PrintWords Go.Proofs.YtmflggbpiadkjaaW.PrintLast Go.Proofs.YtmflggbpiadkjaaW.PrintMore Go.Maps Go.ChangeShapes Go.WideShapes Go.WideMaps
open Go.ChangeMaps (setBlock)
set_option linter.unusedVariables false
set_option linter.unusedSimpArgs false
def addG (k : K2) (x : Int) : List (K2 × List Int) → List (K2 × List Int)
 | [] => [(k, [x])]
 | q :: r => if q.1 = k then (q.1, q.2 ++ [x]) :: r else q :: addG k x r
theorem addG_new (k : K2) (x : Int) : ∀ (G : List (K2 × List Int)), (∀ q ∈ G, q.1 ≠ k) → addG k x G = G ++ [(k, [x])]
 | [], _ => rfl
 | q :: r, h => by
  unfold addG
  rw [if_neg (h q (by simp)), addG_new k x r (fun p hp => h p (by simp [hp]))]
  rfl
theorem addG_old (k : K2) (x : Int) : ∀ (G : List (K2 × List Int)) (j : Nat) (q : K2 × List Int), G[j]? = some q → q.1 = k → (∀ i p, i < j → G[i]? = some p → p.1 ≠ k) → addG k x G = G.set j (q.1, q.2 ++ [x])
 | [], j, q, h, _, _ => by simp at h
 | p :: r, 0, q, h, hk, _ => by
  obtain rfl : p = q := by simpa using h
  unfold addG
  rw [if_pos hk]
  rfl
 | p :: r, j + 1, q, h, hk, hn => by
  unfold addG
  rw [if_neg (hn 0 p (by omega) rfl), addG_old k x r j q (by simpa using h) hk (fun i p' hi hp => hn (i + 1) p' (by omega) (by simpa using hp))]
  rfl
structure Grps (W : World) (b : Nat) (gs : List (K2 × Value)) (G : List (K2 × List Int)) : Prop where
 map : W.heap[b]? = some (.map (esOf gs) gs.length)
 len : gs.length = G.length
 key : ∀ (j : Nat) (p : K2 × Value) (q : K2 × List Int), gs[j]? = some p → G[j]? = some q → p.1 = q.1
 row : ∀ (j : Nat) (p : K2 × Value) (q : K2 × List Int), gs[j]? = some p → G[j]? = some q → W.ownsRow (b + 1) 3 1 p.2 q.2.length (q.2.map (Value.int .i64))
 apart : ∀ (i j : Nat) (p q : K2 × Value), i ≠ j → gs[i]? = some p → gs[j]? = some q → ∀ g, p.2.ownBlock = some g → q.2.ownBlock ≠ some g
 diff : ∀ (i j : Nat) (p q : K2 × Value), gs[i]? = some p → gs[j]? = some q → p.1 = q.1 → i = j
 siz : ∀ p ∈ gs, p.1.1.size ≤ maxLen ∧ p.1.2.size ≤ maxLen
theorem Grps.lt {W : World} {b : Nat} {gs : List (K2 × Value)} {G : List (K2 × List Int)} (h : Grps W b gs G) : b < W.heap.size := (Array.getElem?_eq_some_iff.1 h.map).1
theorem row_ne {W : World} {b e size : Nat} {v : Value} {n : Nat} {xs : List Value} (h : W.ownsRow (b + 1) e size v n xs) : v.ownBlock = none ∨ v.ownBlock ≠ some b := by
 cases hv : v.ownBlock with
 | none => exact .inl rfl
 | some g =>
  right
  have := h.lt g hv
  intro e
  have := Option.some.inj e
  omega
theorem grown_setBlock (w : World) (b : Nat) (o : Obj) : w.grownBy (setBlock w b o) (some b) :=
 ⟨rfl, rfl, rfl, by unfold setBlock; simp, fun i hi hne => by
  unfold setBlock
  have : b ≠ i := fun e => hne (by rw [e])
  simp [Array.getElem?_setIfInBounds, this]⟩
theorem grown_alloc (w : World) (o : Obj) (row : Option Nat) : w.grownBy (w.alloc o) row :=
 ⟨rfl, rfl, rfl, (below_alloc (Below.refl w.heap.size w) o).size, fun i hi _ => Below.heap_alloc w o i hi⟩
theorem heap_setBlock {w : World} {b : Nat} (h : b < w.heap.size) (o : Obj) : (setBlock w b o).heap[b]? = some o := by
 show (w.heap.setIfInBounds b o)[b]? = some o
 rw [Array.getElem?_setIfInBounds, if_pos rfl, if_pos h]
theorem size_setBlock (w : World) (b : Nat) (o : Obj) : (setBlock w b o).heap.size = w.heap.size := by unfold setBlock; simp
theorem Grps.grown {W W' : World} {b : Nat} {gs : List (K2 × Value)} {G : List (K2 × List Int)} (h : Grps W b gs G) (hg : W.grownBy W' none) : Grps W' b gs G :=
 ⟨(hg.block b h.lt (by simp)).trans h.map, h.len, h.key, fun j p q h1 h2 => (h.row j p q h1 h2).kept hg (by
  cases hv : p.2.ownBlock with
  | none => exact .inl rfl
  | some g => exact .inr (by simp)), h.apart, h.diff, h.siz⟩
theorem Grps.below {W W' : World} {b : Nat} {gs : List (K2 × Value)} {G : List (K2 × List Int)} (h : Grps W b gs G) (hb : Below W.heap.size W W') : Grps W' b gs G :=
 h.grown ⟨hb.os, hb.tape, hb.output, hb.size, fun i hi _ => hb.block i hi⟩
theorem grp_end {W1 W2 : World} {b : Nat} {gs : List (K2 × Value)} {G : List (K2 × List Int)} {j : Nat} {x y : ByteArray} {n : Int} {v v' : Value} {xs : List Int} (h : Grps W1 b gs G) (hj : gs[j]? = some ((x, y), v)) (hq : G[j]? = some ((x, y), xs))
  (hown : W2.ownsRow (b + 1) 3 1 v' (xs.length + 1) (xs.map (Value.int .i64) ++ [.int .i64 n])) (hg : W1.grownBy W2 v.ownBlock) (hv : v'.ownBlock = v.ownBlock ∨ v'.ownBlock = some W1.heap.size) :
  ∃ W3 gs', (Instr.entryStore 101 (.map (some b)) (goInt j) v').run Try.prog W2 = .ok () W3 ∧ Grps W3 b gs' (G.set j ((x, y), xs ++ [n])) ∧ Below b W1 W3 ∧ gs'.length = gs.length := by
 have hrow := h.row j _ _ hj hq
 have hb2 : W2.heap[b]? = some (.map (esOf gs) gs.length) := (hg.block b h.lt (by
  rcases row_ne hrow with e | e
  ·rw [show v.ownBlock = none from e]; simp
  ·exact fun e2 => e e2.symm)).trans h.map
 have hlt2 : b < W2.heap.size := (Array.getElem?_eq_some_iff.1 hb2).1
 have hjl := (List.getElem?_eq_some_iff.1 hj).1
 refine ⟨_, gs.set j ((x, y), v'), entry_store hb2 hj v', ?_, ?_, by simp⟩
 ·have hset : ∀ (i : Nat) (p : K2 × Value), (gs.set j ((x, y), v'))[i]? = some p → (i = j ∧ p = ((x, y), v')) ∨ (i ≠ j ∧ gs[i]? = some p) := by
   intro i p hp
   rw [List.getElem?_set] at hp
   by_cases e : j = i
   ·subst e
    rw [if_pos rfl, if_pos hjl] at hp
    exact .inl ⟨rfl, (Option.some.inj hp).symm⟩
   ·rw [if_neg e] at hp
    exact .inr ⟨fun e2 => e e2.symm, hp⟩
  have hsetG : ∀ (i : Nat) (q : K2 × List Int), (G.set j ((x, y), xs ++ [n]))[i]? = some q → (i = j ∧ q = ((x, y), xs ++ [n])) ∨ (i ≠ j ∧ G[i]? = some q) := by
   intro i p hp
   rw [List.getElem?_set] at hp
   by_cases e : j = i
   ·subst e
    rw [if_pos rfl, if_pos (by have := h.len; omega)] at hp
    exact .inl ⟨rfl, (Option.some.inj hp).symm⟩
   ·rw [if_neg e] at hp
    exact .inr ⟨fun e2 => e e2.symm, hp⟩
  have away : ∀ (i : Nat) (p : K2 × Value), i ≠ j → gs[i]? = some p → p.2.ownBlock = none ∨ p.2.ownBlock ≠ v.ownBlock := by
   intro i p hi hp
   cases hpo : p.2.ownBlock with
   | none => exact .inl rfl
   | some g => exact .inr (fun e => h.apart i j p _ hi hp hj g hpo e.symm)
  refine ⟨?_, by simpa using h.len, ?_, ?_, ?_, ?_, ?_⟩
  ·rw [List.length_set]; exact heap_setBlock hlt2 _
  ·intro i p q hp hq'
   rcases hset i p hp with ⟨rfl, rfl⟩ | ⟨hi, hp⟩
   ·rcases hsetG i q hq' with ⟨_, rfl⟩ | ⟨hi, _⟩
    ·rfl
    ·exact absurd rfl hi
   ·rcases hsetG i q hq' with ⟨e, _⟩ | ⟨_, hq'⟩
    ·exact absurd e hi
    ·exact h.key i p q hp hq'
  ·intro i p q hp hq'
   rcases hset i p hp with ⟨rfl, rfl⟩ | ⟨hi, hp⟩
   ·rcases hsetG i q hq' with ⟨_, rfl⟩ | ⟨hi, _⟩
    ·have := hown.kept (grown_setBlock W2 b (.map (esOf (gs.set i ((x, y), v'))) gs.length)) (row_ne hown)
     show World.ownsRow _ _ _ _ v' (xs ++ [n]).length ((xs ++ [n]).map (Value.int .i64))
     rw [List.length_append, List.map_append]
     exact this
    ·exact absurd rfl hi
   ·rcases hsetG i q hq' with ⟨e, _⟩ | ⟨_, hq'⟩
    ·exact absurd e hi
    ·have h1 := (h.row i p q hp hq').kept hg (away i p hi hp)
     exact h1.kept (grown_setBlock W2 b _) (row_ne h1)
  ·intro i i' p q hne hp hq' g hpg hqg
   have hnew : ∀ (i : Nat) (p : K2 × Value), gs[i]? = some p → p.2.ownBlock ≠ some W1.heap.size := by
    intro i p hp e
    obtain ⟨q', hq'⟩ : ∃ q', G[i]? = some q' := ⟨G[i]'(by have := (List.getElem?_eq_some_iff.1 hp).1; have := h.len; omega), List.getElem?_eq_getElem _⟩
    have := (h.row i p q' hp hq').lt _ e
    omega
   rcases hset i p hp with ⟨e1, e2⟩ | ⟨hi, hp2⟩
   ·rcases hset i' q hq' with ⟨e3, e4⟩ | ⟨hi', hq2⟩
    ·exact hne (e1.trans e3.symm)
    ·subst e2
     rcases hv with e | e
     ·exact h.apart j i' _ q (fun e5 => hi' e5.symm) hj hq2 g (e.symm.trans hpg) hqg
     ·exact hnew i' q hq2 (hqg.trans (hpg.symm.trans e))
   ·rcases hset i' q hq' with ⟨e3, e4⟩ | ⟨hi', hq2⟩
    ·subst e4
     rcases hv with e | e
     ·exact h.apart i j p _ hi hp2 hj g hpg (e.symm.trans hqg)
     ·exact hnew i p hp2 (hpg.trans (hqg.symm.trans e))
    ·exact h.apart i i' p q hne hp2 hq2 g hpg hqg
  ·intro i i' p q hp hq' e
   have key : ∀ (i : Nat) (p : K2 × Value), (gs.set j ((x, y), v'))[i]? = some p → ∃ p', gs[i]? = some p' ∧ p'.1 = p.1 := by
    intro i p hp
    rcases hset i p hp with ⟨rfl, rfl⟩ | ⟨hi, hp⟩
    ·exact ⟨_, hj, rfl⟩
    ·exact ⟨p, hp, rfl⟩
   obtain ⟨p', h1, e1⟩ := key i p hp
   obtain ⟨q', h2, e2⟩ := key i' q hq'
   exact h.diff i i' p' q' h1 h2 (e1.trans (e.trans e2.symm))
  ·intro p hp
   obtain ⟨i, hi⟩ := List.mem_iff_getElem?.1 hp
   rcases hset i p hi with ⟨rfl, rfl⟩ | ⟨_, hi⟩
   ·exact h.siz ((x, y), v) (List.mem_of_getElem? hj)
   ·exact h.siz p (List.mem_of_getElem? hi)
 ·refine ⟨hg.os, hg.tape, hg.output, by rw [size_setBlock]; exact hg.size, fun k hk => ?_⟩
  have h1 := (grown_setBlock W2 b (.map (esOf (gs.set j ((x, y), v'))) gs.length)).block k (Nat.lt_of_lt_of_le (by have := h.lt; omega) hg.size) (fun e => by have := Option.some.inj e; omega)
  refine h1.trans (hg.block k (by have := h.lt; omega) (fun e => ?_))
  have := hrow.lt k e.symm
  omega
theorem grp_step {W : World} {b : Nat} {gs : List (K2 × Value)} {G : List (K2 × List Int)} (h : Grps W b gs G) {x y : ByteArray} (hx : x.size ≤ maxLen) (hy : y.size ≤ maxLen) (n : Int) (hlen : ∀ q ∈ G, q.2.length ≤ 1000000) :
  ∃ (v : Value) (st : Nat) (W1 : World) (xs : List Int), (Instr.mapEntry 101 (.map (some b)) (keyV x y)).run Try.prog W = .ok (.tuple #[v, goInt st]) W1 ∧ W1.ownsRow (b + 1) 3 1 v xs.length (xs.map (Value.int .i64)) ∧ xs.length ≤ 1000000 ∧ b + 1 ≤ W1.heap.size ∧
   (∀ (p : Addr) (u : Value), p.block ≠ b → W.cell? p = some u → W1.cell? p = some u) ∧ Below b W W1 ∧
   ∀ (v' : Value) (W2 : World), W2.ownsRow (b + 1) 3 1 v' (xs.length + 1) (xs.map (Value.int .i64) ++ [.int .i64 n]) → W1.grownBy W2 v.ownBlock → (v'.ownBlock = v.ownBlock ∨ v'.ownBlock = some W1.heap.size) →
    ∃ W3 gs', (Instr.entryStore 101 (.map (some b)) (goInt st) v').run Try.prog W2 = .ok () W3 ∧ Grps W3 b gs' (addG (x, y) n G) ∧ Below b W W3 := by
 by_cases hk : ∃ (j : Nat) (v : Value), gs[j]? = some ((x, y), v)
 ·obtain ⟨j, v, hj⟩ := hk
  have hjl := (List.getElem?_eq_some_iff.1 hj).1
  obtain ⟨q, hq⟩ : ∃ q, G[j]? = some q := ⟨G[j]'(by have := h.len; omega), List.getElem?_eq_getElem _⟩
  obtain ⟨qk, xs⟩ := q
  have hqk : (x, y) = qk := h.key j _ _ hj hq
  subst hqk
  have hl := hlen _ (List.mem_of_getElem? hq)
  refine ⟨v, j, W, xs, entry_old h.map h.siz hj (fun i p hp e => h.diff i j p _ hp hj e), h.row j _ _ hj hq, hl, h.lt, fun _ _ _ hc => hc, Below.refl _ _, fun v' W2 h1 h2 h3 => ?_⟩
  obtain ⟨W3, gs', hr, hG, hB, _⟩ := grp_end h hj hq h1 h2 h3
  refine ⟨W3, gs', hr, ?_, hB⟩
  rw [addG_old (x, y) n G j _ hq rfl (fun i p hi hp e => by
   obtain ⟨p', hp'⟩ : ∃ p', gs[i]? = some p' := ⟨gs[i]'(by omega), List.getElem?_eq_getElem _⟩
   have := h.diff i j p' _ hp' hj ((h.key i p' p hp' hp).trans e)
   omega)]
  exact hG
 ·have hn : ∀ p ∈ gs, p.1 ≠ (x, y) := by
   intro p hp e
   obtain ⟨j, hj⟩ := List.mem_iff_getElem?.1 hp
   obtain ⟨pk, pv⟩ := p
   subst e
   exact hk ⟨j, pv, hj⟩
  have hnG : ∀ q ∈ G, q.1 ≠ (x, y) := by
   intro q hq e
   obtain ⟨j, hj⟩ := List.mem_iff_getElem?.1 hq
   obtain ⟨p, hp⟩ : ∃ p, gs[j]? = some p := ⟨gs[j]'(by have := (List.getElem?_eq_some_iff.1 hj).1; have := h.len; omega), List.getElem?_eq_getElem _⟩
   exact hn p (List.mem_of_getElem? hp) ((h.key j p q hp hj).trans e)
  have hg1 := grown_setBlock W b (.map (esOf (gs ++ [((x, y), .slice none 0 0)])) (gs.length + 1))
  have h1 : Grps (setBlock W b (.map (esOf (gs ++ [((x, y), .slice none 0 0)])) (gs.length + 1))) b (gs ++ [((x, y), .slice none 0 0)]) (G ++ [((x, y), [])]) := by
   have app : ∀ (i : Nat) (p : K2 × Value), (gs ++ [((x, y), Value.slice none 0 0)])[i]? = some p → (gs[i]? = some p) ∨ (i = gs.length ∧ p = ((x, y), .slice none 0 0)) := by
    intro i p hp
    rcases Nat.lt_or_ge i gs.length with hl | hl
    ·rw [List.getElem?_append_left hl] at hp; exact .inl hp
    ·rw [List.getElem?_append_right hl] at hp
     have hi : i - gs.length < 1 := (List.getElem?_eq_some_iff.1 hp).1
     have : i = gs.length := by omega
     subst this
     simp at hp
     exact .inr ⟨rfl, hp.symm⟩
   have appG : ∀ (i : Nat) (q : K2 × List Int), (G ++ [((x, y), ([] : List Int))])[i]? = some q → (i < G.length ∧ G[i]? = some q) ∨ (i = G.length ∧ q = ((x, y), [])) := by
    intro i p hp
    rcases Nat.lt_or_ge i G.length with hl | hl
    ·rw [List.getElem?_append_left hl] at hp; exact .inl ⟨hl, hp⟩
    ·rw [List.getElem?_append_right hl] at hp
     have hi : i - G.length < 1 := (List.getElem?_eq_some_iff.1 hp).1
     have : i = G.length := by omega
     subst this
     simp at hp
     exact .inr ⟨rfl, hp.symm⟩
   have lg := h.len
   refine ⟨by rw [List.length_append]; exact heap_setBlock h.lt _, by simp [lg], ?_, ?_, ?_, ?_, ?_⟩
   ·intro i p q hp hq
    rcases app i p hp with hp | ⟨rfl, rfl⟩
    ·rcases appG i q hq with ⟨_, hq⟩ | ⟨e, _⟩
     ·exact h.key i p q hp hq
     ·have := (List.getElem?_eq_some_iff.1 hp).1; omega
    ·rcases appG _ q hq with ⟨e, _⟩ | ⟨_, rfl⟩
     ·omega
     ·rfl
   ·intro i p q hp hq
    rcases app i p hp with hp | ⟨rfl, rfl⟩
    ·rcases appG i q hq with ⟨_, hq⟩ | ⟨e, _⟩
     ·have := h.row i p q hp hq
      exact this.kept hg1 (row_ne this)
     ·have := (List.getElem?_eq_some_iff.1 hp).1; omega
    ·rcases appG _ q hq with ⟨e, _⟩ | ⟨_, rfl⟩
     ·omega
     ·exact World.ownsRow_nil _ _ _ _
   ·intro i i' p q hne hp hq g hpg hqg
    rcases app i p hp with hp | ⟨rfl, rfl⟩
    ·rcases app i' q hq with hq | ⟨rfl, rfl⟩
     ·exact h.apart i i' p q hne hp hq g hpg hqg
     ·simp [Value.ownBlock] at hqg
    ·simp [Value.ownBlock] at hpg
   ·intro i i' p q hp hq e
    rcases app i p hp with hp | ⟨rfl, rfl⟩
    ·rcases app i' q hq with hq | ⟨rfl, rfl⟩
     ·exact h.diff i i' p q hp hq e
     ·exact absurd e (hn p (List.mem_of_getElem? hp))
    ·rcases app i' q hq with hq | ⟨rfl, rfl⟩
     ·exact absurd e.symm (hn q (List.mem_of_getElem? hq))
     ·rfl
   ·intro p hp
    rcases List.mem_append.1 hp with hp | hp
    ·exact h.siz p hp
    ·simp only [List.mem_singleton] at hp
     subst hp
     exact ⟨hx, hy⟩
  have hj : (gs ++ [((x, y), Value.slice none 0 0)])[gs.length]? = some ((x, y), .slice none 0 0) := by simp
  have hq : (G ++ [((x, y), ([] : List Int))])[gs.length]? = some ((x, y), []) := by rw [h.len]; simp
  have hB1 : Below b W (setBlock W b (.map (esOf (gs ++ [((x, y), .slice none 0 0)])) (gs.length + 1))) :=
   ⟨hg1.os, hg1.tape, hg1.output, hg1.size, fun k hk => hg1.block k (by have := h.lt; omega) (fun e => by have := Option.some.inj e; omega)⟩
  refine ⟨.slice none 0 0, gs.length, _, [], entry_new h.map h.siz hx hy hn, World.ownsRow_nil _ _ _ _, by simp, by rw [size_setBlock]; exact h.lt, fun p u hp hc => ?_, hB1, fun v' W2 h2 h3 h4 => ?_⟩
  ·have hlt := World.block_lt_of_cell? W p hc
   have e := hg1.block p.block hlt (fun e => hp (Option.some.inj e))
   rw [← hc]
   simp only [World.cell?, e]
  ·obtain ⟨W3, gs', hr, hG, hB, _⟩ := grp_end (x := x) (y := y) (n := n) (xs := []) h1 hj hq h2 h3 h4
   refine ⟨W3, gs', hr, ?_, hB1.trans hB⟩
   rw [addG_new (x, y) n G hnG]
   have e : (G ++ [((x, y), ([] : List Int))]).set gs.length ((x, y), [] ++ [n]) = G ++ [((x, y), [n])] := by
    rw [h.len, List.set_append_right _ _ (Nat.le_refl _), Nat.sub_self]
    rfl
   rw [e] at hG
   exact hG
end Go.Proofs.Ytmflggbpiadkjaa.P
namespace Go.Proofs.Ytmflggbpiadkjaa.P
open Go.RowKit Go.Proofs.YtmflggbpiadkjaaW.PrintWords Go.Proofs.YtmflggbpiadkjaaW.PrintLast Go.Proofs.YtmflggbpiadkjaaW.PrintMore
attribute [local go_sem] max2_int min2_int max_two min_two max_three min_three max_four min_four
set_option linter.unusedVariables false
set_option linter.unusedSimpArgs false
def interco_coupleOf.f (a0_0 : ByteArray) (a0_1 : ByteArray) (a0_2 : ByteArray) (a0_3 : ByteArray) (a0_4 : ByteArray) : Option (ByteArray × ByteArray) := if (Op.bytesLess a0_0.toList a0_3.toList) = true then (some (a0_0, a0_3)) else (some (a0_3, a0_0))
set_option maxHeartbeats 8000000 in
set_option maxRecDepth 100000 in
theorem interco_coupleOf.calls (a0_0 : ByteArray) (a0_1 : ByteArray) (a0_2 : ByteArray) (a0_3 : ByteArray) (a0_4 : ByteArray) (r1 : ByteArray) (r2 : ByteArray) (w : World) (h : interco_coupleOf.f a0_0 a0_1 a0_2 a0_3 a0_4 = some (r1, r2)) :
  Calls Try.prog 87 #[.agg #[.string a0_0, .string a0_1, .string a0_2, .string a0_3, .string a0_4]] w fun e w' => e = .returned (.agg #[.string r1, .string r2]) ∧ Below w.heap.size w w' := by
 have hu32 := Try.underlying32
 have hu103 := Try.underlying103
 have HB := Aside0.mk (Below.refl w.heap.size w)
 have H : (if (Op.bytesLess a0_0.toList a0_3.toList) = true then (some (a0_0, a0_3)) else (some (a0_3, a0_0))) = some (r1, r2) := h
 clear h
 by_cases c2 : (Op.bytesLess a0_0.toList a0_3.toList) = true
 ·rw [if_pos c2] at H
  have c2b0 : (Op.bytesLess a0_0.toList a0_3.toList) = true := c2
  clear c2
  simp only [Option.some.injEq, Prod.mk.injEq] at H
  obtain ⟨rfl, rfl⟩ := H
  go_enter Try.func87, Try.ntmps87
  go_wp2_with (first | ((with_reducible refine gate_dst (N := 1) rfl ?_); refine box_event ?hg (N := 1) ?hd (cs := #[.string a0_0, .string a0_1, .string a0_2, .string a0_3, .string a0_4]) (t := 32) ?hr ?_; (case hd => rfl); (case hg => rfl); (case hr => first | (go_simp; done) | (go_simp; rfl)); intro gb560 hg w3 hbox hb; have n0_ := Aside0.mk (below_step (by repeat (first | (with_reducible first | exact HB.out | apply below_alloc | apply pw_below_drewN | apply below_drew1) | exact HB.out)) hb); have n1_ := Aside0.mk (hbox); have n2_ := Aside0.mk ((by rw [hg]; exact (below_size (by repeat (first | (with_reducible first | exact HB.out | apply below_alloc | apply pw_below_drewN | apply below_drew1) | exact HB.out))) : w.heap.size ≤ gb560)); have n3_ := Aside0.mk ((by rw [hg]; exact (below_size (by repeat (first | (with_reducible first | exact HB.out | apply below_alloc | apply pw_below_drewN | apply below_drew1) | exact HB.out))) : w.heap.size ≤ gb560)); clear HB; have HB := n0_; have BK560 := n1_; have GW560 := n2_; have GE560 := n3_; clear n0_ n1_ n2_ n3_; clear hb hbox hg) | ((with_reducible refine gate_dst (N := 2) rfl ?_); refine box_event ?hg (N := 2) ?hd (cs := #[.string (⟨#[]⟩ : ByteArray), .string (⟨#[]⟩ : ByteArray)]) (t := 103) ?hr ?_; (case hd => rfl); (case hg => rfl); (case hr => first | (go_simp; done) | (go_simp; rfl)); intro gb561 hg w4 hbox hb; have n0_ := Aside0.mk (blk_below (g := gb560) (o := .cells #[.string a0_0, .string a0_1, .string a0_2, .string a0_3, .string a0_4] 32 (0, 0)) (by (with_reducible repeat (first | refine blk_drewN ?_ _ | refine blk_drew ?_ | refine blk_alloc ?_ _)); exact BK560.out) hb); have n1_ := Aside0.mk (below_step (by repeat (first | (with_reducible first | exact HB.out | apply below_alloc | apply pw_below_drewN | apply below_drew1 | refine below_set ?_ GE560.out) | exact HB.out)) hb); have n2_ := Aside0.mk (hbox); have n3_ := Aside0.mk ((by rw [hg]; exact (below_size (by repeat (first | (with_reducible first | exact HB.out | apply below_alloc | apply pw_below_drewN | apply below_drew1 | refine below_set ?_ GE560.out) | exact HB.out))) : w.heap.size ≤ gb561)); have n4_ := Aside0.mk ((by rw [hg]; exact (below_size (by repeat (first | (with_reducible first | exact HB.out | apply below_alloc | apply pw_below_drewN | apply below_drew1 | refine below_set ?_ GE560.out) | exact HB.out))) : w.heap.size ≤ gb561)); have n5_ := Aside0.mk ((by rw [hg]; exact Nat.ne_of_lt (blk_lt (g := gb560) (o := .cells #[.string a0_0, .string a0_1, .string a0_2, .string a0_3, .string a0_4] 32 (0, 0)) (by (with_reducible repeat (first | refine blk_drewN ?_ _ | refine blk_drew ?_ | refine blk_alloc ?_ _)); exact BK560.out)) : gb560 ≠ gb561)); have n6_ := Aside0.mk ((by rw [hg]; exact Nat.ne_of_gt (blk_lt (g := gb560) (o := .cells #[.string a0_0, .string a0_1, .string a0_2, .string a0_3, .string a0_4] 32 (0, 0)) (by (with_reducible repeat (first | refine blk_drewN ?_ _ | refine blk_drew ?_ | refine blk_alloc ?_ _)); exact BK560.out)) : gb561 ≠ gb560)); clear BK560; clear HB; have BK560 := n0_; have HB := n1_; have BK561 := n2_; have GW561 := n3_; have GE561 := n4_; have NB560_561 := n5_; have NB561_560 := n6_; clear n0_ n1_ n2_ n3_ n4_ n5_ n6_; clear hb hbox hg; have hnb5 := NB560_561.out; have hnc5 := NB561_560.out; have hcz6_0 : w4.cell? ⟨gb560, 0, none⟩ = some (.string a0_0) := (blk_cell BK560.out 0).trans rfl; have hcz6_1 : w4.cell? ⟨gb560, 1, none⟩ = some (.string a0_1) := (blk_cell BK560.out 1).trans rfl; have hcz6_2 : w4.cell? ⟨gb560, 2, none⟩ = some (.string a0_2) := (blk_cell BK560.out 2).trans rfl; have hcz6_3 : w4.cell? ⟨gb560, 3, none⟩ = some (.string a0_3) := (blk_cell BK560.out 3).trans rfl; have hcz6_4 : w4.cell? ⟨gb560, 4, none⟩ = some (.string a0_4) := (blk_cell BK560.out 4).trans rfl; have hfz6_0 := blk_frozen BK560.out 0; have hfz6_1 := blk_frozen BK560.out 1; have hfz6_2 := blk_frozen BK560.out 2; have hfz6_3 := blk_frozen BK560.out 3; have hfz6_4 := blk_frozen BK560.out 4; have hcz7_0 : w4.cell? ⟨gb561, 0, none⟩ = some (.string (⟨#[]⟩ : ByteArray)) := (blk_cell BK561.out 0).trans rfl; have hcz7_1 : w4.cell? ⟨gb561, 1, none⟩ = some (.string (⟨#[]⟩ : ByteArray)) := (blk_cell BK561.out 1).trans rfl; have hfz7_0 := blk_frozen BK561.out 0; have hfz7_1 := blk_frozen BK561.out 1))
  refine bodyPost_ret (results_cell_row rfl _ _ gb561 103 #[.string a0_0, .string a0_3] (0, 0) _ rfl (by (with_reducible repeat (first | refine blk_drewN ?_ _ | refine blk_drew ?_ | refine blk_alloc ?_ _)); refine blk_put (cs := #[.string a0_0, .string (⟨#[]⟩ : ByteArray)]) ?_ 1 _ rfl; (with_reducible repeat (first | refine blk_drewN ?_ _ | refine blk_drew ?_ | refine blk_alloc ?_ _)); refine blk_put (cs := #[.string (⟨#[]⟩ : ByteArray), .string (⟨#[]⟩ : ByteArray)]) ?_ 0 _ rfl; (with_reducible repeat (first | refine blk_drewN ?_ _ | refine blk_drew ?_ | refine blk_alloc ?_ _)); exact BK561.out) Try.underlying103 rfl (by kernel_rfl)) rfl ?_
  exact ⟨by first | rfl | (simp [errW_none, errW_some] <;> rfl) | (simp [*, errW_none, errW_some] <;> rfl), by repeat (first | (with_reducible first | exact HB.out | apply below_alloc | apply pw_below_drewN | apply below_drew1 | refine below_set ?_ GE560.out | refine below_set ?_ GE561.out) | exact HB.out)⟩
 ·rw [if_neg c2] at H
  have c2b0 : (Op.bytesLess a0_0.toList a0_3.toList) = false := by simpa using c2
  clear c2
  simp only [Option.some.injEq, Prod.mk.injEq] at H
  obtain ⟨rfl, rfl⟩ := H
  go_enter Try.func87, Try.ntmps87
  go_wp2_with (first | ((with_reducible refine gate_dst (N := 1) rfl ?_); refine box_event ?hg (N := 1) ?hd (cs := #[.string a0_0, .string a0_1, .string a0_2, .string a0_3, .string a0_4]) (t := 32) ?hr ?_; (case hd => rfl); (case hg => rfl); (case hr => first | (go_simp; done) | (go_simp; rfl)); intro gb560 hg w8 hbox hb; have n0_ := Aside0.mk (below_step (by repeat (first | (with_reducible first | exact HB.out | apply below_alloc | apply pw_below_drewN | apply below_drew1) | exact HB.out)) hb); have n1_ := Aside0.mk (hbox); have n2_ := Aside0.mk ((by rw [hg]; exact (below_size (by repeat (first | (with_reducible first | exact HB.out | apply below_alloc | apply pw_below_drewN | apply below_drew1) | exact HB.out))) : w.heap.size ≤ gb560)); have n3_ := Aside0.mk ((by rw [hg]; exact (below_size (by repeat (first | (with_reducible first | exact HB.out | apply below_alloc | apply pw_below_drewN | apply below_drew1) | exact HB.out))) : w.heap.size ≤ gb560)); clear HB; have HB := n0_; have BK560 := n1_; have GW560 := n2_; have GE560 := n3_; clear n0_ n1_ n2_ n3_; clear hb hbox hg) | ((with_reducible refine gate_dst (N := 2) rfl ?_); refine box_event ?hg (N := 2) ?hd (cs := #[.string (⟨#[]⟩ : ByteArray), .string (⟨#[]⟩ : ByteArray)]) (t := 103) ?hr ?_; (case hd => rfl); (case hg => rfl); (case hr => first | (go_simp; done) | (go_simp; rfl)); intro gb561 hg w9 hbox hb; have n0_ := Aside0.mk (blk_below (g := gb560) (o := .cells #[.string a0_0, .string a0_1, .string a0_2, .string a0_3, .string a0_4] 32 (0, 0)) (by (with_reducible repeat (first | refine blk_drewN ?_ _ | refine blk_drew ?_ | refine blk_alloc ?_ _)); exact BK560.out) hb); have n1_ := Aside0.mk (below_step (by repeat (first | (with_reducible first | exact HB.out | apply below_alloc | apply pw_below_drewN | apply below_drew1 | refine below_set ?_ GE560.out) | exact HB.out)) hb); have n2_ := Aside0.mk (hbox); have n3_ := Aside0.mk ((by rw [hg]; exact (below_size (by repeat (first | (with_reducible first | exact HB.out | apply below_alloc | apply pw_below_drewN | apply below_drew1 | refine below_set ?_ GE560.out) | exact HB.out))) : w.heap.size ≤ gb561)); have n4_ := Aside0.mk ((by rw [hg]; exact (below_size (by repeat (first | (with_reducible first | exact HB.out | apply below_alloc | apply pw_below_drewN | apply below_drew1 | refine below_set ?_ GE560.out) | exact HB.out))) : w.heap.size ≤ gb561)); have n5_ := Aside0.mk ((by rw [hg]; exact Nat.ne_of_lt (blk_lt (g := gb560) (o := .cells #[.string a0_0, .string a0_1, .string a0_2, .string a0_3, .string a0_4] 32 (0, 0)) (by (with_reducible repeat (first | refine blk_drewN ?_ _ | refine blk_drew ?_ | refine blk_alloc ?_ _)); exact BK560.out)) : gb560 ≠ gb561)); have n6_ := Aside0.mk ((by rw [hg]; exact Nat.ne_of_gt (blk_lt (g := gb560) (o := .cells #[.string a0_0, .string a0_1, .string a0_2, .string a0_3, .string a0_4] 32 (0, 0)) (by (with_reducible repeat (first | refine blk_drewN ?_ _ | refine blk_drew ?_ | refine blk_alloc ?_ _)); exact BK560.out)) : gb561 ≠ gb560)); clear BK560; clear HB; have BK560 := n0_; have HB := n1_; have BK561 := n2_; have GW561 := n3_; have GE561 := n4_; have NB560_561 := n5_; have NB561_560 := n6_; clear n0_ n1_ n2_ n3_ n4_ n5_ n6_; clear hb hbox hg; have hnb10 := NB560_561.out; have hnc10 := NB561_560.out; have hcz11_0 : w9.cell? ⟨gb560, 0, none⟩ = some (.string a0_0) := (blk_cell BK560.out 0).trans rfl; have hcz11_1 : w9.cell? ⟨gb560, 1, none⟩ = some (.string a0_1) := (blk_cell BK560.out 1).trans rfl; have hcz11_2 : w9.cell? ⟨gb560, 2, none⟩ = some (.string a0_2) := (blk_cell BK560.out 2).trans rfl; have hcz11_3 : w9.cell? ⟨gb560, 3, none⟩ = some (.string a0_3) := (blk_cell BK560.out 3).trans rfl; have hcz11_4 : w9.cell? ⟨gb560, 4, none⟩ = some (.string a0_4) := (blk_cell BK560.out 4).trans rfl; have hfz11_0 := blk_frozen BK560.out 0; have hfz11_1 := blk_frozen BK560.out 1; have hfz11_2 := blk_frozen BK560.out 2; have hfz11_3 := blk_frozen BK560.out 3; have hfz11_4 := blk_frozen BK560.out 4; have hcz12_0 : w9.cell? ⟨gb561, 0, none⟩ = some (.string (⟨#[]⟩ : ByteArray)) := (blk_cell BK561.out 0).trans rfl; have hcz12_1 : w9.cell? ⟨gb561, 1, none⟩ = some (.string (⟨#[]⟩ : ByteArray)) := (blk_cell BK561.out 1).trans rfl; have hfz12_0 := blk_frozen BK561.out 0; have hfz12_1 := blk_frozen BK561.out 1))
  refine bodyPost_ret (results_cell_row rfl _ _ gb561 103 #[.string a0_3, .string a0_0] (0, 0) _ rfl (by (with_reducible repeat (first | refine blk_drewN ?_ _ | refine blk_drew ?_ | refine blk_alloc ?_ _)); refine blk_put (cs := #[.string a0_3, .string (⟨#[]⟩ : ByteArray)]) ?_ 1 _ rfl; (with_reducible repeat (first | refine blk_drewN ?_ _ | refine blk_drew ?_ | refine blk_alloc ?_ _)); refine blk_put (cs := #[.string (⟨#[]⟩ : ByteArray), .string (⟨#[]⟩ : ByteArray)]) ?_ 0 _ rfl; (with_reducible repeat (first | refine blk_drewN ?_ _ | refine blk_drew ?_ | refine blk_alloc ?_ _)); exact BK561.out) Try.underlying103 rfl (by kernel_rfl)) rfl ?_
  exact ⟨by first | rfl | (simp [errW_none, errW_some] <;> rfl) | (simp [*, errW_none, errW_some] <;> rfl), by repeat (first | (with_reducible first | exact HB.out | apply below_alloc | apply pw_below_drewN | apply below_drew1 | refine below_set ?_ GE560.out | refine below_set ?_ GE561.out) | exact HB.out)⟩
end Go.Proofs.Ytmflggbpiadkjaa.P
/- Texts of mine, joined: Opn0, Opn. -/
namespace Go.Proofs.Ytmflggbpiadkjaa.Op
open Go.RowKit Go.Proofs.YtmflggbpiadkjaaW.PrintWords Go.ChangeShapes Go.WideShapes Go.Deep
def FitL {α : Type} (f : α → Prop) (xs : List α) : Prop := xs.length ≤ maxLen ∧ ∀ x ∈ xs, f x
def Opn (P : Program) (t : TypeId) {α : Type} (k : Kd α) (fit : α → Prop) : Prop :=
  ∀ {H : Type} {enc : TypeId × Value → H} {w : World} {fuel : Nat} {cs : List Value} {x : DataW H × List MemPlace}, DataW.trod enc P w 0 (fun _ => true) true fuel t cs = some x → ∃ y, k.K w y cs ∧ fit y
section
variable {P : Program}
theorem opn_int {t : TypeId} {k : IntKind} (ht : P.underlying t = some (.int k)) : Opn P t (Kd.int k) (fun n => (Lit.int k n).wf = true) := by
  intro H enc w fuel cs x h
  obtain ⟨n, rfl, _, hn⟩ := DataW.trod_int ht h
  exact ⟨n, rfl, hn⟩
theorem opn_string {t : TypeId} (ht : P.underlying t = some .string) : Opn P t Kd.string (fun s => s.size ≤ maxLen) := by
  intro H enc w fuel cs x h
  obtain ⟨s, rfl, _, hs⟩ := DataW.trod_string ht h
  exact ⟨s, rfl, hs⟩
theorem opn_slice {t e : TypeId} {α : Type} {d : Kd α} {f : α → Prop} (ht : P.underlying t = some (.slice e)) (hC : P.cellsOf e = d.sz) (he : Opn P e d f) : Opn P t (Kd.slice e d) (FitL f) := by
  intro H enc w fuel cs x h
  rcases open_slice ht h with ⟨rfl, _⟩ | ⟨a, len, cap, m, n, D, Pl, rfl, hb, hl, hm, hmm, hx, hi⟩
  · exact ⟨[], ⟨none, 0, rfl, Nat.le_refl _, ⟨rfl, by simp, fun h => by simp at h⟩⟩, by simp, fun x hx => by simp at hx⟩
  · have hmc : m = cap := by rw [hmm]; simp
    have build : ∀ k, k ≤ len → ∃ ys : List α, ys.length = k ∧ (∀ y ∈ ys, f y) ∧ ∀ i y, ys[i]? = some y → ∃ c, c.length = d.sz ∧ d.K w y c ∧ ∀ j u, c[j]? = some u → w.cell? (a.add (i * d.sz + j)) = some u := by
      intro k
      induction k with
      | zero => exact fun _ => ⟨[], rfl, fun y hy => by simp at hy, fun i y hy => by simp at hy⟩
      | succ k ih =>
        intro hk
        obtain ⟨ys, hyl, hyf, hyc⟩ := ih (by omega)
        obtain ⟨cs', hc, ht'⟩ := hi k (by omega)
        obtain ⟨y, K, fy⟩ := he ht'
        rw [hC] at hc
        obtain ⟨_, hcl, hat⟩ := World.cells?_some hc
        refine ⟨ys ++ [y], by simp [hyl], fun z hz => ?_, fun i z hz => ?_⟩
        · rcases List.mem_append.1 hz with hz | hz
          · exact hyf z hz
          · rw [List.mem_singleton.1 hz]; exact fy
        · rcases Nat.lt_or_ge i ys.length with hlt | hge
          · rw [List.getElem?_append_left hlt] at hz
            exact hyc i z hz
          · have hil : i = ys.length := by
              have := (List.getElem?_eq_some_iff.1 hz).1
              simp at this; omega
            subst hil
            obtain rfl : y = z := by simpa using hz
            refine ⟨cs', hcl, K, fun j u hu => ?_⟩
            have hj : j < d.sz := by have := (List.getElem?_eq_some_iff.1 hu).1; omega
            rw [← Go.Deep.add_add, hyl, hat j hj, hu]
    obtain ⟨ys, hyl, hyf, hyc⟩ := build len (Nat.le_refl _)
    have hml : maxLen ≤ 9223372036854775807 := by unfold maxLen; omega
    exact ⟨ys, ⟨some a, cap, by rw [hyl], by omega, by rw [hyl]; exact ⟨hyl, by omega, fun _ => ⟨a, rfl, hyc⟩⟩⟩, by omega, hyf⟩
theorem Opn.last {α : Type} {k : Kd α} {w : World} {y : α} {cs : List Value} {o s : Nat} (h : k.K w y ((cs.drop o).take s)) (hl : cs.length ≤ o + s) : k.K w y (cs.drop o) := by
  rwa [List.take_of_length_le (by simp; omega)] at h
theorem Opn.cons {α β : Type} {a : Kd α} {b : Kd β} {w : World} {x : α} {y : β} {cs : List Value} {o s : Nat} (h : a.K w x ((cs.drop o).take s)) (k : b.K w y (cs.drop (o + s))) : (Kd.pair a b).K w (x, y) (cs.drop o) :=
  ⟨_, _, (by rw [← List.drop_drop]; exact (List.take_append_drop s (cs.drop o)).symm), h, k⟩
theorem Opn.zero {α : Type} {k : Kd α} {w : World} {y : α} {cs : List Value} (h : k.K w y (cs.drop 0)) : k.K w y cs := h
theorem opened_slice {H : Type} {enc : TypeId × Value → H} {w : World} {t e : TypeId} {α : Type} {d : Kd α} {f : α → Prop} {A : Option Addr} {len cap : Nat} {dd : DataW H} {ps : List MemPlace} (ho : Opn P t (Kd.slice e d) (FitL f))
    (h : DataW.Trod enc P w 0 (fun _ => true) true t (.slice A len cap) dd ps) : ∃ l : List α, l.length = len ∧ l.length ≤ cap ∧ d.C w A l.length l ∧ FitL f l := by
  obtain ⟨fuel, hf⟩ := h
  obtain ⟨y, ⟨A', c, e1, hl, hC⟩, fy⟩ := ho hf
  have e2 : Value.slice A len cap = Value.slice A' y.length c := by simpa [Value.cells] using e1
  injection e2 with e3 e4 e5
  subst e3 e4 e5
  exact ⟨y, rfl, hl, hC, fy⟩
end
end Go.Proofs.Ytmflggbpiadkjaa.Op
namespace Go.Proofs.Ytmflggbpiadkjaa.P
open Go.RowKit Go.Proofs.YtmflggbpiadkjaaW.PrintWords Go.Proofs.YtmflggbpiadkjaaW.PrintLast
open Go.Proofs.Ytmflggbpiadkjaa.Op
set_option linter.unusedVariables false
def fit32 (x : S32) : Prop := (fun s => s.size ≤ maxLen) x.f0 ∧ (fun s => s.size ≤ maxLen) x.f1 ∧ (fun s => s.size ≤ maxLen) x.f2 ∧ (fun s => s.size ≤ maxLen) x.f3 ∧ (fun s => s.size ≤ maxLen) x.f4
theorem opn32 : Opn Try.prog 32 k32 fit32 := by
  intro H enc w fuel cs x h
  obtain ⟨xs, n, _, _, hlen, hxl, hg⟩ := DataW.trod_struct Try.underlying32 h
  have hlen : cs.length = 5 := hlen.trans (by kernel_rfl)
  have g0 := (hg 0 _ rfl).trans (List.getElem?_eq_getElem (show 0 < xs.length by rw [hxl]; decide))
  change DataW.trod _ _ _ _ _ _ _ 9 (List.take (Try.prog.cellsOf 9) (List.drop 0 cs)) = _ at g0
  rw [show Try.prog.cellsOf 9 = 1 by kernel_rfl] at g0
  obtain ⟨y0, K0, f0⟩ := (opn_string Try.underlying9) g0
  have g1 := (hg 1 _ rfl).trans (List.getElem?_eq_getElem (show 1 < xs.length by rw [hxl]; decide))
  change DataW.trod _ _ _ _ _ _ _ 9 (List.take (Try.prog.cellsOf 9) (List.drop 1 cs)) = _ at g1
  rw [show Try.prog.cellsOf 9 = 1 by kernel_rfl] at g1
  obtain ⟨y1, K1, f1⟩ := (opn_string Try.underlying9) g1
  have g2 := (hg 2 _ rfl).trans (List.getElem?_eq_getElem (show 2 < xs.length by rw [hxl]; decide))
  change DataW.trod _ _ _ _ _ _ _ 9 (List.take (Try.prog.cellsOf 9) (List.drop 2 cs)) = _ at g2
  rw [show Try.prog.cellsOf 9 = 1 by kernel_rfl] at g2
  obtain ⟨y2, K2, f2⟩ := (opn_string Try.underlying9) g2
  have g3 := (hg 3 _ rfl).trans (List.getElem?_eq_getElem (show 3 < xs.length by rw [hxl]; decide))
  change DataW.trod _ _ _ _ _ _ _ 9 (List.take (Try.prog.cellsOf 9) (List.drop 3 cs)) = _ at g3
  rw [show Try.prog.cellsOf 9 = 1 by kernel_rfl] at g3
  obtain ⟨y3, K3, f3⟩ := (opn_string Try.underlying9) g3
  have g4 := (hg 4 _ rfl).trans (List.getElem?_eq_getElem (show 4 < xs.length by rw [hxl]; decide))
  change DataW.trod _ _ _ _ _ _ _ 9 (List.take (Try.prog.cellsOf 9) (List.drop 4 cs)) = _ at g4
  rw [show Try.prog.cellsOf 9 = 1 by kernel_rfl] at g4
  obtain ⟨y4, K4, f4⟩ := (opn_string Try.underlying9) g4
  exact ⟨⟨y0, y1, y2, y3, y4⟩, (show (Kd.pair Kd.string (Kd.pair Kd.string (Kd.pair Kd.string (Kd.pair Kd.string Kd.string)))).K w (y0, y1, y2, y3, y4) cs from Opn.zero (Opn.cons K0 (Opn.cons K1 (Opn.cons K2 (Opn.cons K3 (Opn.last K4 (by omega))))))), ⟨f0, f1, f2, f3, f4⟩⟩
def fit34 (x : S34) : Prop := fit32 x.f0 ∧ (fun n => (Lit.int .i64 n).wf = true) x.f1 ∧ (fun n => (Lit.int .i64 n).wf = true) x.f2
theorem opn34 : Opn Try.prog 34 k34 fit34 := by
  intro H enc w fuel cs x h
  obtain ⟨xs, n, _, _, hlen, hxl, hg⟩ := DataW.trod_struct Try.underlying34 h
  have hlen : cs.length = 7 := hlen.trans (by kernel_rfl)
  have g0 := (hg 0 _ rfl).trans (List.getElem?_eq_getElem (show 0 < xs.length by rw [hxl]; decide))
  change DataW.trod _ _ _ _ _ _ _ 32 (List.take (Try.prog.cellsOf 32) (List.drop 0 cs)) = _ at g0
  rw [show Try.prog.cellsOf 32 = 5 by kernel_rfl] at g0
  obtain ⟨y0, K0, f0⟩ := opn32 g0
  have g1 := (hg 1 _ rfl).trans (List.getElem?_eq_getElem (show 1 < xs.length by rw [hxl]; decide))
  change DataW.trod _ _ _ _ _ _ _ 3 (List.take (Try.prog.cellsOf 3) (List.drop 5 cs)) = _ at g1
  rw [show Try.prog.cellsOf 3 = 1 by kernel_rfl] at g1
  obtain ⟨y1, K1, f1⟩ := (opn_int Try.underlying3) g1
  have g2 := (hg 2 _ rfl).trans (List.getElem?_eq_getElem (show 2 < xs.length by rw [hxl]; decide))
  change DataW.trod _ _ _ _ _ _ _ 3 (List.take (Try.prog.cellsOf 3) (List.drop 6 cs)) = _ at g2
  rw [show Try.prog.cellsOf 3 = 1 by kernel_rfl] at g2
  obtain ⟨y2, K2, f2⟩ := (opn_int Try.underlying3) g2
  exact ⟨⟨y0, y1, y2⟩, (show (Kd.pair k32 (Kd.pair (Kd.int .i64) (Kd.int .i64))).K w (y0, y1, y2) cs from Opn.zero (Opn.cons K0 (Opn.cons K1 (Opn.last K2 (by omega))))), ⟨f0, f1, f2⟩⟩
end Go.Proofs.Ytmflggbpiadkjaa.P
namespace Go.Proofs.Ytmflggbpiadkjaa.P
open Go.RowKit Go.Sort Go.Proofs.YtmflggbpiadkjaaW.PrintWords Go.Proofs.YtmflggbpiadkjaaW.PrintLast Go.Proofs.Ytmflggbpiadkjaa.Op
set_option linter.unusedVariables false
set_option linter.unusedSimpArgs false
theorem w64 {n : Int} (h1 : -9223372036854775808 ≤ n) (h2 : n ≤ 9223372036854775807) : wrap64 n = n := by unfold wrap64; omega
theorem rd_at {l : List Int} {i : Nat} (h : i < l.length) : rd l (i : Int) = l[i] := by simp [rd, h]
theorem rd34_at {l : List S34} {i : Nat} (h : i < l.length) : rd_T34 l (i : Int) = l[i] := by simp [rd_T34, h]
theorem rd32_at {l : List S32} {i : Nat} (h : i < l.length) : rd_T32 l (i : Int) = l[i] := by simp [rd_T32, h]
theorem ba_beq (a b : ByteArray) : (a.toList == b.toList) = true ↔ a = b := by
 rw [beq_iff_eq]
 exact ⟨fun h => ByteArray.ext (Array.ext' (by rw [← ByteArray.toList_eq a, ← ByteArray.toList_eq b]; exact h)), fun h => by rw [h]⟩
theorem key_beq (x y : S32) : (x.f0.toList == y.f0.toList && (x.f1.toList == y.f1.toList && (x.f2.toList == y.f2.toList && (x.f3.toList == y.f3.toList && (x.f4.toList == y.f4.toList))))) = decide (cmpK x y = 0) := by
 rw [Bool.eq_iff_iff, decide_eq_true_iff]
 simp only [Bool.and_eq_true, ba_beq]
 constructor
 ·rintro ⟨h0, h1, h2, h3, h4⟩
  have e : x = y := by
   obtain ⟨a, b, c, d, e⟩ := x
   obtain ⟨a', b', c', d', e'⟩ := y
   rw [S32.mk.injEq]
   exact ⟨h0, h1, h2, h3, h4⟩
  rw [e]; exact cmpK_self y
 ·intro h
  have e := cmpK_zero h
  subst e
  exact ⟨rfl, rfl, rfl, rfl, rfl⟩
end Go.Proofs.Ytmflggbpiadkjaa.P
namespace Go.Proofs.Ytmflggbpiadkjaa.P
open Go.RowKit Go.Sort Go.Proofs.YtmflggbpiadkjaaW.PrintWords Go.Proofs.YtmflggbpiadkjaaW.PrintLast
set_option linter.unusedVariables false
set_option linter.unusedSimpArgs false
def psA (P : S32 → Bool) (l : List S34) : Int := (amts (l.filter (fun c => P c.f0))).sum
def psB (P : S32 → Bool) (l : List S34) : Int := (bass (l.filter (fun c => P c.f0))).sum
theorem psA_nil (P : S32 → Bool) : psA P [] = 0 := rfl
theorem psB_nil (P : S32 → Bool) : psB P [] = 0 := rfl
theorem psA_cons (P : S32 → Bool) (c : S34) (r : List S34) : psA P (c :: r) = (if P c.f0 = true then c.f1 else 0) + psA P r := by
 unfold psA
 by_cases h : P c.f0 = true
 ·rw [List.filter_cons_of_pos (by exact h), if_pos h]; rfl
 ·rw [List.filter_cons_of_neg (by exact h), if_neg h, Int.zero_add]
theorem psB_cons (P : S32 → Bool) (c : S34) (r : List S34) : psB P (c :: r) = (if P c.f0 = true then c.f2 else 0) + psB P r := by
 unfold psB
 by_cases h : P c.f0 = true
 ·rw [List.filter_cons_of_pos (by exact h), if_pos h]; rfl
 ·rw [List.filter_cons_of_neg (by exact h), if_neg h, Int.zero_add]
theorem psA_append (P : S32 → Bool) : ∀ (a b : List S34), psA P (a ++ b) = psA P a + psA P b
 | [], b => by rw [List.nil_append, psA_nil, Int.zero_add]
 | c :: a, b => by rw [List.cons_append, psA_cons, psA_cons, psA_append P a b]; omega
theorem psB_append (P : S32 → Bool) : ∀ (a b : List S34), psB P (a ++ b) = psB P a + psB P b
 | [], b => by rw [List.nil_append, psB_nil, Int.zero_add]
 | c :: a, b => by rw [List.cons_append, psB_cons, psB_cons, psB_append P a b]; omega
def isK (k : S32) (x : S32) : Bool := decide (cmpK k x = 0)
theorem isK_iff {k x : S32} : isK k x = true ↔ k = x := by
 unfold isK
 rw [decide_eq_true_iff]
 exact ⟨cmpK_zero, fun h => by rw [h]; exact cmpK_self x⟩
theorem sumA_ps (l : List S34) (k : S32) : sumA l k = psA (isK k) l := rfl
theorem sumB_ps (l : List S34) (k : S32) : sumB l k = psB (isK k) l := rfl
theorem psA_zero {P : S32 → Bool} : ∀ {l : List S34}, (∀ c ∈ l, P c.f0 = false) → psA P l = 0
 | [], _ => rfl
 | c :: r, h => by rw [psA_cons, if_neg (by rw [h c (by simp)]; decide), psA_zero (fun x hx => h x (by simp [hx]))]; rfl
theorem psB_zero {P : S32 → Bool} : ∀ {l : List S34}, (∀ c ∈ l, P c.f0 = false) → psB P l = 0
 | [], _ => rfl
 | c :: r, h => by rw [psB_cons, if_neg (by rw [h c (by simp)]; decide), psB_zero (fun x hx => h x (by simp [hx]))]; rfl
theorem sumA_none {l : List S34} {k : S32} (h : k ∉ keysK l) : sumA l k = 0 := by
 rw [sumA_ps]
 refine psA_zero (fun c hc => ?_)
 rw [Bool.eq_false_iff]
 intro e
 exact h ((mem_keysK k l).2 ⟨c, hc, (isK_iff.1 e).symm⟩)
theorem sumB_none {l : List S34} {k : S32} (h : k ∉ keysK l) : sumB l k = 0 := by
 rw [sumB_ps]
 refine psB_zero (fun c hc => ?_)
 rw [Bool.eq_false_iff]
 intro e
 exact h ((mem_keysK k l).2 ⟨c, hc, (isK_iff.1 e).symm⟩)
def cellOf (l : List S34) (k : S32) : S34 := ⟨k, sumA l k, sumB l k⟩
def nzC (c : S34) : Bool := decide (c.f1 ≠ 0 ∨ c.f2 ≠ 0)
def fitK (l : List S34) (k : S32) : Bool := fitB (sumA l k) && fitB (sumB l k)
theorem cells_1 (l : List S34) : ∀ (ks : List S32) (out : List S34), (cellsK l ks out).1 = ks.all (fitK l)
 | [], out => rfl
 | k :: t, out => by
  unfold cellsK
  rw [List.all_cons]
  rw [show (fitB (sumA l k) && fitB (sumB l k)) = fitK l k from rfl]
  cases h : fitK l k with
  | true => rw [if_pos rfl, Bool.true_and]; exact cells_1 l t _
  | false => rw [if_neg (by decide), Bool.false_and]
theorem cells_2 (l : List S34) : ∀ (ks : List S32) (out : List S34), ks.all (fitK l) = true → (cellsK l ks out).2 = out ++ (ks.map (cellOf l)).filter nzC
 | [], out, _ => by simp [cellsK]
 | k :: t, out, h => by
  rw [List.all_cons, Bool.and_eq_true] at h
  unfold cellsK
  have h1 : (fitB (sumA l k) && fitB (sumB l k)) = true := h.1
  rw [if_pos h1, cells_2 l t _ h.2, List.map_cons]
  by_cases c : sumA l k ≠ 0 ∨ sumB l k ≠ 0
  ·rw [if_pos c, List.filter_cons_of_pos (by exact decide_eq_true c), List.append_assoc]
   rfl
  ·rw [if_neg c, List.filter_cons_of_neg (by unfold nzC; rw [decide_eq_true_iff]; exact c)]
theorem ofK_eq (l : List S34) : ofK l = if (keysK l).all (fitK l) = true then (((keysK l).map (cellOf l)).filter nzC, 0) else ([], 4) := by
 unfold ofK
 rw [cells_1]
 by_cases h : (keysK l).all (fitK l) = true
 ·rw [if_pos h, if_pos h, cells_2 l _ _ h, List.nil_append]
 ·rw [if_neg h, if_neg h]
theorem fit_all (l : List S34) : (keysK l).all (fitK l) = true ↔ ∀ k, fitK l k = true := by
 rw [List.all_eq_true]
 constructor
 ·intro h k
  by_cases hk : k ∈ keysK l
  ·exact h k hk
  ·unfold fitK
   rw [sumA_none hk, sumB_none hk]
   decide
 ·exact fun h k _ => h k
theorem filter_map_keys (l : List S34) (ks : List S32) : (ks.map (cellOf l)).filter nzC = (ks.filter (fun k => nzC (cellOf l k))).map (cellOf l) := by
 rw [List.filter_map]; rfl
theorem ofK_congr {l m : List S34} (h : ∀ k, sumA l k = sumA m k ∧ sumB l k = sumB m k) : ofK l = ofK m := by
 have hf : ∀ k, fitK l k = fitK m k := fun k => by unfold fitK; rw [(h k).1, (h k).2]
 have hc : ∀ k, cellOf l k = cellOf m k := fun k => by unfold cellOf; rw [(h k).1, (h k).2]
 rw [ofK_eq, ofK_eq]
 by_cases ha : (keysK l).all (fitK l) = true
 ·have hb : (keysK m).all (fitK m) = true := (fit_all m).2 (fun k => by rw [← hf]; exact (fit_all l).1 ha k)
  rw [if_pos ha, if_pos hb, filter_map_keys, filter_map_keys]
  have e : (keysK l).filter (fun k => nzC (cellOf l k)) = (keysK m).filter (fun k => nzC (cellOf m k)) := by
   have nz : ∀ (x : List S34) (k : S32), nzC (cellOf x k) = true → k ∈ keysK x := by
    intro x k hk
    by_cases hm : k ∈ keysK x
    ·exact hm
    ·unfold cellOf nzC at hk
     simp only [sumA_none hm, sumB_none hm] at hk
     simp at hk
   refine ss_unique ((ss_keysK l).filter _) ((ss_keysK m).filter _) (fun k => ?_)
   rw [List.mem_filter, List.mem_filter]
   constructor
   ·rintro ⟨_, h2⟩
    have h2 : nzC (cellOf l k) = true := h2
    rw [hc] at h2
    exact ⟨nz m k h2, h2⟩
   ·rintro ⟨_, h2⟩
    have h2 : nzC (cellOf m k) = true := h2
    exact ⟨nz l k (by rw [hc]; exact h2), by show nzC (cellOf l k) = true; rw [hc]; exact h2⟩
  rw [e]
  congr 1
  exact List.map_congr_left (fun k _ => hc k)
 ·have hb : ¬ (keysK m).all (fitK m) = true := fun hb => ha ((fit_all l).2 (fun k => by rw [hf]; exact (fit_all m).1 hb k))
  rw [if_neg ha, if_neg hb]
theorem ofK_code (l : List S34) : (ofK l).2 = 0 ∨ ofK l = ([], 4) := by
 rw [ofK_eq]
 by_cases h : (keysK l).all (fitK l) = true
 ·rw [if_pos h]; exact .inl rfl
 ·rw [if_neg h]; exact .inr rfl
theorem ofK_fit {l : List S34} (h : (ofK l).2 = 0) : ∀ k, fitK l k = true := by
 rw [ofK_eq] at h
 by_cases hf : (keysK l).all (fitK l) = true
 ·exact (fit_all l).1 hf
 ·rw [if_neg hf] at h; cases h
theorem ofK_ok {l : List S34} (h : ∀ k, fitK l k = true) : ofK l = (((keysK l).map (cellOf l)).filter nzC, 0) := by
 rw [ofK_eq, if_pos ((fit_all l).2 h)]
def RightL (s : List S34) : Prop := (∀ c ∈ s, badC c = false) ∧ SS (s.map S34.f0)
theorem rd34_get {l : List S34} {i : Nat} (h : i < l.length) : rd_T34 l (i : Int) = l[i] := by simp [rd_T34, h]
theorem right_iff (s : List S34) : rightB s = true ↔ RightL s := by
 unfold rightB RightL
 rw [List.all_eq_true]
 constructor
 ·intro h
  have hb : ∀ (i : Nat) (hi : i < s.length), badC s[i] = false ∧ (∀ h0 : 0 < i, cmpK (s[i - 1]'(by omega)).f0 s[i].f0 < 0) := by
   intro i hi
   have h1 := h i (List.mem_range.2 hi)
   unfold badAt at h1
   rw [rd34_get hi, Bool.not_or, Bool.and_eq_true] at h1
   refine ⟨by simpa using h1.1, fun h0 => ?_⟩
   have h2 := h1.2
   rw [decide_eq_true h0, Bool.true_and, rd34_get (show i - 1 < s.length by omega), Bool.not_eq_true', decide_eq_false_iff_not] at h2
   omega
  refine ⟨fun c hc => ?_, ?_⟩
  ·obtain ⟨i, hi, rfl⟩ := List.mem_iff_getElem.1 hc
   exact (hb i hi).1
  ·refine List.pairwise_iff_getElem.2 (fun i j hi hj hij => ?_)
   rw [List.length_map] at hi hj
   rw [List.getElem_map, List.getElem_map]
   have step : ∀ d, i + d + 1 < s.length → (hd : i + d + 1 < s.length) → cmpK s[i].f0 (s[i + d + 1]).f0 < 0 := by
    intro d
    induction d with
    | zero => intro _ hd; exact (hb (i + 1) hd).2 (by omega)
    | succ d ih =>
     intro _ hd
     have h1 := ih (by omega) (by omega)
     have h2 := (hb (i + (d + 1) + 1) hd).2 (by omega)
     exact cmpK_trans h1 h2
   obtain ⟨d, rfl⟩ : ∃ d, j = i + d + 1 := ⟨j - i - 1, by omega⟩
   exact step d hj hj
 ·rintro ⟨h1, h2⟩ i hi
  rw [List.mem_range] at hi
  unfold badAt
  rw [rd34_get hi, h1 _ (List.getElem_mem hi), Bool.false_or]
  by_cases h0 : 0 < i
  ·have h3 := List.pairwise_iff_getElem.1 h2 (i - 1) i (by rw [List.length_map]; omega) (by rw [List.length_map]; omega) (by omega)
   rw [List.getElem_map, List.getElem_map] at h3
   rw [decide_eq_true h0, Bool.true_and, rd34_get (show i - 1 < s.length by omega), decide_eq_false (by omega)]
   rfl
  ·rw [decide_eq_false h0]; rfl
theorem bad_iff (c : S34) : badC c = false ↔ nzC c = true ∧ fitB c.f1 = true ∧ fitB c.f2 = true := by
 unfold badC nzC
 by_cases h1 : c.f1 = 0 <;> by_cases h2 : c.f2 = 0 <;> cases fitB c.f1 <;> cases fitB c.f2 <;> simp [h1, h2]
theorem insK_len (k : S32) : ∀ (ks : List S32), (insK k ks).length ≤ ks.length + 1
 | [] => Nat.le_refl _
 | a :: b => by
  have ih := insK_len k b
  unfold insK
  by_cases h1 : cmpK k a < 0
  ·rw [if_pos h1]; simp
  ·rw [if_neg h1]
   by_cases h2 : cmpK k a = 0
   ·rw [if_pos h2]; simp
   ·rw [if_neg h2]; simp only [List.length_cons]; omega
theorem keysK_le : ∀ (l : List S34), (keysK l).length ≤ l.length
 | [] => Nat.le_refl _
 | c :: r => by
  have := insK_len c.f0 (keysK r)
  have := keysK_le r
  unfold keysK
  simp only [List.length_cons]
  omega
theorem ofK_le (l : List S34) : (ofK l).1.length ≤ l.length := by
 rcases ofK_code l with h | h
 ·rw [ofK_ok (ofK_fit h)]
  refine Nat.le_trans (List.length_filter_le _ _) ?_
  rw [List.length_map]
  exact keysK_le l
 ·rw [h]; exact Nat.zero_le _
end Go.Proofs.Ytmflggbpiadkjaa.P
namespace Go.Proofs.Ytmflggbpiadkjaa.P
open Go.RowKit Go.Sort Go.Proofs.YtmflggbpiadkjaaW.PrintWords Go.Proofs.YtmflggbpiadkjaaW.PrintLast
set_option linter.unusedVariables false
set_option linter.unusedSimpArgs false
def k2S (k : K2) : S32 := ⟨k.1, k.2, ⟨#[]⟩, ⟨#[]⟩, ⟨#[]⟩⟩
def pk (p : S89) : S32 := k2S (p.f0, p.f1)
theorem k2S_inj {a b : K2} (h : k2S a = k2S b) : a = b := by
 unfold k2S at h
 rw [S32.mk.injEq] at h
 exact Prod.ext h.1 h.2.1
theorem cmp_k2 (a b : K2) : cmpK (k2S a) (k2S b) = if cmpB a.1 b.1 = 0 then cmpB a.2 b.2 else cmpB a.1 b.1 := by
 have e : cmpB (⟨#[]⟩ : ByteArray) ⟨#[]⟩ = 0 := rfl
 rw [cmpK_eq]
 unfold k2S
 simp only [e, if_true]
 by_cases h : cmpB a.1 b.1 = 0
 ·rw [if_pos h, if_pos h]
  by_cases h2 : cmpB a.2 b.2 = 0
  ·rw [if_pos h2, h2]
  ·rw [if_neg h2]
 ·rw [if_neg h, if_neg h]
theorem compare_pure (x : S89) (a b : ByteArray) (n : Int) : interco_compare.f x.f0 x.f1 x.f2 a b n = some (cmpK (pk x) (k2S (a, b))) := by
 unfold interco_compare.f strings_Compare.f pk
 rw [cmp_k2]
 by_cases h : cmpB x.f0 a = 0
 ·simp only [Option.bind_some, if_pos h]
 ·simp only [Option.bind_some, if_neg h]
theorem rd89_at {l : List S89} {i : Nat} (h : i < l.length) : rd_T89 l (i : Int) = l[i] := by simp [rd_T89, h]
theorem mid_w {i j : Nat} (h : i + j ≤ 4000000) : wrap64 ((IntKind.u64.wrap (wrap64 ((i : Int) + (j : Int)))) / 2) = (((i + j) / 2 : Nat) : Int) := by
 have h1 : wrap64 ((i : Int) + (j : Int)) = ((i + j : Nat) : Int) := by rw [w64 (by omega) (by omega)]; omega
 have h2 : IntKind.u64.wrap ((i + j : Nat) : Int) = ((i + j : Nat) : Int) := by
  rw [IntKind.wrap_u64]; omega
 rw [h1, h2, w64 (by omega) (by omega)]
 omega
theorem search_l0 (out : List S89) (a b : ByteArray) (n : Int) (hl : out.length ≤ 1000000) (hs : SS (out.map pk)) : ∀ (d i j : Nat), j - i ≤ d → i ≤ j → j ≤ out.length →
  (∀ q (h : q < out.length), q < i → cmpK (pk out[q]) (k2S (a, b)) < 0) → (∀ q (h : q < out.length), j ≤ q → 0 ≤ cmpK (pk out[q]) (k2S (a, b))) →
  ∃ (k : Nat) (bb : Bool), Ev (fun kr => bin_search.l0 kr out (out.length : Int) (i : Int) (j : Int) a b n) ((k : Int), bb) ∧ k ≤ out.length ∧ (∀ q (h : q < out.length), q < k → cmpK (pk out[q]) (k2S (a, b)) < 0) ∧ (∀ q (h : q < out.length), k ≤ q → 0 ≤ cmpK (pk out[q]) (k2S (a, b))) := by
 have srt : ∀ (q p : Nat) (hq : q < out.length) (hp : p < out.length), q < p → cmpK (pk out[q]) (pk out[p]) < 0 := fun q p hq hp h => by
  have := List.pairwise_iff_getElem.1 hs q p (by simpa using hq) (by simpa using hp) h
  simpa using this
 intro d
 induction d with
 | zero =>
  intro i j hd hij hj h1 h2
  obtain rfl : i = j := by omega
  by_cases hlt : i < out.length
  ·refine ⟨i, cmpK (pk out[i]) (k2S (a, b)) == 0, ?_, hj, h1, h2⟩
   refine Ev.step (fun k => bin_search.l0.eq_2 _ _ _ _ _ _ _ k) ?_
   simp only [if_neg (show ¬ ((i : Int) < (i : Int)) by omega), if_pos (show (i : Int) < (out.length : Int) by omega), if_pos (show (0 : Int) ≤ (i : Int) by omega), compare_pure, rd89_at hlt, Option.bind_some]
   exact Ev.now _
  ·refine ⟨i, false, ?_, hj, h1, h2⟩
   refine Ev.step (fun k => bin_search.l0.eq_2 _ _ _ _ _ _ _ k) ?_
   simp only [if_neg (show ¬ ((i : Int) < (i : Int)) by omega), if_neg (show ¬ (i : Int) < (out.length : Int) by omega)]
   exact Ev.now _
 | succ d ih =>
  intro i j hd hij hj h1 h2
  by_cases hlt : i < j
  ·have hm : (i + j) / 2 < out.length := by omega
   have hw : wrap64 ((((i + j) / 2 : Nat) : Int) + 1) = (((i + j) / 2 + 1 : Nat) : Int) := by rw [w64 (by omega) (by omega)]; omega
   by_cases hc : cmpK (pk out[(i + j) / 2]) (k2S (a, b)) < 0
   ·obtain ⟨k, bb, he, h3⟩ := ih ((i + j) / 2 + 1) j (by omega) (by omega) hj (fun q hq hqm => by
     rcases Nat.lt_or_ge q ((i + j) / 2) with h | h
     ·exact cmpK_trans (srt q _ hq hm h) hc
     ·obtain rfl : q = (i + j) / 2 := by omega
      exact hc) h2
    refine ⟨k, bb, ?_, h3⟩
    refine Ev.step (fun k => bin_search.l0.eq_2 _ _ _ _ _ _ _ k) ?_
    simp only [if_pos (show ((i : Int) < (j : Int)) by omega), mid_w (show i + j ≤ 4000000 by omega), if_pos (show (0 : Int) ≤ (((i + j) / 2 : Nat) : Int) by omega), if_pos (show (((i + j) / 2 : Nat) : Int) < (out.length : Int) by omega), compare_pure, rd89_at hm, Option.bind_some, if_pos hc, hw]
    exact he
   ·obtain ⟨k, bb, he, h3⟩ := ih i ((i + j) / 2) (by omega) (by omega) (by omega) h1 (fun q hq hqm => by
     rcases Nat.lt_or_ge ((i + j) / 2) q with h | h
     ·have := srt _ q hm hq h
      rcases Int.lt_or_le (cmpK (pk out[q]) (k2S (a, b))) 0 with h4 | h4
      ·exact absurd (cmpK_trans this h4) hc
      ·exact h4
     ·obtain rfl : q = (i + j) / 2 := by omega
      omega)
    refine ⟨k, bb, ?_, h3⟩
    refine Ev.step (fun k => bin_search.l0.eq_2 _ _ _ _ _ _ _ k) ?_
    simp only [if_pos (show ((i : Int) < (j : Int)) by omega), mid_w (show i + j ≤ 4000000 by omega), if_pos (show (0 : Int) ≤ (((i + j) / 2 : Nat) : Int) by omega), if_pos (show (((i + j) / 2 : Nat) : Int) < (out.length : Int) by omega), compare_pure, rd89_at hm, Option.bind_some, if_neg hc]
    exact he
  ·exact ih i j (by omega) hij hj h1 h2
theorem search_ok (out : List S89) (p : S89) (hl : out.length ≤ 1000000) (hs : SS (out.map pk)) (hn : ∀ x ∈ out, pk x ≠ pk p) :
  ∃ (kr k : Nat) (bb : Bool), bin_search.f kr out p.f0 p.f1 p.f2 = some ((k : Int), bb) ∧ k ≤ out.length ∧ SS ((out.take k ++ [p] ++ out.drop k).map pk) ∧ ∀ x, x ∈ out.take k ++ [p] ++ out.drop k ↔ x = p ∨ x ∈ out := by
 obtain ⟨k, bb, he, hk, h1, h2⟩ := search_l0 out p.f0 p.f1 p.f2 hl hs out.length 0 out.length (by omega) (by omega) (Nat.le_refl _) (fun q _ h => absurd h (by omega)) (fun q h h3 => absurd h (by omega))
 obtain ⟨kr, hkr⟩ := Ev.rounds he
 refine ⟨kr, k, bb, hkr, hk, ?_, fun x => ?_⟩
 ·have ht : ∀ x ∈ out.take k, cmpK (pk x) (pk p) < 0 := fun x hx => by
   obtain ⟨q, hq, rfl⟩ := List.mem_iff_getElem.1 hx
   rw [List.length_take] at hq
   rw [List.getElem_take]
   exact h1 q (by omega) (by omega)
  have hd : ∀ x ∈ out.drop k, cmpK (pk p) (pk x) < 0 := fun x hx => by
   obtain ⟨q, hq, rfl⟩ := List.mem_iff_getElem.1 hx
   rw [List.length_drop] at hq
   rw [List.getElem_drop]
   have h3 := h2 (k + q) (by omega) (by omega)
   have h4 := hn out[k + q] (List.getElem_mem _)
   have h5 : cmpK (pk out[k + q]) (k2S (p.f0, p.f1)) ≠ 0 := fun e => h4 (cmpK_zero e)
   have h6 := cmp3_K.sw (pk out[k + q]) (k2S (p.f0, p.f1))
   show cmpK (k2S (p.f0, p.f1)) (pk out[k + q]) < 0
   omega
  have hst : SS ((out.take k).map pk) := by rw [List.map_take]; exact hs.take
  have hsd : SS ((out.drop k).map pk) := by rw [List.map_drop]; exact hs.drop
  rw [List.append_assoc, List.map_append, List.map_append]
  refine List.pairwise_append.2 ⟨hst, ?_, ?_⟩
  ·refine List.pairwise_cons.2 ⟨fun x hx => ?_, hsd⟩
   obtain ⟨y, hy, rfl⟩ := List.mem_map.1 (by simpa using hx : x ∈ (out.drop k).map pk)
   exact hd y hy
  ·intro x hx y hy
   obtain ⟨x', hx', rfl⟩ := List.mem_map.1 hx
   rcases List.mem_append.1 hy with hy | hy
   ·simp only [List.map_cons, List.map_nil, List.mem_singleton] at hy
    subst hy
    exact ht x' hx'
   ·obtain ⟨y', hy', rfl⟩ := List.mem_map.1 hy
    exact cmpK_trans (ht x' hx') (hd y' hy')
 ·rw [List.mem_append, List.mem_append, List.mem_singleton]
  have e : out = out.take k ++ out.drop k := (List.take_append_drop k out).symm
  constructor
  ·rintro ((h | h) | h)
   ·exact .inr (List.mem_of_mem_take h)
   ·exact .inl h
   ·exact .inr (List.mem_of_mem_drop h)
  ·rintro (h | h)
   ·exact .inl (.inr h)
   ·rw [e, List.mem_append] at h
    rcases h with h | h
    ·exact .inl (.inl h)
    ·exact .inr h
def cpl (c : S34) : K2 := if Op.bytesLess c.f0.f0.toList c.f0.f3.toList = true then (c.f0.f0, c.f0.f3) else (c.f0.f3, c.f0.f0)
theorem couple_pure (c : S34) : interco_coupleOf.f c.f0.f0 c.f0.f1 c.f0.f2 c.f0.f3 c.f0.f4 = some ((cpl c).1, (cpl c).2) := by
 unfold interco_coupleOf.f cpl
 by_cases h : Op.bytesLess c.f0.f0.toList c.f0.f3.toList = true
 ·rw [if_pos h, if_pos h]
 ·rw [if_neg h, if_neg h]
def grpOf (l : List S34) : List (K2 × List Int) := l.foldl (fun G c => addG (cpl c) c.f2 G) []
theorem grpOf_take (l : List S34) {k : Nat} (h : k < l.length) : grpOf (l.take (k + 1)) = addG (cpl l[k]) l[k].f2 (grpOf (l.take k)) := by
 unfold grpOf
 rw [List.take_add_one, List.getElem?_eq_getElem h, List.foldl_append]
 rfl
def ck (c : S34) : S34 := ⟨k2S (cpl c), 0, c.f2⟩
theorem addG_mem {k : K2} {x : Int} : ∀ {G : List (K2 × List Int)} {q : K2 × List Int}, (G.map (·.1)).Nodup → q ∈ addG k x G → (q ∈ G ∧ q.1 ≠ k) ∨ (q.1 = k ∧ ((∃ xs, (k, xs) ∈ G ∧ q.2 = xs ++ [x]) ∨ ((∀ p ∈ G, p.1 ≠ k) ∧ q.2 = [x])))
 | [], q, _, h => by
  simp only [addG, List.mem_singleton] at h
  subst h
  exact .inr ⟨rfl, .inr ⟨fun p hp => by simp at hp, rfl⟩⟩
 | p :: r, q, hn, h => by
  rw [List.map_cons, List.nodup_cons] at hn
  unfold addG at h
  by_cases e : p.1 = k
  ·rw [if_pos e] at h
   rcases List.mem_cons.1 h with rfl | h
   ·exact .inr ⟨e, .inl ⟨p.2, by rw [← e]; exact List.mem_cons_self .., rfl⟩⟩
   ·refine .inl ⟨List.mem_cons_of_mem _ h, fun e2 => hn.1 ?_⟩
    rw [e, ← e2]
    exact List.mem_map.2 ⟨q, h, rfl⟩
  ·rw [if_neg e] at h
   rcases List.mem_cons.1 h with rfl | h
   ·exact .inl ⟨List.mem_cons_self .., e⟩
   ·rcases addG_mem hn.2 h with ⟨h1, h2⟩ | ⟨h1, ⟨xs, h2, h3⟩ | ⟨h2, h3⟩⟩
    ·exact .inl ⟨List.mem_cons_of_mem _ h1, h2⟩
    ·exact .inr ⟨h1, .inl ⟨xs, List.mem_cons_of_mem _ h2, h3⟩⟩
    ·refine .inr ⟨h1, .inr ⟨fun p' hp' => ?_, h3⟩⟩
     rcases List.mem_cons.1 hp' with rfl | hp'
     ·exact e
     ·exact h2 p' hp'
theorem addG_keys (k : K2) (x : Int) : ∀ (G : List (K2 × List Int)) (k' : K2), k' ∈ (addG k x G).map (·.1) ↔ k' = k ∨ k' ∈ G.map (·.1)
 | [], k' => by simp [addG]
 | p :: r, k' => by
  unfold addG
  by_cases e : p.1 = k
  ·rw [if_pos e]
   simp only [List.map_cons, List.mem_cons, e]
   constructor
   ·rintro (h | h)
    ·exact .inl h
    ·exact .inr (.inr h)
   ·rintro (h | h | h)
    ·exact .inl h
    ·exact .inl h
    ·exact .inr h
  ·rw [if_neg e, List.map_cons, List.mem_cons, addG_keys k x r k', List.map_cons, List.mem_cons]
   constructor
   ·rintro (h | h | h)
    ·exact .inr (.inl h)
    ·exact .inl h
    ·exact .inr (.inr h)
   ·rintro (h | h | h)
    ·exact .inr (.inl h)
    ·exact .inl h
    ·exact .inr (.inr h)
theorem addG_nodup (k : K2) (x : Int) : ∀ (G : List (K2 × List Int)), (G.map (·.1)).Nodup → ((addG k x G).map (·.1)).Nodup
 | [], _ => by simp [addG]
 | p :: r, h => by
  rw [List.map_cons, List.nodup_cons] at h
  unfold addG
  by_cases e : p.1 = k
  ·rw [if_pos e, List.map_cons, List.nodup_cons]; exact h
  ·rw [if_neg e, List.map_cons, List.nodup_cons]
   refine ⟨fun hm => ?_, addG_nodup k x r h.2⟩
   rcases (addG_keys k x r _).1 hm with h1 | h1
   ·exact e h1
   ·exact h.1 h1
structure GOk (G : List (K2 × List Int)) (m : List S34) : Prop where
 nodup : (G.map (·.1)).Nodup
 keys : ∀ k : K2, k ∈ G.map (·.1) ↔ ∃ c ∈ m, c.f0 = k2S k
 sums : ∀ q ∈ G, q.2.sum = psB (isK (k2S q.1)) m
 all : ∀ c ∈ m, ∃ k : K2, c.f0 = k2S k
 len : ∀ q ∈ G, q.2.length ≤ m.length
 ints : ∀ q ∈ G, ∀ x ∈ q.2, ∃ c ∈ m, x = c.f2
theorem GOk.step {G : List (K2 × List Int)} {m : List S34} (h : GOk G m) (k : K2) (x : Int) : GOk (addG k x G) (m ++ [⟨k2S k, 0, x⟩]) := by
 have ps : ∀ P, psB P (m ++ [⟨k2S k, 0, x⟩]) = psB P m + if P (k2S k) = true then x else 0 := fun P => by
  rw [psB_append, psB_cons, psB_nil, Int.add_zero]
 refine ⟨addG_nodup k x G h.nodup, fun k' => ?_, fun q hq => ?_, fun c hc => ?_, fun q hq => ?_, fun q hq y hy => ?_⟩
 ·rw [addG_keys, h.keys]
  constructor
  ·rintro (rfl | ⟨c, hc, e⟩)
   ·exact ⟨⟨k2S k', 0, x⟩, by simp, rfl⟩
   ·exact ⟨c, by simp [hc], e⟩
  ·rintro ⟨c, hc, e⟩
   rcases List.mem_append.1 hc with hc | hc
   ·exact .inr ⟨c, hc, e⟩
   ·simp only [List.mem_singleton] at hc
    subst hc
    exact .inl (k2S_inj e).symm
 ·rw [ps]
  rcases addG_mem h.nodup hq with ⟨h1, h2⟩ | ⟨h1, ⟨xs, h2, h3⟩ | ⟨h2, h3⟩⟩
  ·rw [if_neg (fun e => h2 (k2S_inj (isK_iff.1 e))), Int.add_zero]
   exact h.sums q h1
  ·rw [h1, h3, List.sum_append, List.sum_cons, List.sum_nil, Int.add_zero, if_pos (isK_iff.2 rfl), h.sums _ h2]
  ·rw [h1, h3, if_pos (isK_iff.2 rfl), psB_zero (fun c hc => ?_)]
   ·simp
   ·rw [Bool.eq_false_iff]
    intro e
    have := isK_iff.1 e
    obtain ⟨q', hq', e'⟩ := List.mem_map.1 ((h.keys k).2 ⟨c, hc, this.symm⟩)
    exact h2 q' hq' e'
 ·rcases List.mem_append.1 hc with hc | hc
  ·exact h.all c hc
  ·simp only [List.mem_singleton] at hc
   subst hc
   exact ⟨k, rfl⟩
 ·rw [List.length_append]
  rcases addG_mem h.nodup hq with ⟨h1, h2⟩ | ⟨h1, ⟨xs, h2, h3⟩ | ⟨h2, h3⟩⟩
  ·have := h.len q h1; simp; omega
  ·have := h.len _ h2
   rw [h3, List.length_append]
   simp only [List.length_cons, List.length_nil]
   simp only at this
   omega
  ·rw [h3]; simp
 ·rcases addG_mem h.nodup hq with ⟨h1, h2⟩ | ⟨h1, ⟨xs, h2, h3⟩ | ⟨h2, h3⟩⟩
  ·obtain ⟨c, hc, e⟩ := h.ints q h1 y hy
   exact ⟨c, by simp [hc], e⟩
  ·rw [h3] at hy
   rcases List.mem_append.1 hy with hy | hy
   ·obtain ⟨c, hc, e⟩ := h.ints _ h2 y hy
    exact ⟨c, by simp [hc], e⟩
   ·simp only [List.mem_singleton] at hy
    subst hy
    exact ⟨⟨k2S k, 0, y⟩, by simp, rfl⟩
  ·rw [h3] at hy
   simp only [List.mem_singleton] at hy
   subst hy
   exact ⟨⟨k2S k, 0, y⟩, by simp, rfl⟩
theorem gok (l : List S34) : GOk (grpOf l) (l.map ck) := by
 have gen : ∀ (l : List S34) (G : List (K2 × List Int)) (m : List S34), GOk G m → GOk (l.foldl (fun G c => addG (cpl c) c.f2 G) G) (m ++ l.map ck) := by
  intro l
  induction l with
  | nil => intro G m h; simpa using h
  | cons c r ih =>
   intro G m h
   have := ih (addG (cpl c) c.f2 G) (m ++ [ck c]) (h.step (cpl c) c.f2)
   rw [List.append_assoc] at this
   exact this
 have := gen l [] [] ⟨List.nodup_nil, fun k => by simp, fun q hq => by simp at hq, fun c hc => by simp at hc, fun q hq => by simp at hq, fun q hq => by simp at hq⟩
 simpa [grpOf] using this
def prK (l : List S34) : List S89 × Int :=
 if (keysK (l.map ck)).all (fun k => fitB (sumB (l.map ck) k)) = true then ((keysK (l.map ck)).map (fun k => ⟨k.f0, k.f1, sumB (l.map ck) k⟩), 0) else ([], 4)
def pairOf (q : K2 × List Int) : S89 := ⟨q.1.1, q.1.2, if i64ok q.2.sum then q.2.sum else 0⟩
theorem key_of {l : List S34} {k : S32} (hk : k ∈ keysK (l.map ck)) : ∃ q ∈ grpOf l, k = k2S q.1 ∧ q.2.sum = sumB (l.map ck) k := by
 obtain ⟨c, hc, rfl⟩ := (mem_keysK k _).1 hk
 obtain ⟨k2, e⟩ := (gok l).all c hc
 obtain ⟨q, hq, e2⟩ := List.mem_map.1 (((gok l).keys k2).2 ⟨c, hc, e⟩)
 refine ⟨q, hq, by rw [e, ← e2], ?_⟩
 rw [sumB_ps, e, ← e2]
 exact (gok l).sums q hq
theorem of_key {l : List S34} {q : K2 × List Int} (hq : q ∈ grpOf l) : k2S q.1 ∈ keysK (l.map ck) ∧ q.2.sum = sumB (l.map ck) (k2S q.1) := by
 obtain ⟨c, hc, e⟩ := ((gok l).keys q.1).1 (List.mem_map.2 ⟨q, hq, rfl⟩)
 exact ⟨(mem_keysK _ _).2 ⟨c, hc, e⟩, (gok l).sums q hq⟩
theorem pr_end (l : List S34) (out : List S89) (over : Bool) (hs : SS (out.map pk)) (hm : ∀ p, p ∈ out ↔ ∃ q ∈ grpOf l, p = pairOf q) (ho : over = true ↔ ∃ q ∈ grpOf l, fitB q.2.sum = false) :
  (if over = true then (([] : List S89), (4 : Int)) else (out, 0)) = prK l := by
 unfold prK
 by_cases h : over = true
 ·rw [if_pos h, if_neg]
  obtain ⟨q, hq, e⟩ := ho.1 h
  have := of_key hq
  rw [List.all_eq_true]
  intro hall
  have := hall _ this.1
  rw [← (of_key hq).2, e] at this
  cases this
 ·have hfit : ∀ q ∈ grpOf l, fitB q.2.sum = true := fun q hq => by
   cases hf : fitB q.2.sum with
   | true => rfl
   | false => exact absurd (ho.2 ⟨q, hq, hf⟩) h
  rw [if_neg h, if_pos (List.all_eq_true.2 (fun k hk => by
   obtain ⟨q, hq, rfl, e⟩ := key_of hk
   rw [← e]
   exact hfit q hq))]
  have hk : out.map pk = keysK (l.map ck) := ss_unique hs (ss_keysK _) (fun k => by
   constructor
   ·intro hk
    obtain ⟨p, hp, rfl⟩ := List.mem_map.1 hk
    obtain ⟨q, hq, rfl⟩ := (hm p).1 hp
    exact (of_key hq).1
   ·intro hk
    obtain ⟨q, hq, rfl, _⟩ := key_of hk
    exact List.mem_map.2 ⟨pairOf q, (hm _).2 ⟨q, hq, rfl⟩, rfl⟩)
  rw [← hk, List.map_map]
  have e : out = out.map ((fun k : S32 => (⟨k.f0, k.f1, sumB (l.map ck) k⟩ : S89)) ∘ pk) := by
   have e1 : out.map ((fun k : S32 => (⟨k.f0, k.f1, sumB (l.map ck) k⟩ : S89)) ∘ pk) = out.map id := List.map_congr_left (fun p hp => by
    obtain ⟨q, hq, rfl⟩ := (hm p).1 hp
    have h1 := hfit q hq
    show (⟨q.1.1, q.1.2, sumB (l.map ck) (k2S q.1)⟩ : S89) = ⟨q.1.1, q.1.2, if i64ok q.2.sum then q.2.sum else 0⟩
    rw [if_pos (fit_i64 h1), (of_key hq).2])
   rw [e1, List.map_id]
  exact congrArg (fun x => (x, (0 : Int))) e
end Go.Proofs.Ytmflggbpiadkjaa.P
namespace Go.Proofs.Ytmflggbpiadkjaa.P
open Go.RowKit Go.Proofs.YtmflggbpiadkjaaW.PrintWords Go.Proofs.YtmflggbpiadkjaaW.PrintLast Go.Proofs.YtmflggbpiadkjaaW.PrintMore Go.Maps Go.ChangeShapes Go.WideShapes Go.WideMaps
open Go.ChangeMaps (setBlock)
set_option linter.unusedVariables false
set_option linter.unusedSimpArgs false
theorem one_cells (w : World) (x : Value) (t : TypeId) (b : Nat) {W1 : World} (hb : b < w.heap.size) (h : ∀ (p : Addr) (u : Value), p.block ≠ b → (w.alloc (.cells #[x] t)).cell? p = some u → W1.cell? p = some u) : ∀ j u, [x][j]? = some u → W1.cell? ((⟨w.heap.size, 0, none⟩ : Addr).add j) = some u := by
 intro j u hj
 have h1 := cell_one_new w x t j u hj
 refine h _ _ ?_ h1
 have e : ((⟨w.heap.size, 0, none⟩ : Addr).add j).block = w.heap.size := by unfold Addr.add; split <;> rfl
 omega
theorem R_ints {w : World} {base : Nat} {v : Value} {xs : List Int} (h : w.ownsRow base 3 1 v xs.length (xs.map (Value.int .i64))) : Kd.R (Kd.int .i64) 3 w base (fun _ => True) v xs := by
 refine ⟨fun _ _ => trivial, xs.map (Value.int .i64), h, ?_⟩
 refine ⟨by rw [List.length_map]; exact (Nat.mul_one _).symm, fun j p hj => ?_⟩
 have hlt : j < xs.length := (List.getElem?_eq_some_iff.1 hj).1
 have hp : xs[j] = p := by rw [List.getElem?_eq_getElem hlt] at hj; exact Option.some.inj hj
 change (Kd.int .i64).M w base _ p (List.take 1 (List.drop (j * 1) (xs.map (Value.int .i64))))
 rw [Nat.mul_one, ← List.map_drop, List.drop_eq_getElem_cons hlt, hp]
 exact rfl
def iterN (w : World) (r : Nat) : Nat := match w.heap[r]? with
 | some (.mapIter _ _ seen _) => seen.size
 | _ => 0
theorem iterN_eq {w : World} {r s c : Nat} {m : Option Nat} {seen : Array Nat} (h : w.heap[r]? = some (.mapIter m s seen c)) : iterN w r = seen.size := by unfold iterN; rw [h]
structure Come (G : List (K2 × List Int)) (seen : Array Nat) (out : List S89) (over : Bool) : Prop where
 nodup : seen.toList.Nodup
 lt : ∀ j ∈ seen.toList, j < G.length
 srt : SS (out.map pk)
 mem : ∀ p, p ∈ out ↔ ∃ (j : Nat) (q : K2 × List Int), j ∈ seen.toList ∧ G[j]? = some q ∧ p = pairOf q
 ov : over = true ↔ ∃ (j : Nat) (q : K2 × List Int), j ∈ seen.toList ∧ G[j]? = some q ∧ fitB q.2.sum = false
 len : out.length ≤ seen.size
theorem Come.none (G : List (K2 × List Int)) : Come G #[] [] false :=
 ⟨List.nodup_nil, fun j hj => by simp at hj, List.Pairwise.nil, fun p => by simp, by simp, Nat.le_refl _⟩
theorem nodup_le : ∀ (n : Nat) (l : List Nat), l.Nodup → (∀ j ∈ l, j < n) → l.length ≤ n
 | 0, l, _, h => by
  cases l with
  | nil => exact Nat.le_refl _
  | cons a r => exact absurd (h a (by simp)) (by omega)
 | n + 1, l, hn, h => by
  have h1 := nodup_le n (l.erase n) (hn.erase n) (fun j hj => by
   have h2 := (hn.mem_erase_iff).1 hj
   have := h j h2.2
   have h3 := h2.1
   omega)
  rw [List.length_erase] at h1
  split at h1 <;> omega
theorem Come.size {G : List (K2 × List Int)} {seen : Array Nat} {out : List S89} {over : Bool} (h : Come G seen out over) : seen.size ≤ G.length := by
 have h1 : seen.toList.Nodup := h.nodup
 have h3 := nodup_le G.length _ h1 h.lt
 simpa using h3
theorem Come.new {G : List (K2 × List Int)} {seen : Array Nat} {out : List S89} {over : Bool} (h : Come G seen out over) (hd : (G.map (·.1)).Nodup) {j : Nat} {q : K2 × List Int} (hq : G[j]? = some q) (hj : j ∉ seen.toList) : ∀ x ∈ out, pk x ≠ pk (pairOf q) := by
 intro x hx e
 obtain ⟨i, q', hi, hq', rfl⟩ := (h.mem x).1 hx
 have e1 : q'.1 = q.1 := k2S_inj e
 have hil := (List.getElem?_eq_some_iff.1 hq').1
 have hjl := (List.getElem?_eq_some_iff.1 hq).1
 have : i = j := by
  have h1 : (G.map (·.1))[i]'(by simpa using hil) = (G.map (·.1))[j]'(by simpa using hjl) := by
   rw [List.getElem_map, List.getElem_map]
   rw [List.getElem?_eq_getElem hil] at hq'
   rw [List.getElem?_eq_getElem hjl] at hq
   rw [Option.some.inj hq', Option.some.inj hq]
   exact e1
  exact (List.getElem_inj hd).1 h1
 exact hj (this ▸ hi)
theorem Come.step {G : List (K2 × List Int)} {seen : Array Nat} {out out' : List S89} {over : Bool} (h : Come G seen out over) {j : Nat} {q : K2 × List Int} (hq : G[j]? = some q) (hj : j ∉ seen.toList) (hs : SS (out'.map pk)) (hm : ∀ x, x ∈ out' ↔ x = pairOf q ∨ x ∈ out) (hl : out'.length ≤ out.length + 1) :
  Come G (seen.push j) out' (over || !fitB q.2.sum) := by
 refine ⟨?_, fun i hi => ?_, hs, fun p => ?_, ?_, by have := h.len; rw [Array.size_push]; omega⟩
 ·rw [Array.toList_push]
  exact List.nodup_append.2 ⟨h.nodup, by simp, fun a ha b hb e => by
   simp only [List.mem_singleton] at hb
   subst hb; subst e
   exact hj ha⟩
 ·rw [Array.toList_push, List.mem_append, List.mem_singleton] at hi
  rcases hi with hi | rfl
  ·exact h.lt i hi
  ·exact (List.getElem?_eq_some_iff.1 hq).1
 ·rw [hm, h.mem, Array.toList_push]
  constructor
  ·rintro (rfl | ⟨i, q', hi, hq', rfl⟩)
   ·exact ⟨j, q, by simp, hq, rfl⟩
   ·exact ⟨i, q', by simp [hi], hq', rfl⟩
  ·rintro ⟨i, q', hi, hq', rfl⟩
   rcases List.mem_append.1 hi with hi | hi
   ·exact .inr ⟨i, q', hi, hq', rfl⟩
   ·simp only [List.mem_singleton] at hi
    subst hi
    obtain rfl : q = q' := Option.some.inj (hq.symm.trans hq')
    exact .inl rfl
 ·rw [Bool.or_eq_true, h.ov, Array.toList_push]
  constructor
  ·rintro (⟨i, q', hi, hq', e⟩ | e)
   ·exact ⟨i, q', by simp [hi], hq', e⟩
   ·exact ⟨j, q, by simp, hq, by simpa using e⟩
  ·rintro ⟨i, q', hi, hq', e⟩
   rcases List.mem_append.1 hi with hi | hi
   ·exact .inl ⟨i, q', hi, hq', e⟩
   ·simp only [List.mem_singleton] at hi
    subst hi
    obtain rfl : q = q' := Option.some.inj (hq.symm.trans hq')
    exact .inr (by simp [e])
theorem addG_le (k : K2) (x : Int) : ∀ G : List (K2 × List Int), (addG k x G).length ≤ G.length + 1
 | [] => Nat.le_refl _
 | q :: r => by
  unfold addG
  split
  ·simp
  ·have := addG_le k x r
   simp only [List.length_cons]
   omega
theorem grpOf_le (l : List S34) : (grpOf l).length ≤ l.length := by
 have gen : ∀ (l : List S34) (G : List (K2 × List Int)), (l.foldl (fun G c => addG (cpl c) c.f2 G) G).length ≤ G.length + l.length := by
  intro l
  induction l with
  | nil => intro G; exact Nat.le_refl _
  | cons c r ih =>
   intro G
   have h1 := ih (addG (cpl c) c.f2 G)
   have h2 := addG_le (cpl c) c.f2 G
   simp only [List.foldl_cons, List.length_cons]
   omega
 simpa [grpOf] using gen l []
theorem R_iter {W W' : World} {r base s c : Nat} {m : Option Nat} {sn : Array Nat} {v : Value} {xs : List S89} (h : Kd.R k89 89 W base (fun _ => True) v xs) (hr : W.heap[r]? = some (.mapIter m s sn c)) (hk : ∀ x, x < W.heap.size → x ≠ r → W'.heap[x]? = W.heap[x]?) : Kd.R k89 89 W' base (fun _ => True) v xs := by
 have h1 := Kd.R_mono (Kd.R_tight rfl h) (ok' := fun x => v.ownBlock = some x) (fun x hx => hx.symm)
 exact Kd.R_mono (Kd.R_step h1 (fun x hx hlt => hk x hlt (fun e => by
  subst e
  obtain ⟨cs, hc⟩ := Kd.R_typed h _ hx
  rw [hr] at hc
  cases hc))) (fun _ _ => trivial)
theorem next_round {w : World} {r b : Nat} {gs : List (K2 × Value)} {G : List (K2 × List Int)} {seen : Array Nat} (hr : w.heap[r]? = some (.mapIter (some b) gs.length seen gs.length)) (hG : Grps w b gs G) :
  ((∀ j < G.length, j ∈ seen.toList) ∧ (Instr.next (.pointer (some ⟨r, 0, none⟩)) false 0).run Try.prog w = .ok (.tuple #[.bool false]) w) ∨
  ∃ (j : Nat) (ka kb : ByteArray) (v : Value) (q : K2 × List Int) (W1 : World), j ∉ seen.toList ∧ gs[j]? = some ((ka, kb), v) ∧ G[j]? = some q ∧ (Instr.next (.pointer (some ⟨r, 0, none⟩)) false 0).run Try.prog w = .ok (.tuple #[.bool true, .agg #[.string ka, .string kb], v]) W1 ∧
   (Instr.entry (.pointer (some ⟨r, 0, none⟩))).run Try.prog W1 = .ok (.tuple #[.agg #[.string ka, .string kb], v]) W1 ∧ W1.heap[r]? = some (.mapIter (some b) gs.length (seen.push j) gs.length) ∧ Grps W1 b gs G ∧ (∀ x, x < w.heap.size → x ≠ r → W1.heap[x]? = w.heap[x]?) ∧ w.heap.size ≤ W1.heap.size ∧ w.grownBy W1 (some r) := by
 have hold : ∀ x ∈ (esOf gs).toList, x.born < gs.length := fun x hx => by
  obtain ⟨j, p, hp, rfl⟩ := esOf_mem hx
  exact (List.getElem?_eq_some_iff.1 hp).1
 rcases run_next_at (P := Try.prog) w 0 r b gs.length gs.length seen (esOf gs) gs.length hr hG.map hold (Nat.le_refl _) with ⟨h0, hnx⟩ | ⟨e, he, w1, hw1, hnx⟩
 ·left
  refine ⟨fun j hj => ?_, hnx⟩
  have hjl : j < gs.length := by rw [hG.len]; exact hj
  have hm : (⟨keyV gs[j].1.1 gs[j].1.2, gs[j].2, j⟩ : MapEntry) ∈ (esOf gs).toList := List.mem_of_getElem? (i := j) (by rw [esOf_get, List.getElem?_eq_getElem hjl]; rfl)
  have he : leftOf (esOf gs) seen = #[] := Array.eq_empty_of_size_eq_zero h0
  unfold leftOf at he
  rw [Array.filter_eq_empty_iff] at he
  have := he _ (by simpa using hm)
  simpa using this
 ·right
  unfold leftOf at he
  have he2 : e ∈ (esOf gs).toList ∧ e.born ∉ seen.toList := by simpa using he
  obtain ⟨j, ⟨⟨ka, kb⟩, v⟩, hp, rfl⟩ := esOf_mem he2.1
  have hjl := (List.getElem?_eq_some_iff.1 hp).1
  obtain ⟨q, hq⟩ : ∃ q, G[j]? = some q := ⟨G[j]'(by have := hG.len; omega), List.getElem?_eq_getElem _⟩
  have hg0 : w.grownBy w1 none := by
   rcases hw1 with rfl | rfl
   ·exact ⟨rfl, rfl, rfl, Nat.le_refl _, fun _ _ _ => rfl⟩
   ·exact ⟨rfl, rfl, rfl, Nat.le_refl _, fun _ _ _ => rfl⟩
  have hr1 : w1.heap[r]? = some (.mapIter (some b) gs.length seen gs.length) := by rcases hw1 with rfl | rfl <;> exact hr
  have hrl : r < w1.heap.size := (Array.getElem?_eq_some_iff.1 hr1).1
  have hG1 : Grps w1 b gs G := hG.grown hg0
  have hrb : r ≠ b := fun e => by
   subst e
   rw [hG1.map] at hr1
   cases hr1
  have hg1 := grown_setBlock w1 r (.mapIter (some b) gs.length (seen.push j) gs.length)
  have hG2 : Grps (setBlock w1 r (.mapIter (some b) gs.length (seen.push j) gs.length)) b gs G := by
   refine ⟨(hg1.block b hG1.lt (fun e => hrb (Option.some.inj e).symm)).trans hG1.map, hG1.len, hG1.key, fun i p q' h1 h2 => ?_, hG1.apart, hG1.diff, hG1.siz⟩
   have hro := hG1.row i p q' h1 h2
   refine hro.kept hg1 ?_
   cases hv : p.2.ownBlock with
   | none => exact .inl rfl
   | some g =>
    right
    intro e
    have e := Option.some.inj e
    subst e
    have := Kd.R_typed (R_ints hro) g hv
    obtain ⟨cs, hc⟩ := this
    rw [hr1] at hc
    cases hc
  refine ⟨j, ka, kb, v, q, _, he2.2, hp, hq, hnx, ?_, heap_setBlock hrl _, hG2, fun x hx hne => ?_, ?_, ?_⟩
  ·exact run_entry_at _ r b gs.length seen (esOf gs) gs.length _ (heap_setBlock hrl _) hG2.map he2.1 (esOf_born gs)
  ·exact (hg1.block x (Nat.lt_of_lt_of_le hx hg0.size) (fun e => hne (Option.some.inj e))).trans (hg0.block x hx (by simp))
  ·rw [size_setBlock]; exact hg0.size
  ·exact World.grownBy.trans ⟨hg0.os, hg0.tape, hg0.output, hg0.size, fun i hi _ => hg0.block i hi (by simp)⟩ hg1
set_option maxHeartbeats 4000000 in
set_option maxRecDepth 100000 in
theorem pairs_calls (A : Option Addr) (c : Nat) (l : List S34) (w : World) (h : Kd.C k34 w A l.length l) (hc : l.length ≤ c) (hl : l.length ≤ 1000000) (hi : ∀ x ∈ l, i64ok x.f2) (hsz : ∀ x ∈ l, x.f0.f0.size ≤ maxLen ∧ x.f0.f3.size ≤ maxLen) :
  Calls Try.prog 75 #[.slice A l.length c] w fun e w' => ∃ v, e = .returned (.tuple #[v, .int .i64 (prK l).2]) ∧ Kd.R k89 89 w' w.heap.size (fun _ => True) v (prK l).1 ∧ Below w.heap.size w w' := by
 have HC := Aside0.mk h
 have HI := Aside0.mk hi
 have HSZ := Aside0.mk hsz
 obtain ⟨i0, hi0, hz0, hz1, hz2⟩ := info_parts info3
 clear h hi hsz
 go_enter Try.func75, Try.ntmps75
 have hmm := @run_makeMap Try.prog
 go_upto_region 2 with (fail)
 clear hmm
 refine with_world (P := fun x => Code.wp _ _ _ _ x) _ ?_
 intro w1 hw1
 have HM1 := Aside0.mk (show Grps w1 w.heap.size [] (grpOf (l.take 0)) from by
  rw [hw1]
  exact ⟨blk_new _ _, rfl, fun j p q h1 _ => by simp at h1, fun j p q h1 _ => by simp at h1, fun i j p q _ h1 _ => by simp at h1, fun i j p q h1 _ => by simp at h1, fun p hp => by simp at hp⟩)
 have HB1 := Aside0.mk (show Below w.heap.size w w1 from by rw [hw1]; exact below_alloc (Below.refl _ _) _)
 clear hw1
 obtain ⟨b, hb⟩ : ∃ b, w.heap.size = b := ⟨_, rfl⟩
 have HBS := Aside0.mk hb
 rw [hb] at HM1 HB1 ⊢
 clear hb
 go_wp2
 go_loopw [6, 7, 17, 18, 19, 20, 21, 22, 23, 24, 25, 26, 27, 28, 29, 30, 31, 32, 33] (fun _ _ v17 _ _ _ _ _ _ _ _ _ _ _ _ _ _ _ _ wr => ∃ (k : Nat) (gs : List (K2 × Value)), k ≤ l.length ∧ v17 = .int .i64 k ∧ Aside0 (Grps wr b gs (grpOf (l.take k))) ∧ Aside0 (Below b w wr)) (fun _ _ v17 _ _ _ _ _ _ _ _ _ _ _ _ _ _ _ _ _ => l.length - (intOf v17).toNat)
 case atStart => exact ⟨0, [], Nat.zero_le _, rfl, HM1, HB1⟩
 case round =>
  clear HM1 HB1
  obtain ⟨k, gs, hk, rfl, HM, HB⟩ := hrel
  by_cases hlt : k < l.length
  ·have hbw := HBS.out
   have d1 : decide ((k : Int) < (l.length : Int)) = true := decide_eq_true (by omega)
   have d2 : decide (k < l.length) = true := decide_eq_true hlt
   have p0 : (0 : Int) ≤ (k : Int) := by omega
   have p1 : (k : Int) < (l.length : Int) := by omega
   obtain ⟨ad, e, q0, q1, q2, q3, q4, q5, q6⟩ := at_T34 (Kd.C_below HC.out (by rw [HBS.out]; exact HB.out)) (k : Int) (by omega) (by omega)
   rw [Int.toNat_natCast] at q0 q1 q2 q3 q4 q5 q6
   have hx0 : rd_T34 l (k : Int) = l[k] := by simp [rd_T34, hlt]
   obtain ⟨x, hx⟩ : ∃ x, rd_T34 l (k : Int) = x := ⟨_, rfl⟩
   rw [hx] at q0 q1 q2 q3 q4 q5 q6 hx0
   have HSX := Aside0.mk (HSZ.out x (by rw [hx0]; exact List.getElem_mem hlt))
   have HTK := Aside0.mk (show grpOf (l.take (k + 1)) = addG (cpl x) x.f2 (grpOf (l.take k)) from by rw [hx0]; exact grpOf_take l hlt)
   have HLN := Aside0.mk (show ∀ q ∈ grpOf (l.take k), q.2.length ≤ 1000000 from fun q hq => by
    have := (gok (l.take k)).len q hq
    rw [List.length_map, List.length_take] at this
    omega)
   subst e
   clear hx hx0 hbw
   go_upto_region 5 with (fail)
   refine with_world (P := fun x => Code.wp _ _ _ _ x) _ ?_
   intro w2 hw2
   obtain ⟨g, hg⟩ : ∃ g, wr.heap.size = g := ⟨_, rfl⟩
   have BX := Aside0.mk (show w2.heap[g]? = some (.cells #[.string x.f0.f0, .string x.f0.f1, .string x.f0.f2, .string x.f0.f3, .string x.f0.f4, .int .i64 x.f1, .int .i64 x.f2] 34 (0, 0)) from by rw [hw2, ← hg]; exact blk_new wr _)
   have HB2 := Aside0.mk (show Below b w w2 from by have h9 := HB.out; rw [← HBS.out] at h9 ⊢; rw [hw2]; exact below_alloc h9 _)
   have HM2 := Aside0.mk (show Grps w2 b gs (grpOf (l.take k)) from by rw [hw2]; exact HM.out.grown (grown_alloc _ _ _))
   rw [hg]
   clear hw2 hg q0 q1 q2 q3 q4 q5 q6 HB HM
   have c0 : w2.cell? ⟨g, 0, none⟩ = some (.string x.f0.f0) := (blk_cell BX.out 0).trans rfl
   have c1 : w2.cell? ⟨g, 1, none⟩ = some (.string x.f0.f1) := (blk_cell BX.out 1).trans rfl
   have c2 : w2.cell? ⟨g, 2, none⟩ = some (.string x.f0.f2) := (blk_cell BX.out 2).trans rfl
   have c3 : w2.cell? ⟨g, 3, none⟩ = some (.string x.f0.f3) := (blk_cell BX.out 3).trans rfl
   have c4 : w2.cell? ⟨g, 4, none⟩ = some (.string x.f0.f4) := (blk_cell BX.out 4).trans rfl
   have HCP := Aside0.mk (couple_pure x)
   have HSC := Aside0.mk (show (cpl x).1.size ≤ maxLen ∧ (cpl x).2.size ≤ maxLen from by
    unfold cpl
    split
    ·exact HSX.out
    ·exact ⟨HSX.out.2, HSX.out.1⟩)
   obtain ⟨cp, hcp⟩ : ∃ cp, cpl x = cp := ⟨_, rfl⟩
   rw [hcp] at HCP HSC HTK
   clear hcp
   obtain ⟨ka, kb⟩ := cp
   go_upto_region 6 with (first | (go_at_call 87; (refine (interco_coupleOf.calls x.f0.f0 x.f0.f1 x.f0.f2 x.f0.f3 x.f0.f4 ka kb _ HCP.out).mono ?_); rintro e_ w3 ⟨rfl, hb_⟩; have HB3 := Aside0.mk hb_; clear hb_))
   refine with_world (P := fun x => Code.wp _ _ _ _ x) _ ?_
   intro w4 hw4
   obtain ⟨g2, hg2⟩ : ∃ g2, w3.heap.size = g2 := ⟨_, rfl⟩
   have hlt4 : Below w2.heap.size w2 w4 := by rw [hw4]; exact below_alloc HB3.out _
   have BX4 := Aside0.mk (blk_below BX.out hlt4)
   have BK := Aside0.mk (show w4.heap[g2]? = some (.cells #[.string ka, .string kb] 103 (0, 0)) from by rw [hw4, ← hg2]; exact blk_new w3 _)
   have HB4 := Aside0.mk (below_then HB2.out (by have := HB2.out.size; have := HBS.out; omega) hlt4)
   have HM4 := Aside0.mk (HM2.out.below hlt4)
   rw [hg2]
   clear hw4 hg2 hlt4 c0 c1 c2 c3 c4 HB2 HM2 BX HB3
   have c6 : w4.cell? ⟨g, 6, none⟩ = some (.int .i64 x.f2) := (blk_cell BX4.out 6).trans rfl
   have e0 : w4.cell? ⟨g2, 0, none⟩ = some (.string ka) := (blk_cell BK.out 0).trans rfl
   have e1 : w4.cell? ⟨g2, 1, none⟩ = some (.string kb) := (blk_cell BK.out 1).trans rfl
   obtain ⟨v, st, W1, xs, hme, hrow, hxl, hbs, hcell, hB1, hend⟩ := grp_step (HM4.out.grown (grown_alloc w4 (.cells #[.int .i64 x.f2] 3) none)) HSC.out.1 HSC.out.2 x.f2 HLN.out
   unfold keyV at hme
   have HROW := Aside0.mk hrow
   have HXL := Aside0.mk hxl
   have HBSZ := Aside0.mk hbs
   have HCL := Aside0.mk (one_cells w4 (.int .i64 x.f2) 3 b HM4.out.lt hcell)
   have HEND := Aside0.mk hend
   have HBW := Aside0.mk hB1
   clear hrow hxl hbs hcell hB1 hend
   go_wp2_with (first | ((with_reducible refine gate_builtin (b := .append) (xs := #[.tmp 26, .tmp 29]) rfl ?_); at_builtin; refine wpList_append_own_at W1 rfl (.tmp 26) (.tmp 29) 67 rfl (b + 1) 3 i0 (.int .i64 0) 1 8 Try.underlying67 hi0 hz0 hz1 hz2 rfl (by decide) v xs.length (xs.map (Value.int .i64)) (by first | rfl | simp [Act.eval, Act.put]) HROW.out ⟨w4.heap.size, 0, none⟩ 1 1 [.int .i64 x.f2] (by first | rfl | simp [Act.eval, Act.put]) rfl HCL.out (by simp [Value.oneCell']) (by have := HXL.out; unfold maxLen; omega) (by have := HXL.out; omega) HBSZ.out ?_; intro v2 W2 ho_ hg_ _ hat_; obtain ⟨W3, gs', hes0, hG_, hB_⟩ := HEND.out v2 W2 ho_ hg_ hat_; have hes : (Instr.entryStore 101 (.map (some b)) (.int .i64 (st : Int)) v2).run Try.prog W2 = .ok () W3 := hes0; clear hes0; have HG3 := Aside0.mk hG_; have HB5 := Aside0.mk hB_; clear ho_ hg_ hat_ hG_ hB_))
   go_roundw
   case rel =>
    refine ⟨k + 1, gs', by omega, by go_num, ⟨?_⟩, ⟨?_⟩⟩
    ·rw [HTK.out]; exact HG3.out
    ·have h9 := HB4.out
     have h8 := HB5.out
     have e9 := HBS.out
     refine ⟨h8.os.trans h9.os, h8.tape.trans h9.tape, h8.output.trans h9.output, Nat.le_trans h9.size (Nat.le_trans (below_alloc (Below.refl w4.heap.size w4) _).size h8.size), fun i hi => ?_⟩
     have hi4 : i < w4.heap.size := Nat.lt_of_lt_of_le (by omega) h9.size
     exact (h8.block i hi).trans ((Below.heap_alloc w4 _ i hi4).trans (h9.block i hi))
   case measure => simp [intOf]; omega
  ·obtain rfl : k = l.length := by omega
   have d1 : decide ((l.length : Int) < (l.length : Int)) = false := decide_eq_false (by omega)
   have HM5 := Aside0.mk (show Grps wr b gs (grpOf l) from by have h9 := HM.out; rw [List.take_length] at h9; exact h9)
   clear HM
   have hrg := run_range_map (P := Try.prog) wr 101 103 67 b _ _ Try.underlying101 HM5.out.map
   go_upto_region 11 with (fail)
   clear hrg
   refine with_world (P := fun x => Code.wp _ _ _ _ x) _ ?_
   intro w6 hw6
   obtain ⟨r, hr⟩ : ∃ r, wr.heap.size = r := ⟨_, rfl⟩
   have HR6 := Aside0.mk (show w6.heap[r]? = some (.mapIter (some b) gs.length #[] gs.length) from by rw [hw6, ← hr]; exact blk_new wr _)
   have HM6 := Aside0.mk (show Grps w6 b gs (grpOf l) from by rw [hw6]; exact HM5.out.grown (grown_alloc _ _ _))
   have HB6 := Aside0.mk (show Below b w w6 from by have h9 := HB.out; rw [← HBS.out] at h9 ⊢; rw [hw6]; exact below_alloc h9 _)
   have HRB := Aside0.mk (show b ≤ r from by rw [← hr]; have := HB.out.size; have := HBS.out; omega)
   rw [hr]
   clear hw6 hr HB HM5
   have HNG := Aside0.mk (show (grpOf l).length ≤ 1000000 from by
    have h9 : ∀ (l : List S34), (grpOf l).length ≤ l.length := grpOf_le
    have := h9 l
    omega)
   go_loopw [8, 9, 10, 11, 12, 13, 36, 37, 38, 39, 40, 41, 42, 43, 44, 45, 46, 47, 48, 49, 50, 51, 52, 53, 54, 55, 56, 57, 58, 59, 60, 61, 62, 63, 64, 65, 66] (fun v8 v9 _ _ _ _ _ _ _ _ _ _ _ _ _ _ _ _ _ _ _ _ _ _ _ _ _ _ _ _ _ _ _ _ _ _ _ wx => ∃ (seen : Array Nat) (out : List S89) (over : Bool), v9 = .bool over ∧ Aside0 (wx.heap[r]? = some (.mapIter (some b) gs.length seen gs.length)) ∧ Aside0 (Grps wx b gs (grpOf l)) ∧ Aside0 (Kd.R k89 89 wx b (fun _ => True) v8 out) ∧ Aside0 (Below b w wx) ∧ Aside0 (Come (grpOf l) seen out over)) (fun _ _ _ _ _ _ _ _ _ _ _ _ _ _ _ _ _ _ _ _ _ _ _ _ _ _ _ _ _ _ _ _ _ _ _ _ _ wx => (grpOf l).length - iterN wx r)
   case atStart => exact ⟨#[], [], false, rfl, HR6, HM6, ⟨Kd.R_nil _ _ _ _ _⟩, HB6, ⟨Come.none _⟩⟩
   case round =>
    clear HR6 HM6 HB6
    rename World => wo
    obtain ⟨seen, out, over, rfl, HR, HM, HV, HB, HCM⟩ := hrel
    obtain ⟨A8, c8, e8⟩ := Kd.R_slice HV.out
    subst e8
    rcases next_round HR.out HM.out with ⟨hall, hnx⟩ | ⟨j, ka, kb, v, q, W1, hj, hgj, hq, hnx, hen, hR1, hG1, hkeep, hsz1, hgr⟩
    ·have he := pr_end l out over HCM.out.srt (fun p => by
      rw [HCM.out.mem]
      constructor
      ·rintro ⟨j, q, _, hq, rfl⟩
       exact ⟨q, List.mem_of_getElem? hq, rfl⟩
      ·rintro ⟨q, hq, rfl⟩
       obtain ⟨j, hj⟩ := List.mem_iff_getElem?.1 hq
       exact ⟨j, q, hall j (List.getElem?_eq_some_iff.1 hj).1, hj, rfl⟩) (by
      rw [HCM.out.ov]
      constructor
      ·rintro ⟨j, q, _, hq, e⟩
       exact ⟨q, List.mem_of_getElem? hq, e⟩
      ·rintro ⟨q, hq, e⟩
       obtain ⟨j, hj⟩ := List.mem_iff_getElem?.1 hq
       exact ⟨j, q, hall j (List.getElem?_eq_some_iff.1 hj).1, hj, e⟩)
     have HE := Aside0.mk he
     clear he hall
     cases over
     ·go_wp2
      go_ret2
      have he := HE.out
      rw [if_neg (by decide)] at he
      rw [← he]
      exact ⟨_, rfl, by rw [HBS.out]; exact HV.out, by rw [HBS.out]; exact HB.out⟩
     ·go_wp2
      go_ret2
      have he := HE.out
      first | rw [if_pos trivial] at he | rw [if_pos rfl] at he
      rw [← he]
      exact ⟨_, rfl, Kd.R_nil _ _ _ _ _, by rw [HBS.out]; exact HB.out⟩
    ·obtain ⟨qk, xs⟩ := q
     have hkey : (ka, kb) = qk := hG1.key j _ _ hgj hq
     subst hkey
     have hrow := hG1.row j _ _ hgj hq
     have hRI := R_ints hrow
     obtain ⟨Av, cv, ev⟩ := Kd.R_slice hRI
     simp only at ev
     subst ev
     have HCV := Aside0.mk (Kd.R_reads' hRI).2.2
     have HCC := Aside0.mk (Kd.R_reads' hRI).2.1
     have hqm := List.mem_of_getElem? hq
     have hxl : xs.length ≤ 1000000 := by
      have := (gok l).len _ hqm
      rw [List.length_map] at this
      simp only at this
      omega
     have hxi : ∀ x ∈ xs, i64ok x := fun x hx => by
      obtain ⟨c1, hc1, e⟩ := (gok l).ints _ hqm x hx
      obtain ⟨c2, hc2, rfl⟩ := List.mem_map.1 hc1
      rw [e]
      exact HI.out c2 hc2
     obtain ⟨sm, hsm⟩ : ∃ sm, (if i64ok xs.sum then xs.sum else 0) = sm := ⟨_, rfl⟩
     have HSUM := Aside0.mk (show num_Sum.f xs = some (sm, decide (i64ok xs.sum)) from by
      unfold num_Sum.f
      rw [if_pos hxl, if_pos hxi, ← hsm]
      by_cases h9 : i64ok xs.sum
      ·rw [if_pos h9, if_pos h9, decide_eq_true h9]
      ·rw [if_neg h9, if_neg h9, decide_eq_false h9])
     obtain ⟨kr, kk, bb, hs8, hk8, hsrt, hmem⟩ := search_ok out (pairOf ((ka, kb), xs)) (by have := HCM.out.len; have := HCM.out.size; have := HNG.out; omega) HCM.out.srt (HCM.out.new (gok l).nodup hq hj)
     have hpo : pairOf ((ka, kb), xs) = ⟨ka, kb, sm⟩ := by rw [← hsm]; rfl
     have hcome0 := HCM.out.step hq hj hsrt hmem (by simp; omega)
     rw [hpo] at hs8 hcome0
     have HCOME := Aside0.mk hcome0
     have HS8 := Aside0.mk (show bin_search.f kr out ka kb sm = some ((kk : Int), bb) from hs8)
     have HK8 := Aside0.mk hk8
     have HSM := Aside0.mk hsm
     have HL8' := Aside0.mk (show out.length ≤ 1000000 from by have := HCM.out.len; have := HCM.out.size; have := HNG.out; omega)
     have HSZS := Aside0.mk (show seen.size < (grpOf l).length from by
      have h1 := HCM.out.size
      rcases Nat.lt_or_ge seen.size (grpOf l).length with h2 | h2
      ·exact h2
      ·exfalso
       have h3 := nodup_le (grpOf l).length (seen.toList ++ [j]) (List.nodup_append.2 ⟨HCM.out.nodup, by simp, fun a ha b hb e => by
        simp only [List.mem_singleton] at hb
        subst hb; subst e
        exact hj ha⟩) (fun i hi => by
        rcases List.mem_append.1 hi with hi | hi
        ·exact HCM.out.lt i hi
        ·simp only [List.mem_singleton] at hi
         subst hi
         exact (List.getElem?_eq_some_iff.1 hq).1)
       simp at h3
       omega)
     have HV1 := Aside0.mk (R_iter HV.out HR.out hkeep)
     have HB1 := Aside0.mk (show Below b w W1 from ⟨hgr.os.trans HB.out.os, hgr.tape.trans HB.out.tape, hgr.output.trans HB.out.output, Nat.le_trans HB.out.size hsz1, fun x hx => by
      have h9 := HBS.out
      have hxo : x < wo.heap.size := Nat.lt_of_lt_of_le (by omega) HB.out.size
      have hxr : x ≠ r := fun e => by have := HRB.out; omega
      exact (hkeep x hxo hxr).trans (HB.out.block x hx)⟩)
     have HR1 := Aside0.mk hR1
     have HG1 := Aside0.mk hG1
     clear hs8 hk8 hsrt hmem hpo hcome0 hsm hxl hxi hqm hrow hRI hkeep hsz1 hgr hR1 hG1 hgj hq hj
     go_upto_region 13 with (fail)
     clear hnx hen
     refine with_world (P := fun x => Code.wp _ _ _ _ x) _ ?_
     intro w2 hw2
     obtain ⟨g2, hg2⟩ : ∃ g2, W1.heap.size = g2 := ⟨_, rfl⟩
     have hlt2 : Below W1.heap.size W1 w2 := by rw [hw2]; exact below_alloc (Below.refl _ _) _
     have BK := Aside0.mk (show w2.heap[g2]? = some (.cells #[.string ka, .string kb] 103 (0, 0)) from by rw [hw2, ← hg2]; exact blk_new W1 _)
     have HR2 := Aside0.mk ((hlt2.block r (blk_lt HR1.out)).trans HR1.out)
     have HG2 := Aside0.mk (HG1.out.below hlt2)
     have HV2 := Aside0.mk (Kd.R_below HV1.out hlt2)
     have HB2 := Aside0.mk (below_then HB1.out (by have := HB1.out.size; have := HBS.out; omega) hlt2)
     have HCV2 := Aside0.mk (Kd.C_below HCV.out hlt2)
     rw [hg2]
     clear hw2 hg2 hlt2 HR1 HG1 HV1 HB1 HCV
     go_upto_region 14 with (first | (go_at_call 81; (refine (num_Sum.calls Av cv xs sm (decide (i64ok xs.sum)) _ HCV2.out HCC.out HSUM.out).mono ?_); rintro e_ w3 ⟨rfl, hdr_⟩; have HD := Aside0.mk hdr_.below; clear hdr_))
     have BK3 := Aside0.mk (blk_below BK.out HD.out)
     have HR3 := Aside0.mk ((HD.out.block r (blk_lt HR2.out)).trans HR2.out)
     have HG3 := Aside0.mk (HG2.out.below HD.out)
     have HV3 := Aside0.mk (Kd.R_below HV2.out HD.out)
     have HB3 := Aside0.mk (below_then HB2.out (by have := HB2.out.size; have := HBS.out; omega) HD.out)
     have HC8 := Aside0.mk (Kd.R_reads' HV3.out).2.2
     have HL8 := Aside0.mk (Kd.R_reads' HV3.out).2.1
     have HO8 := HL8'
     have e0 : w3.cell? ⟨g2, 0, none⟩ = some (.string ka) := (blk_cell BK3.out 0).trans rfl
     have e1 : w3.cell? ⟨g2, 1, none⟩ = some (.string kb) := (blk_cell BK3.out 1).trans rfl
     clear BK HR2 HG2 HV2 HB2 HCV2
     have hcome := HCOME.out
     cases over
     ·by_cases hio : i64ok xs.sum
      ·have hs9 : xs.sum = sm := by have := HSM.out; rw [if_pos hio] at this; exact this
       have d0 : decide (i64ok xs.sum) = true := decide_eq_true hio
       rw [d0]
       have HIO := Aside0.mk hio
       clear hio
       by_cases h1 : 1000000000000000 < sm
       ·have d1 : decide (1000000000000000 < sm) = true := decide_eq_true h1
        have hov : (false || !fitB xs.sum) = true := by
         rw [hs9]; unfold fitB; rw [decide_eq_false (show ¬ sm ≤ 1000000000000000 by omega), Bool.and_false]; rfl
        rw [hov] at hcome
        clear hs9 hov d0
        go_wp2_with (first | (go_at_call 88; (refine (insert_calls A8 c8 out ka kb sm kk kr bb _ HC8.out HL8.out HO8.out HK8.out HS8.out).mono ?_); rintro e_ w5 ⟨v5, rfl, hR5_, hB5_⟩; have HR5 := Aside0.mk hR5_; have HB5 := Aside0.mk hB5_; clear hR5_ hB5_))
        go_roundw
        case rel => exact ⟨seen.push j, out.take kk ++ [⟨ka, kb, sm⟩] ++ out.drop kk, true, rfl, ⟨(HB5.out.block r (blk_lt HR3.out)).trans HR3.out⟩, ⟨HG3.out.below HB5.out⟩, ⟨Kd.R_lower HR5.out (by have := HB3.out.size; have := HBS.out; omega)⟩, ⟨below_then HB3.out (by have := HB3.out.size; have := HBS.out; omega) HB5.out⟩, ⟨hcome⟩⟩
        case measure =>
         rw [iterN_eq ((HB5.out.block r (blk_lt HR3.out)).trans HR3.out), iterN_eq HR.out, Array.size_push]
         have := HSZS.out
         omega
       ·have d1 : decide (1000000000000000 < sm) = false := decide_eq_false h1
        by_cases h2 : sm < -1000000000000000
        ·have d2 : decide (sm < -1000000000000000) = true := decide_eq_true h2
         have hov : (false || !fitB xs.sum) = true := by
          rw [hs9]; unfold fitB; rw [decide_eq_false (show ¬ -1000000000000000 ≤ sm by omega), Bool.false_and]; rfl
         rw [hov] at hcome
         clear hs9 hov d0
         go_wp2_with (first | (go_at_call 88; (refine (insert_calls A8 c8 out ka kb sm kk kr bb _ HC8.out HL8.out HO8.out HK8.out HS8.out).mono ?_); rintro e_ w5 ⟨v5, rfl, hR5_, hB5_⟩; have HR5 := Aside0.mk hR5_; have HB5 := Aside0.mk hB5_; clear hR5_ hB5_))
         go_roundw
         case rel => exact ⟨seen.push j, out.take kk ++ [⟨ka, kb, sm⟩] ++ out.drop kk, true, rfl, ⟨(HB5.out.block r (blk_lt HR3.out)).trans HR3.out⟩, ⟨HG3.out.below HB5.out⟩, ⟨Kd.R_lower HR5.out (by have := HB3.out.size; have := HBS.out; omega)⟩, ⟨below_then HB3.out (by have := HB3.out.size; have := HBS.out; omega) HB5.out⟩, ⟨hcome⟩⟩
         case measure =>
          rw [iterN_eq ((HB5.out.block r (blk_lt HR3.out)).trans HR3.out), iterN_eq HR.out, Array.size_push]
          have := HSZS.out
          omega
        ·have d2 : decide (sm < -1000000000000000) = false := decide_eq_false h2
         have hov : (false || !fitB xs.sum) = false := by
          rw [hs9]; unfold fitB; rw [decide_eq_true (show -1000000000000000 ≤ sm by omega), decide_eq_true (show sm ≤ 1000000000000000 by omega)]; rfl
         rw [hov] at hcome
         clear hs9 hov d0
         go_wp2_with (first | (go_at_call 88; (refine (insert_calls A8 c8 out ka kb sm kk kr bb _ HC8.out HL8.out HO8.out HK8.out HS8.out).mono ?_); rintro e_ w5 ⟨v5, rfl, hR5_, hB5_⟩; have HR5 := Aside0.mk hR5_; have HB5 := Aside0.mk hB5_; clear hR5_ hB5_))
         go_roundw
         case rel => exact ⟨seen.push j, out.take kk ++ [⟨ka, kb, sm⟩] ++ out.drop kk, false, rfl, ⟨(HB5.out.block r (blk_lt HR3.out)).trans HR3.out⟩, ⟨HG3.out.below HB5.out⟩, ⟨Kd.R_lower HR5.out (by have := HB3.out.size; have := HBS.out; omega)⟩, ⟨below_then HB3.out (by have := HB3.out.size; have := HBS.out; omega) HB5.out⟩, ⟨hcome⟩⟩
         case measure =>
          rw [iterN_eq ((HB5.out.block r (blk_lt HR3.out)).trans HR3.out), iterN_eq HR.out, Array.size_push]
          have := HSZS.out
          omega
      ·have d0 : decide (i64ok xs.sum) = false := decide_eq_false hio
       rw [d0]
       have hov : (false || !fitB xs.sum) = true := by
        cases hf : fitB xs.sum with
        | false => rfl
        | true => exact absurd (fit_i64 hf) hio
       rw [hov] at hcome
       have HIO := Aside0.mk hio
       clear hio hov d0
       go_wp2_with (first | (go_at_call 88; (refine (insert_calls A8 c8 out ka kb sm kk kr bb _ HC8.out HL8.out HO8.out HK8.out HS8.out).mono ?_); rintro e_ w5 ⟨v5, rfl, hR5_, hB5_⟩; have HR5 := Aside0.mk hR5_; have HB5 := Aside0.mk hB5_; clear hR5_ hB5_))
       go_roundw
       case rel => exact ⟨seen.push j, out.take kk ++ [⟨ka, kb, sm⟩] ++ out.drop kk, true, rfl, ⟨(HB5.out.block r (blk_lt HR3.out)).trans HR3.out⟩, ⟨HG3.out.below HB5.out⟩, ⟨Kd.R_lower HR5.out (by have := HB3.out.size; have := HBS.out; omega)⟩, ⟨below_then HB3.out (by have := HB3.out.size; have := HBS.out; omega) HB5.out⟩, ⟨hcome⟩⟩
       case measure =>
        rw [iterN_eq ((HB5.out.block r (blk_lt HR3.out)).trans HR3.out), iterN_eq HR.out, Array.size_push]
        have := HSZS.out
        omega
     ·rw [Bool.true_or] at hcome
      go_wp2_with (first | (go_at_call 88; (refine (insert_calls A8 c8 out ka kb sm kk kr bb _ HC8.out HL8.out HO8.out HK8.out HS8.out).mono ?_); rintro e_ w5 ⟨v5, rfl, hR5_, hB5_⟩; have HR5 := Aside0.mk hR5_; have HB5 := Aside0.mk hB5_; clear hR5_ hB5_))
      go_roundw
      case rel => exact ⟨seen.push j, out.take kk ++ [⟨ka, kb, sm⟩] ++ out.drop kk, true, rfl, ⟨(HB5.out.block r (blk_lt HR3.out)).trans HR3.out⟩, ⟨HG3.out.below HB5.out⟩, ⟨Kd.R_lower HR5.out (by have := HB3.out.size; have := HBS.out; omega)⟩, ⟨below_then HB3.out (by have := HB3.out.size; have := HBS.out; omega) HB5.out⟩, ⟨hcome⟩⟩
      case measure =>
       rw [iterN_eq ((HB5.out.block r (blk_lt HR3.out)).trans HR3.out), iterN_eq HR.out, Array.size_push]
       have := HSZS.out
       omega
end Go.Proofs.Ytmflggbpiadkjaa.P
namespace Go.Proofs.Ytmflggbpiadkjaa.P
open Go.RowKit Go.Sort Go.Proofs.YtmflggbpiadkjaaW.PrintWords Go.Proofs.YtmflggbpiadkjaaW.PrintLast Go.Proofs.YtmflggbpiadkjaaW.PrintMore
set_option linter.unusedVariables false
def FitP (l : List S34) : Prop := l.length ≤ 1000000 ∧ (∀ x ∈ l, i64ok x.f2) ∧ ∀ x ∈ l, x.f0.f0.size ≤ maxLen ∧ x.f0.f3.size ≤ maxLen
instance (l : List S34) : Decidable (FitP l) := by unfold FitP; exact inferInstance
def interco_pairs.f (l0 : List S34) : Option (List S89 × Int) := if FitP l0 then some (prK l0) else none
theorem interco_pairs.calls (A0 : Option Addr) (c0 : Nat) (l0 : List (S34)) (r1 : List (S89)) (r2 : Int) (w : World) (hr0 : Kd.C k34 w A0 l0.length l0) (hc0 : l0.length ≤ c0) (h : interco_pairs.f l0 = some (r1, r2)) :
    Calls Try.prog 75 #[.slice A0 l0.length c0] w fun e w' => ∃ v0_ : Value, e = .returned (.tuple #[v0_, .int .i64 r2]) ∧ Kd.R k89 89 w' w.heap.size (fun _ => True) v0_ r1 ∧ Below w.heap.size w w' := by
  unfold interco_pairs.f at h
  by_cases hm : FitP l0
  · rw [if_pos hm] at h
    have h2 : prK l0 = (r1, r2) := Option.some.inj h
    have h1 := pairs_calls A0 c0 l0 w hr0 hc0 hm.1 hm.2.1 hm.2.2
    rw [h2] at h1
    exact h1
  · rw [if_neg hm] at h
    cases h
def money_Code.f (a0 : ByteArray) : Option Bool := if a0.size ≤ maxLen then some (monB a0) else none
theorem money_Code.calls (a0 : ByteArray) (r : Bool) (w : World) (h : money_Code.f a0 = some r) :
    Calls Try.prog 77 #[.string a0] w fun e w' => e = .returned (.bool r) ∧ Below w.heap.size w w' := by
  unfold money_Code.f at h
  by_cases hm : a0.size ≤ maxLen
  · rw [if_pos hm] at h
    cases h
    exact money_calls a0 w hm
  · rw [if_neg hm] at h
    cases h
end Go.Proofs.Ytmflggbpiadkjaa.P
namespace Go.Proofs.Ytmflggbpiadkjaa.P
open Go.RowKit Go.Sort Go.Proofs.YtmflggbpiadkjaaW.PrintWords Go.Proofs.YtmflggbpiadkjaaW.PrintLast Go.Proofs.YtmflggbpiadkjaaW.PrintMore
set_option linter.unusedVariables false
set_option linter.unusedSimpArgs false
theorem prK_len (l : List S34) : (prK l).1.length ≤ l.length := by
  unfold prK
  split
  · rw [List.length_map]
    have := keysK_le (l.map ck)
    rw [List.length_map] at this
    exact this
  · exact Nat.zero_le _
theorem pairs_len {l : List S34} {r : List S89} {e : Int} (h : interco_pairs.f l = some (r, e)) : l.length ≤ 1000000 ∧ r.length ≤ 1000000 := by
  unfold interco_pairs.f at h
  by_cases hm : FitP l
  · rw [if_pos hm] at h
    have h1 := prK_len l
    have h2 : prK l = (r, e) := Option.some.inj h
    rw [h2] at h1
    have := hm.1
    exact ⟨hm.1, Nat.le_trans h1 hm.1⟩
  · rw [if_neg hm] at h; cases h
theorem mk_event {o : Oper} {ops : Array Oper} {rest : List Oper} {a : Act} {Q : Exit → Act → World → Prop} {W : World} (hgd : o.guard = none) {N : Tmp} (_hd : o.dst = some N) (s : Operand) (hop : o.op = .makeSlice 22 (.const (.int .i64 0)) s) (c : Nat) {m : Int} (hs : a.eval s = .int .i64 m) (hm : m = (c : Int)) (hc : c ≤ 2000000) (base : Nat) (hb : base ≤ W.heap.size)
    (h : ∀ g w1, g = W.heap.size → w1.ownsRow base 34 7 (.slice (some ⟨g, 0, none⟩) 0 c) 0 [] → Below W.heap.size W w1 → wpList Try.prog ops Q rest (a.put o.dst (.slice (some ⟨g, 0, none⟩) 0 c)) w1) : wpList Try.prog ops Q (o :: rest) a W := by
  obtain ⟨i0, hi0, hz0, hz1, hz2⟩ := info_parts info34
  subst hm
  obtain ⟨w1, hr, ho, hg⟩ := run_make_own (P := Try.prog) W base 22 34 i0 _ 7 Try.underlying22 hi0 hz0 hz1 .i64 .i64 c (by rw [hz2]; omega) (by unfold maxLen; omega) hb
  refine Kd.event_run hgd ?_ (h W.heap.size w1 rfl ho ⟨hg.os, hg.tape, hg.output, hg.size, fun k hk => hg.block k hk (by simp)⟩)
  unfold execOp
  simp only [hop]
  rw [show a.eval (.const (.int .i64 0)) = .int .i64 0 from rfl, hs]
  simp [hr, Result.andThen]
theorem R_empty {W : World} {base g c : Nat} {ok : Nat → Prop} (h : W.ownsRow base 34 7 (.slice (some ⟨g, 0, none⟩) 0 c) 0 []) (hok : ok g) : Kd.R k34 34 W base ok (.slice (some ⟨g, 0, none⟩) 0 c) [] := by
  refine ⟨fun k hk => ?_, [], h, rfl, fun j p hj => by simp at hj⟩
  simp [Value.ownBlock] at hk
  subst hk
  exact hok
end Go.Proofs.Ytmflggbpiadkjaa.P
namespace Go.Proofs.Ytmflggbpiadkjaa.P
open Go.RowKit Go.Proofs.YtmflggbpiadkjaaW.PrintWords Go.Proofs.YtmflggbpiadkjaaW.PrintLast Go.Proofs.YtmflggbpiadkjaaW.PrintMore
attribute [local go_sem] max2_int min2_int max_two min_two max_three min_three max_four min_four
set_option linter.unusedVariables false
set_option linter.unusedSimpArgs false
def interco_Inside.l0 : Nat → List (S34) → List (S34) → List (S34) → Int → Int → List ByteArray → Option ((List (S34)) × (List (S34)))
 | 0, _, _, _, _, _, _ => none
 | k + 1, x4, x5, x11, x12, x13, mm => if x13 < x12 then (if 0 ≤ x13 then (if x13 < (x11.length : Int) then ((interco_inside.f mm ((rd_T34 x11 x13).f0.f0) ((rd_T34 x11 x13).f0.f1) ((rd_T34 x11 x13).f0.f2) ((rd_T34 x11 x13).f0.f3) ((rd_T34 x11 x13).f0.f4)).bind fun t549 => (if t549 = true then (if x4.length < 1466015503701 then (interco_Inside.l0 k (x4 ++ [(⟨(⟨(rd_T34 x11 x13).f0.f0, (rd_T34 x11 x13).f0.f1, (rd_T34 x11 x13).f0.f2, (rd_T34 x11 x13).f0.f3, (rd_T34 x11 x13).f0.f4⟩ : S32), (rd_T34 x11 x13).f1, (rd_T34 x11 x13).f2⟩ : S34)]) x5 x11 x12 (wrap64 (x13 + 1)) mm) else (none)) else (if x5.length < 1466015503701 then (interco_Inside.l0 k x4 (x5 ++ [(⟨(⟨(rd_T34 x11 x13).f0.f0, (rd_T34 x11 x13).f0.f1, (rd_T34 x11 x13).f0.f2, (rd_T34 x11 x13).f0.f3, (rd_T34 x11 x13).f0.f4⟩ : S32), (rd_T34 x11 x13).f1, (rd_T34 x11 x13).f2⟩ : S34)]) x11 x12 (wrap64 (x13 + 1)) mm) else (none)))) else (none)) else (none)) else (some (x4, x5))
def FitM (l0 : List S34) (l1 : List ByteArray) : Prop := l1.length ≤ 1000000 ∧ (∀ s ∈ l1, s.size ≤ maxLen) ∧ ∀ c ∈ l0, c.f0.f0.size ≤ maxLen ∧ c.f0.f3.size ≤ maxLen
instance (l0 : List S34) (l1 : List ByteArray) : Decidable (FitM l0 l1) := by unfold FitM; exact inferInstance
def interco_Inside.f (k : Nat) (l0 : List (S34)) (l1 : List ByteArray) : Option ((List (S34)) × (List (S34))) := if FitM l0 l1 then interco_Inside.l0 k ([] : List (S34)) ([] : List (S34)) l0 (l0.length : Int) 0 l1 else none
theorem interco_Inside.mono_l : ∀ k, (∀ y0 y1 y2 y3 y4 y5, LeO (interco_Inside.l0 k y0 y1 y2 y3 y4 y5) (interco_Inside.l0 (k + 1) y0 y1 y2 y3 y4 y5))
 | 0 => fun _ _ _ _ _ _ r h => by simp [interco_Inside.l0] at h
 | k + 1 => by
  have ih0 := interco_Inside.mono_l k
  ·intro y0 y1 y2 y3 y4 y5
   unfold interco_Inside.l0
   repeat' first
   | (with_reducible exact ih0 _ _ _ _ _ _)
   | (with_reducible exact LeO.refl _)
   | (with_reducible exact LeO.none _)
   | (with_reducible refine LeO.ite ?_ ?_)
   | (with_reducible refine LeO.bind ?_ (fun _ => ?_))
   | exact ih0 _ _ _ _ _ _
   | exact LeO.none _
   | refine LeO.ite ?_ ?_
   | refine LeO.bind ?_ (fun _ => ?_)
theorem interco_Inside.mono : ∀ a0 a1 k, LeO (interco_Inside.f k a0 a1) (interco_Inside.f (k + 1) a0 a1) := by
 intro a0 a1 k
 have ih0 := interco_Inside.mono_l k
 unfold interco_Inside.f
 repeat' first
   | (with_reducible exact ih0 _ _ _ _ _ _)
   | (with_reducible exact LeO.refl _)
   | (with_reducible exact LeO.none _)
   | (with_reducible refine LeO.ite ?_ ?_)
   | (with_reducible refine LeO.bind ?_ (fun _ => ?_))
   | exact ih0 _ _ _ _ _ _
   | exact LeO.none _
   | refine LeO.ite ?_ ?_
   | refine LeO.bind ?_ (fun _ => ?_)
set_option maxHeartbeats 8000000 in
set_option maxRecDepth 100000 in
theorem interco_Inside.calls (k : Nat) (A0 : Option Addr) (c0 : Nat) (l0 : List (S34)) (A1 : Option Addr) (c1 : Nat) (l1 : List ByteArray) (r1 : List (S34)) (r2 : List (S34)) (w : World) (hr0 : Kd.C k34 w A0 l0.length l0) (hc0 : l0.length ≤ c0) (hr1 : Kd.C Kd.string w A1 l1.length l1) (hc1 : l1.length ≤ c1) (h : interco_Inside.f k l0 l1 = some (r1, r2)) :
  Calls Try.prog 44 #[.slice A0 l0.length c0, .slice A1 l1.length c1] w fun e w' => ∃ v0_ v1_ : Value, e = .returned (.tuple #[v0_, v1_]) ∧ Kd.R k34 34 w' w.heap.size (fun k_ => some k_ ≠ (v1_ : Value).ownBlock) v0_ r1 ∧ Kd.R k34 34 w' w.heap.size (fun k_ => some k_ ≠ (v0_ : Value).ownBlock) v1_ r2 ∧ Below w.heap.size w w' := by
 have hu32 := Try.underlying32
 have hu34 := Try.underlying34
 have HR0 := Aside0.mk hr0
 have HC0 := Aside0.mk hc0
 clear hr0 hc0
 have HR1 := Aside0.mk hr1
 have HC1 := Aside0.mk hc1
 clear hr1 hc1
 unfold interco_Inside.f at h
 by_cases hfm : FitM l0 l1
 rotate_left
 ·rw [if_neg hfm] at h; cases h
 rw [if_pos hfm] at h
 have FM := Aside0.mk (show l1.length ≤ 1000000 ∧ (∀ s ∈ l1, s.size ≤ maxLen) ∧ ∀ c ∈ l0, c.f0.f0.size ≤ maxLen ∧ c.f0.f3.size ≤ maxLen from hfm)
 clear hfm
 have H : (interco_Inside.l0 k ([] : List (S34)) ([] : List (S34)) l0 (l0.length : Int) 0 l1) = some (r1, r2) := h
 clear h
 have H' := Aside0.mk H
 clear H
 go_enter Try.func44, Try.ntmps44
 go_upto_region 1 with (fail)
 go_upto_region 2 with (first | (go_at_call 71; (refine (groupof_calls A1 c1 l1 _ HR1.out HC1.out FM.out.1 FM.out.2.1).mono ?_); rintro e_ w3 ⟨gb546, ng, rfl, hm_, hge_, hb_⟩; obtain ⟨es, clk, he_, hall_⟩ := hm_.tells; have HB := Aside0.mk hb_; have BK546 := Aside0.mk he_; have HM := Aside0.mk hall_; have GE546 := Aside0.mk hge_; clear hm_ he_ hall_ hge_ hb_))
 go_wp2
 go_loopg [4, 5, 13] k (fun kq v4 v5 v13 w' => ∃ (x4_1 : List (S34)) (x5_1 : List (S34)) (x13_1 : Int), v13 = .int .i64 x13_1 ∧ Aside0 (interco_Inside.l0 kq x4_1 x5_1 l0 (l0.length : Int) x13_1 l1 = some (r1, r2)) ∧ Aside0 (kq ≤ k) ∧ Aside0 (Kd.R k34 34 w' w.heap.size (fun k_ => some k_ ≠ (v5 : Value).ownBlock) v4 x4_1) ∧ Aside0 (Kd.R k34 34 w' w.heap.size (fun k_ => some k_ ≠ (v4 : Value).ownBlock) v5 x5_1) ∧ Aside0 (w'.heap[gb546]? = some (.map es clk)) ∧ Aside0 (Below w.heap.size w w'))
 case atStart => exact ⟨(([] : List (S34))), (([] : List (S34))), (0), (by first | rfl | (simp; done) | (simp [*]; done)), H', ⟨Nat.le_refl _⟩, ⟨by first | exact Kd.R_nil _ _ _ _ _ | exact Kd.N_nil _ _ _ _ _ | exact Kd.V_nil _ _ _ _ _ | exact Kd.Q_nil _ _ _ _ _ | exact Kd.S_nil _ _ _ _ _⟩, ⟨by first | exact Kd.R_nil _ _ _ _ _ | exact Kd.N_nil _ _ _ _ _ | exact Kd.V_nil _ _ _ _ _ | exact Kd.Q_nil _ _ _ _ _ | exact Kd.S_nil _ _ _ _ _⟩, ⟨by (with_reducible repeat (first | refine blk_drewN ?_ _ | refine blk_drew ?_ | refine blk_alloc ?_ _)); exact BK546.out⟩, ⟨by repeat (first | (with_reducible first | exact HB.out | apply below_alloc | apply pw_below_drewN | apply below_drew1 | refine below_set ?_ GE546.out) | exact HB.out)⟩⟩
 case round =>
  clear H'
  try clear p2
  obtain ⟨x4_1, x5_1, x13_1, rfl, HA, HK1, HO_4, HO_5, BK546, HB⟩ := hrel
  cases gk with
  | zero => exact absurd HA.out (by simp [interco_Inside.l0])
  | succ k1 =>
   have H := HA.out
   clear HA
   simp only [interco_Inside.l0] at H
   by_cases c4 : x13_1 < (l0.length : Int)
   ·rw [if_pos c4] at H
    have c4b0 : decide (x13_1 < (l0.length : Int)) = true := decide_eq_true c4
    clear c4
    by_cases c5 : 0 ≤ x13_1
    ·rw [if_pos c5] at H
     have c5b0 : decide (0 ≤ x13_1) = true := decide_eq_true c5
     clear c5
     by_cases c6 : x13_1 < (l0.length : Int)
     ·rw [if_pos c6] at H
      have c6b0 : decide (x13_1 < (l0.length : Int)) = true := decide_eq_true c6
      clear c6
      replace H := Option.bind_eq_some_iff.mp H
      obtain ⟨t549, A70, H⟩ := H
      try dsimp only at H
      have A7 := Aside0.mk A70
      clear A70
      by_cases c8 : t549 = true
      ·subst c8
       have H1 : (if x4_1.length < 1466015503701 then (interco_Inside.l0 k1 (x4_1 ++ [(⟨(⟨(rd_T34 l0 x13_1).f0.f0, (rd_T34 l0 x13_1).f0.f1, (rd_T34 l0 x13_1).f0.f2, (rd_T34 l0 x13_1).f0.f3, (rd_T34 l0 x13_1).f0.f4⟩ : S32), (rd_T34 l0 x13_1).f1, (rd_T34 l0 x13_1).f2⟩ : S34)]) x5_1 l0 (l0.length : Int) (wrap64 (x13_1 + 1)) l1) else (none)) = some (r1, r2) := by rw [if_pos rfl] at H; exact H
       clear H
       have H := H1
       clear H1
       by_cases c9 : x4_1.length < 1466015503701
       ·rw [if_pos c9] at H
        have LMc9 := Aside0.mk c9
        clear c9
        obtain ⟨y550, hy550⟩ : ∃ y_ : List (S34), y_ = (x4_1 ++ [(⟨(⟨(rd_T34 l0 x13_1).f0.f0, (rd_T34 l0 x13_1).f0.f1, (rd_T34 l0 x13_1).f0.f2, (rd_T34 l0 x13_1).f0.f3, (rd_T34 l0 x13_1).f0.f4⟩ : S32), (rd_T34 l0 x13_1).f1, (rd_T34 l0 x13_1).f2⟩ : S34)]) := ⟨_, rfl⟩
        replace H : (interco_Inside.l0 k1 y550 x5_1 l0 (l0.length : Int) (wrap64 (x13_1 + 1)) l1) = some (r1, r2) := by first | (rw [hy550]; with_reducible exact H) | (have H2_ := (Option.bind_some _ _).symm.trans H; rw [hy550]; with_reducible exact H2_) | (have H2_ := (Option.bind_some _ _).symm.trans H; with_reducible exact H2_) | with_reducible exact H | (rw [hy550]; exact H) | exact H
        have Ny550 := Aside0.mk hy550
        clear hy550
        have H' := Aside0.mk H
        clear H
        have p547 : 0 ≤ (x13_1 : Int) := odt_
        have q547 : x13_1 < (l0.length : Int) := odt_
        obtain ⟨ad547, e547, hx547_0, hx547_1, hx547_2, hx547_3, hx547_4, hx547_5, hx547_6⟩ := at_T34 HR0.out x13_1 p547 q547
        cases e547
        replace hx547_0 := bcl_ HB hx547_0
        replace hx547_1 := bcl_ HB hx547_1
        replace hx547_2 := bcl_ HB hx547_2
        replace hx547_3 := bcl_ HB hx547_3
        replace hx547_4 := bcl_ HB hx547_4
        replace hx547_5 := bcl_ HB hx547_5
        replace hx547_6 := bcl_ HB hx547_6
        replace p547 := eq_true p547
        replace q547 := eq_true q547
        go_wp2_with (first | ((with_reducible refine gate_dst (N := 8) rfl ?_); refine box_event ?hg (N := 8) ?hd (cs := #[.string (⟨#[]⟩ : ByteArray), .string (⟨#[]⟩ : ByteArray), .string (⟨#[]⟩ : ByteArray), .string (⟨#[]⟩ : ByteArray), .string (⟨#[]⟩ : ByteArray), .int .i64 0, .int .i64 0]) (t := 34) ?hr ?_; (case hd => rfl); (case hg => rfl); (case hr => first | (go_simp; done) | (go_simp; rfl)); intro gb548 hg w10 hbox hb; have n0_ := Aside0.mk (Kd.R_below (Kd.R_elderB (by (with_reducible repeat (first | apply Kd.R_alloc | apply Kd.R_drewN | apply Kd.R_drew)); exact HO_4.out) gb548 (Nat.le_of_eq hg.symm)) hb); have n1_ := Aside0.mk (Kd.R_below (Kd.R_elderB (by (with_reducible repeat (first | apply Kd.R_alloc | apply Kd.R_drewN | apply Kd.R_drew)); exact HO_5.out) gb548 (Nat.le_of_eq hg.symm)) hb); have n2_ := Aside0.mk (blk_below (g := gb546) (o := .map es clk) (by (with_reducible repeat (first | refine blk_drewN ?_ _ | refine blk_drew ?_ | refine blk_alloc ?_ _)); exact BK546.out) hb); have n3_ := Aside0.mk (below_step (by repeat (first | (with_reducible first | exact HB.out | apply below_alloc | apply pw_below_drewN | apply below_drew1 | refine below_set ?_ GE546.out) | exact HB.out)) hb); have n4_ := Aside0.mk (hbox); have n5_ := Aside0.mk ((by rw [hg]; exact (below_size (by repeat (first | (with_reducible first | exact HB.out | apply below_alloc | apply pw_below_drewN | apply below_drew1 | refine below_set ?_ GE546.out) | exact HB.out))) : w.heap.size ≤ gb548)); have n6_ := Aside0.mk ((by rw [hg]; exact (below_size (by repeat (first | (with_reducible first | exact HB.out | apply below_alloc | apply pw_below_drewN | apply below_drew1 | refine below_set ?_ GE546.out) | exact HB.out))) : w.heap.size ≤ gb548)); have n7_ := Aside0.mk ((by rw [hg]; exact Nat.ne_of_lt (blk_lt (g := gb546) (o := .map es clk) (by (with_reducible repeat (first | refine blk_drewN ?_ _ | refine blk_drew ?_ | refine blk_alloc ?_ _)); exact BK546.out)) : gb546 ≠ gb548)); have n8_ := Aside0.mk ((by rw [hg]; exact Nat.ne_of_gt (blk_lt (g := gb546) (o := .map es clk) (by (with_reducible repeat (first | refine blk_drewN ?_ _ | refine blk_drew ?_ | refine blk_alloc ?_ _)); exact BK546.out)) : gb548 ≠ gb546)); clear HO_4; clear HO_5; clear BK546; clear HB; have HO_4 := n0_; have HO_5 := n1_; have BK546 := n2_; have HB := n3_; have BK548 := n4_; have GW548 := n5_; have GE548 := n6_; have NB546_548 := n7_; have NB548_546 := n8_; clear n0_ n1_ n2_ n3_ n4_ n5_ n6_ n7_ n8_; clear hb hbox hg; have hnb11 := NB548_546.out; have hnc11 := NB546_548.out; have hcz12_0 : w10.cell? ⟨gb548, 0, none⟩ = some (.string (⟨#[]⟩ : ByteArray)) := (blk_cell BK548.out 0).trans rfl; have hcz12_1 : w10.cell? ⟨gb548, 1, none⟩ = some (.string (⟨#[]⟩ : ByteArray)) := (blk_cell BK548.out 1).trans rfl; have hcz12_2 : w10.cell? ⟨gb548, 2, none⟩ = some (.string (⟨#[]⟩ : ByteArray)) := (blk_cell BK548.out 2).trans rfl; have hcz12_3 : w10.cell? ⟨gb548, 3, none⟩ = some (.string (⟨#[]⟩ : ByteArray)) := (blk_cell BK548.out 3).trans rfl; have hcz12_4 : w10.cell? ⟨gb548, 4, none⟩ = some (.string (⟨#[]⟩ : ByteArray)) := (blk_cell BK548.out 4).trans rfl; have hcz12_5 : w10.cell? ⟨gb548, 5, none⟩ = some (.int .i64 0) := (blk_cell BK548.out 5).trans rfl; have hcz12_6 : w10.cell? ⟨gb548, 6, none⟩ = some (.int .i64 0) := (blk_cell BK548.out 6).trans rfl; have hfz12_0 := blk_frozen BK548.out 0; have hfz12_1 := blk_frozen BK548.out 1; have hfz12_2 := blk_frozen BK548.out 2; have hfz12_3 := blk_frozen BK548.out 3; have hfz12_4 := blk_frozen BK548.out 4; have hfz12_5 := blk_frozen BK548.out 5; have hfz12_6 := blk_frozen BK548.out 6) | ((with_reducible refine gate_callee (f := 72) rfl ?_); refine goesL_ (some 20) rfl rfl Try.func72 (by kernel_rfl) rfl #[.map (some gb546), .agg #[.string ((rd_T34 l0 x13_1).f0.f0), .string ((rd_T34 l0 x13_1).f0.f1), .string ((rd_T34 l0 x13_1).f0.f2), .string ((rd_T34 l0 x13_1).f0.f3), .string ((rd_T34 l0 x13_1).f0.f4)]] rfl (by (try simp only [List.map_toArray, List.map_cons, List.map_nil]); first | done | rfl | (simp only [List.length_drop, List.length_take]; rfl)) ?_; (with_reducible refine (inside_at gb546 l1 (rd_T34 l0 x13_1).f0 true (HM.out _ (by (with_reducible repeat (first | refine blk_drewN ?_ _ | refine blk_drew ?_ | refine blk_alloc ?_ _)); refine map_far ?_ NB546_548.out _; (with_reducible repeat (first | refine blk_drewN ?_ _ | refine blk_drew ?_ | refine blk_alloc ?_ _)); refine map_far ?_ NB546_548.out _; (with_reducible repeat (first | refine blk_drewN ?_ _ | refine blk_drew ?_ | refine blk_alloc ?_ _)); refine map_far ?_ NB546_548.out _; (with_reducible repeat (first | refine blk_drewN ?_ _ | refine blk_drew ?_ | refine blk_alloc ?_ _)); refine map_far ?_ NB546_548.out _; (with_reducible repeat (first | refine blk_drewN ?_ _ | refine blk_drew ?_ | refine blk_alloc ?_ _)); refine map_far ?_ NB546_548.out _; (with_reducible repeat (first | refine blk_drewN ?_ _ | refine blk_drew ?_ | refine blk_alloc ?_ _)); refine map_far ?_ NB546_548.out _; (with_reducible repeat (first | refine blk_drewN ?_ _ | refine blk_drew ?_ | refine blk_alloc ?_ _)); refine map_far ?_ NB546_548.out _; (with_reducible repeat (first | refine blk_drewN ?_ _ | refine blk_drew ?_ | refine blk_alloc ?_ _)); exact BK546.out)) (FM.out.2.2 _ (rd_mem (odt_) (odt_))) A7.out).mono ?_); rintro e w14 ⟨rfl, hb⟩; refine ⟨_, rfl, ?_⟩; have n0_ := Aside0.mk (Kd.R_below (by (with_reducible repeat (first | apply Kd.R_alloc | apply Kd.R_drewN | apply Kd.R_drew)); exact (Kd.R_mono (Kd.R_far (p := ⟨gb548, 6, none⟩) (Kd.R_far (p := ⟨gb548, 5, none⟩) (Kd.R_far (p := ⟨gb548, 4, none⟩) (Kd.R_far (p := ⟨gb548, 3, none⟩) (Kd.R_far (p := ⟨gb548, 2, none⟩) (Kd.R_far (p := ⟨gb548, 1, none⟩) (Kd.R_far (p := ⟨gb548, 0, none⟩) (Kd.R_mono HO_4.out (fun k_ hk => (⟨hk, hk.2⟩ : _ ∧ k_ ≠ gb548))) (fun _ hk => hk.2) (.string ((rd_T34 l0 x13_1).f0.f0))) (fun _ hk => hk.2) (.string ((rd_T34 l0 x13_1).f0.f1))) (fun _ hk => hk.2) (.string ((rd_T34 l0 x13_1).f0.f2))) (fun _ hk => hk.2) (.string ((rd_T34 l0 x13_1).f0.f3))) (fun _ hk => hk.2) (.string ((rd_T34 l0 x13_1).f0.f4))) (fun _ hk => hk.2) (.int .i64 ((rd_T34 l0 x13_1).f1))) (fun _ hk => hk.2) (.int .i64 ((rd_T34 l0 x13_1).f2))) (fun _ h_ => h_.1))) hb); have n1_ := Aside0.mk (Kd.R_below (by (with_reducible repeat (first | apply Kd.R_alloc | apply Kd.R_drewN | apply Kd.R_drew)); exact (Kd.R_mono (Kd.R_far (p := ⟨gb548, 6, none⟩) (Kd.R_far (p := ⟨gb548, 5, none⟩) (Kd.R_far (p := ⟨gb548, 4, none⟩) (Kd.R_far (p := ⟨gb548, 3, none⟩) (Kd.R_far (p := ⟨gb548, 2, none⟩) (Kd.R_far (p := ⟨gb548, 1, none⟩) (Kd.R_far (p := ⟨gb548, 0, none⟩) (Kd.R_mono HO_5.out (fun k_ hk => (⟨hk, hk.2⟩ : _ ∧ k_ ≠ gb548))) (fun _ hk => hk.2) (.string ((rd_T34 l0 x13_1).f0.f0))) (fun _ hk => hk.2) (.string ((rd_T34 l0 x13_1).f0.f1))) (fun _ hk => hk.2) (.string ((rd_T34 l0 x13_1).f0.f2))) (fun _ hk => hk.2) (.string ((rd_T34 l0 x13_1).f0.f3))) (fun _ hk => hk.2) (.string ((rd_T34 l0 x13_1).f0.f4))) (fun _ hk => hk.2) (.int .i64 ((rd_T34 l0 x13_1).f1))) (fun _ hk => hk.2) (.int .i64 ((rd_T34 l0 x13_1).f2))) (fun _ h_ => h_.1))) hb); have n2_ := Aside0.mk (blk_below (g := gb546) (o := .map es clk) (by (with_reducible repeat (first | refine blk_drewN ?_ _ | refine blk_drew ?_ | refine blk_alloc ?_ _)); refine map_far ?_ NB546_548.out _; (with_reducible repeat (first | refine blk_drewN ?_ _ | refine blk_drew ?_ | refine blk_alloc ?_ _)); refine map_far ?_ NB546_548.out _; (with_reducible repeat (first | refine blk_drewN ?_ _ | refine blk_drew ?_ | refine blk_alloc ?_ _)); refine map_far ?_ NB546_548.out _; (with_reducible repeat (first | refine blk_drewN ?_ _ | refine blk_drew ?_ | refine blk_alloc ?_ _)); refine map_far ?_ NB546_548.out _; (with_reducible repeat (first | refine blk_drewN ?_ _ | refine blk_drew ?_ | refine blk_alloc ?_ _)); refine map_far ?_ NB546_548.out _; (with_reducible repeat (first | refine blk_drewN ?_ _ | refine blk_drew ?_ | refine blk_alloc ?_ _)); refine map_far ?_ NB546_548.out _; (with_reducible repeat (first | refine blk_drewN ?_ _ | refine blk_drew ?_ | refine blk_alloc ?_ _)); refine map_far ?_ NB546_548.out _; (with_reducible repeat (first | refine blk_drewN ?_ _ | refine blk_drew ?_ | refine blk_alloc ?_ _)); exact BK546.out) hb); have n3_ := Aside0.mk (blk_below (g := gb548) (o := .cells #[.string ((rd_T34 l0 x13_1).f0.f0), .string ((rd_T34 l0 x13_1).f0.f1), .string ((rd_T34 l0 x13_1).f0.f2), .string ((rd_T34 l0 x13_1).f0.f3), .string ((rd_T34 l0 x13_1).f0.f4), .int .i64 ((rd_T34 l0 x13_1).f1), .int .i64 ((rd_T34 l0 x13_1).f2)] 34 (0, 0)) (by (with_reducible repeat (first | refine blk_drewN ?_ _ | refine blk_drew ?_ | refine blk_alloc ?_ _)); refine blk_put (cs := #[.string ((rd_T34 l0 x13_1).f0.f0), .string ((rd_T34 l0 x13_1).f0.f1), .string ((rd_T34 l0 x13_1).f0.f2), .string ((rd_T34 l0 x13_1).f0.f3), .string ((rd_T34 l0 x13_1).f0.f4), .int .i64 ((rd_T34 l0 x13_1).f1), .int .i64 0]) ?_ 6 _ rfl; (with_reducible repeat (first | refine blk_drewN ?_ _ | refine blk_drew ?_ | refine blk_alloc ?_ _)); refine blk_put (cs := #[.string ((rd_T34 l0 x13_1).f0.f0), .string ((rd_T34 l0 x13_1).f0.f1), .string ((rd_T34 l0 x13_1).f0.f2), .string ((rd_T34 l0 x13_1).f0.f3), .string ((rd_T34 l0 x13_1).f0.f4), .int .i64 0, .int .i64 0]) ?_ 5 _ rfl; (with_reducible repeat (first | refine blk_drewN ?_ _ | refine blk_drew ?_ | refine blk_alloc ?_ _)); refine blk_put (cs := #[.string ((rd_T34 l0 x13_1).f0.f0), .string ((rd_T34 l0 x13_1).f0.f1), .string ((rd_T34 l0 x13_1).f0.f2), .string ((rd_T34 l0 x13_1).f0.f3), .string (⟨#[]⟩ : ByteArray), .int .i64 0, .int .i64 0]) ?_ 4 _ rfl; (with_reducible repeat (first | refine blk_drewN ?_ _ | refine blk_drew ?_ | refine blk_alloc ?_ _)); refine blk_put (cs := #[.string ((rd_T34 l0 x13_1).f0.f0), .string ((rd_T34 l0 x13_1).f0.f1), .string ((rd_T34 l0 x13_1).f0.f2), .string (⟨#[]⟩ : ByteArray), .string (⟨#[]⟩ : ByteArray), .int .i64 0, .int .i64 0]) ?_ 3 _ rfl; (with_reducible repeat (first | refine blk_drewN ?_ _ | refine blk_drew ?_ | refine blk_alloc ?_ _)); refine blk_put (cs := #[.string ((rd_T34 l0 x13_1).f0.f0), .string ((rd_T34 l0 x13_1).f0.f1), .string (⟨#[]⟩ : ByteArray), .string (⟨#[]⟩ : ByteArray), .string (⟨#[]⟩ : ByteArray), .int .i64 0, .int .i64 0]) ?_ 2 _ rfl; (with_reducible repeat (first | refine blk_drewN ?_ _ | refine blk_drew ?_ | refine blk_alloc ?_ _)); refine blk_put (cs := #[.string ((rd_T34 l0 x13_1).f0.f0), .string (⟨#[]⟩ : ByteArray), .string (⟨#[]⟩ : ByteArray), .string (⟨#[]⟩ : ByteArray), .string (⟨#[]⟩ : ByteArray), .int .i64 0, .int .i64 0]) ?_ 1 _ rfl; (with_reducible repeat (first | refine blk_drewN ?_ _ | refine blk_drew ?_ | refine blk_alloc ?_ _)); refine blk_put (cs := #[.string (⟨#[]⟩ : ByteArray), .string (⟨#[]⟩ : ByteArray), .string (⟨#[]⟩ : ByteArray), .string (⟨#[]⟩ : ByteArray), .string (⟨#[]⟩ : ByteArray), .int .i64 0, .int .i64 0]) ?_ 0 _ rfl; (with_reducible repeat (first | refine blk_drewN ?_ _ | refine blk_drew ?_ | refine blk_alloc ?_ _)); exact BK548.out) hb); have n4_ := Aside0.mk (below_step (by repeat (first | (with_reducible first | exact HB.out | apply below_alloc | apply pw_below_drewN | apply below_drew1 | refine below_set ?_ GE546.out | refine below_set ?_ GE548.out) | exact HB.out)) hb); clear HO_4; clear HO_5; clear BK546; clear BK548; clear HB; have HO_4 := n0_; have HO_5 := n1_; have BK546 := n2_; have BK548 := n3_; have HB := n4_; clear n0_ n1_ n2_ n3_ n4_; (try clear hb); (try clear hb2); (try clear hk); (try clear hi); have hcz15_0 : w14.cell? ⟨gb548, 0, none⟩ = some (.string ((rd_T34 l0 x13_1).f0.f0)) := (blk_cell BK548.out 0).trans rfl; have hcz15_1 : w14.cell? ⟨gb548, 1, none⟩ = some (.string ((rd_T34 l0 x13_1).f0.f1)) := (blk_cell BK548.out 1).trans rfl; have hcz15_2 : w14.cell? ⟨gb548, 2, none⟩ = some (.string ((rd_T34 l0 x13_1).f0.f2)) := (blk_cell BK548.out 2).trans rfl; have hcz15_3 : w14.cell? ⟨gb548, 3, none⟩ = some (.string ((rd_T34 l0 x13_1).f0.f3)) := (blk_cell BK548.out 3).trans rfl; have hcz15_4 : w14.cell? ⟨gb548, 4, none⟩ = some (.string ((rd_T34 l0 x13_1).f0.f4)) := (blk_cell BK548.out 4).trans rfl; have hcz15_5 : w14.cell? ⟨gb548, 5, none⟩ = some (.int .i64 ((rd_T34 l0 x13_1).f1)) := (blk_cell BK548.out 5).trans rfl; have hcz15_6 : w14.cell? ⟨gb548, 6, none⟩ = some (.int .i64 ((rd_T34 l0 x13_1).f2)) := (blk_cell BK548.out 6).trans rfl; have hfz15_0 := blk_frozen BK548.out 0; have hfz15_1 := blk_frozen BK548.out 1; have hfz15_2 := blk_frozen BK548.out 2; have hfz15_3 := blk_frozen BK548.out 3; have hfz15_4 := blk_frozen BK548.out 4; have hfz15_5 := blk_frozen BK548.out 5; have hfz15_6 := blk_frozen BK548.out 6) | ((with_reducible refine gate_builtin (b := .append) (xs := #[.tmp 21, .tmp 23]) rfl ?_); at_builtin; refine Kd.R_append k34 (w0 := w) w.heap.size rfl (.tmp 21) (.tmp 23) 22 34 (.agg #[(.string ⟨#[]⟩), (.string ⟨#[]⟩), (.string ⟨#[]⟩), (.string ⟨#[]⟩), (.string ⟨#[]⟩), (.int .i64 0), (.int .i64 0)]) 96 rfl Try.underlying22 info34 rfl (by decide) (by omega) u4 x4_1 (⟨(⟨(rd_T34 l0 x13_1).f0.f0, (rd_T34 l0 x13_1).f0.f1, (rd_T34 l0 x13_1).f0.f2, (rd_T34 l0 x13_1).f0.f3, (rd_T34 l0 x13_1).f0.f4⟩ : S32), (rd_T34 l0 x13_1).f1, (rd_T34 l0 x13_1).f2⟩ : S34) [.string ((rd_T34 l0 x13_1).f0.f0), .string ((rd_T34 l0 x13_1).f0.f1), .string ((rd_T34 l0 x13_1).f0.f2), .string ((rd_T34 l0 x13_1).f0.f3), .string ((rd_T34 l0 x13_1).f0.f4), .int .i64 ((rd_T34 l0 x13_1).f1), .int .i64 ((rd_T34 l0 x13_1).f2)] (fun k_ => some k_ ≠ (u5 : Value).ownBlock ∧ k_ ≠ gb548) (fun _ => False) rfl rfl ?aP (fun _ hk => hk.elim) ?aF ?aO ?aB ?aS ?aL ?_; (case aP => exact k34_mkM _ _ _ (⟨(⟨(rd_T34 l0 x13_1).f0.f0, (rd_T34 l0 x13_1).f0.f1, (rd_T34 l0 x13_1).f0.f2, (rd_T34 l0 x13_1).f0.f3, (rd_T34 l0 x13_1).f0.f4⟩ : S32), (rd_T34 l0 x13_1).f1, (rd_T34 l0 x13_1).f2⟩ : S34)); (case aB => exact (by repeat (first | (with_reducible first | exact HB.out | apply below_alloc | apply pw_below_drewN | apply below_drew1 | refine below_set ?_ GE546.out | refine below_set ?_ GE548.out) | exact HB.out))); (case aF => exact (fun k_ hk => ⟨Kd.fresh' (Kd.R_lt (by (with_reducible repeat (first | apply Kd.R_alloc | apply Kd.R_drewN | apply Kd.R_drew)); exact HO_5.out)) k_ hk, Kd.freshB (g := gb548) (o := .cells #[.string ((rd_T34 l0 x13_1).f0.f0), .string ((rd_T34 l0 x13_1).f0.f1), .string ((rd_T34 l0 x13_1).f0.f2), .string ((rd_T34 l0 x13_1).f0.f3), .string ((rd_T34 l0 x13_1).f0.f4), .int .i64 ((rd_T34 l0 x13_1).f1), .int .i64 ((rd_T34 l0 x13_1).f2)] 34 (0, 0)) (by (with_reducible repeat (first | refine blk_drewN ?_ _ | refine blk_drew ?_ | refine blk_alloc ?_ _)); exact BK548.out) k_ hk⟩)); (case aO => exact (by (with_reducible repeat (first | apply Kd.R_alloc | apply Kd.R_drewN | apply Kd.R_drew)); exact HO_4.out)); (case aS => exact (below_size (by repeat (first | (with_reducible first | exact HB.out | apply below_alloc | apply pw_below_drewN | apply below_drew1 | refine below_set ?_ GE546.out | refine below_set ?_ GE548.out) | exact HB.out)))); (case aL => have := LMc9.out; omega); intro v551 w16 ho hb hg hat; rw [← Ny550.out] at ho; have n0_ := Aside0.mk (Kd.R_after (ok := (fun k_ => k_ ≠ gb548)) (by (with_reducible repeat (first | apply Kd.R_alloc | apply Kd.R_drewN | apply Kd.R_drew)); exact Kd.R_mono HO_5.out (fun _ hk => ⟨hk.2, hk.1⟩)) hg hat); have n1_ := Aside0.mk (blk_grown (g := gb546) (o := .map es clk) (by (with_reducible repeat (first | refine blk_drewN ?_ _ | refine blk_drew ?_ | refine blk_alloc ?_ _)); exact BK546.out) hg (R_ne_map HO_4.out BK546.out)); have n2_ := Aside0.mk (blk_grown (g := gb548) (o := .cells #[.string ((rd_T34 l0 x13_1).f0.f0), .string ((rd_T34 l0 x13_1).f0.f1), .string ((rd_T34 l0 x13_1).f0.f2), .string ((rd_T34 l0 x13_1).f0.f3), .string ((rd_T34 l0 x13_1).f0.f4), .int .i64 ((rd_T34 l0 x13_1).f1), .int .i64 ((rd_T34 l0 x13_1).f2)] 34 (0, 0)) (by (with_reducible repeat (first | refine blk_drewN ?_ _ | refine blk_drew ?_ | refine blk_alloc ?_ _)); exact BK548.out) hg (Kd.R_away HO_4.out (fun _ hk => hk.2))); have n3_ := Aside0.mk (hb); have n4_ := Aside0.mk (ho); clear HO_5; clear BK546; clear BK548; clear HB; clear HO_4; have HO_5 := n0_; have BK546 := n1_; have BK548 := n2_; have HB := n3_; have HO552 := n4_; clear n0_ n1_ n2_ n3_ n4_; clear ho hb hg hat))
        go_roundg k1
        case measure => have := HK1.out; omega
        case rel => exact ⟨(y550), (x5_1), (wrap64 (x13_1 + 1)), (by first | rfl | (simp; done) | (simp [*]; done)), H', ⟨by have := HK1.out; omega⟩, ⟨by (with_reducible repeat (first | apply Kd.R_alloc | apply Kd.R_drewN | apply Kd.R_drew)); exact Kd.R_mono HO552.out (fun _ hk => hk.1)⟩, ⟨by (with_reducible repeat (first | apply Kd.R_alloc | apply Kd.R_drewN | apply Kd.R_drew)); exact Kd.R_mono HO_5.out (fun _ hk => hk.2)⟩, ⟨by (with_reducible repeat (first | refine blk_drewN ?_ _ | refine blk_drew ?_ | refine blk_alloc ?_ _)); exact BK546.out⟩, ⟨by repeat (first | (with_reducible first | exact HB.out | apply below_alloc | apply pw_below_drewN | apply below_drew1 | refine below_set ?_ GE546.out | refine below_set ?_ GE548.out) | exact HB.out)⟩⟩
       ·rw [if_neg c9] at H
        exact absurd H (by simp)
      ·replace c8 := Bool.eq_false_iff.mpr c8
       subst c8
       have H1 : (if x5_1.length < 1466015503701 then (interco_Inside.l0 k1 x4_1 (x5_1 ++ [(⟨(⟨(rd_T34 l0 x13_1).f0.f0, (rd_T34 l0 x13_1).f0.f1, (rd_T34 l0 x13_1).f0.f2, (rd_T34 l0 x13_1).f0.f3, (rd_T34 l0 x13_1).f0.f4⟩ : S32), (rd_T34 l0 x13_1).f1, (rd_T34 l0 x13_1).f2⟩ : S34)]) l0 (l0.length : Int) (wrap64 (x13_1 + 1)) l1) else (none)) = some (r1, r2) := by rw [if_neg (show ¬ (false = true) by decide)] at H; exact H
       clear H
       have H := H1
       clear H1
       by_cases c17 : x5_1.length < 1466015503701
       ·rw [if_pos c17] at H
        have LMc17 := Aside0.mk c17
        clear c17
        obtain ⟨y553, hy553⟩ : ∃ y_ : List (S34), y_ = (x5_1 ++ [(⟨(⟨(rd_T34 l0 x13_1).f0.f0, (rd_T34 l0 x13_1).f0.f1, (rd_T34 l0 x13_1).f0.f2, (rd_T34 l0 x13_1).f0.f3, (rd_T34 l0 x13_1).f0.f4⟩ : S32), (rd_T34 l0 x13_1).f1, (rd_T34 l0 x13_1).f2⟩ : S34)]) := ⟨_, rfl⟩
        replace H : (interco_Inside.l0 k1 x4_1 y553 l0 (l0.length : Int) (wrap64 (x13_1 + 1)) l1) = some (r1, r2) := by first | (rw [hy553]; with_reducible exact H) | (have H2_ := (Option.bind_some _ _).symm.trans H; rw [hy553]; with_reducible exact H2_) | (have H2_ := (Option.bind_some _ _).symm.trans H; with_reducible exact H2_) | with_reducible exact H | (rw [hy553]; exact H) | exact H
        have Ny553 := Aside0.mk hy553
        clear hy553
        have H' := Aside0.mk H
        clear H
        have p547 : 0 ≤ (x13_1 : Int) := odt_
        have q547 : x13_1 < (l0.length : Int) := odt_
        obtain ⟨ad547, e547, hx547_0, hx547_1, hx547_2, hx547_3, hx547_4, hx547_5, hx547_6⟩ := at_T34 HR0.out x13_1 p547 q547
        cases e547
        replace hx547_0 := bcl_ HB hx547_0
        replace hx547_1 := bcl_ HB hx547_1
        replace hx547_2 := bcl_ HB hx547_2
        replace hx547_3 := bcl_ HB hx547_3
        replace hx547_4 := bcl_ HB hx547_4
        replace hx547_5 := bcl_ HB hx547_5
        replace hx547_6 := bcl_ HB hx547_6
        replace p547 := eq_true p547
        replace q547 := eq_true q547
        go_wp2_with (first | ((with_reducible refine gate_dst (N := 8) rfl ?_); refine box_event ?hg (N := 8) ?hd (cs := #[.string (⟨#[]⟩ : ByteArray), .string (⟨#[]⟩ : ByteArray), .string (⟨#[]⟩ : ByteArray), .string (⟨#[]⟩ : ByteArray), .string (⟨#[]⟩ : ByteArray), .int .i64 0, .int .i64 0]) (t := 34) ?hr ?_; (case hd => rfl); (case hg => rfl); (case hr => first | (go_simp; done) | (go_simp; rfl)); intro gb548 hg w18 hbox hb; have n0_ := Aside0.mk (Kd.R_below (Kd.R_elderB (by (with_reducible repeat (first | apply Kd.R_alloc | apply Kd.R_drewN | apply Kd.R_drew)); exact HO_4.out) gb548 (Nat.le_of_eq hg.symm)) hb); have n1_ := Aside0.mk (Kd.R_below (Kd.R_elderB (by (with_reducible repeat (first | apply Kd.R_alloc | apply Kd.R_drewN | apply Kd.R_drew)); exact HO_5.out) gb548 (Nat.le_of_eq hg.symm)) hb); have n2_ := Aside0.mk (blk_below (g := gb546) (o := .map es clk) (by (with_reducible repeat (first | refine blk_drewN ?_ _ | refine blk_drew ?_ | refine blk_alloc ?_ _)); exact BK546.out) hb); have n3_ := Aside0.mk (below_step (by repeat (first | (with_reducible first | exact HB.out | apply below_alloc | apply pw_below_drewN | apply below_drew1 | refine below_set ?_ GE546.out) | exact HB.out)) hb); have n4_ := Aside0.mk (hbox); have n5_ := Aside0.mk ((by rw [hg]; exact (below_size (by repeat (first | (with_reducible first | exact HB.out | apply below_alloc | apply pw_below_drewN | apply below_drew1 | refine below_set ?_ GE546.out) | exact HB.out))) : w.heap.size ≤ gb548)); have n6_ := Aside0.mk ((by rw [hg]; exact (below_size (by repeat (first | (with_reducible first | exact HB.out | apply below_alloc | apply pw_below_drewN | apply below_drew1 | refine below_set ?_ GE546.out) | exact HB.out))) : w.heap.size ≤ gb548)); have n7_ := Aside0.mk ((by rw [hg]; exact Nat.ne_of_lt (blk_lt (g := gb546) (o := .map es clk) (by (with_reducible repeat (first | refine blk_drewN ?_ _ | refine blk_drew ?_ | refine blk_alloc ?_ _)); exact BK546.out)) : gb546 ≠ gb548)); have n8_ := Aside0.mk ((by rw [hg]; exact Nat.ne_of_gt (blk_lt (g := gb546) (o := .map es clk) (by (with_reducible repeat (first | refine blk_drewN ?_ _ | refine blk_drew ?_ | refine blk_alloc ?_ _)); exact BK546.out)) : gb548 ≠ gb546)); clear HO_4; clear HO_5; clear BK546; clear HB; have HO_4 := n0_; have HO_5 := n1_; have BK546 := n2_; have HB := n3_; have BK548 := n4_; have GW548 := n5_; have GE548 := n6_; have NB546_548 := n7_; have NB548_546 := n8_; clear n0_ n1_ n2_ n3_ n4_ n5_ n6_ n7_ n8_; clear hb hbox hg; have hnb19 := NB548_546.out; have hnc19 := NB546_548.out; have hcz20_0 : w18.cell? ⟨gb548, 0, none⟩ = some (.string (⟨#[]⟩ : ByteArray)) := (blk_cell BK548.out 0).trans rfl; have hcz20_1 : w18.cell? ⟨gb548, 1, none⟩ = some (.string (⟨#[]⟩ : ByteArray)) := (blk_cell BK548.out 1).trans rfl; have hcz20_2 : w18.cell? ⟨gb548, 2, none⟩ = some (.string (⟨#[]⟩ : ByteArray)) := (blk_cell BK548.out 2).trans rfl; have hcz20_3 : w18.cell? ⟨gb548, 3, none⟩ = some (.string (⟨#[]⟩ : ByteArray)) := (blk_cell BK548.out 3).trans rfl; have hcz20_4 : w18.cell? ⟨gb548, 4, none⟩ = some (.string (⟨#[]⟩ : ByteArray)) := (blk_cell BK548.out 4).trans rfl; have hcz20_5 : w18.cell? ⟨gb548, 5, none⟩ = some (.int .i64 0) := (blk_cell BK548.out 5).trans rfl; have hcz20_6 : w18.cell? ⟨gb548, 6, none⟩ = some (.int .i64 0) := (blk_cell BK548.out 6).trans rfl; have hfz20_0 := blk_frozen BK548.out 0; have hfz20_1 := blk_frozen BK548.out 1; have hfz20_2 := blk_frozen BK548.out 2; have hfz20_3 := blk_frozen BK548.out 3; have hfz20_4 := blk_frozen BK548.out 4; have hfz20_5 := blk_frozen BK548.out 5; have hfz20_6 := blk_frozen BK548.out 6) | ((with_reducible refine gate_callee (f := 72) rfl ?_); refine goesL_ (some 20) rfl rfl Try.func72 (by kernel_rfl) rfl #[.map (some gb546), .agg #[.string ((rd_T34 l0 x13_1).f0.f0), .string ((rd_T34 l0 x13_1).f0.f1), .string ((rd_T34 l0 x13_1).f0.f2), .string ((rd_T34 l0 x13_1).f0.f3), .string ((rd_T34 l0 x13_1).f0.f4)]] rfl (by (try simp only [List.map_toArray, List.map_cons, List.map_nil]); first | done | rfl | (simp only [List.length_drop, List.length_take]; rfl)) ?_; (with_reducible refine (inside_at gb546 l1 (rd_T34 l0 x13_1).f0 false (HM.out _ (by (with_reducible repeat (first | refine blk_drewN ?_ _ | refine blk_drew ?_ | refine blk_alloc ?_ _)); refine map_far ?_ NB546_548.out _; (with_reducible repeat (first | refine blk_drewN ?_ _ | refine blk_drew ?_ | refine blk_alloc ?_ _)); refine map_far ?_ NB546_548.out _; (with_reducible repeat (first | refine blk_drewN ?_ _ | refine blk_drew ?_ | refine blk_alloc ?_ _)); refine map_far ?_ NB546_548.out _; (with_reducible repeat (first | refine blk_drewN ?_ _ | refine blk_drew ?_ | refine blk_alloc ?_ _)); refine map_far ?_ NB546_548.out _; (with_reducible repeat (first | refine blk_drewN ?_ _ | refine blk_drew ?_ | refine blk_alloc ?_ _)); refine map_far ?_ NB546_548.out _; (with_reducible repeat (first | refine blk_drewN ?_ _ | refine blk_drew ?_ | refine blk_alloc ?_ _)); refine map_far ?_ NB546_548.out _; (with_reducible repeat (first | refine blk_drewN ?_ _ | refine blk_drew ?_ | refine blk_alloc ?_ _)); refine map_far ?_ NB546_548.out _; (with_reducible repeat (first | refine blk_drewN ?_ _ | refine blk_drew ?_ | refine blk_alloc ?_ _)); exact BK546.out)) (FM.out.2.2 _ (rd_mem (odt_) (odt_))) A7.out).mono ?_); rintro e w22 ⟨rfl, hb⟩; refine ⟨_, rfl, ?_⟩; have n0_ := Aside0.mk (Kd.R_below (by (with_reducible repeat (first | apply Kd.R_alloc | apply Kd.R_drewN | apply Kd.R_drew)); exact (Kd.R_mono (Kd.R_far (p := ⟨gb548, 6, none⟩) (Kd.R_far (p := ⟨gb548, 5, none⟩) (Kd.R_far (p := ⟨gb548, 4, none⟩) (Kd.R_far (p := ⟨gb548, 3, none⟩) (Kd.R_far (p := ⟨gb548, 2, none⟩) (Kd.R_far (p := ⟨gb548, 1, none⟩) (Kd.R_far (p := ⟨gb548, 0, none⟩) (Kd.R_mono HO_4.out (fun k_ hk => (⟨hk, hk.2⟩ : _ ∧ k_ ≠ gb548))) (fun _ hk => hk.2) (.string ((rd_T34 l0 x13_1).f0.f0))) (fun _ hk => hk.2) (.string ((rd_T34 l0 x13_1).f0.f1))) (fun _ hk => hk.2) (.string ((rd_T34 l0 x13_1).f0.f2))) (fun _ hk => hk.2) (.string ((rd_T34 l0 x13_1).f0.f3))) (fun _ hk => hk.2) (.string ((rd_T34 l0 x13_1).f0.f4))) (fun _ hk => hk.2) (.int .i64 ((rd_T34 l0 x13_1).f1))) (fun _ hk => hk.2) (.int .i64 ((rd_T34 l0 x13_1).f2))) (fun _ h_ => h_.1))) hb); have n1_ := Aside0.mk (Kd.R_below (by (with_reducible repeat (first | apply Kd.R_alloc | apply Kd.R_drewN | apply Kd.R_drew)); exact (Kd.R_mono (Kd.R_far (p := ⟨gb548, 6, none⟩) (Kd.R_far (p := ⟨gb548, 5, none⟩) (Kd.R_far (p := ⟨gb548, 4, none⟩) (Kd.R_far (p := ⟨gb548, 3, none⟩) (Kd.R_far (p := ⟨gb548, 2, none⟩) (Kd.R_far (p := ⟨gb548, 1, none⟩) (Kd.R_far (p := ⟨gb548, 0, none⟩) (Kd.R_mono HO_5.out (fun k_ hk => (⟨hk, hk.2⟩ : _ ∧ k_ ≠ gb548))) (fun _ hk => hk.2) (.string ((rd_T34 l0 x13_1).f0.f0))) (fun _ hk => hk.2) (.string ((rd_T34 l0 x13_1).f0.f1))) (fun _ hk => hk.2) (.string ((rd_T34 l0 x13_1).f0.f2))) (fun _ hk => hk.2) (.string ((rd_T34 l0 x13_1).f0.f3))) (fun _ hk => hk.2) (.string ((rd_T34 l0 x13_1).f0.f4))) (fun _ hk => hk.2) (.int .i64 ((rd_T34 l0 x13_1).f1))) (fun _ hk => hk.2) (.int .i64 ((rd_T34 l0 x13_1).f2))) (fun _ h_ => h_.1))) hb); have n2_ := Aside0.mk (blk_below (g := gb546) (o := .map es clk) (by (with_reducible repeat (first | refine blk_drewN ?_ _ | refine blk_drew ?_ | refine blk_alloc ?_ _)); refine map_far ?_ NB546_548.out _; (with_reducible repeat (first | refine blk_drewN ?_ _ | refine blk_drew ?_ | refine blk_alloc ?_ _)); refine map_far ?_ NB546_548.out _; (with_reducible repeat (first | refine blk_drewN ?_ _ | refine blk_drew ?_ | refine blk_alloc ?_ _)); refine map_far ?_ NB546_548.out _; (with_reducible repeat (first | refine blk_drewN ?_ _ | refine blk_drew ?_ | refine blk_alloc ?_ _)); refine map_far ?_ NB546_548.out _; (with_reducible repeat (first | refine blk_drewN ?_ _ | refine blk_drew ?_ | refine blk_alloc ?_ _)); refine map_far ?_ NB546_548.out _; (with_reducible repeat (first | refine blk_drewN ?_ _ | refine blk_drew ?_ | refine blk_alloc ?_ _)); refine map_far ?_ NB546_548.out _; (with_reducible repeat (first | refine blk_drewN ?_ _ | refine blk_drew ?_ | refine blk_alloc ?_ _)); refine map_far ?_ NB546_548.out _; (with_reducible repeat (first | refine blk_drewN ?_ _ | refine blk_drew ?_ | refine blk_alloc ?_ _)); exact BK546.out) hb); have n3_ := Aside0.mk (blk_below (g := gb548) (o := .cells #[.string ((rd_T34 l0 x13_1).f0.f0), .string ((rd_T34 l0 x13_1).f0.f1), .string ((rd_T34 l0 x13_1).f0.f2), .string ((rd_T34 l0 x13_1).f0.f3), .string ((rd_T34 l0 x13_1).f0.f4), .int .i64 ((rd_T34 l0 x13_1).f1), .int .i64 ((rd_T34 l0 x13_1).f2)] 34 (0, 0)) (by (with_reducible repeat (first | refine blk_drewN ?_ _ | refine blk_drew ?_ | refine blk_alloc ?_ _)); refine blk_put (cs := #[.string ((rd_T34 l0 x13_1).f0.f0), .string ((rd_T34 l0 x13_1).f0.f1), .string ((rd_T34 l0 x13_1).f0.f2), .string ((rd_T34 l0 x13_1).f0.f3), .string ((rd_T34 l0 x13_1).f0.f4), .int .i64 ((rd_T34 l0 x13_1).f1), .int .i64 0]) ?_ 6 _ rfl; (with_reducible repeat (first | refine blk_drewN ?_ _ | refine blk_drew ?_ | refine blk_alloc ?_ _)); refine blk_put (cs := #[.string ((rd_T34 l0 x13_1).f0.f0), .string ((rd_T34 l0 x13_1).f0.f1), .string ((rd_T34 l0 x13_1).f0.f2), .string ((rd_T34 l0 x13_1).f0.f3), .string ((rd_T34 l0 x13_1).f0.f4), .int .i64 0, .int .i64 0]) ?_ 5 _ rfl; (with_reducible repeat (first | refine blk_drewN ?_ _ | refine blk_drew ?_ | refine blk_alloc ?_ _)); refine blk_put (cs := #[.string ((rd_T34 l0 x13_1).f0.f0), .string ((rd_T34 l0 x13_1).f0.f1), .string ((rd_T34 l0 x13_1).f0.f2), .string ((rd_T34 l0 x13_1).f0.f3), .string (⟨#[]⟩ : ByteArray), .int .i64 0, .int .i64 0]) ?_ 4 _ rfl; (with_reducible repeat (first | refine blk_drewN ?_ _ | refine blk_drew ?_ | refine blk_alloc ?_ _)); refine blk_put (cs := #[.string ((rd_T34 l0 x13_1).f0.f0), .string ((rd_T34 l0 x13_1).f0.f1), .string ((rd_T34 l0 x13_1).f0.f2), .string (⟨#[]⟩ : ByteArray), .string (⟨#[]⟩ : ByteArray), .int .i64 0, .int .i64 0]) ?_ 3 _ rfl; (with_reducible repeat (first | refine blk_drewN ?_ _ | refine blk_drew ?_ | refine blk_alloc ?_ _)); refine blk_put (cs := #[.string ((rd_T34 l0 x13_1).f0.f0), .string ((rd_T34 l0 x13_1).f0.f1), .string (⟨#[]⟩ : ByteArray), .string (⟨#[]⟩ : ByteArray), .string (⟨#[]⟩ : ByteArray), .int .i64 0, .int .i64 0]) ?_ 2 _ rfl; (with_reducible repeat (first | refine blk_drewN ?_ _ | refine blk_drew ?_ | refine blk_alloc ?_ _)); refine blk_put (cs := #[.string ((rd_T34 l0 x13_1).f0.f0), .string (⟨#[]⟩ : ByteArray), .string (⟨#[]⟩ : ByteArray), .string (⟨#[]⟩ : ByteArray), .string (⟨#[]⟩ : ByteArray), .int .i64 0, .int .i64 0]) ?_ 1 _ rfl; (with_reducible repeat (first | refine blk_drewN ?_ _ | refine blk_drew ?_ | refine blk_alloc ?_ _)); refine blk_put (cs := #[.string (⟨#[]⟩ : ByteArray), .string (⟨#[]⟩ : ByteArray), .string (⟨#[]⟩ : ByteArray), .string (⟨#[]⟩ : ByteArray), .string (⟨#[]⟩ : ByteArray), .int .i64 0, .int .i64 0]) ?_ 0 _ rfl; (with_reducible repeat (first | refine blk_drewN ?_ _ | refine blk_drew ?_ | refine blk_alloc ?_ _)); exact BK548.out) hb); have n4_ := Aside0.mk (below_step (by repeat (first | (with_reducible first | exact HB.out | apply below_alloc | apply pw_below_drewN | apply below_drew1 | refine below_set ?_ GE546.out | refine below_set ?_ GE548.out) | exact HB.out)) hb); clear HO_4; clear HO_5; clear BK546; clear BK548; clear HB; have HO_4 := n0_; have HO_5 := n1_; have BK546 := n2_; have BK548 := n3_; have HB := n4_; clear n0_ n1_ n2_ n3_ n4_; (try clear hb); (try clear hb2); (try clear hk); (try clear hi); have hcz23_0 : w22.cell? ⟨gb548, 0, none⟩ = some (.string ((rd_T34 l0 x13_1).f0.f0)) := (blk_cell BK548.out 0).trans rfl; have hcz23_1 : w22.cell? ⟨gb548, 1, none⟩ = some (.string ((rd_T34 l0 x13_1).f0.f1)) := (blk_cell BK548.out 1).trans rfl; have hcz23_2 : w22.cell? ⟨gb548, 2, none⟩ = some (.string ((rd_T34 l0 x13_1).f0.f2)) := (blk_cell BK548.out 2).trans rfl; have hcz23_3 : w22.cell? ⟨gb548, 3, none⟩ = some (.string ((rd_T34 l0 x13_1).f0.f3)) := (blk_cell BK548.out 3).trans rfl; have hcz23_4 : w22.cell? ⟨gb548, 4, none⟩ = some (.string ((rd_T34 l0 x13_1).f0.f4)) := (blk_cell BK548.out 4).trans rfl; have hcz23_5 : w22.cell? ⟨gb548, 5, none⟩ = some (.int .i64 ((rd_T34 l0 x13_1).f1)) := (blk_cell BK548.out 5).trans rfl; have hcz23_6 : w22.cell? ⟨gb548, 6, none⟩ = some (.int .i64 ((rd_T34 l0 x13_1).f2)) := (blk_cell BK548.out 6).trans rfl; have hfz23_0 := blk_frozen BK548.out 0; have hfz23_1 := blk_frozen BK548.out 1; have hfz23_2 := blk_frozen BK548.out 2; have hfz23_3 := blk_frozen BK548.out 3; have hfz23_4 := blk_frozen BK548.out 4; have hfz23_5 := blk_frozen BK548.out 5; have hfz23_6 := blk_frozen BK548.out 6) | ((with_reducible refine gate_builtin (b := .append) (xs := #[.tmp 25, .tmp 27]) rfl ?_); at_builtin; refine Kd.R_append k34 (w0 := w) w.heap.size rfl (.tmp 25) (.tmp 27) 22 34 (.agg #[(.string ⟨#[]⟩), (.string ⟨#[]⟩), (.string ⟨#[]⟩), (.string ⟨#[]⟩), (.string ⟨#[]⟩), (.int .i64 0), (.int .i64 0)]) 96 rfl Try.underlying22 info34 rfl (by decide) (by omega) u5 x5_1 (⟨(⟨(rd_T34 l0 x13_1).f0.f0, (rd_T34 l0 x13_1).f0.f1, (rd_T34 l0 x13_1).f0.f2, (rd_T34 l0 x13_1).f0.f3, (rd_T34 l0 x13_1).f0.f4⟩ : S32), (rd_T34 l0 x13_1).f1, (rd_T34 l0 x13_1).f2⟩ : S34) [.string ((rd_T34 l0 x13_1).f0.f0), .string ((rd_T34 l0 x13_1).f0.f1), .string ((rd_T34 l0 x13_1).f0.f2), .string ((rd_T34 l0 x13_1).f0.f3), .string ((rd_T34 l0 x13_1).f0.f4), .int .i64 ((rd_T34 l0 x13_1).f1), .int .i64 ((rd_T34 l0 x13_1).f2)] (fun k_ => some k_ ≠ (u4 : Value).ownBlock ∧ k_ ≠ gb548) (fun _ => False) rfl rfl ?aP (fun _ hk => hk.elim) ?aF ?aO ?aB ?aS ?aL ?_; (case aP => exact k34_mkM _ _ _ (⟨(⟨(rd_T34 l0 x13_1).f0.f0, (rd_T34 l0 x13_1).f0.f1, (rd_T34 l0 x13_1).f0.f2, (rd_T34 l0 x13_1).f0.f3, (rd_T34 l0 x13_1).f0.f4⟩ : S32), (rd_T34 l0 x13_1).f1, (rd_T34 l0 x13_1).f2⟩ : S34)); (case aB => exact (by repeat (first | (with_reducible first | exact HB.out | apply below_alloc | apply pw_below_drewN | apply below_drew1 | refine below_set ?_ GE546.out | refine below_set ?_ GE548.out) | exact HB.out))); (case aF => exact (fun k_ hk => ⟨Kd.fresh' (Kd.R_lt (by (with_reducible repeat (first | apply Kd.R_alloc | apply Kd.R_drewN | apply Kd.R_drew)); exact HO_4.out)) k_ hk, Kd.freshB (g := gb548) (o := .cells #[.string ((rd_T34 l0 x13_1).f0.f0), .string ((rd_T34 l0 x13_1).f0.f1), .string ((rd_T34 l0 x13_1).f0.f2), .string ((rd_T34 l0 x13_1).f0.f3), .string ((rd_T34 l0 x13_1).f0.f4), .int .i64 ((rd_T34 l0 x13_1).f1), .int .i64 ((rd_T34 l0 x13_1).f2)] 34 (0, 0)) (by (with_reducible repeat (first | refine blk_drewN ?_ _ | refine blk_drew ?_ | refine blk_alloc ?_ _)); exact BK548.out) k_ hk⟩)); (case aO => exact (by (with_reducible repeat (first | apply Kd.R_alloc | apply Kd.R_drewN | apply Kd.R_drew)); exact HO_5.out)); (case aS => exact (below_size (by repeat (first | (with_reducible first | exact HB.out | apply below_alloc | apply pw_below_drewN | apply below_drew1 | refine below_set ?_ GE546.out | refine below_set ?_ GE548.out) | exact HB.out)))); (case aL => have := LMc17.out; omega); intro v554 w24 ho hb hg hat; rw [← Ny553.out] at ho; have n0_ := Aside0.mk (Kd.R_after (ok := (fun k_ => k_ ≠ gb548)) (by (with_reducible repeat (first | apply Kd.R_alloc | apply Kd.R_drewN | apply Kd.R_drew)); exact Kd.R_mono HO_4.out (fun _ hk => ⟨hk.2, hk.1⟩)) hg hat); have n1_ := Aside0.mk (blk_grown (g := gb546) (o := .map es clk) (by (with_reducible repeat (first | refine blk_drewN ?_ _ | refine blk_drew ?_ | refine blk_alloc ?_ _)); exact BK546.out) hg (R_ne_map HO_5.out BK546.out)); have n2_ := Aside0.mk (blk_grown (g := gb548) (o := .cells #[.string ((rd_T34 l0 x13_1).f0.f0), .string ((rd_T34 l0 x13_1).f0.f1), .string ((rd_T34 l0 x13_1).f0.f2), .string ((rd_T34 l0 x13_1).f0.f3), .string ((rd_T34 l0 x13_1).f0.f4), .int .i64 ((rd_T34 l0 x13_1).f1), .int .i64 ((rd_T34 l0 x13_1).f2)] 34 (0, 0)) (by (with_reducible repeat (first | refine blk_drewN ?_ _ | refine blk_drew ?_ | refine blk_alloc ?_ _)); exact BK548.out) hg (Kd.R_away HO_5.out (fun _ hk => hk.2))); have n3_ := Aside0.mk (hb); have n4_ := Aside0.mk (ho); clear HO_4; clear BK546; clear BK548; clear HB; clear HO_5; have HO_4 := n0_; have BK546 := n1_; have BK548 := n2_; have HB := n3_; have HO555 := n4_; clear n0_ n1_ n2_ n3_ n4_; clear ho hb hg hat))
        go_roundg k1
        case measure => have := HK1.out; omega
        case rel => exact ⟨(x4_1), (y553), (wrap64 (x13_1 + 1)), (by first | rfl | (simp; done) | (simp [*]; done)), H', ⟨by have := HK1.out; omega⟩, ⟨by (with_reducible repeat (first | apply Kd.R_alloc | apply Kd.R_drewN | apply Kd.R_drew)); exact Kd.R_mono HO_4.out (fun _ hk => hk.2)⟩, ⟨by (with_reducible repeat (first | apply Kd.R_alloc | apply Kd.R_drewN | apply Kd.R_drew)); exact Kd.R_mono HO555.out (fun _ hk => hk.1)⟩, ⟨by (with_reducible repeat (first | refine blk_drewN ?_ _ | refine blk_drew ?_ | refine blk_alloc ?_ _)); exact BK546.out⟩, ⟨by repeat (first | (with_reducible first | exact HB.out | apply below_alloc | apply pw_below_drewN | apply below_drew1 | refine below_set ?_ GE546.out | refine below_set ?_ GE548.out) | exact HB.out)⟩⟩
       ·rw [if_neg c17] at H
        exact absurd H (by simp)
     ·rw [if_neg c6] at H
      exact absurd H (by simp)
    ·rw [if_neg c5] at H
     exact absurd H (by simp)
   ·rw [if_neg c4] at H
    have c4b0 : decide (x13_1 < (l0.length : Int)) = false := decide_eq_false c4
    clear c4
    simp only [Option.some.injEq, Prod.mk.injEq] at H
    obtain ⟨rfl, rfl⟩ := H
    go_wp2
    go_ret2
    exact ⟨_, _, by first | rfl | (simp [errW_none, errW_some] <;> rfl) | (simp [*, errW_none, errW_some] <;> rfl), by (with_reducible repeat (first | apply Kd.R_alloc | apply Kd.R_drewN | apply Kd.R_drew)); exact HO_4.out, by (with_reducible repeat (first | apply Kd.R_alloc | apply Kd.R_drewN | apply Kd.R_drew)); exact HO_5.out, by repeat (first | (with_reducible first | exact HB.out | apply below_alloc | apply pw_below_drewN | apply below_drew1 | refine below_set ?_ GE546.out) | exact HB.out)⟩
end Go.Proofs.Ytmflggbpiadkjaa.P
