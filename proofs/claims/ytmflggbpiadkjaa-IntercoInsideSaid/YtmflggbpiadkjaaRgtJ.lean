/- Texts of mine, joined: HandRef, HandRgs, HandRgt, HandRgu, HandInk. -/
import Derived.Test.YtmflggbpiadkjaaSrtJ
import Derived.Test.YtmflggbpiadkjaaHandJ
import Derived.Test.YtmflggbpiadkjaaLess
import Derived.BigQuiet
/- The contracts of accountingref19.compare, fits and Cmp. -/
namespace Go.Proofs.Ytmflggbpiadkjaa.P
open Go.RowKit Go.Sort Go.Proofs.YtmflggbpiadkjaaW.PrintWords Go.Proofs.YtmflggbpiadkjaaW.PrintLast Go.Proofs.YtmflggbpiadkjaaW.PrintMore
set_option linter.unusedVariables false
set_option linter.unusedSimpArgs false
theorem bytes_lessc : ∀ (a b : List UInt8), Lib.compareBytes a b = if Op.bytesLess a b = true then -1 else if Op.bytesLess b a = true then 1 else 0
  | [], [] => rfl
  | [], _ :: _ => rfl
  | _ :: _, [] => rfl
  | x :: a, y :: b => by
    have ih := bytes_lessc a b
    unfold Lib.compareBytes Op.bytesLess
    by_cases h1 : x < y
    · simp [h1]
    · by_cases h2 : y < x
      · have h3 : (x == y) = false := by
          rw [beq_eq_false_iff_ne]
          intro e
          subst e
          exact h1 h2
        simp [h1, h2, h3]
      · have h3 : x = y := UInt8.le_antisymm (UInt8.not_lt.1 h2) (UInt8.not_lt.1 h1)
        subst h3
        simp [h1, ih]
theorem cmpB_less (a b : ByteArray) : cmpB a b = if Op.bytesLess a.toList b.toList = true then -1 else if Op.bytesLess b.toList a.toList = true then 1 else 0 := by
  rw [ByteArray.toList_eq, ByteArray.toList_eq]
  exact bytes_lessc _ _
theorem refcompare_calls (a b : ByteArray) (w : World) : Calls Try.prog 67 #[.string a, .string b] w fun e w' => e = .returned (.int .i64 (cmpB a b)) ∧ w' = w := by
  have H := cmpB_less a b
  by_cases c1 : Op.bytesLess a.toList b.toList = true
  · rw [if_pos c1] at H
    have HH := Aside0.mk H
    clear H
    go_enter Try.func67, Try.ntmps67
    go_wp2
    go_ret
    exact ⟨by rw [HH.out]; rfl, rfl⟩
  · rw [if_neg c1] at H
    have c1b : Op.bytesLess a.toList b.toList = false := by simpa using c1
    clear c1
    by_cases c2 : Op.bytesLess b.toList a.toList = true
    · rw [if_pos c2] at H
      have HH := Aside0.mk H
      clear H
      go_enter Try.func67, Try.ntmps67
      go_wp2
      go_ret
      exact ⟨by rw [HH.out]; rfl, rfl⟩
    · rw [if_neg c2] at H
      have c2b : Op.bytesLess b.toList a.toList = false := by simpa using c2
      have HH := Aside0.mk H
      clear H c2
      go_enter Try.func67, Try.ntmps67
      go_wp2
      go_ret
      exact ⟨by rw [HH.out]; rfl, rfl⟩
theorem fits_calls (n : Int) (w : World) : Calls Try.prog 59 #[.int .i64 n] w fun e w' => e = .returned (.bool (fitB n)) ∧ w' = w := by
  have HF := Aside0.mk (show fitB n = (decide (-1000000000000000 ≤ n) && decide (n ≤ 1000000000000000)) from rfl)
  by_cases h1 : -1000000000000000 ≤ n
  · have d1 : decide (-1000000000000000 ≤ n) = true := decide_eq_true h1
    by_cases h2 : n ≤ 1000000000000000
    · have d2 : decide (n ≤ 1000000000000000) = true := decide_eq_true h2
      rw [d1, d2] at HF
      go_enter Try.func59, Try.ntmps59
      go_wp2
      go_ret
      exact ⟨by rw [HF.out]; rfl, rfl⟩
    · have d2 : decide (n ≤ 1000000000000000) = false := decide_eq_false h2
      rw [d1, d2] at HF
      go_enter Try.func59, Try.ntmps59
      go_wp2
      go_ret
      exact ⟨by rw [HF.out]; rfl, rfl⟩
  · have d1 : decide (-1000000000000000 ≤ n) = false := decide_eq_false h1
    rw [d1] at HF
    go_enter Try.func59, Try.ntmps59
    go_wp2
    go_ret
    exact ⟨by rw [HF.out]; rfl, rfl⟩
theorem sl_cell {w : World} {b : Nat} {x : S32} (h : w.heap[b]? = some (.cells #[.string x.f0, .string x.f1, .string x.f2, .string x.f3, .string x.f4] 9 (0, 0))) {k : Nat} (hk : k < 5) : w.cell? ⟨b, k, none⟩ = some (.string (kfld x k)) := by
  refine (blk_cell h k).trans ?_
  rcases (by omega : k = 0 ∨ k = 1 ∨ k = 2 ∨ k = 3 ∨ k = 4) with rfl | rfl | rfl | rfl | rfl <;> rfl
set_option maxHeartbeats 4000000 in
set_option maxRecDepth 100000 in
theorem refcmp_calls (x y : S32) (w : World) : Calls Try.prog 30 #[.agg #[.string x.f0, .string x.f1, .string x.f2, .string x.f3, .string x.f4], .agg #[.string y.f0, .string y.f1, .string y.f2, .string y.f3, .string y.f4]] w fun e w' => e = .returned (.int .i64 (cmpK x y)) ∧ Grw w w' := by
  go_enter Try.func30, Try.ntmps30
  go_upto_region 3 with (fail)
  refine with_world (P := fun x => Code.wp _ _ _ _ x) _ ?_
  intro w1 hw1
  obtain ⟨g, hg⟩ : ∃ g, w.heap.size = g := ⟨_, rfl⟩
  have HB := Aside0.mk (show w1.heap[g + 2]? = some (.cells #[.string x.f0, .string x.f1, .string x.f2, .string x.f3, .string x.f4] 9 (0, 0)) from by
    rw [hw1, ← hg]
    exact blk_alloc (blk_newAt _ _ _ (by simp)) _)
  have HC := Aside0.mk (show w1.heap[g + 3]? = some (.cells #[.string y.f0, .string y.f1, .string y.f2, .string y.f3, .string y.f4] 9 (0, 0)) from by
    rw [hw1, ← hg]
    exact blk_newAt _ _ _ (by simp))
  have HG2 := Aside0.mk (show Grw w w1 from by rw [hw1]; exact ((((Grw.refl w).alloc _).alloc _).alloc _).alloc _)
  have e2 : w.heap.size + 1 + 1 = g + 2 := by omega
  have e3 : w.heap.size + 1 + 1 + 1 = g + 3 := by omega
  simp only [hg] at e2 e3 ⊢
  obtain ⟨b, hb⟩ : ∃ b, g + 2 = b := ⟨_, rfl⟩
  obtain ⟨c, hc⟩ : ∃ c, b + 1 = c := ⟨_, rfl⟩
  rw [hb] at HB
  rw [show g + 3 = c by omega] at HC
  simp only [hb, hc]
  clear hw1 e2 e3 hb hc hg
  have HE0 := Aside0.mk (show cmpL ((flds x y).drop 0) = cmpK x y from rfl)
  go_wp2
  go_loopw [7, 8, 31, 32, 33, 34, 35, 36, 37, 38, 39, 40, 41, 42, 43, 44, 45, 46] (fun v7 _ _ _ _ _ _ _ _ _ _ _ _ _ _ _ _ _ wr => ∃ k : Nat, k ≤ 5 ∧ v7 = .int .i64 k ∧ Aside0 (cmpL ((flds x y).drop k) = cmpK x y) ∧ Aside0 (wr.heap[b]? = some (.cells #[.string x.f0, .string x.f1, .string x.f2, .string x.f3, .string x.f4] 9 (0, 0))) ∧ Aside0 (wr.heap[c]? = some (.cells #[.string y.f0, .string y.f1, .string y.f2, .string y.f3, .string y.f4] 9 (0, 0))) ∧ Aside0 (Grw w wr)) (fun v7 _ _ _ _ _ _ _ _ _ _ _ _ _ _ _ _ _ _ => 5 - (intOf v7).toNat)
  case atStart => exact ⟨0, by omega, rfl, HE0, HB, HC, HG2⟩
  case round =>
    clear HE0 HB HC HG2
    obtain ⟨k, hk, rfl, HE, HB, HC, HG⟩ := hrel
    by_cases hlt : k < 5
    · have d1 : decide ((k : Int) < 5) = true := decide_eq_true (by omega)
      have d2 : decide (k < 5) = true := decide_eq_true hlt
      have p0 : (0 : Int) ≤ (k : Int) := by omega
      have p1 : (k : Int) < 5 := by omega
      have hd := HE.out
      rw [flds_drop x y hlt] at hd
      have hd : (if cmpB (kfld x k) (kfld y k) = 0 then cmpL ((flds x y).drop (k + 1)) else cmpB (kfld x k) (kfld y k)) = cmpK x y := hd
      have qb : wr.cell? ⟨b, k, none⟩ = some (.string (kfld x k)) := sl_cell HB.out hlt
      have qc : wr.cell? ⟨c, k, none⟩ = some (.string (kfld y k)) := sl_cell HC.out hlt
      obtain ⟨u, hu⟩ : ∃ u, kfld x k = u := ⟨_, rfl⟩
      obtain ⟨v, hv⟩ : ∃ v, kfld y k = v := ⟨_, rfl⟩
      rw [hu] at hd qb
      rw [hv] at hd qc
      clear hu hv
      obtain ⟨z, hz⟩ : ∃ z, cmpB u v = z := ⟨_, rfl⟩
      rw [hz] at hd
      have HZ := Aside0.mk hz
      clear hz
      go_wp2
      go_quiet ((go_at_call 67; (refine (refcompare_calls u v _).mono ?_); rw [HZ.out]; rintro e_ w_ ⟨rfl, rfl⟩; exact ⟨rfl, _, rfl⟩))
      by_cases hz0 : z = 0
      · have dz : (z != (0 : Int)) = false := bne_eq_false_iff_eq.mpr hz0
        rw [if_pos hz0] at hd
        have HD := Aside0.mk hd
        clear hd hz0
        go_wp2
        go_roundw
        case rel => exact ⟨k + 1, by omega, by go_num, HD, HB, HC, ⟨HG.out.drewN _⟩⟩
        case measure => simp [intOf]; omega
      · have dz : (z != (0 : Int)) = true := bne_iff_ne.mpr hz0
        rw [if_neg hz0] at hd
        subst hd
        clear hz0
        go_wp2
        go_ret
        exact ⟨rfl, HG.out.drewN _⟩
    · obtain rfl : k = 5 := by omega
      have hd : (0 : Int) = cmpK x y := HE.out
      have HD := Aside0.mk hd
      clear hd
      go_wp2
      go_ret
      exact ⟨congrArg (fun z => Ending.returned (Value.int .i64 z)) HD.out, HG.out⟩
end Go.Proofs.Ytmflggbpiadkjaa.P

/- The contracts of sheet.Right and accountingref19.Right. -/
namespace Go.Proofs.Ytmflggbpiadkjaa.P
open Go.RowKit Go.Sort Go.Proofs.YtmflggbpiadkjaaW.PrintWords Go.Proofs.YtmflggbpiadkjaaW.PrintLast Go.Proofs.YtmflggbpiadkjaaW.PrintMore
set_option linter.unusedVariables false
set_option linter.unusedSimpArgs false
def badC (x : S34) : Bool := (decide (x.f1 = 0) && decide (x.f2 = 0)) || !fitB x.f1 || !fitB x.f2
def badAt (l : List S34) (i : Nat) : Bool := badC (rd_T34 l (i : Int)) || (decide (0 < i) && decide (0 ≤ cmpK (rd_T34 l ((i - 1 : Nat) : Int)).f0 (rd_T34 l (i : Int)).f0))
/-- Is the list a sheet? -/
def rightB (l : List S34) : Bool := (List.range l.length).all (fun i => !badAt l i)
theorem right_bad {l : List S34} {k : Nat} (hk : k < l.length) (h : badAt l k = true) : rightB l = false := by
  unfold rightB
  rw [List.all_eq_false]
  exact ⟨k, List.mem_range.2 hk, by simp [h]⟩
theorem right_good {l : List S34} (h : ∀ j, j < l.length → badAt l j = false) : rightB l = true := by
  unfold rightB
  rw [List.all_eq_true]
  intro j hj
  rw [h j (List.mem_range.1 hj)]
  rfl
theorem far_grw (n : Int) {r : Bool} (h : fitB n = r) (w : World) : Calls Try.prog 60 #[.int .i64 n] w fun e w' => e = .returned (.bool (!r)) ∧ w' = w := by
  refine (far_calls n w).mono ?_
  rintro e w' ⟨rfl, rfl⟩
  exact ⟨by rw [h], rfl⟩
theorem fits_grw (n : Int) {r : Bool} (h : fitB n = r) (w : World) : Calls Try.prog 59 #[.int .i64 n] w fun e w' => e = .returned (.bool r) ∧ w' = w := by
  refine (fits_calls n w).mono ?_
  rintro e w' ⟨rfl, rfl⟩
  exact ⟨by rw [h], rfl⟩
end Go.Proofs.Ytmflggbpiadkjaa.P

/- The contracts of sheet.Right and accountingref19.Right. -/
namespace Go.Proofs.Ytmflggbpiadkjaa.P
open Go.RowKit Go.Sort Go.Proofs.YtmflggbpiadkjaaW.PrintWords Go.Proofs.YtmflggbpiadkjaaW.PrintLast Go.Proofs.YtmflggbpiadkjaaW.PrintMore
set_option linter.unusedVariables false
set_option linter.unusedSimpArgs false
set_option maxHeartbeats 4000000 in
set_option maxRecDepth 100000 in
theorem right_calls (A : Option Addr) (c : Nat) (l : List S34) (w : World) (h : Kd.C k34 w A l.length l) (hc : l.length ≤ c) :
    Calls Try.prog 22 #[.slice A l.length c] w fun e w' => e = .returned (.bool (rightB l)) ∧ Grw w w' := by
  have HC := Aside0.mk h
  obtain ⟨n, hn⟩ : ∃ n, l.length = n := ⟨_, rfl⟩
  have HMX := Aside0.mk (show n ≤ 9223372036854775807 from hn ▸ Kd.C_max h)
  have HN := Aside0.mk hn
  rw [hn] at hc HC ⊢
  clear h hn
  have HG0 := Aside0.mk (Grw.refl w)
  go_enter Try.func22, Try.ntmps22
  go_wp2
  go_loopw [3, 4, 7, 8, 9, 10, 11, 12, 13, 14, 15, 16, 17, 18, 19, 20, 21, 22, 23, 24, 25, 26, 27, 28, 29, 30, 31, 32, 33, 34, 35, 36, 37, 38, 39, 40, 41, 42, 43, 44, 45, 46] (fun _ _ v _ _ _ _ _ _ _ _ _ _ _ _ _ _ _ _ _ _ _ _ _ _ _ _ _ _ _ _ _ _ _ _ _ _ _ _ _ _ _ wr => ∃ k : Nat, k ≤ n ∧ v = .int .i64 k ∧ Aside0 (∀ j : Nat, j < k → badAt l j = false) ∧ Aside0 (Grw w wr)) (fun _ _ v _ _ _ _ _ _ _ _ _ _ _ _ _ _ _ _ _ _ _ _ _ _ _ _ _ _ _ _ _ _ _ _ _ _ _ _ _ _ _ _ => n - (intOf v).toNat)
  case atStart => exact ⟨0, Nat.zero_le _, rfl, ⟨fun j hj => absurd hj (Nat.not_lt_zero _)⟩, HG0⟩
  case round =>
    clear HG0
    obtain ⟨k, hk, rfl, HALL, HG⟩ := hrel
    by_cases hlt : k < n
    · have d1 : decide ((k : Int) < (n : Int)) = true := decide_eq_true (by omega)
      have d2 : decide (k < n) = true := decide_eq_true hlt
      have K0 : (0 : Int) ≤ (k : Int) := by omega
      have K1 : (k : Int) < (n : Int) := by omega
      have hmx := HMX.out
      have HK := Aside0.mk (show k < l.length from by rw [HN.out]; exact hlt)
      obtain ⟨ad, e, x0, x1, x2, x3, x4, x5, x6⟩ := at_T34 (Kd.C_below HC.out HG.out.below) (k : Int) K0 K1
      rw [Int.toNat_natCast] at x0 x1 x2 x3 x4 x5 x6
      obtain ⟨x, hx⟩ : ∃ x, rd_T34 l (k : Int) = x := ⟨_, rfl⟩
      rw [hx] at x0 x1 x2 x3 x4 x5 x6
      subst e
      go_upto_region 4 with (fail)
      refine with_world (P := fun x => Code.wp _ _ _ _ x) _ ?_
      intro w2 hw2
      obtain ⟨b, hb⟩ : ∃ b, wr.heap.size = b := ⟨_, rfl⟩
      have BX := (show w2.heap[b]? = some (.cells #[.string x.f0.f0, .string x.f0.f1, .string x.f0.f2, .string x.f0.f3, .string x.f0.f4, .int .i64 x.f1, .int .i64 x.f2] 34 (0, 0)) from by rw [hw2, ← hb]; exact blk_new wr _)
      have HG2 := Aside0.mk (show Grw w w2 from by rw [hw2]; exact HG.out.alloc _)
      rw [hb]
      clear hw2 hb x0 x1 x2 x3 x4 x5 x6
      have x0 : w2.cell? ⟨b, 0, none⟩ = some (.string x.f0.f0) := (blk_cell BX 0).trans rfl
      have x1 : w2.cell? ⟨b, 1, none⟩ = some (.string x.f0.f1) := (blk_cell BX 1).trans rfl
      have x2 : w2.cell? ⟨b, 2, none⟩ = some (.string x.f0.f2) := (blk_cell BX 2).trans rfl
      have x3 : w2.cell? ⟨b, 3, none⟩ = some (.string x.f0.f3) := (blk_cell BX 3).trans rfl
      have x4 : w2.cell? ⟨b, 4, none⟩ = some (.string x.f0.f4) := (blk_cell BX 4).trans rfl
      have x5 : w2.cell? ⟨b, 5, none⟩ = some (.int .i64 x.f1) := (blk_cell BX 5).trans rfl
      have x6 : w2.cell? ⟨b, 6, none⟩ = some (.int .i64 x.f2) := (blk_cell BX 6).trans rfl
      clear BX HG
      have HC2 := Aside0.mk (Kd.C_below HC.out HG2.out.below)
      by_cases hA : x.f1 = 0
      · have eA : (x.f1 == (0 : Int)) = true := by rw [hA]; rfl
        by_cases hB : x.f2 = 0
        · have eB : (x.f2 == (0 : Int)) = true := by rw [hB]; rfl
          have HBAD := Aside0.mk (show badAt l k = true from by
            unfold badAt badC
            rw [hx]
            simp [hA, hB])
          clear hA hB
          go_region
          all_goals
            have HG5 := Aside0.mk (show Grw w w2.drew from HG2.out.drew)
            go_wp2
            go_ret
            exact ⟨by rw [right_bad HK.out HBAD.out]; rfl, HG5.out⟩
        · have eB : (x.f2 == (0 : Int)) = false := beq_false_of_ne hB
          have HNZ := Aside0.mk (show ¬ (x.f1 = 0 ∧ x.f2 = 0) from fun h => hB h.2)
          clear hA hB
          have mixed : Try.prog.follows .mixedOrders = true := by kernel_rfl
          cases hf1 : fitB x.f1 with
          | false =>
            have HBAD := Aside0.mk (show badAt l k = true from by
              unfold badAt badC
              rw [hx]
              simp [hf1])
            have F1 : ∀ W, Calls Try.prog 60 #[.int .i64 x.f1] W fun e w' => e = .returned (.bool true) ∧ w' = W := fun W => far_grw x.f1 hf1 W
            clear hf1
            go_wp2
            go_quiet (first | (go_at_call 60; (with_reducible refine (F1 _).mono ?_); rintro e_ w_ ⟨rfl, rfl⟩; exact ⟨rfl, _, rfl⟩))
            have HG5 := Aside0.mk (show Grw w _ from HG2.out.drewN nq)
            all_goals
              go_wp2
              go_ret
              exact ⟨by rw [right_bad HK.out HBAD.out]; rfl, HG5.out⟩
          | true =>
            have F1 : ∀ W, Calls Try.prog 60 #[.int .i64 x.f1] W fun e w' => e = .returned (.bool false) ∧ w' = W := fun W => far_grw x.f1 hf1 W
            cases hf2 : fitB x.f2 with
            | false =>
              have HBAD := Aside0.mk (show badAt l k = true from by
                unfold badAt badC
                rw [hx]
                simp [hf2])
              have F2 : ∀ W, Calls Try.prog 60 #[.int .i64 x.f2] W fun e w' => e = .returned (.bool true) ∧ w' = W := fun W => far_grw x.f2 hf2 W
              clear hf1 hf2
              go_wp2
              go_quiet (first | (go_at_call 60; (with_reducible refine (F1 _).mono ?_); rintro e_ w_ ⟨rfl, rfl⟩; exact ⟨rfl, _, rfl⟩) | (go_at_call 60; (with_reducible refine (F2 _).mono ?_); rintro e_ w_ ⟨rfl, rfl⟩; exact ⟨rfl, _, rfl⟩))
              have HG5 := Aside0.mk (show Grw w _ from HG2.out.drewN nq)
              all_goals
                go_wp2
                go_ret
                exact ⟨by rw [right_bad HK.out HBAD.out]; rfl, HG5.out⟩
            | true =>
              have F2 : ∀ W, Calls Try.prog 60 #[.int .i64 x.f2] W fun e w' => e = .returned (.bool false) ∧ w' = W := fun W => far_grw x.f2 hf2 W
              by_cases h0 : k = 0
              · have HBAD := Aside0.mk (show badAt l k = false from by
                  unfold badAt badC
                  rw [hx]
                  have hnz := HNZ.out
                  simp [hf1, hf2, h0]
                  intro h1 h2
                  exact hnz ⟨h1, h2⟩)
                have g0 : decide ((0 : Int) < (k : Int)) = false := decide_eq_false (by omega)
                have g0' : decide (0 < k) = false := decide_eq_false (by omega)
                clear hf1 hf2
                go_wp2
                go_quiet (first | (go_at_call 60; (with_reducible refine (F1 _).mono ?_); rintro e_ w_ ⟨rfl, rfl⟩; exact ⟨rfl, _, rfl⟩) | (go_at_call 60; (with_reducible refine (F2 _).mono ?_); rintro e_ w_ ⟨rfl, rfl⟩; exact ⟨rfl, _, rfl⟩))
                have HG5 := Aside0.mk (show Grw w _ from HG2.out.drewN nq)
                all_goals
                  go_wp2
                  go_roundw
                  case rel =>
                    refine ⟨k + 1, by omega, by go_num, ⟨fun j hj => ?_⟩, HG5⟩
                    rcases Nat.lt_or_ge j k with h3 | h3
                    · exact HALL.out j h3
                    · obtain rfl : j = k := by omega
                      exact HBAD.out
                  case measure => simp [intOf]; omega
              · obtain ⟨p, hp⟩ : ∃ p, k - 1 = p := ⟨_, rfl⟩
                have g0 : decide ((0 : Int) < (k : Int)) = true := decide_eq_true (by omega)
                have g0' : decide (0 < k) = true := decide_eq_true (by omega)
                have s1 : (k : Int) - 1 = (p : Int) := by omega
                have s2 : IntKind.i64.wrap ((k : Int) - 1) = (p : Int) := by rw [s1, IntKind.wrap_i64]; omega
                have s3 : IntKind.i64.wrap (p : Int) = (p : Int) := by rw [IntKind.wrap_i64]; omega
                have P0 : (0 : Int) ≤ (p : Int) := by omega
                have P1 : (p : Int) < (n : Int) := by omega
                obtain ⟨ad2, e2, y0, y1, y2, y3, y4, y5, y6⟩ := at_T34 HC2.out (p : Int) P0 P1
                cases e2
                rw [Int.toNat_natCast] at y0 y1 y2 y3 y4 y5 y6
                obtain ⟨y, hy⟩ : ∃ y, rd_T34 l (p : Int) = y := ⟨_, rfl⟩
                rw [hy] at y0 y1 y2 y3 y4
                clear y5 y6
                obtain ⟨z, hz⟩ : ∃ z, cmpK y.f0 x.f0 = z := ⟨_, rfl⟩
                have hcmp := cmp_calls y.f0 x.f0
                rw [hz] at hcmp
                by_cases hz0 : 0 ≤ z
                · have HBAD := Aside0.mk (show badAt l k = true from by
                    unfold badAt
                    rw [hp, hx, hy, hz, decide_eq_true hz0, decide_eq_true (show 0 < k by omega)]
                    simp)
                  have dz : decide (0 ≤ z) = true := decide_eq_true hz0
                  clear hf1 hf2 hz hy hp hz0
                  have x0 := cell_all x0
                  have x1 := cell_all x1
                  have x2 := cell_all x2
                  have x3 := cell_all x3
                  have x4 := cell_all x4
                  have x5 := cell_all x5
                  have x6 := cell_all x6
                  have y0 := cell_all y0
                  have y1 := cell_all y1
                  have y2 := cell_all y2
                  have y3 := cell_all y3
                  have y4 := cell_all y4
                  have G1 : ∀ W, Calls Try.prog 60 #[.int .i64 x.f1] W fun e w' => e = .returned (.bool false) ∧ Grw W w' := fun W => (F1 W).mono (by rintro e w' ⟨rfl, rfl⟩; exact ⟨rfl, Grw.refl _⟩)
                  have G2 : ∀ W, Calls Try.prog 60 #[.int .i64 x.f2] W fun e w' => e = .returned (.bool false) ∧ Grw W w' := fun W => (F2 W).mono (by rintro e w' ⟨rfl, rfl⟩; exact ⟨rfl, Grw.refl _⟩)
                  go_wp2_with fail
                  refine wp_region_quiet_grown (by assumption) (by kernel_rfl) ?_
                  repeat (first | go_big_quiet_skip | quiet_step (first | (go_at_call 60; (with_reducible refine Calls.grown_of (G1 _))) | (go_at_call 60; (with_reducible refine Calls.grown_of (G2 _))) | (go_at_call 29; (with_reducible refine Calls.grown_of (hcmp _)))))
                  refine wpQuiet_nil ?_
                  intro _ hw'
                  obtain ⟨⟨nq, osq⟩, hw''⟩ := hw'
                  subst hw''
                  have HG5 := Aside0.mk (show Grw w _ from HG2.out.trans ⟨nq, osq, rfl⟩)
                  all_goals
                    go_wp2
                    go_ret
                    exact ⟨by rw [right_bad HK.out HBAD.out]; rfl, HG5.out⟩
                · have HBAD := Aside0.mk (show badAt l k = false from by
                    unfold badAt badC
                    rw [hp, hx, hy, hz, decide_eq_false hz0]
                    have hnz := HNZ.out
                    simp [hf1, hf2]
                    intro h1 h2
                    exact hnz ⟨h1, h2⟩)
                  have dz : decide (0 ≤ z) = false := decide_eq_false hz0
                  clear hf1 hf2 hz hy hp hz0
                  have x0 := cell_all x0
                  have x1 := cell_all x1
                  have x2 := cell_all x2
                  have x3 := cell_all x3
                  have x4 := cell_all x4
                  have x5 := cell_all x5
                  have x6 := cell_all x6
                  have y0 := cell_all y0
                  have y1 := cell_all y1
                  have y2 := cell_all y2
                  have y3 := cell_all y3
                  have y4 := cell_all y4
                  have G1 : ∀ W, Calls Try.prog 60 #[.int .i64 x.f1] W fun e w' => e = .returned (.bool false) ∧ Grw W w' := fun W => (F1 W).mono (by rintro e w' ⟨rfl, rfl⟩; exact ⟨rfl, Grw.refl _⟩)
                  have G2 : ∀ W, Calls Try.prog 60 #[.int .i64 x.f2] W fun e w' => e = .returned (.bool false) ∧ Grw W w' := fun W => (F2 W).mono (by rintro e w' ⟨rfl, rfl⟩; exact ⟨rfl, Grw.refl _⟩)
                  go_wp2_with fail
                  refine wp_region_quiet_grown (by assumption) (by kernel_rfl) ?_
                  repeat (first | go_big_quiet_skip | quiet_step (first | (go_at_call 60; (with_reducible refine Calls.grown_of (G1 _))) | (go_at_call 60; (with_reducible refine Calls.grown_of (G2 _))) | (go_at_call 29; (with_reducible refine Calls.grown_of (hcmp _)))))
                  refine wpQuiet_nil ?_
                  intro _ hw'
                  obtain ⟨⟨nq, osq⟩, hw''⟩ := hw'
                  subst hw''
                  have HG5 := Aside0.mk (show Grw w _ from HG2.out.trans ⟨nq, osq, rfl⟩)
                  all_goals
                    go_wp2
                    go_roundw
                    case rel =>
                      refine ⟨k + 1, by omega, by go_num, ⟨fun j hj => ?_⟩, HG5⟩
                      rcases Nat.lt_or_ge j k with h3 | h3
                      · exact HALL.out j h3
                      · obtain rfl : j = k := by omega
                        exact HBAD.out
                    case measure => simp [intOf]; omega
      · have eA : (x.f1 == (0 : Int)) = false := beq_false_of_ne hA
        have HNZ := Aside0.mk (show ¬ (x.f1 = 0 ∧ x.f2 = 0) from fun h => hA h.1)
        clear hA
        have mixed : Try.prog.follows .mixedOrders = true := by kernel_rfl
        cases hf1 : fitB x.f1 with
        | false =>
          have HBAD := Aside0.mk (show badAt l k = true from by
            unfold badAt badC
            rw [hx]
            simp [hf1])
          have F1 : ∀ W, Calls Try.prog 60 #[.int .i64 x.f1] W fun e w' => e = .returned (.bool true) ∧ w' = W := fun W => far_grw x.f1 hf1 W
          clear hf1
          go_wp2
          go_quiet (first | (go_at_call 60; (with_reducible refine (F1 _).mono ?_); rintro e_ w_ ⟨rfl, rfl⟩; exact ⟨rfl, _, rfl⟩))
          have HG5 := Aside0.mk (show Grw w _ from HG2.out.drewN nq)
          all_goals
            go_wp2
            go_ret
            exact ⟨by rw [right_bad HK.out HBAD.out]; rfl, HG5.out⟩
        | true =>
          have F1 : ∀ W, Calls Try.prog 60 #[.int .i64 x.f1] W fun e w' => e = .returned (.bool false) ∧ w' = W := fun W => far_grw x.f1 hf1 W
          cases hf2 : fitB x.f2 with
          | false =>
            have HBAD := Aside0.mk (show badAt l k = true from by
              unfold badAt badC
              rw [hx]
              simp [hf2])
            have F2 : ∀ W, Calls Try.prog 60 #[.int .i64 x.f2] W fun e w' => e = .returned (.bool true) ∧ w' = W := fun W => far_grw x.f2 hf2 W
            clear hf1 hf2
            go_wp2
            go_quiet (first | (go_at_call 60; (with_reducible refine (F1 _).mono ?_); rintro e_ w_ ⟨rfl, rfl⟩; exact ⟨rfl, _, rfl⟩) | (go_at_call 60; (with_reducible refine (F2 _).mono ?_); rintro e_ w_ ⟨rfl, rfl⟩; exact ⟨rfl, _, rfl⟩))
            have HG5 := Aside0.mk (show Grw w _ from HG2.out.drewN nq)
            all_goals
              go_wp2
              go_ret
              exact ⟨by rw [right_bad HK.out HBAD.out]; rfl, HG5.out⟩
          | true =>
            have F2 : ∀ W, Calls Try.prog 60 #[.int .i64 x.f2] W fun e w' => e = .returned (.bool false) ∧ w' = W := fun W => far_grw x.f2 hf2 W
            by_cases h0 : k = 0
            · have HBAD := Aside0.mk (show badAt l k = false from by
                unfold badAt badC
                rw [hx]
                have hnz := HNZ.out
                simp [hf1, hf2, h0]
                intro h1 h2
                exact hnz ⟨h1, h2⟩)
              have g0 : decide ((0 : Int) < (k : Int)) = false := decide_eq_false (by omega)
              have g0' : decide (0 < k) = false := decide_eq_false (by omega)
              clear hf1 hf2
              go_wp2
              go_quiet (first | (go_at_call 60; (with_reducible refine (F1 _).mono ?_); rintro e_ w_ ⟨rfl, rfl⟩; exact ⟨rfl, _, rfl⟩) | (go_at_call 60; (with_reducible refine (F2 _).mono ?_); rintro e_ w_ ⟨rfl, rfl⟩; exact ⟨rfl, _, rfl⟩))
              have HG5 := Aside0.mk (show Grw w _ from HG2.out.drewN nq)
              all_goals
                go_wp2
                go_roundw
                case rel =>
                  refine ⟨k + 1, by omega, by go_num, ⟨fun j hj => ?_⟩, HG5⟩
                  rcases Nat.lt_or_ge j k with h3 | h3
                  · exact HALL.out j h3
                  · obtain rfl : j = k := by omega
                    exact HBAD.out
                case measure => simp [intOf]; omega
            · obtain ⟨p, hp⟩ : ∃ p, k - 1 = p := ⟨_, rfl⟩
              have g0 : decide ((0 : Int) < (k : Int)) = true := decide_eq_true (by omega)
              have g0' : decide (0 < k) = true := decide_eq_true (by omega)
              have s1 : (k : Int) - 1 = (p : Int) := by omega
              have s2 : IntKind.i64.wrap ((k : Int) - 1) = (p : Int) := by rw [s1, IntKind.wrap_i64]; omega
              have s3 : IntKind.i64.wrap (p : Int) = (p : Int) := by rw [IntKind.wrap_i64]; omega
              have P0 : (0 : Int) ≤ (p : Int) := by omega
              have P1 : (p : Int) < (n : Int) := by omega
              obtain ⟨ad2, e2, y0, y1, y2, y3, y4, y5, y6⟩ := at_T34 HC2.out (p : Int) P0 P1
              cases e2
              rw [Int.toNat_natCast] at y0 y1 y2 y3 y4 y5 y6
              obtain ⟨y, hy⟩ : ∃ y, rd_T34 l (p : Int) = y := ⟨_, rfl⟩
              rw [hy] at y0 y1 y2 y3 y4
              clear y5 y6
              obtain ⟨z, hz⟩ : ∃ z, cmpK y.f0 x.f0 = z := ⟨_, rfl⟩
              have hcmp := cmp_calls y.f0 x.f0
              rw [hz] at hcmp
              by_cases hz0 : 0 ≤ z
              · have HBAD := Aside0.mk (show badAt l k = true from by
                  unfold badAt
                  rw [hp, hx, hy, hz, decide_eq_true hz0, decide_eq_true (show 0 < k by omega)]
                  simp)
                have dz : decide (0 ≤ z) = true := decide_eq_true hz0
                clear hf1 hf2 hz hy hp hz0
                have x0 := cell_all x0
                have x1 := cell_all x1
                have x2 := cell_all x2
                have x3 := cell_all x3
                have x4 := cell_all x4
                have x5 := cell_all x5
                have x6 := cell_all x6
                have y0 := cell_all y0
                have y1 := cell_all y1
                have y2 := cell_all y2
                have y3 := cell_all y3
                have y4 := cell_all y4
                have G1 : ∀ W, Calls Try.prog 60 #[.int .i64 x.f1] W fun e w' => e = .returned (.bool false) ∧ Grw W w' := fun W => (F1 W).mono (by rintro e w' ⟨rfl, rfl⟩; exact ⟨rfl, Grw.refl _⟩)
                have G2 : ∀ W, Calls Try.prog 60 #[.int .i64 x.f2] W fun e w' => e = .returned (.bool false) ∧ Grw W w' := fun W => (F2 W).mono (by rintro e w' ⟨rfl, rfl⟩; exact ⟨rfl, Grw.refl _⟩)
                go_wp2_with fail
                refine wp_region_quiet_grown (by assumption) (by kernel_rfl) ?_
                repeat (first | go_big_quiet_skip | quiet_step (first | (go_at_call 60; (with_reducible refine Calls.grown_of (G1 _))) | (go_at_call 60; (with_reducible refine Calls.grown_of (G2 _))) | (go_at_call 29; (with_reducible refine Calls.grown_of (hcmp _)))))
                refine wpQuiet_nil ?_
                intro _ hw'
                obtain ⟨⟨nq, osq⟩, hw''⟩ := hw'
                subst hw''
                have HG5 := Aside0.mk (show Grw w _ from HG2.out.trans ⟨nq, osq, rfl⟩)
                all_goals
                  go_wp2
                  go_ret
                  exact ⟨by rw [right_bad HK.out HBAD.out]; rfl, HG5.out⟩
              · have HBAD := Aside0.mk (show badAt l k = false from by
                  unfold badAt badC
                  rw [hp, hx, hy, hz, decide_eq_false hz0]
                  have hnz := HNZ.out
                  simp [hf1, hf2]
                  intro h1 h2
                  exact hnz ⟨h1, h2⟩)
                have dz : decide (0 ≤ z) = false := decide_eq_false hz0
                clear hf1 hf2 hz hy hp hz0
                have x0 := cell_all x0
                have x1 := cell_all x1
                have x2 := cell_all x2
                have x3 := cell_all x3
                have x4 := cell_all x4
                have x5 := cell_all x5
                have x6 := cell_all x6
                have y0 := cell_all y0
                have y1 := cell_all y1
                have y2 := cell_all y2
                have y3 := cell_all y3
                have y4 := cell_all y4
                have G1 : ∀ W, Calls Try.prog 60 #[.int .i64 x.f1] W fun e w' => e = .returned (.bool false) ∧ Grw W w' := fun W => (F1 W).mono (by rintro e w' ⟨rfl, rfl⟩; exact ⟨rfl, Grw.refl _⟩)
                have G2 : ∀ W, Calls Try.prog 60 #[.int .i64 x.f2] W fun e w' => e = .returned (.bool false) ∧ Grw W w' := fun W => (F2 W).mono (by rintro e w' ⟨rfl, rfl⟩; exact ⟨rfl, Grw.refl _⟩)
                go_wp2_with fail
                refine wp_region_quiet_grown (by assumption) (by kernel_rfl) ?_
                repeat (first | go_big_quiet_skip | quiet_step (first | (go_at_call 60; (with_reducible refine Calls.grown_of (G1 _))) | (go_at_call 60; (with_reducible refine Calls.grown_of (G2 _))) | (go_at_call 29; (with_reducible refine Calls.grown_of (hcmp _)))))
                refine wpQuiet_nil ?_
                intro _ hw'
                obtain ⟨⟨nq, osq⟩, hw''⟩ := hw'
                subst hw''
                have HG5 := Aside0.mk (show Grw w _ from HG2.out.trans ⟨nq, osq, rfl⟩)
                all_goals
                  go_wp2
                  go_roundw
                  case rel =>
                    refine ⟨k + 1, by omega, by go_num, ⟨fun j hj => ?_⟩, HG5⟩
                    rcases Nat.lt_or_ge j k with h3 | h3
                    · exact HALL.out j h3
                    · obtain rfl : j = k := by omega
                      exact HBAD.out
                  case measure => simp [intOf]; omega
    · obtain rfl : k = n := by omega
      have d1 : decide ((k : Int) < (k : Int)) = false := decide_eq_false (by omega)
      have d2 : decide (k < k) = false := decide_eq_false (by omega)
      have HR := Aside0.mk (right_good (l := l) (fun j hj => HALL.out j (by rw [HN.out] at hj; exact hj)))
      go_wp2
      go_ret
      exact ⟨by rw [HR.out]; rfl, HG.out⟩
end Go.Proofs.Ytmflggbpiadkjaa.P

/- The contracts of sheet.Right and accountingref19.Right. -/
namespace Go.Proofs.Ytmflggbpiadkjaa.P
open Go.RowKit Go.Sort Go.Proofs.YtmflggbpiadkjaaW.PrintWords Go.Proofs.YtmflggbpiadkjaaW.PrintLast Go.Proofs.YtmflggbpiadkjaaW.PrintMore
set_option linter.unusedVariables false
set_option linter.unusedSimpArgs false
set_option maxHeartbeats 4000000 in
set_option maxRecDepth 100000 in
theorem refright_calls (A : Option Addr) (c : Nat) (l : List S34) (w : World) (h : Kd.C k34 w A l.length l) (hc : l.length ≤ c) :
    Calls Try.prog 23 #[.slice A l.length c] w fun e w' => e = .returned (.bool (rightB l)) ∧ Grw w w' := by
  have HC := Aside0.mk h
  obtain ⟨n, hn⟩ : ∃ n, l.length = n := ⟨_, rfl⟩
  have HMX := Aside0.mk (show n ≤ 9223372036854775807 from hn ▸ Kd.C_max h)
  have HN := Aside0.mk hn
  rw [hn] at hc HC ⊢
  clear h hn
  have HG0 := Aside0.mk (Grw.refl w)
  go_enter Try.func23, Try.ntmps23
  go_wp2
  go_loopw [2, 3, 4, 5, 6, 7, 8, 9, 10, 11, 12, 13, 14, 15, 16, 17, 18, 19, 20, 21, 22, 23, 24, 25, 26, 27, 28, 29, 30, 31, 32, 33, 34, 35, 36, 37, 38, 39, 40, 41, 42, 43, 44, 45, 46, 47, 48, 49, 50, 51, 52, 53, 54, 55, 56, 57, 58, 59, 60] (fun _ v _ _ _ _ _ _ _ _ _ _ _ _ _ _ _ _ _ _ _ _ _ _ _ _ _ _ _ _ _ _ _ _ _ _ _ _ _ _ _ _ _ _ _ _ _ _ _ _ _ _ _ _ _ _ _ _ _ wr => ∃ k : Nat, k ≤ n ∧ v = .int .i64 k ∧ Aside0 (∀ j : Nat, j < k → badAt l j = false) ∧ Aside0 (Grw w wr)) (fun _ v _ _ _ _ _ _ _ _ _ _ _ _ _ _ _ _ _ _ _ _ _ _ _ _ _ _ _ _ _ _ _ _ _ _ _ _ _ _ _ _ _ _ _ _ _ _ _ _ _ _ _ _ _ _ _ _ _ _ => n - (intOf v).toNat)
  case atStart => exact ⟨0, Nat.zero_le _, rfl, ⟨fun j hj => absurd hj (Nat.not_lt_zero _)⟩, HG0⟩
  case round =>
    clear HG0
    obtain ⟨k, hk, rfl, HALL, HG⟩ := hrel
    by_cases hlt : k < n
    · have d1 : decide ((k : Int) < (n : Int)) = true := decide_eq_true (by omega)
      have d2 : decide (k < n) = true := decide_eq_true hlt
      have K0 : (0 : Int) ≤ (k : Int) := by omega
      have K1 : (k : Int) < (n : Int) := by omega
      have hmx := HMX.out
      have HK := Aside0.mk (show k < l.length from by rw [HN.out]; exact hlt)
      obtain ⟨ad, e, x0, x1, x2, x3, x4, x5, x6⟩ := at_T34 (Kd.C_below HC.out HG.out.below) (k : Int) K0 K1
      rw [Int.toNat_natCast] at x0 x1 x2 x3 x4 x5 x6
      obtain ⟨x, hx⟩ : ∃ x, rd_T34 l (k : Int) = x := ⟨_, rfl⟩
      rw [hx] at x0 x1 x2 x3 x4 x5 x6
      subst e
      go_upto_region 4 with (fail)
      have HG2 := HG
      clear HG
      rename World => w2
      have HC2 := Aside0.mk (Kd.C_below HC.out HG2.out.below)
      by_cases hA : x.f1 = 0
      · have eA : (x.f1 == (0 : Int)) = true := by rw [hA]; rfl
        by_cases hB : x.f2 = 0
        · have eB : (x.f2 == (0 : Int)) = true := by rw [hB]; rfl
          have HBAD := Aside0.mk (show badAt l k = true from by
            unfold badAt badC
            rw [hx]
            simp [hA, hB])
          clear hA hB
          go_region
          all_goals
            have HG5 := Aside0.mk (show Grw w w2.drew from HG2.out.drew)
            go_wp2
            go_ret
            exact ⟨by rw [right_bad HK.out HBAD.out]; rfl, HG5.out⟩
        · have eB : (x.f2 == (0 : Int)) = false := beq_false_of_ne hB
          have HNZ := Aside0.mk (show ¬ (x.f1 = 0 ∧ x.f2 = 0) from fun h => hB h.2)
          clear hA hB
          have mixed : Try.prog.follows .mixedOrders = true := by kernel_rfl
          cases hf1 : fitB x.f1 with
          | false =>
            have HBAD := Aside0.mk (show badAt l k = true from by
              unfold badAt badC
              rw [hx]
              simp [hf1])
            have F1 : ∀ W, Calls Try.prog 59 #[.int .i64 x.f1] W fun e w' => e = .returned (.bool false) ∧ w' = W := fun W => fits_grw x.f1 hf1 W
            clear hf1
            go_wp2
            go_quiet (first | (go_at_call 59; (with_reducible refine (F1 _).mono ?_); rintro e_ w_ ⟨rfl, rfl⟩; exact ⟨rfl, _, rfl⟩))
            have HG5 := Aside0.mk (show Grw w _ from HG2.out.drewN nq)
            all_goals
              go_wp2
              go_ret
              exact ⟨by rw [right_bad HK.out HBAD.out]; rfl, HG5.out⟩
          | true =>
            have F1 : ∀ W, Calls Try.prog 59 #[.int .i64 x.f1] W fun e w' => e = .returned (.bool true) ∧ w' = W := fun W => fits_grw x.f1 hf1 W
            cases hf2 : fitB x.f2 with
            | false =>
              have HBAD := Aside0.mk (show badAt l k = true from by
                unfold badAt badC
                rw [hx]
                simp [hf2])
              have F2 : ∀ W, Calls Try.prog 59 #[.int .i64 x.f2] W fun e w' => e = .returned (.bool false) ∧ w' = W := fun W => fits_grw x.f2 hf2 W
              clear hf1 hf2
              go_wp2
              go_quiet (first | (go_at_call 59; (with_reducible refine (F1 _).mono ?_); rintro e_ w_ ⟨rfl, rfl⟩; exact ⟨rfl, _, rfl⟩) | (go_at_call 59; (with_reducible refine (F2 _).mono ?_); rintro e_ w_ ⟨rfl, rfl⟩; exact ⟨rfl, _, rfl⟩))
              have HG5 := Aside0.mk (show Grw w _ from HG2.out.drewN nq)
              all_goals
                go_wp2
                go_ret
                exact ⟨by rw [right_bad HK.out HBAD.out]; rfl, HG5.out⟩
            | true =>
              have F2 : ∀ W, Calls Try.prog 59 #[.int .i64 x.f2] W fun e w' => e = .returned (.bool true) ∧ w' = W := fun W => fits_grw x.f2 hf2 W
              by_cases h0 : k = 0
              · have HBAD := Aside0.mk (show badAt l k = false from by
                  unfold badAt badC
                  rw [hx]
                  have hnz := HNZ.out
                  simp [hf1, hf2, h0]
                  intro h1 h2
                  exact hnz ⟨h1, h2⟩)
                have g0 : decide ((0 : Int) < (k : Int)) = false := decide_eq_false (by omega)
                have g0' : decide (0 < k) = false := decide_eq_false (by omega)
                clear hf1 hf2 h0
                go_wp2
                go_quiet (first | (go_at_call 59; (with_reducible refine (F1 _).mono ?_); rintro e_ w_ ⟨rfl, rfl⟩; exact ⟨rfl, _, rfl⟩) | (go_at_call 59; (with_reducible refine (F2 _).mono ?_); rintro e_ w_ ⟨rfl, rfl⟩; exact ⟨rfl, _, rfl⟩))
                have HG5 := Aside0.mk (show Grw w _ from HG2.out.drewN nq)
                all_goals
                  go_wp2
                  go_roundw
                  case rel =>
                    refine ⟨k + 1, by omega, by go_num, ⟨fun j hj => ?_⟩, HG5⟩
                    rcases Nat.lt_or_ge j k with h3 | h3
                    · exact HALL.out j h3
                    · obtain rfl : j = k := by omega
                      exact HBAD.out
                  case measure => simp [intOf]; omega
              · obtain ⟨p, hp⟩ : ∃ p, k - 1 = p := ⟨_, rfl⟩
                have g0 : decide ((0 : Int) < (k : Int)) = true := decide_eq_true (by omega)
                have g0' : decide (0 < k) = true := decide_eq_true (by omega)
                have s1 : (k : Int) - 1 = (p : Int) := by omega
                have s2 : IntKind.i64.wrap ((k : Int) - 1) = (p : Int) := by rw [s1, IntKind.wrap_i64]; omega
                have s3 : IntKind.i64.wrap (p : Int) = (p : Int) := by rw [IntKind.wrap_i64]; omega
                have P0 : (0 : Int) ≤ (p : Int) := by omega
                have P1 : (p : Int) < (n : Int) := by omega
                obtain ⟨ad2, e2, y0, y1, y2, y3, y4, y5, y6⟩ := at_T34 HC2.out (p : Int) P0 P1
                cases e2
                rw [Int.toNat_natCast] at y0 y1 y2 y3 y4 y5 y6
                obtain ⟨y, hy⟩ : ∃ y, rd_T34 l (p : Int) = y := ⟨_, rfl⟩
                rw [hy] at y0 y1 y2 y3 y4
                clear y5 y6
                obtain ⟨z, hz⟩ : ∃ z, cmpK y.f0 x.f0 = z := ⟨_, rfl⟩
                have hcmp := refcmp_calls y.f0 x.f0
                rw [hz] at hcmp
                by_cases hz0 : 0 ≤ z
                · have HBAD := Aside0.mk (show badAt l k = true from by
                    unfold badAt
                    rw [hp, hx, hy, hz, decide_eq_true hz0, decide_eq_true (show 0 < k by omega)]
                    simp)
                  have dz : decide (0 ≤ z) = true := decide_eq_true hz0
                  clear hf1 hf2 hz hy hp hz0
                  have x0 := cell_all x0
                  have x1 := cell_all x1
                  have x2 := cell_all x2
                  have x3 := cell_all x3
                  have x4 := cell_all x4
                  have x5 := cell_all x5
                  have x6 := cell_all x6
                  have y0 := cell_all y0
                  have y1 := cell_all y1
                  have y2 := cell_all y2
                  have y3 := cell_all y3
                  have y4 := cell_all y4
                  have G1 : ∀ W, Calls Try.prog 59 #[.int .i64 x.f1] W fun e w' => e = .returned (.bool true) ∧ Grw W w' := fun W => (F1 W).mono (by rintro e w' ⟨rfl, rfl⟩; exact ⟨rfl, Grw.refl _⟩)
                  have G2 : ∀ W, Calls Try.prog 59 #[.int .i64 x.f2] W fun e w' => e = .returned (.bool true) ∧ Grw W w' := fun W => (F2 W).mono (by rintro e w' ⟨rfl, rfl⟩; exact ⟨rfl, Grw.refl _⟩)
                  go_wp2_with fail
                  refine wp_region_quiet_grown (by assumption) (by kernel_rfl) ?_
                  repeat (first | go_big_quiet_skip | quiet_step (first | (go_at_call 59; (with_reducible refine Calls.grown_of (G1 _))) | (go_at_call 59; (with_reducible refine Calls.grown_of (G2 _))) | (go_at_call 30; (with_reducible refine Calls.grown_of (hcmp _)))))
                  refine wpQuiet_nil ?_
                  intro _ hw'
                  obtain ⟨⟨nq, osq⟩, hw''⟩ := hw'
                  subst hw''
                  have HG5 := Aside0.mk (show Grw w _ from HG2.out.trans ⟨nq, osq, rfl⟩)
                  all_goals
                    go_wp2
                    go_ret
                    exact ⟨by rw [right_bad HK.out HBAD.out]; rfl, HG5.out⟩
                · have HBAD := Aside0.mk (show badAt l k = false from by
                    unfold badAt badC
                    rw [hp, hx, hy, hz, decide_eq_false hz0]
                    have hnz := HNZ.out
                    simp [hf1, hf2]
                    intro h1 h2
                    exact hnz ⟨h1, h2⟩)
                  have dz : decide (0 ≤ z) = false := decide_eq_false hz0
                  clear hf1 hf2 hz hy hp hz0
                  have x0 := cell_all x0
                  have x1 := cell_all x1
                  have x2 := cell_all x2
                  have x3 := cell_all x3
                  have x4 := cell_all x4
                  have x5 := cell_all x5
                  have x6 := cell_all x6
                  have y0 := cell_all y0
                  have y1 := cell_all y1
                  have y2 := cell_all y2
                  have y3 := cell_all y3
                  have y4 := cell_all y4
                  have G1 : ∀ W, Calls Try.prog 59 #[.int .i64 x.f1] W fun e w' => e = .returned (.bool true) ∧ Grw W w' := fun W => (F1 W).mono (by rintro e w' ⟨rfl, rfl⟩; exact ⟨rfl, Grw.refl _⟩)
                  have G2 : ∀ W, Calls Try.prog 59 #[.int .i64 x.f2] W fun e w' => e = .returned (.bool true) ∧ Grw W w' := fun W => (F2 W).mono (by rintro e w' ⟨rfl, rfl⟩; exact ⟨rfl, Grw.refl _⟩)
                  go_wp2_with fail
                  refine wp_region_quiet_grown (by assumption) (by kernel_rfl) ?_
                  repeat (first | go_big_quiet_skip | quiet_step (first | (go_at_call 59; (with_reducible refine Calls.grown_of (G1 _))) | (go_at_call 59; (with_reducible refine Calls.grown_of (G2 _))) | (go_at_call 30; (with_reducible refine Calls.grown_of (hcmp _)))))
                  refine wpQuiet_nil ?_
                  intro _ hw'
                  obtain ⟨⟨nq, osq⟩, hw''⟩ := hw'
                  subst hw''
                  have HG5 := Aside0.mk (show Grw w _ from HG2.out.trans ⟨nq, osq, rfl⟩)
                  all_goals
                    go_wp2
                    go_roundw
                    case rel =>
                      refine ⟨k + 1, by omega, by go_num, ⟨fun j hj => ?_⟩, HG5⟩
                      rcases Nat.lt_or_ge j k with h3 | h3
                      · exact HALL.out j h3
                      · obtain rfl : j = k := by omega
                        exact HBAD.out
                    case measure => simp [intOf]; omega
      · have eA : (x.f1 == (0 : Int)) = false := beq_false_of_ne hA
        have HNZ := Aside0.mk (show ¬ (x.f1 = 0 ∧ x.f2 = 0) from fun h => hA h.1)
        clear hA
        have mixed : Try.prog.follows .mixedOrders = true := by kernel_rfl
        cases hf1 : fitB x.f1 with
        | false =>
          have HBAD := Aside0.mk (show badAt l k = true from by
            unfold badAt badC
            rw [hx]
            simp [hf1])
          have F1 : ∀ W, Calls Try.prog 59 #[.int .i64 x.f1] W fun e w' => e = .returned (.bool false) ∧ w' = W := fun W => fits_grw x.f1 hf1 W
          clear hf1
          go_wp2
          go_quiet (first | (go_at_call 59; (with_reducible refine (F1 _).mono ?_); rintro e_ w_ ⟨rfl, rfl⟩; exact ⟨rfl, _, rfl⟩))
          have HG5 := Aside0.mk (show Grw w _ from HG2.out.drewN nq)
          all_goals
            go_wp2
            go_ret
            exact ⟨by rw [right_bad HK.out HBAD.out]; rfl, HG5.out⟩
        | true =>
          have F1 : ∀ W, Calls Try.prog 59 #[.int .i64 x.f1] W fun e w' => e = .returned (.bool true) ∧ w' = W := fun W => fits_grw x.f1 hf1 W
          cases hf2 : fitB x.f2 with
          | false =>
            have HBAD := Aside0.mk (show badAt l k = true from by
              unfold badAt badC
              rw [hx]
              simp [hf2])
            have F2 : ∀ W, Calls Try.prog 59 #[.int .i64 x.f2] W fun e w' => e = .returned (.bool false) ∧ w' = W := fun W => fits_grw x.f2 hf2 W
            clear hf1 hf2
            go_wp2
            go_quiet (first | (go_at_call 59; (with_reducible refine (F1 _).mono ?_); rintro e_ w_ ⟨rfl, rfl⟩; exact ⟨rfl, _, rfl⟩) | (go_at_call 59; (with_reducible refine (F2 _).mono ?_); rintro e_ w_ ⟨rfl, rfl⟩; exact ⟨rfl, _, rfl⟩))
            have HG5 := Aside0.mk (show Grw w _ from HG2.out.drewN nq)
            all_goals
              go_wp2
              go_ret
              exact ⟨by rw [right_bad HK.out HBAD.out]; rfl, HG5.out⟩
          | true =>
            have F2 : ∀ W, Calls Try.prog 59 #[.int .i64 x.f2] W fun e w' => e = .returned (.bool true) ∧ w' = W := fun W => fits_grw x.f2 hf2 W
            by_cases h0 : k = 0
            · have HBAD := Aside0.mk (show badAt l k = false from by
                unfold badAt badC
                rw [hx]
                have hnz := HNZ.out
                simp [hf1, hf2, h0]
                intro h1 h2
                exact hnz ⟨h1, h2⟩)
              have g0 : decide ((0 : Int) < (k : Int)) = false := decide_eq_false (by omega)
              have g0' : decide (0 < k) = false := decide_eq_false (by omega)
              clear hf1 hf2 h0
              go_wp2
              go_quiet (first | (go_at_call 59; (with_reducible refine (F1 _).mono ?_); rintro e_ w_ ⟨rfl, rfl⟩; exact ⟨rfl, _, rfl⟩) | (go_at_call 59; (with_reducible refine (F2 _).mono ?_); rintro e_ w_ ⟨rfl, rfl⟩; exact ⟨rfl, _, rfl⟩))
              have HG5 := Aside0.mk (show Grw w _ from HG2.out.drewN nq)
              all_goals
                go_wp2
                go_roundw
                case rel =>
                  refine ⟨k + 1, by omega, by go_num, ⟨fun j hj => ?_⟩, HG5⟩
                  rcases Nat.lt_or_ge j k with h3 | h3
                  · exact HALL.out j h3
                  · obtain rfl : j = k := by omega
                    exact HBAD.out
                case measure => simp [intOf]; omega
            · obtain ⟨p, hp⟩ : ∃ p, k - 1 = p := ⟨_, rfl⟩
              have g0 : decide ((0 : Int) < (k : Int)) = true := decide_eq_true (by omega)
              have g0' : decide (0 < k) = true := decide_eq_true (by omega)
              have s1 : (k : Int) - 1 = (p : Int) := by omega
              have s2 : IntKind.i64.wrap ((k : Int) - 1) = (p : Int) := by rw [s1, IntKind.wrap_i64]; omega
              have s3 : IntKind.i64.wrap (p : Int) = (p : Int) := by rw [IntKind.wrap_i64]; omega
              have P0 : (0 : Int) ≤ (p : Int) := by omega
              have P1 : (p : Int) < (n : Int) := by omega
              obtain ⟨ad2, e2, y0, y1, y2, y3, y4, y5, y6⟩ := at_T34 HC2.out (p : Int) P0 P1
              cases e2
              rw [Int.toNat_natCast] at y0 y1 y2 y3 y4 y5 y6
              obtain ⟨y, hy⟩ : ∃ y, rd_T34 l (p : Int) = y := ⟨_, rfl⟩
              rw [hy] at y0 y1 y2 y3 y4
              clear y5 y6
              obtain ⟨z, hz⟩ : ∃ z, cmpK y.f0 x.f0 = z := ⟨_, rfl⟩
              have hcmp := refcmp_calls y.f0 x.f0
              rw [hz] at hcmp
              by_cases hz0 : 0 ≤ z
              · have HBAD := Aside0.mk (show badAt l k = true from by
                  unfold badAt
                  rw [hp, hx, hy, hz, decide_eq_true hz0, decide_eq_true (show 0 < k by omega)]
                  simp)
                have dz : decide (0 ≤ z) = true := decide_eq_true hz0
                clear hf1 hf2 hz hy hp hz0
                have x0 := cell_all x0
                have x1 := cell_all x1
                have x2 := cell_all x2
                have x3 := cell_all x3
                have x4 := cell_all x4
                have x5 := cell_all x5
                have x6 := cell_all x6
                have y0 := cell_all y0
                have y1 := cell_all y1
                have y2 := cell_all y2
                have y3 := cell_all y3
                have y4 := cell_all y4
                have G1 : ∀ W, Calls Try.prog 59 #[.int .i64 x.f1] W fun e w' => e = .returned (.bool true) ∧ Grw W w' := fun W => (F1 W).mono (by rintro e w' ⟨rfl, rfl⟩; exact ⟨rfl, Grw.refl _⟩)
                have G2 : ∀ W, Calls Try.prog 59 #[.int .i64 x.f2] W fun e w' => e = .returned (.bool true) ∧ Grw W w' := fun W => (F2 W).mono (by rintro e w' ⟨rfl, rfl⟩; exact ⟨rfl, Grw.refl _⟩)
                go_wp2_with fail
                refine wp_region_quiet_grown (by assumption) (by kernel_rfl) ?_
                repeat (first | go_big_quiet_skip | quiet_step (first | (go_at_call 59; (with_reducible refine Calls.grown_of (G1 _))) | (go_at_call 59; (with_reducible refine Calls.grown_of (G2 _))) | (go_at_call 30; (with_reducible refine Calls.grown_of (hcmp _)))))
                refine wpQuiet_nil ?_
                intro _ hw'
                obtain ⟨⟨nq, osq⟩, hw''⟩ := hw'
                subst hw''
                have HG5 := Aside0.mk (show Grw w _ from HG2.out.trans ⟨nq, osq, rfl⟩)
                all_goals
                  go_wp2
                  go_ret
                  exact ⟨by rw [right_bad HK.out HBAD.out]; rfl, HG5.out⟩
              · have HBAD := Aside0.mk (show badAt l k = false from by
                  unfold badAt badC
                  rw [hp, hx, hy, hz, decide_eq_false hz0]
                  have hnz := HNZ.out
                  simp [hf1, hf2]
                  intro h1 h2
                  exact hnz ⟨h1, h2⟩)
                have dz : decide (0 ≤ z) = false := decide_eq_false hz0
                clear hf1 hf2 hz hy hp hz0
                have x0 := cell_all x0
                have x1 := cell_all x1
                have x2 := cell_all x2
                have x3 := cell_all x3
                have x4 := cell_all x4
                have x5 := cell_all x5
                have x6 := cell_all x6
                have y0 := cell_all y0
                have y1 := cell_all y1
                have y2 := cell_all y2
                have y3 := cell_all y3
                have y4 := cell_all y4
                have G1 : ∀ W, Calls Try.prog 59 #[.int .i64 x.f1] W fun e w' => e = .returned (.bool true) ∧ Grw W w' := fun W => (F1 W).mono (by rintro e w' ⟨rfl, rfl⟩; exact ⟨rfl, Grw.refl _⟩)
                have G2 : ∀ W, Calls Try.prog 59 #[.int .i64 x.f2] W fun e w' => e = .returned (.bool true) ∧ Grw W w' := fun W => (F2 W).mono (by rintro e w' ⟨rfl, rfl⟩; exact ⟨rfl, Grw.refl _⟩)
                go_wp2_with fail
                refine wp_region_quiet_grown (by assumption) (by kernel_rfl) ?_
                repeat (first | go_big_quiet_skip | quiet_step (first | (go_at_call 59; (with_reducible refine Calls.grown_of (G1 _))) | (go_at_call 59; (with_reducible refine Calls.grown_of (G2 _))) | (go_at_call 30; (with_reducible refine Calls.grown_of (hcmp _)))))
                refine wpQuiet_nil ?_
                intro _ hw'
                obtain ⟨⟨nq, osq⟩, hw''⟩ := hw'
                subst hw''
                have HG5 := Aside0.mk (show Grw w _ from HG2.out.trans ⟨nq, osq, rfl⟩)
                all_goals
                  go_wp2
                  go_roundw
                  case rel =>
                    refine ⟨k + 1, by omega, by go_num, ⟨fun j hj => ?_⟩, HG5⟩
                    rcases Nat.lt_or_ge j k with h3 | h3
                    · exact HALL.out j h3
                    · obtain rfl : j = k := by omega
                      exact HBAD.out
                  case measure => simp [intOf]; omega
    · obtain rfl : k = n := by omega
      have d1 : decide ((k : Int) < (k : Int)) = false := decide_eq_false (by omega)
      have d2 : decide (k < k) = false := decide_eq_false (by omega)
      have HR := Aside0.mk (right_good (l := l) (fun j hj => HALL.out j (by rw [HN.out] at hj; exact hj)))
      go_wp2
      go_ret
      exact ⟨by rw [HR.out]; rfl, HG.out⟩
end Go.Proofs.Ytmflggbpiadkjaa.P

/- The two Right, as the print asks for them. -/
namespace Go.Proofs.Ytmflggbpiadkjaa.P
open Go.RowKit Go.Sort Go.Proofs.YtmflggbpiadkjaaW.PrintWords Go.Proofs.YtmflggbpiadkjaaW.PrintLast Go.Proofs.YtmflggbpiadkjaaW.PrintMore
set_option linter.unusedVariables false
def sheet_Right.f (l0 : List S34) : Option Bool := some (rightB l0)
theorem sheet_Right.calls (A0 : Option Addr) (c0 : Nat) (l0 : List (S34)) (r : Bool) (w : World) (hr0 : Kd.C k34 w A0 l0.length l0) (hc0 : l0.length ≤ c0) (h : sheet_Right.f l0 = some r) :
    Calls Try.prog 22 #[.slice A0 l0.length c0] w fun e w' => e = .returned (.bool r) ∧ Below w.heap.size w w' := by
  cases h
  refine (right_calls A0 c0 l0 w hr0 hc0).mono ?_
  rintro e w' ⟨rfl, hg⟩
  exact ⟨rfl, hg.below⟩
def accountingref19_Right.f (l0 : List S34) : Option Bool := some (rightB l0)
theorem accountingref19_Right.calls (A0 : Option Addr) (c0 : Nat) (l0 : List (S34)) (r : Bool) (w : World) (hr0 : Kd.C k34 w A0 l0.length l0) (hc0 : l0.length ≤ c0) (h : accountingref19_Right.f l0 = some r) :
    Calls Try.prog 23 #[.slice A0 l0.length c0] w fun e w' => e = .returned (.bool r) ∧ Below w.heap.size w w' := by
  cases h
  refine (refright_calls A0 c0 l0 w hr0 hc0).mono ?_
  rintro e w' ⟨rfl, hg⟩
  exact ⟨rfl, hg.below⟩
end Go.Proofs.Ytmflggbpiadkjaa.P
