/- Texts of mine, joined: HandSum, HandTot, HandClone, HandOne, HandBrd, HandNil, HandGrp0, HandGrp, SpecG, HandOf, HandCat, HandKept, HandMatch, HandInj. -/
import Derived.Test.YtmflggbpiadkjaaPx0
import Derived.Laws.Externs
import Derived.Test.YtmflggbpiadkjaaSrtJ
import Derived.Deep.RegionLaw
import Derived.Lib.SliceRun
import Derived.Deep.AppendLies
import Derived.Deep.RegionHeld3
import Derived.Lib.AppendZerosOnto
import Derived.Laws.BitsLemmas
/- The contract of num.Sum: the exact sum of numbers, if it fits. -/
namespace Go.Proofs.Ytmflggbpiadkjaa.P
open Go.RowKit Go.Proofs.YtmflggbpiadkjaaW.PrintWords Go.Proofs.YtmflggbpiadkjaaW.PrintLast Go.Proofs.YtmflggbpiadkjaaW.PrintMore
set_option linter.unusedVariables false
set_option linter.unusedSimpArgs false
def i64ok (x : Int) : Prop := -9223372036854775808 ≤ x ∧ x ≤ 9223372036854775807
instance (x : Int) : Decidable (i64ok x) := by unfold i64ok; exact inferInstance
def num_Sum.f (l : List Int) : Option (Int × Bool) := if l.length ≤ 1000000 then (if (∀ x ∈ l, i64ok x) then (if i64ok l.sum then some (l.sum, true) else some (0, false)) else none) else none
theorem add64 (x y c : Int) (hx : 0 ≤ x ∧ x < 18446744073709551616) (hy : 0 ≤ y ∧ y < 18446744073709551616) (hc : 0 ≤ c ∧ c ≤ 1) (w : World) :
    (callFunc 96 #[.int .u64 x, .int .u64 y, .int .u64 c]).run Try.prog w =
      .ok (.value (.tuple #[.int .u64 ((x + y + c) % 18446744073709551616), .int .u64 ((x + y + c) / 18446744073709551616)])) w := by
  obtain ⟨x, rfl⟩ := Int.eq_ofNat_of_zero_le hx.1
  obtain ⟨y, rfl⟩ := Int.eq_ofNat_of_zero_le hy.1
  obtain ⟨c, rfl⟩ := Int.eq_ofNat_of_zero_le hc.1
  rw [run_callFunc_extern Try.func96 (by kernel_rfl) (by kernel_rfl) (by kernel_rfl) (e := add64Entry) (by kernel_rfl), run_add64 x y c (by omega) (by omega) (by omega) (by omega)]
  simp only [Result.andThen]
def SumAt (S hi lo : Int) : Prop := 0 ≤ hi ∧ hi < 18446744073709551616 ∧ 0 ≤ lo ∧ lo < 18446744073709551616 ∧ (S - (hi * 18446744073709551616 + lo)) % 340282366920938463463374607431768211456 = 0
theorem wrap_u64 (x : Int) : 0 ≤ IntKind.u64.wrap x ∧ IntKind.u64.wrap x < 18446744073709551616 := by
  have : IntKind.u64.wrap x = x % 18446744073709551616 := rfl
  omega
theorem sumAt_step {S hi lo x : Int} (hx : i64ok x) (h : SumAt S hi lo) : SumAt (S + [x].sum) ((hi + IntKind.u64.wrap (x / 9223372036854775808) + (lo + IntKind.u64.wrap x) / 18446744073709551616) % 18446744073709551616) ((lo + IntKind.u64.wrap x) % 18446744073709551616) := by
  obtain ⟨h1, h2, h3, h4, h5⟩ := h
  obtain ⟨x1, x2⟩ := hx
  have e1 : IntKind.u64.wrap x = x % 18446744073709551616 := rfl
  have e2 : IntKind.u64.wrap (x / 9223372036854775808) = (x / 9223372036854775808) % 18446744073709551616 := rfl
  rw [e1, e2, show [x].sum = x by simp]
  unfold SumAt
  rcases Int.lt_or_le x 0 with hn | hp
  · have : x / 9223372036854775808 = -1 := by omega
    rw [this]
    refine ⟨by omega, by omega, by omega, by omega, by omega⟩
  · have : x / 9223372036854775808 = 0 := by omega
    rw [this]
    refine ⟨by omega, by omega, by omega, by omega, by omega⟩
theorem sum_bound : ∀ (l : List Int), (∀ x ∈ l, i64ok x) → -9223372036854775808 * (l.length : Int) ≤ l.sum ∧ l.sum ≤ 9223372036854775808 * (l.length : Int)
  | [], _ => by simp
  | x :: r, h => by
    have h1 := sum_bound r (fun y hy => h y (by simp [hy]))
    have h2 := h x (by simp)
    unfold i64ok at h2
    simp only [List.sum_cons, List.length_cons]
    omega
theorem sumAt_end {S hi lo : Int} (h : SumAt S hi lo) (b1 : -170141183460469231731687303715884105728 ≤ S) (b2 : S < 170141183460469231731687303715884105728) :
    (i64ok S → wrap64 lo = S) ∧ (i64ok S → (IntKind.u64.wrap (wrap64 lo / 9223372036854775808) != hi) = false) ∧ (¬ i64ok S → (IntKind.u64.wrap (wrap64 lo / 9223372036854775808) != hi) = true) := by
  obtain ⟨h1, h2, h3, h4, h5⟩ := h
  have e1 : IntKind.u64.wrap (wrap64 lo / 9223372036854775808) = (wrap64 lo / 9223372036854775808) % 18446744073709551616 := rfl
  have w1 : wrap64 lo = (if lo < 9223372036854775808 then lo else lo - 18446744073709551616) := by
    unfold wrap64; split <;> omega
  have w2 : (wrap64 lo / 9223372036854775808) % 18446744073709551616 = (if lo < 9223372036854775808 then 0 else 18446744073709551615) := by
    rw [w1]; split <;> omega
  rw [e1, w2, w1]
  unfold i64ok
  refine ⟨fun hS => ?_, fun hS => ?_, fun hS => ?_⟩
  · split <;> omega
  · rw [bne_eq_false_iff_eq]; split <;> omega
  · rw [bne_iff_ne]; split <;> omega
set_option maxHeartbeats 8000000 in
set_option maxRecDepth 100000 in
theorem num_Sum.calls (A0 : Option Addr) (c0 : Nat) (l0 : List Int) (r1 : Int) (r2 : Bool) (w : World) (hr0 : Kd.C (Kd.int .i64) w A0 l0.length l0) (hc0 : l0.length ≤ c0) (h : num_Sum.f l0 = some (r1, r2)) :
    Calls Try.prog 81 #[.slice A0 l0.length c0] w fun e w' => e = .returned (.tuple #[.int .i64 r1, .bool r2]) ∧ Drawn0 w w' := by
  have HR0 := Aside0.mk hr0
  unfold num_Sum.f at h
  by_cases hl : l0.length ≤ 1000000
  case neg => rw [if_neg hl] at h; simp at h
  rw [if_pos hl] at h
  by_cases hw : ∀ x ∈ l0, i64ok x
  case neg => rw [if_neg hw] at h; simp at h
  rw [if_pos hw] at h
  have H := Aside0.mk h
  have HW := Aside0.mk hw
  clear h hr0 hw
  go_enter Try.func81, Try.ntmps81
  go_wp2
  go_loopw [4, 5, 7, 8, 11, 12, 13, 14, 15, 16, 17, 18, 19, 20, 21, 22, 23, 24, 25, 26, 27, 28, 29, 30, 31] (fun v4 v5 v7 v8 v11 _ _ _ _ _ _ _ _ _ _ _ _ _ _ _ _ _ _ _ _ w' => ∃ (k : Nat) (hi lo : Int), k ≤ l0.length ∧ v11 = .int .i64 k ∧ v4 = .int .u64 hi ∧ v5 = .int .u64 lo ∧ Aside0 (SumAt (l0.take k).sum hi lo) ∧ Drawn0 w w') (fun v4 v5 v7 v8 v11 _ _ _ _ _ _ _ _ _ _ _ _ _ _ _ _ _ _ _ _ _ => l0.length - (intOf v11).toNat)
  case atStart => exact ⟨0, 0, 0, Nat.zero_le _, rfl, rfl, rfl, ⟨by simp [SumAt]⟩, Drawn0.refl _⟩
  case round =>
    obtain ⟨k, hi, lo, hk, rfl, rfl, rfl, HS, ⟨n, rfl⟩⟩ := hrel
    by_cases hlt : k < l0.length
    · obtain ⟨ad, e, c1⟩ := Kd.at_int HR0.out (k : Int) (by omega) (by omega)
      rw [Int.toNat_natCast] at c1
      subst e
      have d1 : decide ((k : Int) < (l0.length : Int)) = true := decide_eq_true (by omega)
      have d2 : decide (k < l0.length) = true := decide_eq_true hlt
      obtain ⟨x, hx⟩ : ∃ x, rd l0 (k : Int) = x := ⟨_, rfl⟩
      rw [hx] at c1
      have p0 : (0 : Int) ≤ (k : Int) := by omega
      have p1 : (k : Int) < (l0.length : Int) := by omega
      obtain ⟨h1, h2, h3, h4, h5⟩ := HS.out
      have a1 := add64 lo (IntKind.u64.wrap x) 0 ⟨h3, h4⟩ (wrap_u64 x) ⟨by omega, by omega⟩ (w.drewN n)
      have u1 := wrap_u64 x
      have a2 := add64 hi (IntKind.u64.wrap (x / 9223372036854775808)) ((lo + IntKind.u64.wrap x) / 18446744073709551616) ⟨h1, h2⟩ (wrap_u64 _) ⟨by omega, by omega⟩ (w.drewN n)
      rw [Int.add_zero] at a1
      go_wp2
      refine ⟨⟨k + 1, _, _, by omega, by go_num, rfl, rfl, ⟨?_⟩, by repeat (first | exact Drawn0.refl _ | apply Drawn0.step)⟩, by simp [intOf]; omega⟩
      have hxk : l0[k]? = some x := by
        have := List.getElem?_eq_getElem hlt
        rw [this, ← hx]; simp [rd, hlt]
      have ex := HW.out x (List.mem_of_getElem? hxk)
      rw [List.take_add_one, hxk, List.sum_append]
      exact sumAt_step ex ⟨h1, h2, h3, h4, h5⟩
    · obtain rfl : k = l0.length := by omega
      have d1 : decide ((l0.length : Int) < (l0.length : Int)) = false := decide_eq_false (by omega)
      have hb := sum_bound l0 HW.out
      have HS' := HS.out
      rw [List.take_length] at HS'
      obtain ⟨e1, e2, e3⟩ := sumAt_end HS' (by omega) (by omega)
      have H := H.out
      by_cases hok : i64ok l0.sum
      · rw [if_pos hok] at H
        obtain ⟨rfl, rfl⟩ := Prod.mk.inj (Option.some.inj H)
        have f1 := e1 hok
        have f2 := e2 hok
        rw [f1] at f2
        clear e1 e2 e3
        go_wp2
        go_ret2
        exact ⟨rfl, by repeat (first | exact Drawn0.refl _ | apply Drawn0.step)⟩
      · rw [if_neg hok] at H
        obtain ⟨rfl, rfl⟩ := Prod.mk.inj (Option.some.inj H)
        have f2 := e3 hok
        clear e1 e2 e3
        go_wp2
        go_ret2
        exact ⟨rfl, by repeat (first | exact Drawn0.refl _ | apply Drawn0.step)⟩
end Go.Proofs.Ytmflggbpiadkjaa.P

/- The contracts of sheet.far and sheet.total. -/
namespace Go.Proofs.Ytmflggbpiadkjaa.P
open Go.RowKit Go.Proofs.YtmflggbpiadkjaaW.PrintWords Go.Proofs.YtmflggbpiadkjaaW.PrintLast Go.Proofs.YtmflggbpiadkjaaW.PrintMore
set_option linter.unusedVariables false
set_option linter.unusedSimpArgs false
/-- Within the limit of a sheet. -/
def fitB (n : Int) : Bool := decide (-1000000000000000 ≤ n) && decide (n ≤ 1000000000000000)
set_option maxHeartbeats 1000000 in
theorem far_calls (n : Int) (w : World) : Calls Try.prog 60 #[.int .i64 n] w fun e w' => e = .returned (.bool (!fitB n)) ∧ w' = w := by
  by_cases h1 : 1000000000000000 < n
  · have d1 : decide ((1000000000000000 : Int) < n) = true := decide_eq_true h1
    have hf := Aside0.mk (show fitB n = false from by unfold fitB; rw [decide_eq_false (show ¬ n ≤ 1000000000000000 by omega), Bool.and_false])
    clear h1
    go_enter Try.func60, Try.ntmps60
    go_wp2
    go_ret
    exact ⟨by rw [hf.out]; rfl, rfl⟩
  · have d1 : decide ((1000000000000000 : Int) < n) = false := decide_eq_false h1
    by_cases h2 : n < -1000000000000000
    · have d2 : decide (n < -1000000000000000) = true := decide_eq_true h2
      have hf := Aside0.mk (show fitB n = false from by unfold fitB; rw [decide_eq_false (show ¬ -1000000000000000 ≤ n by omega), Bool.false_and])
      clear h1 h2
      go_enter Try.func60, Try.ntmps60
      go_wp2
      go_ret
      exact ⟨by rw [hf.out]; rfl, rfl⟩
    · have d2 : decide (n < -1000000000000000) = false := decide_eq_false h2
      have hf := Aside0.mk (show fitB n = true from by unfold fitB; rw [decide_eq_true (show -1000000000000000 ≤ n by omega), decide_eq_true (show n ≤ 1000000000000000 by omega)]; rfl)
      clear h1 h2
      go_enter Try.func60, Try.ntmps60
      go_wp2
      go_ret
      exact ⟨by rw [hf.out]; rfl, rfl⟩
/-- The exact sum, if it is within the limit. -/
def totF (l : List Int) : Int × Bool := if i64ok l.sum then (l.sum, fitB l.sum) else (0, false)
set_option maxHeartbeats 1000000 in
theorem total_calls (A : Option Addr) (c : Nat) (l : List Int) (w : World) (h : Kd.C (Kd.int .i64) w A l.length l) (hc : l.length ≤ c) (hl : l.length ≤ 1000000) (hi : ∀ x ∈ l, i64ok x) :
    Calls Try.prog 54 #[.slice A l.length c] w fun e w' => e = .returned (.tuple #[.int .i64 (totF l).1, .bool (totF l).2]) ∧ Drawn0 w w' := by
  by_cases h1 : i64ok l.sum
  · have HT := Aside0.mk (show totF l = (l.sum, fitB l.sum) from if_pos h1)
    have HC := Aside0.mk (num_Sum.calls A c l l.sum true w h hc (by unfold num_Sum.f; rw [if_pos hl, if_pos hi, if_pos h1]))
    clear h hc hl hi h1
    rw [HT.out]
    obtain ⟨n, hn⟩ : ∃ n, l.sum = n := ⟨_, rfl⟩
    rw [hn] at HC ⊢
    clear HT hn
    go_enter Try.func54, Try.ntmps54
    go_wp2_with (first | (go_at_call 81; refine HC.out.mono ?_; rintro e_ w2 ⟨rfl, hd_⟩; have HD := Aside0.mk hd_; clear hd_) | (go_at_call 60; refine (far_calls n _).mono ?_; rintro e_ w3 ⟨rfl, he_⟩; obtain rfl := he_.symm))
    all_goals
      go_ret2
      exact ⟨by simp, HD.out⟩
  · have HT := Aside0.mk (show totF l = (0, false) from if_neg h1)
    have HC := Aside0.mk (num_Sum.calls A c l 0 false w h hc (by unfold num_Sum.f; rw [if_pos hl, if_pos hi, if_neg h1]))
    clear h hc hl hi h1
    rw [HT.out]
    clear HT
    go_enter Try.func54, Try.ntmps54
    go_wp2_with (first | (go_at_call 81; refine HC.out.mono ?_; rintro e_ w2 ⟨rfl, hd_⟩; have HD := Aside0.mk hd_; clear hd_))
    go_ret2
    exact ⟨rfl, HD.out⟩
end Go.Proofs.Ytmflggbpiadkjaa.P

/- The contracts of slices.Clone and slices.Concat at cells. -/
namespace Go.Proofs.Ytmflggbpiadkjaa.P
open Go.RowKit Go.Sort Go.Proofs.YtmflggbpiadkjaaW.PrintWords Go.Proofs.YtmflggbpiadkjaaW.PrintLast Go.Proofs.YtmflggbpiadkjaaW.PrintMore
set_option linter.unusedVariables false
set_option linter.unusedSimpArgs false
abbrev zc34 : Value := .agg #[.string ⟨#[]⟩, .string ⟨#[]⟩, .string ⟨#[]⟩, .string ⟨#[]⟩, .string ⟨#[]⟩, .int .i64 0, .int .i64 0]
/-- An empty row of the call's own. -/
theorem R_made (w : World) (base : Nat) (ok : Nat → Prop) (cur : Array Value) (cap : Nat) (hb : base ≤ w.heap.size) (hok : ok w.heap.size) (hm : cap ≤ maxLen) (hs : cur.size = cap * 7) :
    k34.R 34 (w.alloc (.cells cur 34)) base ok (.slice (some ⟨w.heap.size, 0, none⟩) 0 cap) [] :=
  ⟨fun k hk => by cases hk; exact hok, [], World.ownsRow_made w cur cap hb hm hs, Reps.none _ _⟩
set_option maxHeartbeats 4000000 in
set_option maxRecDepth 100000 in
theorem clone_calls (A : Option Addr) (c : Nat) (l : List S34) (w : World) (h : Kd.C k34 w A l.length l) (hc : l.length ≤ c) (hl : l.length ≤ 1000000) :
    Calls Try.prog 62 #[.slice A l.length c] w fun e w' => ∃ v, e = .returned v ∧ k34.R 34 w' w.heap.size (fun k => w.heap.size ≤ k) v l ∧ Below w.heap.size w w' := by
  have q22 : ∀ (w : World) (a : Option Addr) (n c n' c' : Nat), (binOp .eql 22 (.slice a n c) (.slice none n' c')).run Try.prog w = .ok (.bool a.isNone) w := fun w a n c n' c' => Lib.run_eql_slice_nil w _ _ a n c n' c' Try.underlying22
  have HC := Aside0.mk h
  cases A with
  | none =>
    have hz : l = [] := by
      cases l with
      | nil => rfl
      | cons x r => obtain ⟨ad, e, _⟩ := h.2.2 (by simp); cases e
    subst hz
    clear h
    go_enter Try.func62, Try.ntmps62
    go_wp2
    go_ret
    exact ⟨_, rfl, Kd.R_nil _ _ _ _ _, Below.refl _ _⟩
  | some ad =>
    clear h
    have HM := Aside0.mk (R_made w w.heap.size (fun k => w.heap.size ≤ k) #[] 0 (Nat.le_refl _) (Nat.le_refl _) (Nat.zero_le _) rfl)
    have HC1 := Aside0.mk (Kd.C_alloc HC.out (.cells #[] 34))
    have HB1 := Aside0.mk (below_alloc (Below.refl w.heap.size w) (.cells #[] 34))
    go_enter Try.func62, Try.ntmps62
    go_wp2_with (first | ((with_reducible refine gate_builtin (b := .append) (xs := #[.tmp 5, .tmp 6]) rfl ?_); at_builtin; refine Kd.R_append_rows k34 (w0 := w) (Rr := k34.K w) w.heap.size rfl (.tmp 5) (.tmp 6) 22 34 zc34 96 rfl Try.underlying22 info34 rfl (by decide) (by omega) (.slice (some ⟨w.heap.size, 0, none⟩) 0 0) [] l (some ad) l.length c (fun k => w.heap.size ≤ k) (fun _ => False) rfl rfl ?aO ?aR ?aK (fun _ hk => hk.elim) ?aF ?aB ?aS ?aL ?_; (case aO => exact HM.out); (case aR => exact HC1.out); (case aK => exact fun x cs hx => by obtain rfl := k34_open hx; exact k34_mkM _ _ _ _); (case aF => exact fun k hk => Nat.le_trans (by simp) hk); (case aB => exact HB1.out); (case aS => simp); (case aL => simp; omega); intro v1 w1 ho hb hg hat; have HO := Aside0.mk ho; have HB := Aside0.mk hb; clear ho hb hg hat))
    go_ret
    exact ⟨_, rfl, HO.out, HB.out⟩
end Go.Proofs.Ytmflggbpiadkjaa.P

/- The contract of the closure in sheet.Of: the sums of a group, and one cell more. -/
namespace Go.Proofs.Ytmflggbpiadkjaa.P
open Go.RowKit Go.Sort Go.Proofs.YtmflggbpiadkjaaW.PrintWords Go.Proofs.YtmflggbpiadkjaaW.PrintLast Go.Proofs.YtmflggbpiadkjaaW.PrintMore
set_option linter.unusedVariables false
set_option linter.unusedSimpArgs false
/-- Numbers that are laid one by one into zeros. -/
def zsI (xs : List Int) (i : Nat) : List Int := xs.take i ++ List.replicate (xs.length - i) 0
theorem zsI_len (xs : List Int) {i : Nat} (h : i ≤ xs.length) : (zsI xs i).length = xs.length := by unfold zsI; simp; omega
theorem zsI_set (xs : List Int) {i : Nat} (h : i < xs.length) : (zsI xs i).set i xs[i] = zsI xs (i + 1) := by
  unfold zsI
  have h1 : (xs.take i).length = i := by simp; omega
  rw [List.set_append_right _ _ (by omega), h1, Nat.sub_self, show xs.length - i = (xs.length - (i + 1)) + 1 by omega, List.replicate_succ, List.set_cons_zero, List.take_add_one, List.getElem?_eq_getElem h]
  show _ = (xs.take i ++ [xs[i]]) ++ _
  rw [List.append_assoc]
  rfl
theorem zsI_all (xs : List Int) : zsI xs xs.length = xs := by unfold zsI; simp
def amts (g : List S34) : List Int := g.map S34.f1
def bass (g : List S34) : List Int := g.map S34.f2
/-- A group: is it within the limit, and the sheet with its cell. -/
def oneOf (g : List S34) (out : List S34) : Bool × List S34 :=
  ((totF (amts g)).2 && (totF (bass g)).2, if (totF (amts g)).2 = true ∧ (totF (bass g)).2 = true ∧ ((totF (amts g)).1 ≠ 0 ∨ (totF (bass g)).1 ≠ 0) then out ++ [⟨(rd_T34 g 0).f0, (totF (amts g)).1, (totF (bass g)).1⟩] else out)
/-- The world but for the blocks in X. -/
structure But (X : Nat → Prop) (w w' : World) : Prop where
  os : w'.os = w.os
  tape : w'.tape = w.tape
  output : w'.output = w.output
  size : w.heap.size ≤ w'.heap.size
  block : ∀ k, k < w.heap.size → ¬ X k → w'.heap[k]? = w.heap[k]?
theorem But.refl (X : Nat → Prop) (w : World) : But X w w := ⟨rfl, rfl, rfl, Nat.le_refl _, fun _ _ _ => rfl⟩
theorem But.trans {X : Nat → Prop} {a b c : World} (h : But X a b) (k : But X b c) : But X a c :=
  ⟨k.os.trans h.os, k.tape.trans h.tape, k.output.trans h.output, Nat.le_trans h.size k.size, fun i hi hx => (k.block i (Nat.lt_of_lt_of_le hi h.size) hx).trans (h.block i hi hx)⟩
theorem But.mono {X Y : Nat → Prop} {w w' : World} (h : But X w w') (hx : ∀ k, k < w.heap.size → X k → Y k) : But Y w w' := ⟨h.os, h.tape, h.output, h.size, fun k hk hy => h.block k hk (fun e => hy (hx k hk e))⟩
theorem But.of_below {w w' : World} (h : Below w.heap.size w w') (X : Nat → Prop) : But X w w' := ⟨h.os, h.tape, h.output, h.size, fun k hk _ => h.block k hk⟩
theorem But.of_grown {w w' : World} {row : Option Nat} (h : w.grownBy w' row) {X : Nat → Prop} (hx : ∀ k, row = some k → X k) : But X w w' := ⟨h.os, h.tape, h.output, h.size, fun k hk hn => h.block k hk (fun e => hn (hx k e.symm))⟩
theorem But.alloc {X : Nat → Prop} {a w : World} (h : But X a w) (o : Obj) : But X a (w.alloc o) := h.trans (But.of_below ((Below.refl _ w).alloc (Nat.le_refl _) o) X)
theorem But.drewN {X : Nat → Prop} {a w : World} (h : But X a w) (n : Nat) : But X a (w.drewN n) := h.trans (But.of_below (pw_below_drewN (Below.refl _ w) n) X)
theorem But.setCell {X : Nat → Prop} {a w : World} (h : But X a w) {p : Addr} (hp : X p.block) (u : Value) : But X a (w.setCell p u) :=
  h.trans ⟨rfl, rfl, rfl, by simp [World.setCell], fun k hk hn => Below.heap_setCell _ _ _ _ (fun e => hn (by rw [e]; exact hp))⟩
theorem But.below {X : Nat → Prop} {w0 w w' : World} {n : Nat} (h0 : Below n w0 w) (h : But X w w') (hn : n ≤ w.heap.size) (hx : ∀ k, X k → n ≤ k) : Below n w0 w' :=
  h0.trans ⟨h.os, h.tape, h.output, h.size, fun k hk => h.block k (by omega) (fun e => by have := hx k e; omega)⟩
theorem But.obj {X : Nat → Prop} {w w' : World} (h : But X w w') {k : Nat} {o : Obj} (ho : w.heap[k]? = some o) (hx : ¬ X k) : w'.heap[k]? = some o := (h.block k (Array.getElem?_eq_some_iff.1 ho).1 hx).trans ho
theorem But.cell {X : Nat → Prop} {w w' : World} (h : But X w w') {a : Addr} {v : Value} (hv : w.cell? a = some v) (hx : ¬ X a.block) : w'.cell? a = some v :=
  (World.cell?_of_block (h.block a.block (World.block_lt_of_cell? w a hv) hx)).trans hv
/-- What the closure leaves: the sheet in its box. -/
def OnePost (rs base : Nat) (ok : Nat → Prop) (v : Value) (g out : List S34) (w : World) (e : Ending) (w' : World) : Prop :=
  e = .returned (.bool (oneOf g out).1) ∧ But (fun k => k = rs ∨ v.ownBlock = some k) w w' ∧ ∃ v', w'.heap[rs]? = some (.cells #[v'] 22 (0, 0)) ∧ k34.R 34 w' base ok v' (oneOf g out).2
theorem keep_set {W : World} {p a : Addr} {u v : Value} (h : W.cell? a = some v) (hne : a.block ≠ p.block) : (W.setCell p u).cell? a = some v := (World.cell?_setCell_far W p a u (fun e => hne e.symm)).trans h
theorem OnePost.same {rs base : Nat} {ok : Nat → Prop} {v : Value} {g out : List S34} {w w' : World} {r : Bool} (h : oneOf g out = (r, out)) (hb : Below w.heap.size w w') (hrs : w.heap[rs]? = some (.cells #[v] 22 (0, 0))) (hv : k34.R 34 w base ok v out) : OnePost rs base ok v g out w (.returned (.bool r)) w' := by
  unfold OnePost
  rw [h]
  exact ⟨rfl, But.of_below hb _, v, blk_below hrs hb, Kd.R_below hv hb⟩
/-- Two rows of numbers of the call's own. -/
structure Rows2 (w : World) (base ga gb n : Nat) (xs ys : List Int) : Prop where
  a : w.ownsRow base 3 1 (.slice (some ⟨ga, 0, none⟩) n n) n (nums .i64 xs)
  b : w.ownsRow base 3 1 (.slice (some ⟨gb, 0, none⟩) n n) n (nums .i64 ys)
  ne : ga ≠ gb
theorem Rows2.below {w w1 : World} {base ga gb n : Nat} {xs ys : List Int} (h : Rows2 w base ga gb n xs ys) (hb : Below w.heap.size w w1) : Rows2 w1 base ga gb n xs ys := ⟨pw_own_below h.a hb, pw_own_below h.b hb, h.ne⟩
theorem Rows2.set {w : World} {base ga gb n : Nat} {xs ys : List Int} (h : Rows2 w base ga gb n xs ys) (i : Nat) (x y : Int) :
    Rows2 ((w.setCell ⟨ga, i, none⟩ (.int .i64 x)).setCell ⟨gb, i, none⟩ (.int .i64 y)) base ga gb n (xs.set i x) (ys.set i y) := by
  have ha := own_store h.a (i : Int) x
  rw [Int.toNat_natCast] at ha
  have hb := own_other h.b ha.2 (.inr (by intro e; exact h.ne (Option.some.inj e).symm))
  have hb2 := own_store hb (i : Int) y
  rw [Int.toNat_natCast] at hb2
  exact ⟨own_other ha.1 hb2.2 (.inr (by intro e; exact h.ne (Option.some.inj e))), hb2.1, h.ne⟩
set_option maxHeartbeats 8000000 in
set_option maxRecDepth 100000 in
theorem one_calls (A : Option Addr) (c : Nat) (g : List S34) (rs base : Nat) (ok : Nat → Prop) (v : Value) (out : List S34) (w : World) (h : Kd.C k34 w A g.length g) (hc : g.length ≤ c) (hg0 : 0 < g.length) (hgl : g.length ≤ 1000000) (hi : ∀ x ∈ g, i64ok x.f1 ∧ i64ok x.f2)
    (hrs : w.heap[rs]? = some (.cells #[v] 22 (0, 0))) (hv : k34.R 34 w base ok v out) (hok : ∀ k, w.heap.size ≤ k → ok k) (hbs : base ≤ w.heap.size) (hol : out.length ≤ 1000000) (hsep : ∀ ad, A = some ad → v.ownBlock ≠ some ad.block ∧ rs ≠ ad.block) :
    Calls Try.prog 53 #[.slice A g.length c, .pointer (some ⟨rs, 0, none⟩)] w fun e w' => OnePost rs base ok v g out w e w' := by
  have HC := Aside0.mk h
  have HRS := Aside0.mk hrs
  have HV := Aside0.mk hv
  have HOK := Aside0.mk hok
  have HI := Aside0.mk hi
  have HSEP := Aside0.mk hsep
  obtain ⟨n, hn⟩ : ∃ n, g.length = n := ⟨_, rfl⟩
  have HN := Aside0.mk hn
  have hna : (amts g).length = n := by rw [← hn]; exact List.length_map ..
  have hnb : (bass g).length = n := by rw [← hn]; exact List.length_map ..
  have HNA := Aside0.mk hna
  have HNB := Aside0.mk hnb
  rw [hn] at hc hg0 hgl HC ⊢
  clear h hrs hv hok hi hn hna hnb hsep
  have hmk := print_make (P := Try.prog) 67 3 .i64 8 Try.underlying67 info3 (by decide) n (by omega)
  go_enter Try.func53, Try.ntmps53
  go_upto_region 1 with (fail)
  go_cut [4, 5, 12, 13, 14, 15, 16, 17] (fun v4 v5 _ _ _ _ _ _ wc => ∃ ga gb : Nat, v4 = .slice (some ⟨ga, 0, none⟩) n n ∧ v5 = .slice (some ⟨gb, 0, none⟩) n n ∧ Aside0 (Rows2 wc w.heap.size ga gb n (zsI (amts g) 0) (zsI (bass g) 0)) ∧ Aside0 (Below w.heap.size w wc))
  case first =>
    have hza : zsI (amts g) 0 = List.replicate n 0 := by unfold zsI; rw [HNA.out]; rfl
    have hzb : zsI (bass g) 0 = List.replicate n 0 := by unfold zsI; rw [HNB.out]; rfl
    have HZ := Aside0.mk (And.intro hza hzb)
    clear hza hzb
    have m1 := own_made w w.heap.size 3 .i64 n (Nat.le_refl _) (by omega)
    have m2 := own_made (w.alloc (.cells (madeCells #[.int .i64 0] n) 3)) w.heap.size 3 .i64 n (by simp) (by omega)
    rw [show (w.alloc (.cells (madeCells #[.int .i64 0] n) 3)).heap.size = w.heap.size + 1 by simp] at m2
    have m3 := pw_own_below m1 (below_alloc (Below.refl _ (w.alloc (.cells (madeCells #[.int .i64 0] n) 3))) (.cells (madeCells #[.int .i64 0] n) 3))
    have M2 := Aside0.mk m2
    have M3 := Aside0.mk m3
    clear m1 m2 m3
    go_region
    all_goals
      go_wp2
      go_meet
    case rel => exact ⟨_, _, rfl, rfl, ⟨⟨by rw [HZ.out.1]; exact M3.out, by rw [HZ.out.2]; exact M2.out, by omega⟩⟩, ⟨below_drew (below_alloc (below_alloc (Below.refl _ _) _) _)⟩⟩
    case rel => exact ⟨_, _, rfl, rfl, ⟨⟨by rw [HZ.out.1]; exact M2.out, by rw [HZ.out.2]; exact M3.out, by omega⟩⟩, ⟨below_drew (below_alloc (below_alloc (Below.refl _ _) _) _)⟩⟩
  case rest =>
    obtain ⟨ga, gb, rfl, rfl, HR, HB⟩ := hcut
    clear hmk
    go_wp2
    go_loopw [6, 7, 20, 21, 22, 23, 24, 25, 26, 27, 28, 29, 30, 31, 32, 33, 34, 35] (fun _ _ v20 _ _ _ _ _ _ _ _ _ _ _ _ _ _ _ wr => ∃ k : Nat, k ≤ n ∧ v20 = .int .i64 k ∧ Aside0 (Rows2 wr w.heap.size ga gb n (zsI (amts g) k) (zsI (bass g) k)) ∧ Aside0 (Below w.heap.size w wr)) (fun _ _ v20 _ _ _ _ _ _ _ _ _ _ _ _ _ _ _ _ => n - (intOf v20).toNat)
    case atStart => exact ⟨0, Nat.zero_le _, rfl, HR, HB⟩
    case round =>
      clear HR HB
      obtain ⟨k, hk, rfl, HR, HB⟩ := hrel
      by_cases hlt : k < n
      · have d1 : decide ((k : Int) < (n : Int)) = true := decide_eq_true (by omega)
        have d2 : decide (k < n) = true := decide_eq_true hlt
        have p0 : (0 : Int) ≤ (k : Int) := by omega
        have p1 : (k : Int) < (n : Int) := by omega
        have hgk : k < g.length := by rw [HN.out]; exact hlt
        obtain ⟨ad, e, q0, q1, q2, q3, q4, q5, q6⟩ := at_T34 (Kd.C_below HC.out HB.out) (k : Int) (by omega) (by omega)
        rw [Int.toNat_natCast] at q0 q1 q2 q3 q4 q5 q6
        have hx0 : rd_T34 g (k : Int) = g[k] := by simp [rd_T34, hgk]
        obtain ⟨x, hx⟩ : ∃ x, rd_T34 g (k : Int) = x := ⟨_, rfl⟩
        rw [hx] at q0 q1 q2 q3 q4 q5 q6 hx0
        have hka : k < (amts g).length := by rw [HNA.out]; exact hlt
        have hkb : k < (bass g).length := by rw [HNB.out]; exact hlt
        have HSA := Aside0.mk (show (zsI (amts g) k).set k x.f1 = zsI (amts g) (k + 1) from by rw [← zsI_set (amts g) hka]; congr 1; rw [hx0]; simp [amts])
        have HSB := Aside0.mk (show (zsI (bass g) k).set k x.f2 = zsI (bass g) (k + 1) from by rw [← zsI_set (bass g) hkb]; congr 1; rw [hx0]; simp [bass])
        have HAD := Aside0.mk e
        subst e
        clear hx hx0 hka hkb hgk
        go_upto_region 5 with (fail)
        refine with_world (P := fun x => Code.wp _ _ _ _ x) _ ?_
        intro w2 hw2
        obtain ⟨b, hb⟩ : ∃ b, wr.heap.size = b := ⟨_, rfl⟩
        have BX := Aside0.mk (show w2.heap[b]? = some (.cells #[.string x.f0.f0, .string x.f0.f1, .string x.f0.f2, .string x.f0.f3, .string x.f0.f4, .int .i64 x.f1, .int .i64 x.f2] 34 (0, 0)) from by rw [hw2, ← hb]; exact blk_new wr _)
        have HB2 := Aside0.mk (show Below w.heap.size w w2 from by rw [hw2]; exact below_alloc HB.out _)
        have HR2 := Aside0.mk (show Rows2 w2 w.heap.size ga gb n (zsI (amts g) k) (zsI (bass g) k) from by rw [hw2]; exact HR.out.below (below_alloc (Below.refl _ _) _))
        have hba : ¬ b = ga := fun e => by have := (HR.out.a.lt ga rfl).2; omega
        have hbb : ¬ b = gb := fun e => by have := (HR.out.b.lt gb rfl).2; omega
        rw [hb]
        clear hw2 hb q0 q1 q2 q3 q4 q5 q6 HB HR
        have c5 : w2.cell? ⟨b, 5, none⟩ = some (.int .i64 x.f1) := (blk_cell BX.out 5).trans rfl
        have c6 : w2.cell? ⟨b, 6, none⟩ = some (.int .i64 x.f2) := (blk_cell BX.out 6).trans rfl
        obtain ⟨a1, a2⟩ := own_at HR2.out.a (k : Int) p0 p1
        obtain ⟨b1, b2⟩ := own_at HR2.out.b (k : Int) p0 p1
        rw [Int.toNat_natCast] at a1 a2 b1 b2
        have hne := HR2.out.ne
        have hne' : ¬ gb = ga := fun e => hne e.symm
        go_region
        refine with_world (P := fun x => Exit.inBlock _ _ _ _ x) _ ?_
        intro w3 hw3
        have HR3 := Aside0.mk (show Rows2 w3 w.heap.size ga gb n (zsI (amts g) (k + 1)) (zsI (bass g) (k + 1)) from by rw [hw3, ← HSA.out, ← HSB.out]; exact (HR2.out.set k x.f1 x.f2).below (below_drew (Below.refl _ _)))
        have HB3 := Aside0.mk (show Below w.heap.size w w3 from by rw [hw3]; exact below_drew (below_set (below_set HB2.out (HR2.out.a.lt ga rfl).1) (HR2.out.b.lt gb rfl).1))
        clear hw3 c5 c6 a1 a2 b1 b2 hne hne' hba hbb HR2 HB2 BX
        go_wp2
        go_roundw
        case rel => exact ⟨k + 1, by omega, by go_num, HR3, HB3⟩
        case measure => simp [intOf]; omega
      · obtain rfl : k = n := by omega
        have d1 : decide ((k : Int) < (k : Int)) = false := decide_eq_false (by omega)
        have d2 : decide (k < k) = false := decide_eq_false (by omega)
        obtain ⟨⟨a1, a2⟩, hta⟩ : ∃ q, totF (amts g) = q := ⟨_, rfl⟩
        obtain ⟨⟨b1, b2⟩, htb⟩ : ∃ q, totF (bass g) = q := ⟨_, rfl⟩
        have hone : oneOf g out = (a2 && b2, if a2 = true ∧ b2 = true ∧ (a1 ≠ 0 ∨ b1 ≠ 0) then out ++ [⟨(rd_T34 g 0).f0, a1, b1⟩] else out) := by unfold oneOf; rw [hta, htb]
        have HONE := Aside0.mk hone
        have oa := HR.out.a
        have ob := HR.out.b
        rw [show zsI (amts g) k = amts g from by have := zsI_all (amts g); rwa [HNA.out] at this] at oa
        rw [show zsI (bass g) k = bass g from by have := zsI_all (bass g); rwa [HNB.out] at this] at ob
        have ra : (Kd.int .i64).C wr (some ⟨ga, 0, none⟩) (amts g).length (amts g) := (Kd.R_reads' (Kd.R_of_own (e := 3) (base := w.heap.size) (v := .slice (some ⟨ga, 0, none⟩) k k) (by rw [HNA.out]; exact oa) (ok := fun _ => True) (h1 := fun _ => rfl) (fun _ _ => trivial))).2.2
        have rb : (Kd.int .i64).C wr (some ⟨gb, 0, none⟩) (bass g).length (bass g) := (Kd.R_reads' (Kd.R_of_own (e := 3) (base := w.heap.size) (v := .slice (some ⟨gb, 0, none⟩) k k) (by rw [HNB.out]; exact ob) (ok := fun _ => True) (h1 := fun _ => rfl) (fun _ _ => trivial))).2.2
        have HTA := Aside0.mk (show ∀ W, Below wr.heap.size wr W → Calls Try.prog 54 #[.slice (some ⟨ga, 0, none⟩) k k] W fun e w' => e = .returned (.tuple #[.int .i64 a1, .bool a2]) ∧ Drawn0 W w' from fun W hW => by
          have h_ := total_calls (some ⟨ga, 0, none⟩) k (amts g) W (Kd.C_below ra hW) (by rw [HNA.out]; exact Nat.le_refl _) (by rw [HNA.out]; exact hgl) (fun x hx => by
            obtain ⟨y, hy, rfl⟩ := List.mem_map.1 hx
            exact (HI.out y hy).1)
          rw [HNA.out, hta] at h_
          exact h_)
        have HTB := Aside0.mk (show ∀ W, Below wr.heap.size wr W → Calls Try.prog 54 #[.slice (some ⟨gb, 0, none⟩) k k] W fun e w' => e = .returned (.tuple #[.int .i64 b1, .bool b2]) ∧ Drawn0 W w' from fun W hW => by
          have h_ := total_calls (some ⟨gb, 0, none⟩) k (bass g) W (Kd.C_below rb hW) (by rw [HNB.out]; exact Nat.le_refl _) (by rw [HNB.out]; exact hgl) (fun x hx => by
            obtain ⟨y, hy, rfl⟩ := List.mem_map.1 hx
            exact (HI.out y hy).2)
          rw [HNB.out, htb] at h_
          exact h_)
        clear hta htb hone oa ob ra rb HR
        go_upto_region 9 with (first | (go_at_call 54; (with_reducible refine (HTA.out _ (Below.refl _ _)).mono ?_); rintro e_ w4 ⟨rfl, hd_⟩; have HD4 := Aside0.mk hd_.below; clear hd_) | (go_at_call 54; (with_reducible refine (HTB.out _ HD4.out).mono ?_); rintro e_ w5 ⟨rfl, hd_⟩; have HD5 := Aside0.mk hd_.below; clear hd_))
        have HB5 := Aside0.mk (below_then (below_then HB.out HB.out.size HD4.out) (Nat.le_trans HB.out.size HD4.out.size) HD5.out)
        clear HTA HTB HD4 HD5 HB
        by_cases hno : a2 = true ∧ b2 = true ∧ (a1 ≠ 0 ∨ b1 ≠ 0)
        · have HON := Aside0.mk (show oneOf g out = (true, out ++ [⟨(rd_T34 g 0).f0, a1, b1⟩]) from by rw [HONE.out, if_pos hno, hno.1, hno.2.1]; rfl)
          obtain ⟨rfl, rfl, hz⟩ := hno
          have crs : w5.cell? ⟨rs, 0, none⟩ = some v := (blk_cell (blk_below HRS.out HB5.out) 0).trans rfl
          have frs := blk_frozen (blk_below HRS.out HB5.out) 0
          have hrl := blk_lt (blk_below HRS.out HB5.out)
          obtain ⟨ad, e, q0, q1, q2, q3, q4, q5, q6⟩ := at_T34 (Kd.C_below HC.out HB5.out) 0 (by omega) (by omega)
          obtain ⟨x, hx⟩ : ∃ x, (rd_T34 g 0).f0 = x := ⟨_, rfl⟩
          have HAD := Aside0.mk e
          rw [hx] at q0 q1 q2 q3 q4
          rw [hx] at HON
          subst e
          have p1 : (0 : Int) < (k : Int) := by omega
          have ea : ad.add (Int.toNat 0 * 7) = ad := by simp [Addr.add]
          rw [ea] at q0 q1 q2 q3 q4
          clear q5 q6 hx HONE ea
          have HNR := Aside0.mk (show some rs ≠ v.ownBlock from fun e => by
            obtain ⟨cells, hcl⟩ := Kd.R_typed HV.out rs e.symm
            rw [HRS.out] at hcl
            cases hcl)
          have hva : some ad.block ≠ v.ownBlock := fun e => (HSEP.out ad rfl).1 e.symm
          have hna : ad.block ≠ rs := fun e => (HSEP.out ad rfl).2 e.symm
          by_cases ha0 : a1 = 0
          · have e1 : (a1 != (0 : Int)) = false := bne_eq_false_iff_eq.mpr ha0
            have e2 : (b1 != (0 : Int)) = true := bne_iff_ne.mpr (hz.resolve_left (fun h => h ha0))
            clear ha0 hz
            go_upto_region 10 with (fail)
            go_region_law (first | (refine Kd.R_append_step k34 (w0 := w5) (W := w5.drew) base (by rfl) (.tmp 58) (.tmp 66) 22 34 zc34 96 rfl Try.underlying22 info34 rfl (by decide) (by omega) v out ⟨x, a1, b1⟩ [.string x.f0, .string x.f1, .string x.f2, .string x.f3, .string x.f4, .int .i64 a1, .int .i64 b1] ok (fun _ => False) rfl rfl ?aP (fun _ hk => hk.elim) ?aF ?aO ?aB ?aS ?aL ?_; (case aP => exact k34_mkM _ _ _ (⟨x, a1, b1⟩ : S34)); (case aF => exact fun k hk => HOK.out k (Nat.le_trans HB5.out.size hk)); (case aO => exact Kd.R_drew (Kd.R_below HV.out HB5.out)); (case aB => exact ⟨rfl, rfl, rfl, Nat.le_refl _, fun _ _ => rfl⟩); (case aS => exact Nat.le_trans hbs HB5.out.size); (case aL => omega); intro v1 w6 hro hbl hg hat; obtain ⟨A1, c1, rfl⟩ := Kd.R_slice hro; have HO := Aside0.mk hro; have B6 := blk_grown (blk_drew (blk_below HRS.out HB5.out)) hg HNR.out; have HB6 := Aside0.mk B6; have crs6 : w6.cell? ⟨rs, 0, none⟩ = some v := (blk_cell B6 0).trans rfl; have frs6 := blk_frozen B6 0; have HG := Aside0.mk hg; have HAT := Aside0.mk hat;clear hro hbl hg hat B6))
            all_goals
              go_wp2
              go_ret
              unfold OnePost
              rw [HON.out]
              have hbd : But (fun k => k = rs ∨ v.ownBlock = some k) w w5.drew := But.of_below (below_drew HB5.out) _
              have hb6 := hbd.trans (But.of_grown HG.out (fun k e => .inr e))
              refine ⟨rfl, hb6.setCell (.inl rfl) _, _, blk_put HB6.out 0 _ rfl, ?_⟩
              have h_ := Kd.R_mono (ok' := ok) (Kd.R_far (p := ⟨rs, 0, none⟩) (u := .slice A1 (out.length + 1) c1) (Kd.R_types (Kd.R_bound HO.out) HB6.out (by decide)) (fun k hk => hk.2)) (fun k hk => hk.1.1)
              rw [show (out ++ [(⟨x, a1, b1⟩ : S34)]).length = out.length + 1 by simp] at h_
              exact h_
          · have e1 : (a1 != (0 : Int)) = true := bne_iff_ne.mpr ha0
            clear ha0 hz
            go_upto_region 10 with (fail)
            go_region_law (first | (refine Kd.R_append_step k34 (w0 := w5) (W := w5.drew) base (by rfl) (.tmp 58) (.tmp 66) 22 34 zc34 96 rfl Try.underlying22 info34 rfl (by decide) (by omega) v out ⟨x, a1, b1⟩ [.string x.f0, .string x.f1, .string x.f2, .string x.f3, .string x.f4, .int .i64 a1, .int .i64 b1] ok (fun _ => False) rfl rfl ?aP (fun _ hk => hk.elim) ?aF ?aO ?aB ?aS ?aL ?_; (case aP => exact k34_mkM _ _ _ (⟨x, a1, b1⟩ : S34)); (case aF => exact fun k hk => HOK.out k (Nat.le_trans HB5.out.size hk)); (case aO => exact Kd.R_drew (Kd.R_below HV.out HB5.out)); (case aB => exact ⟨rfl, rfl, rfl, Nat.le_refl _, fun _ _ => rfl⟩); (case aS => exact Nat.le_trans hbs HB5.out.size); (case aL => omega); intro v1 w6 hro hbl hg hat; obtain ⟨A1, c1, rfl⟩ := Kd.R_slice hro; have HO := Aside0.mk hro; have B6 := blk_grown (blk_drew (blk_below HRS.out HB5.out)) hg HNR.out; have HB6 := Aside0.mk B6; have crs6 : w6.cell? ⟨rs, 0, none⟩ = some v := (blk_cell B6 0).trans rfl; have frs6 := blk_frozen B6 0; have HG := Aside0.mk hg; have HAT := Aside0.mk hat;clear hro hbl hg hat B6))
            all_goals
              go_wp2
              go_ret
              unfold OnePost
              rw [HON.out]
              have hbd : But (fun k => k = rs ∨ v.ownBlock = some k) w w5.drew := But.of_below (below_drew HB5.out) _
              have hb6 := hbd.trans (But.of_grown HG.out (fun k e => .inr e))
              refine ⟨rfl, hb6.setCell (.inl rfl) _, _, blk_put HB6.out 0 _ rfl, ?_⟩
              have h_ := Kd.R_mono (ok' := ok) (Kd.R_far (p := ⟨rs, 0, none⟩) (u := .slice A1 (out.length + 1) c1) (Kd.R_types (Kd.R_bound HO.out) HB6.out (by decide)) (fun k hk => hk.2)) (fun k hk => hk.1.1)
              rw [show (out ++ [(⟨x, a1, b1⟩ : S34)]).length = out.length + 1 by simp] at h_
              exact h_
        · have HOF := Aside0.mk (show oneOf g out = (a2 && b2, out) from by rw [HONE.out, if_neg hno])
          clear HONE
          cases a2 with
          | false =>
            clear hno
            go_wp2
            go_ret
            exact OnePost.same HOF.out HB5.out HRS.out HV.out
          | true =>
            cases b2 with
            | false =>
              clear hno
              go_wp2
              go_ret
              exact OnePost.same HOF.out HB5.out HRS.out HV.out
            | true =>
              have za : a1 = 0 := by
                rcases Decidable.em (a1 = 0) with h | h
                · exact h
                · exact absurd ⟨rfl, rfl, .inl h⟩ hno
              have zb : b1 = 0 := by
                rcases Decidable.em (b1 = 0) with h | h
                · exact h
                · exact absurd ⟨rfl, rfl, .inr h⟩ hno
              subst za
              subst zb
              clear hno
              go_wp2
              go_ret
              exact OnePost.same HOF.out HB5.out HRS.out HV.out
end Go.Proofs.Ytmflggbpiadkjaa.P

/- Rows that are owned, as the sort has them, and back; the groups of a sorted list. -/
namespace Go.Proofs.Ytmflggbpiadkjaa.P
open Go.RowKit Go.Sort Go.Proofs.YtmflggbpiadkjaaW.PrintWords Go.Proofs.YtmflggbpiadkjaaW.PrintLast Go.Proofs.YtmflggbpiadkjaaW.PrintMore
set_option linter.unusedVariables false
set_option linter.unusedSimpArgs false
theorem frozen_own {w : World} {g : Nat} {cells : Array Value} {e : TypeId} (h : w.heap[g]? = some (.cells cells e (0, 0))) (j : Nat) : w.frozen? ⟨g, j, none⟩ = false := by
  simp [World.frozen?, h]
theorem holds_of_R {w : World} {base : Nat} {ok : Nat → Prop} {g cap : Nat} {l : List S34} (h : k34.R 34 w base ok (.slice (some ⟨g, 0, none⟩) l.length cap) l) : HoldsK e34 7 w g 0 l.toArray := by
  obtain ⟨cells, hty⟩ := Kd.R_typed h g rfl
  have hc := (Kd.R_reads' h).2.2
  intro t ht
  rw [size_flatK, List.size_toArray] at ht
  refine ⟨?_, frozen_own hty _⟩
  have hd : t / 7 < l.length := Nat.div_lt_of_lt_mul (by omega)
  have hm : t % 7 < 7 := Nat.mod_lt _ (by decide)
  obtain ⟨ad, e, hcell⟩ := hc.2.2 (by omega)
  cases e
  obtain ⟨c, h1, h2, h3⟩ := hcell (t / 7) l[t / 7] (List.getElem?_eq_getElem hd)
  obtain rfl := k34_open h2
  rw [get_flatK _ _ _ _ (by rw [List.size_toArray]; exact ht)]
  have hx : (l.toArray)[t / 7]! = l[t / 7] := by rw [getElem!_pos _ _ (by simpa using hd)]; simp
  rw [hx]
  have h4 := h3 (t % 7) (e34 l[t / 7])[t % 7]! (by
    show (e34 l[t / 7])[t % 7]? = _
    rw [List.getElem?_eq_getElem (by rw [e34_len]; exact hm), getElem!_pos _ _ (by rw [e34_len]; exact hm)])
  have e5 : (⟨g, 0, none⟩ : Addr).add (t / 7 * k34.sz + t % 7) = ⟨g, 0 + t, none⟩ := by
    have : t / 7 * k34.sz + t % 7 = t := by show t / 7 * 7 + t % 7 = t; omega
    rw [this]
    unfold Addr.add
    by_cases h0 : t = 0 <;> simp [h0]
  rw [e5] at h4
  exact h4
theorem C_of_holds {W : World} {g : Nat} {d : Array S34} (h : HoldsK e34 7 W g 0 d) (hl : d.size ≤ 1000000) : Kd.C k34 W (some ⟨g, 0, none⟩) d.toList.length d.toList := by
  refine ⟨rfl, by rw [Array.length_toList]; omega, fun hp => ⟨_, rfl, fun j p hj => ?_⟩⟩
  have hj2 : j < d.size := by
    have := (List.getElem?_eq_some_iff.1 hj).1
    rwa [Array.length_toList] at this
  have hp2 : d[j]! = p := by
    rw [getElem!_pos d j hj2]
    have := (List.getElem?_eq_some_iff.1 hj).2
    simpa using this
  refine ⟨e34 p, rfl, k34_mk W p, fun i u hu => ?_⟩
  have hi : i < 7 := by
    have := (List.getElem?_eq_some_iff.1 hu).1
    rwa [e34_len] at this
  have h1 := (h.cell hj2 hi).1
  rw [hp2, getElem!_pos _ i (by rw [e34_len]; exact hi), (List.getElem?_eq_some_iff.1 hu).2] at h1
  have e5 : (⟨g, 0, none⟩ : Addr).add (j * k34.sz + i) = ⟨g, 0 + j * 7 + i, none⟩ := by
    show (⟨g, 0, none⟩ : Addr).add (j * 7 + i) = _
    unfold Addr.add
    by_cases h0 : j * 7 + i = 0
    · rw [if_pos h0, Nat.add_assoc, h0]
    · rw [if_neg h0]; simp
  rw [e5]
  exact h1
theorem C_but {X : Nat → Prop} {w w' : World} {A : Option Addr} {n : Nat} {l : List S34} (h : Kd.C k34 w A n l) (hb : But X w w') (hx : ∀ ad, A = some ad → ¬ X ad.block) : Kd.C k34 w' A n l := by
  refine ⟨h.1, h.2.1, fun hp => ?_⟩
  obtain ⟨ad, rfl, hc⟩ := h.2.2 hp
  refine ⟨ad, rfl, fun j p hj => ?_⟩
  obtain ⟨c, h1, h2, h3⟩ := hc j p hj
  obtain rfl := k34_open h2
  refine ⟨_, rfl, k34_mk _ p, fun i u hu => hb.cell (h3 i u hu) ?_⟩
  rw [show (ad.add (j * k34.sz + i)).block = ad.block by unfold Addr.add; split <;> rfl]
  exact hx ad rfl
theorem But.of_swk {w W : World} {blk off : Nat} {d : Array S34} (h : SWK e34 7 w blk off d W) : But (fun k => k = blk) w W := by
  have hle := h.le
  obtain ⟨n, os, rfl⟩ := h
  refine ⟨rfl, rfl, rfl, hle, fun k hk hx => ?_⟩
  unfold sortWorldK
  rw [heap_grow_old _ os (by rw [size_putRowK]; exact hk)]
  unfold putRowK putRow mapBlock
  rw [Array.getElem?_modify, if_neg (fun e => hx e.symm)]
  rfl
/-! ### The groups -/
/-- The sheet of a list that is sorted: group by group. -/
def goOf : List S34 → List S34 → Bool × List S34
  | [], out => (true, out)
  | x :: r, out => if (oneOf (x :: r.takeWhile (fun y => decide (cmpK x.f0 y.f0 = 0))) out).1 = true then goOf (r.dropWhile (fun y => decide (cmpK x.f0 y.f0 = 0))) (oneOf (x :: r.takeWhile (fun y => decide (cmpK x.f0 y.f0 = 0))) out).2 else (false, out)
  termination_by l => l.length
  decreasing_by
    have := (List.dropWhile_sublist (fun y : S34 => decide (cmpK x.f0 y.f0 = 0)) (l := r)).length_le
    simp only [List.length_cons]
    omega
theorem take_while {α : Type} (p : α → Bool) : ∀ (l : List α) (k : Nat), k ≤ l.length → (∀ j, (h : j < l.length) → j < k → p l[j] = true) → (∀ h : k < l.length, p l[k] = false) → l.takeWhile p = l.take k ∧ l.dropWhile p = l.drop k
  | [], k, hk, _, _ => by simp
  | x :: r, 0, _, _, h2 => by
    have := h2 (by simp)
    simp only [List.getElem_cons_zero] at this
    simp [this]
  | x :: r, k + 1, hk, h1, h2 => by
    have hx : p x = true := h1 0 (by simp) (by omega)
    have ih := take_while p r k (by simpa using hk) (fun j hj hjk => by
      have := h1 (j + 1) (by simpa using hj) (by omega)
      simpa using this) (fun hk2 => by
      have := h2 (by simpa using hk2)
      simpa using this)
    rw [List.takeWhile_cons, if_pos hx, List.dropWhile_cons, if_pos hx, ih.1, ih.2]
    exact ⟨rfl, rfl⟩
theorem go_step {s out : List S34} {a b : Nat} (ha : a < b) (hb : b ≤ s.length) (h1 : ∀ j, a ≤ j → j < b → cmpK (rd_T34 s a).f0 (rd_T34 s j).f0 = 0) (h2 : b < s.length → ¬ cmpK (rd_T34 s a).f0 (rd_T34 s b).f0 = 0) :
    goOf (s.drop a) out = if (oneOf ((s.take b).drop a) out).1 = true then goOf (s.drop b) (oneOf ((s.take b).drop a) out).2 else (false, out) := by
  have hal : a < s.length := by omega
  have rd : ∀ j, (h : j < s.length) → rd_T34 s (j : Int) = s[j] := fun j h => by simp [rd_T34, h]
  have e1 : s.drop a = s[a] :: s.drop (a + 1) := List.drop_eq_getElem_cons hal
  have hw := take_while (fun y : S34 => decide (cmpK s[a].f0 y.f0 = 0)) (s.drop (a + 1)) (b - (a + 1)) (by rw [List.length_drop]; omega) (fun j hj hjk => by
    rw [List.length_drop] at hj
    have h3 := h1 (a + 1 + j) (by omega) (by omega)
    rw [rd a hal, rd (a + 1 + j) (by omega)] at h3
    rw [List.getElem_drop]
    exact decide_eq_true h3) (fun hk => by
    rw [List.length_drop] at hk
    have h3 := h2 (by omega)
    rw [rd a hal, rd b (by omega)] at h3
    rw [List.getElem_drop]
    have e2 : a + 1 + (b - (a + 1)) = b := by omega
    simp only [e2]
    exact decide_eq_false h3)
  have e2 : (s.take b).drop a = s[a] :: (s.drop (a + 1)).take (b - (a + 1)) := by
    rw [← List.drop_take, List.drop_eq_getElem_cons (by rw [List.length_take]; omega), List.getElem_take]
  have e3 : (s.drop (a + 1)).drop (b - (a + 1)) = s.drop b := by rw [List.drop_drop]; congr 1; omega
  rw [e1, goOf, hw.1, hw.2, e2, e3]
theorem goOf_nil (out : List S34) : goOf [] out = (true, out) := by rw [goOf]
theorem oneOf_len (g out : List S34) : (oneOf g out).2.length ≤ out.length + 1 := by
  unfold oneOf
  split
  · simp
  · simp
end Go.Proofs.Ytmflggbpiadkjaa.P

/- The stable sort of no cells. -/
namespace Go.Proofs.Ytmflggbpiadkjaa.P
open Go.RowKit Go.Sort Go.Proofs.YtmflggbpiadkjaaW.PrintWords Go.Proofs.YtmflggbpiadkjaaW.PrintLast Go.Proofs.YtmflggbpiadkjaaW.PrintMore
set_option linter.unusedVariables false
set_option linter.unusedSimpArgs false
set_option maxHeartbeats 4000000 in
set_option maxRecDepth 1000000 in
theorem insertion_nil (A : Option Addr) (c : Nat) (f : Value) (w : World) : Calls Try.prog 101 #[.slice A 0 c, .int .i64 0, .int .i64 0, f] w fun e w' => e = .returned (.tuple #[]) ∧ w' = w := by
  go_enter Try.func101, Try.ntmps101
  go_wp2
  go_loopw [8, 9, 12, 13, 14, 15, 16, 17, 18, 19, 20, 21, 22, 23, 24, 25, 26, 27, 28, 29, 30, 31, 32, 33, 34, 35, 36, 37, 38, 39, 40, 41, 42, 43, 44, 45, 46, 47, 48, 49, 50, 51, 52] (fun v8 _ _ _ _ _ _ _ _ _ _ _ _ _ _ _ _ _ _ _ _ _ _ _ _ _ _ _ _ _ _ _ _ _ _ _ _ _ _ _ _ _ _ wr => v8 = .int .i64 1 ∧ wr = w) (fun _ _ _ _ _ _ _ _ _ _ _ _ _ _ _ _ _ _ _ _ _ _ _ _ _ _ _ _ _ _ _ _ _ _ _ _ _ _ _ _ _ _ _ _ => 0)
  case atStart => exact ⟨rfl, rfl⟩
  case round =>
    obtain ⟨rfl, rfl⟩ := hrel
    go_wp2
    go_end0
    exact ⟨rfl, rfl⟩
set_option maxHeartbeats 4000000 in
set_option maxRecDepth 1000000 in
theorem stable_nil (A : Option Addr) (c : Nat) (f : Value) (w : World) : Calls Try.prog 97 #[.slice A 0 c, .int .i64 0, f] w fun e w' => e = .returned (.tuple #[]) ∧ w' = w := by
  have HIN := Aside0.mk (insertion_nil A c f)
  go_enter Try.func97, Try.ntmps97
  go_wp2
  go_loopw [7, 8, 11, 12, 13, 14, 15, 16, 17, 18, 19, 20, 21, 22] (fun v7 v8 _ _ _ _ _ _ _ _ _ _ _ _ wr => v7 = .int .i64 0 ∧ v8 = .int .i64 20 ∧ wr = w) (fun _ _ _ _ _ _ _ _ _ _ _ _ _ _ _ => 0)
  case atStart => exact ⟨rfl, rfl, rfl⟩
  case round =>
    obtain ⟨rfl, rfl, rfl⟩ := hrel
    go_upto_region 7 with (first | (go_at_call 101; refine (HIN.out _).mono ?_; rintro e_ w2 ⟨rfl, rfl⟩))
    go_loopw [6, 7, 8, 9, 28, 29, 30, 31, 32, 33, 34, 35, 36, 37, 38, 39, 40, 41, 42, 43, 44, 45, 46, 47, 48, 49, 50, 51, 52, 53, 54, 55, 56, 57, 58, 59, 60, 61, 62] (fun v6 _ _ _ _ _ _ _ _ _ _ _ _ _ _ _ _ _ _ _ _ _ _ _ _ _ _ _ _ _ _ _ _ _ _ _ _ _ _ wr => v6 = .int .i64 20 ∧ wr = w2) (fun _ _ _ _ _ _ _ _ _ _ _ _ _ _ _ _ _ _ _ _ _ _ _ _ _ _ _ _ _ _ _ _ _ _ _ _ _ _ _ _ => 0)
    case atStart => exact ⟨rfl, rfl⟩
    case round =>
      obtain ⟨rfl, rfl⟩ := hrel
      go_wp2
      go_end0
      exact ⟨rfl, rfl⟩
theorem sortStable_nil (A : Option Addr) (c : Nat) (f : Value) (w : World) : Calls Try.prog 82 #[.slice A 0 c, f] w fun e w' => e = .returned (.tuple #[]) ∧ w' = w := by
  have HC := Aside0.mk (stable_nil A c f)
  go_enter Try.func82, Try.ntmps82
  go_wp2_with (first | (go_at_call 97; refine (HC.out _).mono ?_; rintro e_ w2 ⟨rfl, rfl⟩))
  go_end0
  exact ⟨rfl, rfl⟩
end Go.Proofs.Ytmflggbpiadkjaa.P

/- The contract of sheet.grouped at the closures of sheet.Of. -/
namespace Go.Proofs.Ytmflggbpiadkjaa.P
open Go.RowKit Go.Sort Go.Proofs.YtmflggbpiadkjaaW.PrintWords Go.Proofs.YtmflggbpiadkjaaW.PrintLast Go.Proofs.YtmflggbpiadkjaaW.PrintMore
set_option linter.unusedVariables false
set_option linter.unusedSimpArgs false
theorem mrg_perm {l : List S34} {s : Array S34} (h : Mrg ltC 0 l.toArray.size l.toArray s) : s.toList.Perm l := by
  have h1 := h.perm.2.2
  have h2 := h.perm.1
  rw [← h2, Array.extract_size] at h1
  rw [h2, Array.extract_size] at h1
  exact h1
/-- What the groups of a sorted list leave. -/
def GrpPost (rs base : Nat) (l : List S34) (w : World) (e : Ending) (w' : World) : Prop :=
  ∃ s : Array S34, Mrg ltC 0 l.toArray.size l.toArray s ∧ e = .returned (.bool (goOf s.toList []).1) ∧ But (fun k => k = rs) w w' ∧
    (∃ v, w'.heap[rs]? = some (.cells #[v] 22 (0, 0)) ∧ ((goOf s.toList []).1 = true → k34.R 34 w' base (fun k => w.heap.size ≤ k) v (goOf s.toList []).2))
/-- The boxes of the two closures. -/
structure Box2 (w : World) (pk pc : Nat) : Prop where
  k : w.heap[pk]? = some (.cells #[.func (.func 56) #[] #[]] 71 (0, 0))
  c : w.heap[pc]? = some (.cells #[.func (.func 29) #[] #[]] 43 (0, 0))
theorem Box2.but {X : Nat → Prop} {w w' : World} {pk pc : Nat} (h : Box2 w pk pc) (hb : But X w w') (hk : ¬ X pk) (hc : ¬ X pc) : Box2 w' pk pc := ⟨hb.obj h.k hk, hb.obj h.c hc⟩
theorem Box2.cells {w : World} {pk pc : Nat} (h : Box2 w pk pc) : w.cell? ⟨pk, 0, none⟩ = some (.func (.func 56) #[] #[]) ∧ w.cell? ⟨pc, 0, none⟩ = some (.func (.func 29) #[] #[]) := ⟨(blk_cell h.k 0).trans rfl, (blk_cell h.c 0).trans rfl⟩
set_option maxHeartbeats 8000000 in
set_option maxRecDepth 100000 in
theorem grouped_nil (A : Option Addr) (c rs base : Nat) (w : World) (h : Kd.C k34 w A 0 []) (hrs : w.heap[rs]? = some (.cells #[.slice none 0 0] 22 (0, 0))) :
    Calls Try.prog 55 #[.slice A 0 c, .func (.func 56) #[] #[], .func (.func 29) #[] #[], .func (.func 53) #[] #[.pointer (some ⟨rs, 0, none⟩)]] w fun e w' => GrpPost rs base [] w e w' := by
  have HC := Aside0.mk h
  have HRS := Aside0.mk hrs
  clear h hrs
  go_enter Try.func55, Try.ntmps55
  go_upto_region 1 with (fail)
  refine with_world (P := fun x => Code.wp _ _ _ _ x) _ ?_
  intro w1 hw1
  have HB1 := Aside0.mk (show Below w.heap.size w w1 from by rw [hw1]; exact below_alloc (below_alloc (Below.refl _ _) _) _)
  clear hw1
  have HC1 := Aside0.mk (Kd.C_below HC.out HB1.out)
  go_upto_region 2 with (first | (go_at_call 62; (refine (clone_calls A c [] _ HC1.out (Nat.zero_le _) (by decide)).mono ?_); rintro e_ w2 ⟨v, rfl, hR, hB⟩; obtain ⟨A1, c1, rfl⟩ := Kd.R_slice hR; have HB2 := Aside0.mk (below_then HB1.out HB1.out.size hB); clear hR hB))
  go_upto_region 3 with (first | (go_at_call 82; (refine (sortStable_nil A1 c1 _ _).mono ?_); rintro e_ w3 ⟨rfl, rfl⟩))
  go_wp2
  go_loopw [10, 11, 17, 18, 19, 20, 21, 22, 23, 24, 25, 26, 27, 28, 29, 30, 31, 32, 33, 34, 35, 36, 37, 38, 39, 40, 41, 42, 43, 44, 45, 46, 47, 48, 49, 50, 51, 52, 53] (fun v10 _ _ _ _ _ _ _ _ _ _ _ _ _ _ _ _ _ _ _ _ _ _ _ _ _ _ _ _ _ _ _ _ _ _ _ _ _ _ wr => v10 = .int .i64 0 ∧ wr = w3) (fun _ _ _ _ _ _ _ _ _ _ _ _ _ _ _ _ _ _ _ _ _ _ _ _ _ _ _ _ _ _ _ _ _ _ _ _ _ _ _ _ => 0)
  case atStart => exact ⟨rfl, rfl⟩
  case round =>
    obtain ⟨rfl, rfl⟩ := hrel
    go_wp2
    go_ret
    refine ⟨#[], Mrg.refl (sorted_empty (Nat.zero_le _)), ?_, But.of_below HB2.out _, ⟨_, blk_below HRS.out HB2.out, fun _ => ?_⟩⟩
    · show _ = Ending.returned (.bool (goOf [] []).1)
      rw [goOf_nil]
      rfl
    · show k34.R _ _ _ _ _ (goOf [] []).2
      rw [goOf_nil]
      exact Kd.R_nil _ _ _ _ _
end Go.Proofs.Ytmflggbpiadkjaa.P

/- The contract of sheet.grouped at cells. -/
namespace Go.Proofs.Ytmflggbpiadkjaa.P
open Go.RowKit Go.Sort Go.Proofs.YtmflggbpiadkjaaW.PrintWords Go.Proofs.YtmflggbpiadkjaaW.PrintLast Go.Proofs.YtmflggbpiadkjaaW.PrintMore
set_option linter.unusedVariables false
set_option linter.unusedSimpArgs false
set_option maxHeartbeats 1000000 in
set_option maxRecDepth 100000 in
theorem grouped_cons (A : Option Addr) (c : Nat) (l : List S34) (rs base : Nat) (w : World) (h : Kd.C k34 w A l.length l) (hc : l.length ≤ c) (h0 : 0 < l.length) (hl : l.length ≤ 1000000) (hi : ∀ x ∈ l, i64ok x.f1 ∧ i64ok x.f2) (hbs : base ≤ w.heap.size) (hrs : w.heap[rs]? = some (.cells #[.slice none 0 0] 22 (0, 0))) :
    Calls Try.prog 55 #[.slice A l.length c, .func (.func 56) #[] #[], .func (.func 29) #[] #[], .func (.func 53) #[] #[.pointer (some ⟨rs, 0, none⟩)]] w fun e w' => GrpPost rs base l w e w' := by
  have HC := Aside0.mk h
  have HRS := Aside0.mk hrs
  have HI := Aside0.mk hi
  have HL := Aside0.mk (And.intro h0 hl)
  have HBS := Aside0.mk hbs
  clear h hrs hi hbs
  go_enter Try.func55, Try.ntmps55
  go_upto_region 1 with (fail)
  refine with_world (P := fun x => Code.wp _ _ _ _ x) _ ?_
  intro w1 hw1
  obtain ⟨g, hg⟩ : ∃ g, w.heap.size = g := ⟨_, rfl⟩
  have HBX := Aside0.mk (show Box2 w1 g (g + 1) from ⟨by rw [hw1, ← hg]; exact blk_alloc (blk_new w _) _, by rw [hw1, ← hg]; exact blk_newAt _ _ _ (by simp)⟩)
  have HB1 := Aside0.mk (show Below w.heap.size w w1 from by rw [hw1]; exact below_alloc (below_alloc (Below.refl _ _) _) _)
  have HS1 := Aside0.mk (show w1.heap.size = g + 2 from by rw [hw1, ← hg]; simp)
  have HG := Aside0.mk hg
  rw [hg]
  clear hw1 hg
  have HC1 := Aside0.mk (Kd.C_below HC.out HB1.out)
  go_upto_region 2 with (first | (go_at_call 62; (with_reducible refine (clone_calls A c l _ HC1.out hc hl).mono ?_); rintro e_ w2 ⟨v, rfl, hR, hB⟩; obtain ⟨b, c1, rfl, hb1, hb2, _⟩ := Kd.R_form hR HL.out.1; have HR2 := Aside0.mk hR; have HB2 := Aside0.mk hB; clear hR hB))
  have HBX2 := Aside0.mk (show Box2 w2 g (g + 1) from ⟨blk_below HBX.out.k HB2.out, blk_below HBX.out.c HB2.out⟩)
  have HN := Aside0.mk (show g + 2 ≤ b ∧ b < w2.heap.size from ⟨by have := HS1.out; omega, hb2⟩)
  have HB02 := Aside0.mk (below_then HB1.out HB1.out.size HB2.out)
  have hcell := HBX2.out.cells
  have HSO := Aside0.mk (sortStable_calls b 0 c1 (g + 1) g l.toArray w2 ⟨e34_len, e34_one, holds_of_R HR2.out, hb2⟩ ⟨hcell.2, hcell.1, by have := HN.out.1; omega, by have := HN.out.1; omega⟩ (by rw [List.size_toArray]; omega))
  have HH := Aside0.mk (holds_of_R HR2.out)
  have HCAP := Aside0.mk (show l.length ≤ c1 from (Kd.R_reads' HR2.out).2.1)
  clear hcell HB1 HBX HC1 HR2 HB2 hb1 hb2
  go_upto_region 3 with (first | (go_at_call 82; (refine HSO.out.mono ?_); rintro e_ w3 ⟨rfl, s, hm_, hs_⟩; have HM := Aside0.mk hm_; have HS := Aside0.mk hs_; clear hm_ hs_))
  have HB3 := Aside0.mk (But.of_swk HS.out)
  have HZ := Aside0.mk (show s.toList.length = l.length from by
    have := HM.out.perm.1
    rw [Array.length_toList, this, List.size_toArray])
  have HC3 := Aside0.mk (C_of_holds (HS.out.holds HN.out.2 HH.out (by have := HM.out.perm.1; rw [this])) (by have := HZ.out; rw [Array.length_toList] at this; omega))
  have HBX3 := Aside0.mk (HBX2.out.but HB3.out (by have := HN.out.1; omega) (by have := HN.out.1; omega))
  have HI3 := Aside0.mk (show ∀ x ∈ s.toList, i64ok x.f1 ∧ i64ok x.f2 from fun x hx => HI.out x ((mrg_perm HM.out).mem_iff.1 hx))
  have HNB := Aside0.mk (show rs ≠ b from fun e => by have := blk_lt HRS.out; have := HN.out.1; have := HG.out; omega)
  have HRS3 := Aside0.mk (HB3.out.obj (blk_below HRS.out HB02.out) (fun e => HNB.out e))
  have HALL := Aside0.mk (show But (fun k => k = rs ∨ w.heap.size ≤ k) w w3 from (But.of_below HB02.out _).trans (HB3.out.mono (fun k _ hk => .inr (by have := HN.out.1; have := HG.out; omega))))
  obtain ⟨ad, had⟩ : ∃ ad : Addr, ad = ⟨b, 0, none⟩ := ⟨_, rfl⟩
  have HAD := Aside0.mk had
  rw [← had] at HC3 ⊢
  obtain ⟨n, hn⟩ : ∃ n, l.length = n := ⟨_, rfl⟩
  have HNL := Aside0.mk hn
  rw [hn] at HCAP HZ HL ⊢
  rw [HZ.out] at HC3
  obtain ⟨q, hq⟩ : ∃ q, s.toList = q := ⟨_, rfl⟩
  have HQ := Aside0.mk hq
  rw [hq] at HC3 HI3 HZ
  clear HSO HH HB02 HBX2 HS had hn hq hc h0 hl
  have N0 := Aside0.mk (show goOf (q.drop 0) [] = goOf q [] from rfl)
  go_wp2
  go_loopw [10, 11, 17, 18, 19, 20, 21, 22, 23, 24, 25, 26, 27, 28, 29, 30, 31, 32, 33, 34, 35, 36, 37, 38, 39, 40, 41, 42, 43, 44, 45, 46, 47, 48, 49, 50, 51, 52, 53] (fun v10 _ _ _ _ _ _ _ _ _ _ _ _ _ _ _ _ _ _ _ _ _ _ _ _ _ _ _ _ _ _ _ _ _ _ _ _ _ _ wr => ∃ (a : Nat) (o : List S34) (v : Value), a ≤ n ∧ v10 = .int .i64 a ∧ Aside0 (o.length ≤ a) ∧ Aside0 (goOf (q.drop a) o = goOf q []) ∧ Aside0 (wr.heap[rs]? = some (.cells #[v] 22 (0, 0))) ∧ Aside0 (k34.R 34 wr base (fun k => w3.heap.size ≤ k) v o) ∧ Aside0 (But (fun k => k = rs ∨ w3.heap.size ≤ k) w3 wr)) (fun v10 _ _ _ _ _ _ _ _ _ _ _ _ _ _ _ _ _ _ _ _ _ _ _ _ _ _ _ _ _ _ _ _ _ _ _ _ _ _ _ => n - (intOf v10).toNat)
  case atStart => exact ⟨0, [], _, Nat.zero_le _, rfl, ⟨Nat.le_refl _⟩, N0, HRS3, ⟨Kd.R_nil _ _ _ _ _⟩, ⟨But.refl _ _⟩⟩
  case round =>
    clear N0 HRS3
    obtain ⟨a, o, v, han, rfl, HOL, HGO, HRSr, HV, HBr⟩ := hrel
    by_cases hlt : a < n
    · have d1 : decide ((a : Int) < (n : Int)) = true := decide_eq_true (by omega)
      have d2 : decide (a < n) = true := decide_eq_true hlt
      have hA0 : (0 : Int) ≤ (a : Int) := by omega
      have hA1 : (a : Int) < (n : Int) := by omega
      have HBXr := Aside0.mk (HBX3.out.but HBr.out (fun e => by rcases e with e | e; (have := blk_lt HRS.out; have := HG.out; omega); (have := blk_lt HBX3.out.k; omega)) (fun e => by rcases e with e | e; (have := blk_lt HRS.out; have := HG.out; omega); (have := blk_lt HBX3.out.c; omega)))
      have HCr := Aside0.mk (C_but HC3.out HBr.out (fun ad' e => by
        cases e
        intro e
        have h1 := HAD.out
        rw [h1] at e
        simp only at e
        rcases e with e | e
        · exact HNB.out e.symm
        · have := HN.out.2; have := HB3.out.size; omega))
      have hn1 := HL.out.2
      go_wp2
      rename World => wo
      go_loopw [11, 23, 24, 25, 26, 27, 28, 29, 30, 31, 32, 33, 34, 35, 36, 37, 38, 39, 40, 41, 42, 43, 44, 45] (fun v11 _ _ _ _ _ _ _ _ _ _ _ _ _ _ _ _ _ _ _ _ _ _ _ wq => ∃ b' : Nat, a < b' ∧ b' ≤ n ∧ v11 = .int .i64 b' ∧ Aside0 (∀ j : Nat, a ≤ j → j < b' → cmpK (rd_T34 q (a : Int)).f0 (rd_T34 q (j : Int)).f0 = 0) ∧ Aside0 (Grw wo wq)) (fun v11 _ _ _ _ _ _ _ _ _ _ _ _ _ _ _ _ _ _ _ _ _ _ _ _ => n - (intOf v11).toNat)
      case atStart =>
        refine ⟨a + 1, by omega, by omega, by go_num, ⟨fun j h1 h2 => ?_⟩, ⟨Grw.refl _⟩⟩
        obtain rfl : j = a := by omega
        exact cmp3_K.refl _
      case round =>
        obtain ⟨b', hb1, hb2, rfl, HEQ, HGq⟩ := hrel
        rename World => wq
        have hn1 := HL.out.2
        have HCq := Aside0.mk (Kd.C_below HCr.out HGq.out.below)
        by_cases hlt2 : b' < n
        · have d3 : decide ((b' : Int) < (n : Int)) = true := decide_eq_true (by omega)
          have d4 : decide (b' < n) = true := decide_eq_true hlt2
          have hB0 : (0 : Int) ≤ (b' : Int) := by omega
          have hB1 : (b' : Int) < (n : Int) := by omega
          obtain ⟨ad1, e1, x0, x1, x2, x3, x4, x5, x6⟩ := at_T34 HCq.out (a : Int) hA0 hA1
          obtain ⟨ad2, e2, y0, y1, y2, y3, y4, y5, y6⟩ := at_T34 HCq.out (b' : Int) hB0 hB1
          cases e1
          cases e2
          have hcells := (Box2.but HBXr.out (But.of_below HGq.out.below (fun _ => False)) (fun h => h) (fun h => h)).cells
          have hk := cell_all hcells.1
          have hc := cell_all hcells.2
          clear hcells
          rw [Int.toNat_natCast] at x0 x1 x2 x3 x4 x5 x6 y0 y1 y2 y3 y4 y5 y6
          obtain ⟨x, hx⟩ : ∃ x, rd_T34 q (a : Int) = x := ⟨_, rfl⟩
          obtain ⟨y, hy⟩ : ∃ y, rd_T34 q (b' : Int) = y := ⟨_, rfl⟩
          rw [hx] at x0 x1 x2 x3 x4 x5 x6
          rw [hy] at y0 y1 y2 y3 y4 y5 y6
          have x0 := cell_all x0
          have x1 := cell_all x1
          have x2 := cell_all x2
          have x3 := cell_all x3
          have x4 := cell_all x4
          have x5 := cell_all x5
          have x6 := cell_all x6
          have y0 := cell_all y0
          have y1 := cell_all y1
          have y2 := cell_all y2
          have y3 := cell_all y3
          have y4 := cell_all y4
          have y5 := cell_all y5
          have y6 := cell_all y6
          obtain ⟨z, hz⟩ : ∃ z, cmpK x.f0 y.f0 = z := ⟨_, rfl⟩
          have hcmp := cmp_calls x.f0 y.f0
          rw [hz] at hcmp
          have mixed : Try.prog.follows .mixedOrders = true := by kernel_rfl
          by_cases h00 : z = 0
          · subst h00
            have HZ0 := Aside0.mk (show cmpK (rd_T34 q (a : Int)).f0 (rd_T34 q (b' : Int)).f0 = 0 from by rw [hx, hy]; exact hz)
            clear hz hx hy
            go_wp2_with fail
            go_quiet_grown (first | (go_at_call 56; (with_reducible refine Calls.grown_of (key_calls x _))) | (go_at_call 56; (with_reducible refine Calls.grown_of (key_calls y _))) | (go_at_call 29; refine Calls.grown_of (hcmp _)))
            have HG2 := Aside0.mk (show Grw wo (grow (wq.drewN nq) osq) from HGq.out.trans ⟨_, _, rfl⟩)
            clear x0 x1 x2 x3 x4 x5 x6 y0 y1 y2 y3 y4 y5 y6 hk hc hcmp mixed HCq HGq
            generalize grow (wq.drewN nq) osq = w4 at HG2 ⊢
            clear nq osq
            go_wp2
            go_roundw
            case rel =>
              refine ⟨b' + 1, by omega, by omega, by go_num, ⟨fun j h1 h2 => ?_⟩, HG2⟩
              rcases Nat.lt_or_ge j b' with h3 | h3
              · exact HEQ.out j h1 h3
              · obtain rfl : j = b' := by omega
                exact HZ0.out
            case measure => simp [intOf]; omega
          · have e1 : (z == (0 : Int)) = false := beq_false_of_ne h00
            have HNE := Aside0.mk (show b' < n → ¬ cmpK (rd_T34 q (a : Int)).f0 (rd_T34 q (b' : Int)).f0 = 0 from fun _ => by rw [hx, hy, hz]; exact h00)
            clear hz hx hy
            go_wp2_with fail
            go_quiet_grown (first | (go_at_call 56; (with_reducible refine Calls.grown_of (key_calls x _))) | (go_at_call 56; (with_reducible refine Calls.grown_of (key_calls y _))) | (go_at_call 29; refine Calls.grown_of (hcmp _)))
            have HG2 := Aside0.mk (show Grw wo (grow (wq.drewN nq) osq) from HGq.out.trans ⟨_, _, rfl⟩)
            clear x0 x1 x2 x3 x4 x5 x6 y0 y1 y2 y3 y4 y5 y6 hk hc hcmp mixed HCq HGq e1 h00
            generalize grow (wq.drewN nq) osq = w4 at HG2 ⊢
            clear nq osq
            rename World => wq
            have HGq := HG2
            have HCq := Aside0.mk (Kd.C_below HCr.out HGq.out.below)
            clear HG2
            have hal : a < q.length := by have := HZ.out; omega
            have HST := Aside0.mk (go_step (s := q) (out := o) hb1 (by have := HZ.out; omega) HEQ.out (fun h => HNE.out (by have := HZ.out; omega)))
            obtain ⟨grp, hgrp⟩ : ∃ grp, (q.take b').drop a = grp := ⟨_, rfl⟩
            have hgl : grp.length = b' - a := by rw [← hgrp, List.length_drop, List.length_take]; have := HZ.out; omega
            have hgi : ∀ x ∈ grp, i64ok x.f1 ∧ i64ok x.f2 := fun x hx => HI3.out x (by rw [← hgrp] at hx; exact List.mem_of_mem_take (List.mem_of_mem_drop hx))
            have hcg := Kd.C_mid (k := k34) (lo := a) (hi := b') (c := c1) (show Kd.C k34 wq (some ad) q.length q from by rw [HZ.out]; exact HCq.out) (by omega) (by have := HZ.out; omega) (by have := HZ.out; have := HCAP.out; omega)
            rw [hgrp, if_neg (show ¬ c1 = a by have := HCAP.out; omega)] at hcg
            obtain ⟨ti, hti, htz⟩ := Option.map_eq_some_iff.1 info34
            have hcut := cut_mid (P := Try.prog) 22 34 .i64 .i64 Try.underlying22 hti 7 (congrArg (fun t => t.2.1) htz) (some ad) n c1 (a : Int) (b' : Int) (by omega) (by omega) (by omega) HCAP.out
            rw [Int.toNat_natCast, Int.toNat_natCast, if_neg (show ¬ c1 = a by have := HCAP.out; omega)] at hcut
            obtain ⟨gd, hgd⟩ : ∃ gd, ad.add (a * 7) = gd := ⟨_, rfl⟩
            have hgb : gd.block = b := by rw [← hgd, HAD.out]; unfold Addr.add; split <;> rfl
            rw [show (some ad).map (fun x => x.add (a * 7)) = some gd from by rw [← hgd]; rfl] at hcut
            rw [show (some ad).map (fun x => x.add (a * k34.sz)) = some gd from by rw [← hgd]; rfl] at hcg
            have HON := Aside0.mk (one_calls (some gd) (c1 - a) grp rs base (fun k => w3.heap.size ≤ k) v o wq hcg (by rw [hgl]; have := HCAP.out; omega) (by omega) (by have := HL.out; omega) hgi (blk_below HRSr.out HGq.out.below) (Kd.R_below HV.out HGq.out.below) (fun k hk => Nat.le_trans HBr.out.size (Nat.le_trans HGq.out.below.size hk)) (by have := HBS.out; have := HALL.out.size; have := HBr.out.size; have := HGq.out.below.size; omega) (by have := HOL.out; have := HL.out; omega) (fun ad' e => by
              cases e
              rw [hgb]
              exact ⟨fun e => by have := HV.out.1 _ e; have := HN.out.2; have := HB3.out.size; omega, HNB.out⟩))
            rw [hgl] at HON
            rw [hgrp] at HST
            have HBV := Aside0.mk (show But (fun k => k = rs ∨ w3.heap.size ≤ k) w3 wq from HBr.out.trans (But.of_below HGq.out.below _))
            have HVO := Aside0.mk HV.out.1
            have HA := Aside0.mk hb1
            clear hti htz ti hgrp hcg hgd hgb HCq HCr HBXr HBr HRSr HV HGq HEQ HNE hgi hal
            obtain ⟨m, hm⟩ : ∃ m, b' - a = m := ⟨_, rfl⟩
            obtain ⟨cm, hcm⟩ : ∃ cm, c1 - a = cm := ⟨_, rfl⟩
            rw [hm] at HON hcut hgl
            rw [hcm] at HON hcut
            clear hm hcm
            obtain ⟨⟨r, o2⟩, hr⟩ : ∃ r, oneOf grp o = r := ⟨_, rfl⟩
            have HO2 := Aside0.mk (show o2.length ≤ o.length + 1 from by have := oneOf_len grp o; rwa [hr] at this)
            unfold OnePost at HON
            rw [hr] at HON HST
            clear hr hgl
            cases r with
            | true =>
              go_upto_region 10 with (first | (go_at_call 53; (refine HON.out.mono ?_); rintro e_ w5 ⟨rfl, hb_, v', hv_, hr_⟩; have HB5 := Aside0.mk hb_; have HV5 := Aside0.mk hv_; have HR5 := Aside0.mk hr_; clear hb_ hv_ hr_))
              go_wp2
              go_roundw
              case rel =>
                refine ⟨b', o2, v', by omega, rfl, ⟨by have := HO2.out; have := HOL.out; have := HA.out; omega⟩, ⟨?_⟩, HV5, ⟨HR5.out⟩, ⟨HBV.out.trans (HB5.out.mono (fun k hk e => ?_))⟩⟩
                · rw [← HGO.out, HST.out]
                  rfl
                · rcases e with e | e
                  · exact .inl e
                  · exact .inr (HVO.out k e)
              case measure => have := HA.out; simp [intOf]; omega
            | false =>
              go_wp2_with (first | (go_at_call 53; (refine HON.out.mono ?_); rintro e_ w5 ⟨rfl, hb_, v', hv_, hr_⟩; have HB5 := Aside0.mk hb_; have HV5 := Aside0.mk hv_; clear hb_ hv_ hr_))
              go_ret
              have hg_ : goOf q [] = (false, o) := by rw [← HGO.out, HST.out]; rfl
              refine ⟨s, HM.out, by rw [HQ.out, hg_]; rfl, ?_, ⟨v', HV5.out, fun h => ?_⟩⟩
              · have h1 := HALL.out.trans ((HBV.out.trans (HB5.out.mono (fun k hk e => e.imp id (HVO.out k)))).mono (fun k hk e => e.imp id (fun e => Nat.le_trans HALL.out.size e)))
                exact h1.mono (fun k hk e => e.elim id (fun e => by omega))
              · rw [HQ.out, hg_] at h
                cases h
        · have d3 : decide ((b' : Int) < (n : Int)) = false := decide_eq_false (by omega)
          have d4 : decide (b' < n) = false := decide_eq_false hlt2
          have HNE := Aside0.mk (show b' < n → ¬ cmpK (rd_T34 q (a : Int)).f0 (rd_T34 q (b' : Int)).f0 = 0 from fun h => absurd h hlt2)
          have mixed : Try.prog.follows .mixedOrders = true := by kernel_rfl
          have HG2 := Aside0.mk (show Grw wo wq.drew from HGq.out.drew)
          go_wp2_with fail
          go_big_region_o
          clear mixed HCq HGq
          generalize wq.drew = w4 at HG2 ⊢
          rename World => wq
          have HGq := HG2
          have HCq := Aside0.mk (Kd.C_below HCr.out HGq.out.below)
          clear HG2
          have hal : a < q.length := by have := HZ.out; omega
          have HST := Aside0.mk (go_step (s := q) (out := o) hb1 (by have := HZ.out; omega) HEQ.out (fun h => HNE.out (by have := HZ.out; omega)))
          obtain ⟨grp, hgrp⟩ : ∃ grp, (q.take b').drop a = grp := ⟨_, rfl⟩
          have hgl : grp.length = b' - a := by rw [← hgrp, List.length_drop, List.length_take]; have := HZ.out; omega
          have hgi : ∀ x ∈ grp, i64ok x.f1 ∧ i64ok x.f2 := fun x hx => HI3.out x (by rw [← hgrp] at hx; exact List.mem_of_mem_take (List.mem_of_mem_drop hx))
          have hcg := Kd.C_mid (k := k34) (lo := a) (hi := b') (c := c1) (show Kd.C k34 wq (some ad) q.length q from by rw [HZ.out]; exact HCq.out) (by omega) (by have := HZ.out; omega) (by have := HZ.out; have := HCAP.out; omega)
          rw [hgrp, if_neg (show ¬ c1 = a by have := HCAP.out; omega)] at hcg
          obtain ⟨ti, hti, htz⟩ := Option.map_eq_some_iff.1 info34
          have hcut := cut_mid (P := Try.prog) 22 34 .i64 .i64 Try.underlying22 hti 7 (congrArg (fun t => t.2.1) htz) (some ad) n c1 (a : Int) (b' : Int) (by omega) (by omega) (by omega) HCAP.out
          rw [Int.toNat_natCast, Int.toNat_natCast, if_neg (show ¬ c1 = a by have := HCAP.out; omega)] at hcut
          obtain ⟨gd, hgd⟩ : ∃ gd, ad.add (a * 7) = gd := ⟨_, rfl⟩
          have hgb : gd.block = b := by rw [← hgd, HAD.out]; unfold Addr.add; split <;> rfl
          rw [show (some ad).map (fun x => x.add (a * 7)) = some gd from by rw [← hgd]; rfl] at hcut
          rw [show (some ad).map (fun x => x.add (a * k34.sz)) = some gd from by rw [← hgd]; rfl] at hcg
          have HON := Aside0.mk (one_calls (some gd) (c1 - a) grp rs base (fun k => w3.heap.size ≤ k) v o wq hcg (by rw [hgl]; have := HCAP.out; omega) (by omega) (by have := HL.out; omega) hgi (blk_below HRSr.out HGq.out.below) (Kd.R_below HV.out HGq.out.below) (fun k hk => Nat.le_trans HBr.out.size (Nat.le_trans HGq.out.below.size hk)) (by have := HBS.out; have := HALL.out.size; have := HBr.out.size; have := HGq.out.below.size; omega) (by have := HOL.out; have := HL.out; omega) (fun ad' e => by
            cases e
            rw [hgb]
            exact ⟨fun e => by have := HV.out.1 _ e; have := HN.out.2; have := HB3.out.size; omega, HNB.out⟩))
          rw [hgl] at HON
          rw [hgrp] at HST
          have HBV := Aside0.mk (show But (fun k => k = rs ∨ w3.heap.size ≤ k) w3 wq from HBr.out.trans (But.of_below HGq.out.below _))
          have HVO := Aside0.mk HV.out.1
          have HA := Aside0.mk hb1
          clear hti htz ti hgrp hcg hgd hgb HCq HCr HBXr HBr HRSr HV HGq HEQ HNE hgi hal
          obtain ⟨m, hm⟩ : ∃ m, b' - a = m := ⟨_, rfl⟩
          obtain ⟨cm, hcm⟩ : ∃ cm, c1 - a = cm := ⟨_, rfl⟩
          rw [hm] at HON hcut hgl
          rw [hcm] at HON hcut
          clear hm hcm
          obtain ⟨⟨r, o2⟩, hr⟩ : ∃ r, oneOf grp o = r := ⟨_, rfl⟩
          have HO2 := Aside0.mk (show o2.length ≤ o.length + 1 from by have := oneOf_len grp o; rwa [hr] at this)
          unfold OnePost at HON
          rw [hr] at HON HST
          clear hr hgl
          cases r with
          | true =>
            go_upto_region 10 with (first | (go_at_call 53; (refine HON.out.mono ?_); rintro e_ w5 ⟨rfl, hb_, v', hv_, hr_⟩; have HB5 := Aside0.mk hb_; have HV5 := Aside0.mk hv_; have HR5 := Aside0.mk hr_; clear hb_ hv_ hr_))
            go_wp2
            go_roundw
            case rel =>
              refine ⟨b', o2, v', by omega, rfl, ⟨by have := HO2.out; have := HOL.out; have := HA.out; omega⟩, ⟨?_⟩, HV5, ⟨HR5.out⟩, ⟨HBV.out.trans (HB5.out.mono (fun k hk e => ?_))⟩⟩
              · rw [← HGO.out, HST.out]
                rfl
              · rcases e with e | e
                · exact .inl e
                · exact .inr (HVO.out k e)
            case measure => have := HA.out; simp [intOf]; omega
          | false =>
            go_wp2_with (first | (go_at_call 53; (refine HON.out.mono ?_); rintro e_ w5 ⟨rfl, hb_, v', hv_, hr_⟩; have HB5 := Aside0.mk hb_; have HV5 := Aside0.mk hv_; clear hb_ hv_ hr_))
            go_ret
            have hg_ : goOf q [] = (false, o) := by rw [← HGO.out, HST.out]; rfl
            refine ⟨s, HM.out, by rw [HQ.out, hg_]; rfl, ?_, ⟨v', HV5.out, fun h => ?_⟩⟩
            · have h1 := HALL.out.trans ((HBV.out.trans (HB5.out.mono (fun k hk e => e.imp id (HVO.out k)))).mono (fun k hk e => e.imp id (fun e => Nat.le_trans HALL.out.size e)))
              exact h1.mono (fun k hk e => e.elim id (fun e => by omega))
            · rw [HQ.out, hg_] at h
              cases h
    · obtain rfl : a = n := by omega
      have d1 : decide ((a : Int) < (a : Int)) = false := decide_eq_false (by omega)
      have d2 : decide (a < a) = false := decide_eq_false (by omega)
      have hg_ : goOf q [] = (true, o) := by rw [← HGO.out, List.drop_of_length_le (by rw [HZ.out]; exact Nat.le_refl _), goOf_nil]
      have HG_ := Aside0.mk hg_
      clear hg_
      go_wp2
      go_ret
      refine ⟨s, HM.out, by rw [HQ.out, HG_.out]; rfl, ?_, ⟨v, HRSr.out, fun h => ?_⟩⟩
      · exact (HALL.out.trans (HBr.out.mono (fun k hk e => e.imp id (fun e => Nat.le_trans HALL.out.size e)))).mono (fun k hk e => e.elim id (fun e => by omega))
      · rw [HQ.out, HG_.out]
        exact Kd.R_mono HV.out (fun k hk => Nat.le_trans HALL.out.size hk)
end Go.Proofs.Ytmflggbpiadkjaa.P

/- What the groups of a sorted list leave, in plain words: by the list's different keys. -/
namespace Go.Proofs.Ytmflggbpiadkjaa.P
open Go.RowKit Go.Sort Go.Proofs.YtmflggbpiadkjaaW.PrintWords Go.Proofs.YtmflggbpiadkjaaW.PrintLast Go.Proofs.YtmflggbpiadkjaaW.PrintMore
set_option linter.unusedVariables false
set_option linter.unusedSimpArgs false
/-! ### Strictly sorted keys -/
def SS (ks : List S32) : Prop := ks.Pairwise (fun a b => cmpK a b < 0)
def insK (k : S32) : List S32 → List S32
  | [] => [k]
  | h :: t => if cmpK k h < 0 then k :: h :: t else if cmpK k h = 0 then h :: t else h :: insK k t
theorem cmpK_self (k : S32) : cmpK k k = 0 := cmp3_K.refl k
theorem cmpK_flip {a b : S32} (h : ¬ cmpK a b < 0) (h2 : ¬ cmpK a b = 0) : cmpK b a < 0 := by have := cmp3_K.sw a b; omega
theorem cmpK_trans {a b c : S32} (h : cmpK a b < 0) (h2 : cmpK b c < 0) : cmpK a c < 0 := cmp3_K.lt_le h (by omega)
theorem mem_insK (k x : S32) : ∀ ks, x ∈ insK k ks ↔ x = k ∨ x ∈ ks
  | [] => by simp [insK]
  | h :: t => by
    unfold insK
    by_cases h1 : cmpK k h < 0
    · rw [if_pos h1]; simp
    · rw [if_neg h1]
      by_cases h2 : cmpK k h = 0
      · rw [if_pos h2]
        have := cmpK_zero h2
        subst this
        simp
      · rw [if_neg h2, List.mem_cons, mem_insK k x t, List.mem_cons]
        constructor
        · rintro (h | h | h)
          · exact .inr (.inl h)
          · exact .inl h
          · exact .inr (.inr h)
        · rintro (h | h | h)
          · exact .inr (.inl h)
          · exact .inl h
          · exact .inr (.inr h)
theorem ss_insK (k : S32) : ∀ ks, SS ks → SS (insK k ks)
  | [], _ => List.pairwise_singleton _ _
  | h :: t, hs => by
    have h0 := List.pairwise_cons.1 hs
    unfold insK
    by_cases h1 : cmpK k h < 0
    · rw [if_pos h1]
      refine List.pairwise_cons.2 ⟨fun x hx => ?_, hs⟩
      rcases List.mem_cons.1 hx with rfl | hx
      · exact h1
      · exact cmpK_trans h1 (h0.1 x hx)
    · rw [if_neg h1]
      by_cases h2 : cmpK k h = 0
      · rw [if_pos h2]; exact hs
      · rw [if_neg h2]
        refine List.pairwise_cons.2 ⟨fun x hx => ?_, ss_insK k t h0.2⟩
        rcases (mem_insK k x t).1 hx with rfl | hx
        · exact cmpK_flip h1 h2
        · exact h0.1 x hx
theorem ss_unique : ∀ {a b : List S32}, SS a → SS b → (∀ k, k ∈ a ↔ k ∈ b) → a = b
  | [], [], _, _, _ => rfl
  | [], y :: b, _, _, h => absurd ((h y).2 (by simp)) (by simp)
  | x :: a, [], _, _, h => absurd ((h x).1 (by simp)) (by simp)
  | x :: a, y :: b, ha, hb, h => by
    have ha' := List.pairwise_cons.1 ha
    have hb' := List.pairwise_cons.1 hb
    have hxy : x = y := by
      rcases List.mem_cons.1 ((h x).1 (by simp)) with h1 | h1
      · exact h1
      · rcases List.mem_cons.1 ((h y).2 (by simp)) with h2 | h2
        · exact h2.symm
        · have := cmpK_trans (ha'.1 y h2) (hb'.1 x h1)
          rw [cmpK_self] at this
          omega
    subst hxy
    congr 1
    refine ss_unique ha'.2 hb'.2 (fun k => ?_)
    constructor
    · intro hk
      rcases List.mem_cons.1 ((h k).1 (by simp [hk])) with h1 | h1
      · have := ha'.1 k hk
        rw [h1, cmpK_self] at this
        omega
      · exact h1
    · intro hk
      rcases List.mem_cons.1 ((h k).2 (by simp [hk])) with h1 | h1
      · have := hb'.1 k hk
        rw [h1, cmpK_self] at this
        omega
      · exact h1
/-- The different keys of a list, in order. -/
def keysK : List S34 → List S32
  | [] => []
  | c :: r => insK c.f0 (keysK r)
theorem ss_keysK : ∀ l, SS (keysK l)
  | [] => List.Pairwise.nil
  | c :: r => ss_insK _ _ (ss_keysK r)
theorem mem_keysK (k : S32) : ∀ l, k ∈ keysK l ↔ ∃ c ∈ l, c.f0 = k
  | [] => by simp [keysK]
  | c :: r => by
    unfold keysK
    rw [mem_insK, mem_keysK k r]
    constructor
    · rintro (rfl | ⟨x, hx, rfl⟩)
      · exact ⟨c, by simp, rfl⟩
      · exact ⟨x, by simp [hx], rfl⟩
    · rintro ⟨x, hx, rfl⟩
      rcases List.mem_cons.1 hx with rfl | hx
      · exact .inl rfl
      · exact .inr ⟨x, hx, rfl⟩
theorem keysK_perm {a b : List S34} (h : a.Perm b) : keysK a = keysK b :=
  ss_unique (ss_keysK a) (ss_keysK b) (fun k => by rw [mem_keysK, mem_keysK]; exact ⟨fun ⟨c, h1, h2⟩ => ⟨c, h.mem_iff.1 h1, h2⟩, fun ⟨c, h1, h2⟩ => ⟨c, h.mem_iff.2 h1, h2⟩⟩)
/-! ### The sums by keys -/
def eqK (k : S32) (c : S34) : Bool := decide (cmpK k c.f0 = 0)
def sumA (l : List S34) (k : S32) : Int := (amts (l.filter (eqK k))).sum
def sumB (l : List S34) (k : S32) : Int := (bass (l.filter (eqK k))).sum
def cellsK (l : List S34) : List S32 → List S34 → Bool × List S34
  | [], out => (true, out)
  | k :: t, out => if fitB (sumA l k) && fitB (sumB l k) then cellsK l t (if sumA l k ≠ 0 ∨ sumB l k ≠ 0 then out ++ [⟨k, sumA l k, sumB l k⟩] else out) else (false, out)
theorem perm_sum {a b : List Int} (h : a.Perm b) : a.sum = b.sum := by
  induction h with
  | nil => rfl
  | cons x _ ih => rw [List.sum_cons, List.sum_cons, ih]
  | swap x y l => simp only [List.sum_cons]; omega
  | trans _ _ h1 h2 => exact h1.trans h2
theorem sumA_perm {a b : List S34} (h : a.Perm b) (k : S32) : sumA a k = sumA b k := perm_sum ((h.filter _).map _)
theorem sumB_perm {a b : List S34} (h : a.Perm b) (k : S32) : sumB a k = sumB b k := perm_sum ((h.filter _).map _)
theorem cellsK_congr {a b : List S34} : ∀ (ks : List S32) (out : List S34), (∀ k ∈ ks, sumA a k = sumA b k ∧ sumB a k = sumB b k) → cellsK a ks out = cellsK b ks out
  | [], out, _ => rfl
  | k :: t, out, h => by
    unfold cellsK
    rw [(h k (by simp)).1, (h k (by simp)).2, cellsK_congr t _ (fun x hx => h x (by simp [hx]))]
theorem fit_i64 {n : Int} (h : fitB n = true) : i64ok n := by
  unfold fitB at h
  simp only [Bool.and_eq_true, decide_eq_true_eq] at h
  exact ⟨by omega, by omega⟩
theorem tot_2 (l : List Int) : (totF l).2 = fitB l.sum := by
  unfold totF
  by_cases h : i64ok l.sum
  · rw [if_pos h]
  · rw [if_neg h]
    cases hf : fitB l.sum with
    | false => rfl
    | true => exact absurd (fit_i64 hf) h
theorem tot_1 {l : List Int} (h : fitB l.sum = true) : (totF l).1 = l.sum := by
  unfold totF
  rw [if_pos (fit_i64 h)]
theorem one_fit (g out : List S34) : (oneOf g out).1 = (fitB (amts g).sum && fitB (bass g).sum) := by
  unfold oneOf
  rw [tot_2, tot_2]
theorem one_out {g out : List S34} (h : (fitB (amts g).sum && fitB (bass g).sum) = true) : (oneOf g out).2 = if (amts g).sum ≠ 0 ∨ (bass g).sum ≠ 0 then out ++ [⟨(rd_T34 g 0).f0, (amts g).sum, (bass g).sum⟩] else out := by
  rw [Bool.and_eq_true] at h
  unfold oneOf
  rw [tot_2, tot_2, tot_1 h.1, tot_1 h.2]
  by_cases h2 : (amts g).sum ≠ 0 ∨ (bass g).sum ≠ 0
  · rw [if_pos ⟨h.1, h.2, h2⟩, if_pos h2]
  · rw [if_neg (fun h => h2 h.2.2), if_neg h2]
/-- Sorted by their keys. -/
def SL (s : List S34) : Prop := s.Pairwise (fun a b => cmpK a.f0 b.f0 ≤ 0)
theorem take_filter (k : S32) : ∀ (r : List S34), SL r → (∀ y ∈ r, cmpK k y.f0 ≤ 0) → r.takeWhile (eqK k) = r.filter (eqK k) ∧ r.dropWhile (eqK k) = r.filter (fun c => !eqK k c)
  | [], _, _ => by simp
  | y :: r, hs, hk => by
    have hs' := List.pairwise_cons.1 hs
    by_cases h : eqK k y = true
    · have ih := take_filter k r hs'.2 (fun z hz => hk z (by simp [hz]))
      rw [List.takeWhile_cons, if_pos h, List.dropWhile_cons, if_pos h, List.filter_cons, if_pos h, List.filter_cons, if_neg (by simp [h]), ih.1, ih.2]
      exact ⟨rfl, rfl⟩
    · have hlt : cmpK k y.f0 < 0 := by
        have h1 := hk y (by simp)
        unfold eqK at h
        have h2 : ¬ cmpK k y.f0 = 0 := fun e => h (decide_eq_true e)
        omega
      have hall : ∀ z ∈ r, eqK k z = false := fun z hz => decide_eq_false (by have := cmp3_K.lt_le hlt (hs'.1 z hz); omega)
      have hf : eqK k y = false := by simpa using h
      rw [List.takeWhile_cons, if_neg h, List.dropWhile_cons, if_neg h, List.filter_cons, if_neg h, List.filter_cons, if_pos (by simp [hf]), List.filter_eq_nil_iff.2 (fun z hz => by simp [hall z hz]), List.filter_eq_self.2 (fun z hz => by simp [hall z hz])]
      exact ⟨rfl, rfl⟩
theorem goOf_cells : ∀ (n : Nat) (s out : List S34), s.length ≤ n → SL s → goOf s out = cellsK s (keysK s) out
  | _, [], out, _, _ => by rw [goOf]; rfl
  | 0, x :: r, out, h, _ => by simp at h
  | n + 1, x :: r, out, h, hs => by
    have hs' := List.pairwise_cons.1 hs
    have hf := take_filter x.f0 r hs'.2 (fun y hy => hs'.1 y hy)
    have hg : x :: r.takeWhile (fun y => decide (cmpK x.f0 y.f0 = 0)) = (x :: r).filter (eqK x.f0) := by
      rw [List.filter_cons, if_pos (by unfold eqK; exact decide_eq_true (cmpK_self _)), ← hf.1]
      rfl
    have hd : r.dropWhile (fun y => decide (cmpK x.f0 y.f0 = 0)) = r.filter (fun c => !eqK x.f0 c) := hf.2
    have hlt : ∀ c ∈ r.filter (fun c => !eqK x.f0 c), cmpK x.f0 c.f0 < 0 := by
      intro c hc
      have h1 := List.mem_filter.1 hc
      have h2 := hs'.1 c h1.1
      have h3 : ¬ cmpK x.f0 c.f0 = 0 := by
        intro e
        have h4 := h1.2
        unfold eqK at h4
        rw [decide_eq_true e] at h4
        cases h4
      omega
    have hk : keysK (x :: r) = x.f0 :: keysK (r.filter (fun c => !eqK x.f0 c)) := by
      refine ss_unique (ss_keysK _) (List.pairwise_cons.2 ⟨fun k hk => ?_, ss_keysK _⟩) (fun k => ?_)
      · obtain ⟨c, hc, rfl⟩ := (mem_keysK k _).1 hk
        exact hlt c hc
      · rw [mem_keysK, List.mem_cons, mem_keysK]
        constructor
        · rintro ⟨c, hc, rfl⟩
          rcases List.mem_cons.1 hc with rfl | hc
          · exact .inl rfl
          · by_cases e : cmpK x.f0 c.f0 = 0
            · exact .inl (cmpK_zero e).symm
            · exact .inr ⟨c, List.mem_filter.2 ⟨hc, by unfold eqK; rw [decide_eq_false e]; rfl⟩, rfl⟩
        · rintro (rfl | ⟨c, hc, rfl⟩)
          · exact ⟨x, by simp, rfl⟩
          · exact ⟨c, by simp [(List.mem_filter.1 hc).1], rfl⟩
    rw [goOf, hg, hd, hk]
    unfold cellsK
    rw [one_fit]
    show (if (fitB (sumA (x :: r) x.f0) && fitB (sumB (x :: r) x.f0)) = true then _ else _) = _
    by_cases hfit : (fitB (sumA (x :: r) x.f0) && fitB (sumB (x :: r) x.f0)) = true
    · rw [if_pos hfit, if_pos hfit, one_out hfit]
      have hrd : (rd_T34 ((x :: r).filter (eqK x.f0)) 0).f0 = x.f0 := by rw [← hg]; rfl
      rw [hrd]
      have ih := goOf_cells n (r.filter (fun c => !eqK x.f0 c)) (if sumA (x :: r) x.f0 ≠ 0 ∨ sumB (x :: r) x.f0 ≠ 0 then out ++ [⟨x.f0, sumA (x :: r) x.f0, sumB (x :: r) x.f0⟩] else out) (by
        have := List.length_filter_le (fun c => !eqK x.f0 c) r
        simp only [List.length_cons] at h
        omega) (hs'.2.filter _)
      refine Eq.trans ih (cellsK_congr _ _ (fun k hk => ?_))
      obtain ⟨c, hc, rfl⟩ := (mem_keysK k _).1 hk
      have e : (r.filter (fun c => !eqK x.f0 c)).filter (eqK c.f0) = (x :: r).filter (eqK c.f0) := by
        have hx : ¬ eqK c.f0 x = true := by
          unfold eqK
          intro e
          have h1 := of_decide_eq_true e
          have h2 := hlt c hc
          have := cmp3_K.sw x.f0 c.f0
          omega
        rw [List.filter_cons, if_neg hx, List.filter_filter]
        refine List.filter_congr (fun y hy => ?_)
        by_cases e : eqK c.f0 y = true
        · rw [e]
          have e1 := cmpK_zero (of_decide_eq_true e)
          have h2 := hlt c hc
          have : eqK x.f0 y = false := decide_eq_false (by rw [← e1]; omega)
          rw [this]
          rfl
        · rw [Bool.not_eq_true] at e
          rw [e]
          rfl
      unfold sumA sumB
      rw [e]
      exact ⟨rfl, rfl⟩
    · rw [if_neg hfit, if_neg hfit]
theorem goOf_mrg {l : List S34} {s : Array S34} (h : Mrg ltC 0 l.toArray.size l.toArray s) : goOf s.toList [] = cellsK l (keysK l) [] := by
  have hp := mrg_perm h
  have hs : SL s.toList := by
    refine List.pairwise_iff_getElem.2 (fun i j hi hj hij => ?_)
    rw [Array.length_toList] at hi hj
    have h1 := h.sorted i j (Nat.zero_le _) hij (by have := h.perm.1; omega)
    rw [getElem!_pos s i hi, getElem!_pos s j hj] at h1
    have h2 : ¬ cmpC s[j] s[i] < 0 := of_decide_eq_false h1
    have h3 := cmp3_C.sw s[i] s[j]
    simp only [Array.getElem_toList]
    show cmpC s[i] s[j] ≤ 0
    omega
  rw [goOf_cells _ _ _ (Nat.le_refl _) hs, keysK_perm hp]
  exact cellsK_congr _ _ (fun k _ => ⟨sumA_perm hp k, sumB_perm hp k⟩)
/-- What sheet.Of answers. -/
def ofK (l : List S34) : List S34 × Int := if (cellsK l (keysK l) []).1 = true then ((cellsK l (keysK l) []).2, 0) else ([], 4)
end Go.Proofs.Ytmflggbpiadkjaa.P

/- The contract of sheet.Of. -/
namespace Go.Proofs.Ytmflggbpiadkjaa.P
open Go.RowKit Go.Sort Go.Proofs.YtmflggbpiadkjaaW.PrintWords Go.Proofs.YtmflggbpiadkjaaW.PrintLast Go.Proofs.YtmflggbpiadkjaaW.PrintMore
set_option linter.unusedVariables false
set_option linter.unusedSimpArgs false
theorem grouped_calls (A : Option Addr) (c : Nat) (l : List S34) (rs base : Nat) (w : World) (h : Kd.C k34 w A l.length l) (hc : l.length ≤ c) (hl : l.length ≤ 1000000) (hi : ∀ x ∈ l, i64ok x.f1 ∧ i64ok x.f2) (hbs : base ≤ w.heap.size) (hrs : w.heap[rs]? = some (.cells #[.slice none 0 0] 22 (0, 0))) :
    Calls Try.prog 55 #[.slice A l.length c, .func (.func 56) #[] #[], .func (.func 29) #[] #[], .func (.func 53) #[] #[.pointer (some ⟨rs, 0, none⟩)]] w fun e w' => GrpPost rs base l w e w' := by
  cases l with
  | nil => exact grouped_nil A c rs base w h hrs
  | cons x r => exact grouped_cons A c (x :: r) rs base w h hc (by simp) hl hi hbs hrs
set_option maxHeartbeats 2000000 in
set_option maxRecDepth 100000 in
theorem of_calls (A : Option Addr) (c : Nat) (l : List S34) (w : World) (h : Kd.C k34 w A l.length l) (hc : l.length ≤ c) (hl : l.length ≤ 1000000) (hi : ∀ x ∈ l, i64ok x.f1 ∧ i64ok x.f2) :
    Calls Try.prog 19 #[.slice A l.length c] w fun e w' => ∃ v, e = .returned (.tuple #[v, .int .i64 (ofK l).2]) ∧ Kd.R k34 34 w' w.heap.size (fun _ => True) v (ofK l).1 ∧ Below w.heap.size w w' := by
  obtain ⟨⟨r, o⟩, hr⟩ : ∃ q, cellsK l (keysK l) [] = q := ⟨_, rfl⟩
  have HR := Aside0.mk hr
  have HK := Aside0.mk (show ofK l = if r = true then (o, 0) else ([], 4) from by unfold ofK; rw [hr])
  have HC := Aside0.mk h
  clear h hr
  go_enter Try.func19, Try.ntmps19
  go_upto_region 1 with (fail)
  refine with_world (P := fun x => Code.wp _ _ _ _ x) _ ?_
  intro w1 hw1
  obtain ⟨rs, hg⟩ : ∃ g, w.heap.size = g := ⟨_, rfl⟩
  have HRS := Aside0.mk (show w1.heap[rs]? = some (.cells #[.slice none 0 0] 22 (0, 0)) from by rw [hw1, ← hg]; exact blk_new w _)
  have HB1 := Aside0.mk (show Below w.heap.size w w1 from by rw [hw1]; exact below_alloc (Below.refl _ _) _)
  have HG := Aside0.mk hg
  rw [hg]
  clear hw1 hg
  have HGR := Aside0.mk (grouped_calls A c l rs w.heap.size w1 (Kd.C_below HC.out HB1.out) hc hl hi HB1.out.size HRS.out)
  clear hc hl hi
  cases r with
  | true =>
    go_upto_region 2 with (fail)
    go_upto_region 4 with (first | (go_at_call 55; (refine HGR.out.mono ?_); rintro e_ w2 ⟨s, hm_, rfl, hb_, hp_⟩; rw [goOf_mrg hm_, HR.out] at hp_ ⊢; obtain ⟨v, hv_, hr_⟩ := hp_; have hr_ := hr_ rfl; obtain ⟨A1, c1, rfl⟩ := Kd.R_slice hr_; have HB2 := Aside0.mk hb_; have HV := Aside0.mk hv_; have HRR := Aside0.mk hr_; clear hm_ hb_ hv_ hr_))
    have c2 : w2.cell? ⟨rs, 0, none⟩ = some (.slice A1 o.length c1) := (blk_cell HV.out 0).trans rfl
    have f2 := blk_frozen HV.out 0
    have hl2 := blk_lt HV.out
    go_wp2
    have H3 := Aside0.mk (blk_put HV.out 0 (.slice A1 o.length c1) rfl)
    have c3 : (w2.setCell ⟨rs, 0, none⟩ (.slice A1 o.length c1)).cell? ⟨rs, 0, none⟩ = some (.slice A1 o.length c1) := (blk_cell H3.out 0).trans rfl
    refine bodyPost_ret (v := .tuple #[(.slice A1 o.length c1), .int .i64 0]) (by simp [results, Try.results19, go_sem, loadVar, c3, Try.underlying22]) rfl ?_
    refine ⟨_, by rw [HK.out]; rfl, ?_, ?_⟩
    · rw [HK.out]
      show k34.R _ _ _ _ _ o
      exact Kd.R_mono (Kd.R_far (p := ⟨rs, 0, none⟩) (Kd.R_types (Kd.R_bound HRR.out) HV.out (by decide)) (fun k hk => hk.2) _) (fun _ _ => trivial)
    · exact ((HB1.out.trans ⟨HB2.out.os, HB2.out.tape, HB2.out.output, HB2.out.size, fun k hk => HB2.out.block k (Nat.lt_of_lt_of_le hk HB1.out.size) (fun e => by have := HG.out; omega)⟩)).setCell (by have := HG.out; show w.heap.size ≤ rs; omega) _
  | false =>
    go_upto_region 2 with (fail)
    go_upto_region 3 with (first | (go_at_call 55; (refine HGR.out.mono ?_); rintro e_ w2 ⟨s, hm_, rfl, hb_, hp_⟩; rw [goOf_mrg hm_, HR.out] at hp_ ⊢; obtain ⟨v, hv_, hr_⟩ := hp_; have HB2 := Aside0.mk hb_; have HV := Aside0.mk hv_; clear hm_ hb_ hv_ hr_))
    have c2 : w2.cell? ⟨rs, 0, none⟩ = some v := (blk_cell HV.out 0).trans rfl
    have f2 := blk_frozen HV.out 0
    have hl2 := blk_lt HV.out
    go_wp2
    have H3 := Aside0.mk (blk_put HV.out 0 (.slice none 0 0) rfl)
    have c3 : (w2.setCell ⟨rs, 0, none⟩ (.slice none 0 0)).cell? ⟨rs, 0, none⟩ = some (.slice none 0 0) := (blk_cell H3.out 0).trans rfl
    refine bodyPost_ret (v := .tuple #[(.slice none 0 0), .int .i64 4]) (by simp [results, Try.results19, go_sem, loadVar, c3, Try.underlying22]) rfl ?_
    refine ⟨_, by rw [HK.out]; rfl, ?_, ?_⟩
    · rw [HK.out]
      exact Kd.R_nil _ _ _ _ _
    · exact ((HB1.out.trans ⟨HB2.out.os, HB2.out.tape, HB2.out.output, HB2.out.size, fun k hk => HB2.out.block k (Nat.lt_of_lt_of_le hk HB1.out.size) (fun e => by have := HG.out; omega)⟩)).setCell (by have := HG.out; show w.heap.size ≤ rs; omega) _
end Go.Proofs.Ytmflggbpiadkjaa.P

/- The contracts of slices.Grow (of nil) and slices.Concat at cells. -/
namespace Go.Proofs.Ytmflggbpiadkjaa.P
open Go.RowKit Go.Sort Go.Proofs.YtmflggbpiadkjaaW.PrintWords Go.Proofs.YtmflggbpiadkjaaW.PrintLast Go.Proofs.YtmflggbpiadkjaaW.PrintMore
set_option linter.unusedVariables false
set_option linter.unusedSimpArgs false
theorem zeroCells_size (z : Array Value) (n : Nat) : (Builtin.zeroCells z n).size = n * z.size := by simp [Builtin.zeroCells]
set_option maxHeartbeats 4000000 in
set_option maxRecDepth 100000 in
theorem grow_calls (n : Nat) (hn : n ≤ 1000000) (w : World) :
    Calls Try.prog 85 #[.slice none 0 0, .int .i64 n] w fun e w' => ∃ v, e = .returned v ∧ k34.R 34 w' w.heap.size (fun k => w.heap.size ≤ k) v [] ∧ Below w.heap.size w w' := by
  by_cases h0 : n = 0
  · subst h0
    go_enter Try.func85, Try.ntmps85
    go_wp2
    go_ret
    exact ⟨_, rfl, Kd.R_nil _ _ _ _ _, Below.refl _ _⟩
  · have h1 : ¬ ((n : Int) < 0) := by omega
    have h4 : (n : Int) > 0 := by omega
    have h5 : 0 < n := by omega
    obtain ⟨i0, hi0, hz⟩ := Option.map_eq_some_iff.1 info34
    simp only [Prod.mk.injEq] at hz
    obtain ⟨hz0, hz1, hz2⟩ := hz
    have hold : (Builtin.firstCells i0.size 0 (.slice none 0 0)).run Try.prog w.drew = .ok #[] w.drew := run_firstCells_none w.drew i0.size 0 0 0
    have hrz : ∀ ty, (Builtin.append_ #[22, 3] ty #[.slice none 0 0, .int .i64 (n : Int)]).run Try.prog w =
        .ok (.slice (some ⟨w.heap.size, 0, none⟩) n (grownCap w n 0 34)) (w.drew.alloc (.cells (#[] ++ Builtin.zeroCells zc34.cells n ++ Builtin.zeroCells zc34.cells (grownCap w n 0 34 - n)) 34)) := fun ty => by
      have h := Lib.run_append_grow_zeros w 22 3 ty 34 i0 zc34 .i64 .i64 Try.underlying22 Try.underlying3 hi0 hz0 none 0 0 [] (by exact hold) n (by omega) (by rw [hz1]; decide) (by omega) (by omega)
        (by rw [hz2]; omega)
        (by rw [Nat.zero_add]; exact growslice_fits (by omega) (by rw [hz2]; omega))
      rw [Nat.zero_add] at h
      exact h
    have hGn : n ≤ grownCap w n 0 34 := grownCap_ge w _ _ _
    have hGm : grownCap w n 0 34 ≤ maxLen := grownCap_le_maxLen w n 0 34 (by unfold maxLen; omega)
    have HM := Aside0.mk (R_made w.drew w.heap.size (fun k => w.heap.size ≤ k) (#[] ++ Builtin.zeroCells zc34.cells n ++ Builtin.zeroCells zc34.cells (grownCap w n 0 34 - n)) (grownCap w n 0 34) (Nat.le_refl _) (Nat.le_refl _) hGm (by
      rw [Array.size_append, Array.size_append, zeroCells_size, zeroCells_size]
      show 0 + n * 7 + (grownCap w n 0 34 - n) * 7 = _
      omega))
    have HB := Aside0.mk (below_alloc (below_drew (Below.refl w.heap.size w)) (.cells (#[] ++ Builtin.zeroCells zc34.cells n ++ Builtin.zeroCells zc34.cells (grownCap w n 0 34 - n)) 34))
    obtain ⟨G, hG⟩ : ∃ G, G = grownCap w n 0 34 := ⟨_, rfl⟩
    rw [← hG] at hrz hGn hGm HM HB
    generalize (#[] ++ Builtin.zeroCells zc34.cells n ++ Builtin.zeroCells zc34.cells (G - n)) = cs at hrz HM HB
    unfold maxLen at hGm
    clear hold hG hi0 hz0 hz1 hz2
    go_enter Try.func85, Try.ntmps85
    go_wp2_with (at_builtin; refine Lib.wpList_append_run _ rfl _ _ _ _ rfl _ _ rfl rfl _ _ (hrz _) ?_)
    all_goals (go_ret; exact ⟨_, rfl, HM.out, HB.out⟩)
theorem flat_take {α : Type} (ls : List (List α)) (z : List α) {k : Nat} (hk : k < ls.length) : (ls.take (k + 1)).flatten = (ls.take k).flatten ++ ls.getD k z := by
  rw [List.take_add_one, List.getElem?_eq_getElem hk, List.flatten_append]
  simp [hk]
theorem flat_le {α : Type} (ls : List (List α)) (k : Nat) : (ls.take k).flatten.length ≤ ls.flatten.length := by
  conv => rhs; rw [← List.take_append_drop k ls, List.flatten_append, List.length_append]
  omega
set_option maxHeartbeats 4000000 in
set_option maxRecDepth 100000 in
theorem concat_calls (A : Option Addr) (c : Nat) (ls : List (List S34)) (w : World) (h : Kd.C (Kd.slice 34 k34) w A ls.length ls) (hc : ls.length ≤ c) (hl : ls.length ≤ 1000) (hf : ls.flatten.length ≤ 1000000) :
    Calls Try.prog 68 #[.slice A ls.length c] w fun e w' => ∃ v, e = .returned v ∧ k34.R 34 w' w.heap.size (fun k => w.heap.size ≤ k) v ls.flatten ∧ Below w.heap.size w w' := by
  have HC := Aside0.mk h
  clear h
  go_enter Try.func68, Try.ntmps68
  go_wp2
  go_loopw [3, 5, 11, 12, 13, 14, 15, 16, 17, 18, 19, 20, 21, 22] (fun v3 _ v11 _ _ _ _ _ _ _ _ _ _ _ wr => ∃ k : Nat, k ≤ ls.length ∧ v11 = .int .i64 k ∧ v3 = .int .i64 ((ls.take k).flatten.length : Nat) ∧ wr = w) (fun _ _ v11 _ _ _ _ _ _ _ _ _ _ _ _ => ls.length - (intOf v11).toNat)
  case atStart => exact ⟨0, Nat.zero_le _, rfl, rfl, rfl⟩
  case round =>
    obtain ⟨k, hk, rfl, rfl, hwr⟩ := hrel
    subst hwr
    have hfk := Nat.le_trans (flat_le ls k) hf
    by_cases hlt : k < ls.length
    · have d1 : decide ((k : Int) < (ls.length : Int)) = true := decide_eq_true (by omega)
      have d2 : decide (k < ls.length) = true := decide_eq_true hlt
      have p0 : (0 : Int) ≤ (k : Int) := by omega
      have p1 : (k : Int) < (ls.length : Int) := by omega
      obtain ⟨ad, A0, c0, e, q0, l0, g0⟩ := at_L4 HC.out (k : Int) (by omega) (by omega)
      rw [Int.toNat_natCast] at q0
      obtain ⟨l, hle⟩ : ∃ l, rd_L4 ls (k : Int) = l := ⟨_, rfl⟩
      rw [hle] at q0
      have hft := flat_take ls ([] : List S34) hlt
      have hfk2 := Nat.le_trans (flat_le ls (k + 1)) hf
      have HFT := Aside0.mk (show (ls.take (k + 1)).flatten.length = (ls.take k).flatten.length + l.length from by
        rw [hft, List.length_append, ← hle]
        rfl)
      rw [HFT.out] at hfk2
      obtain ⟨z, hz⟩ : ∃ z, (ls.take k).flatten.length = z := ⟨_, rfl⟩
      rw [hz] at HFT hfk2 hfk ⊢
      subst e
      have d3 : decide ((z : Int) + (l.length : Int) < 0) = false := decide_eq_false (by omega)
      clear hft hle l0 g0 hz
      go_wp2
      go_roundw
      case rel => exact ⟨k + 1, by omega, by go_num, by rw [HFT.out]; go_num, by first | rfl | trivial⟩
      case measure => simp [intOf]; omega
    · obtain rfl : k = ls.length := by omega
      have d1 : decide ((ls.length : Int) < (ls.length : Int)) = false := decide_eq_false (by omega)
      have d2 : decide (ls.length < ls.length) = false := decide_eq_false (by omega)
      rw [List.take_length]
      obtain ⟨z, hz⟩ : ∃ z, ls.flatten.length = z := ⟨_, rfl⟩
      rw [hz] at hf ⊢
      have HZ := Aside0.mk hz
      clear hz hfk
      go_upto_region 10 with (first | (go_at_call 85; refine (grow_calls z hf _).mono ?_; rintro e_ w2 ⟨v, rfl, hr_, hb_⟩; have HR := Aside0.mk hr_; have HB := Aside0.mk hb_; clear hr_ hb_))
      have HR0 := Aside0.mk (show k34.R 34 w2 wr.heap.size (fun k => wr.heap.size ≤ k) v ((ls.take 0).flatten) from HR.out)
      clear HR
      go_wp2
      go_loopw [6, 8, 27, 28, 29, 30, 31, 32, 33, 34] (fun v6 _ v27 _ _ _ _ _ _ _ w9 => ∃ k : Nat, k ≤ ls.length ∧ v27 = .int .i64 k ∧ Aside0 (k34.R 34 w9 wr.heap.size (fun k => wr.heap.size ≤ k) v6 ((ls.take k).flatten)) ∧ Aside0 (Below wr.heap.size wr w9)) (fun _ _ v27 _ _ _ _ _ _ _ _ => ls.length - (intOf v27).toNat)
      case atStart => exact ⟨0, Nat.zero_le _, rfl, HR0, HB⟩
      case round =>
        clear HR0 HB
        obtain ⟨k, hk, rfl, HR, HB⟩ := hrel
        rename World => w9
        obtain ⟨Av, cv, hv⟩ := Kd.R_slice HR.out
        subst hv
        by_cases hlt : k < ls.length
        · have d3 : decide ((k : Int) < (ls.length : Int)) = true := decide_eq_true (by omega)
          have d4 : decide (k < ls.length) = true := decide_eq_true hlt
          have p0 : (0 : Int) ≤ (k : Int) := by omega
          have p1 : (k : Int) < (ls.length : Int) := by omega
          obtain ⟨ad, A0, c0, e, q0, l0, g0⟩ := at_L4 (Kd.C_below HC.out HB.out) (k : Int) (by omega) (by omega)
          rw [Int.toNat_natCast] at q0
          obtain ⟨l, hle⟩ : ∃ l, rd_L4 ls (k : Int) = l := ⟨_, rfl⟩
          rw [hle] at q0 l0 g0
          have HG := Aside0.mk g0
          have HFT := Aside0.mk (show (ls.take (k + 1)).flatten = (ls.take k).flatten ++ l from by
            rw [flat_take ls ([] : List S34) hlt, ← hle]
            rfl)
          have hfk2 := Nat.le_trans (flat_le ls (k + 1)) (show ls.flatten.length ≤ 1000000 from by rw [HZ.out]; exact hf)
          rw [HFT.out, List.length_append] at hfk2
          obtain ⟨xs, hxs⟩ : ∃ xs, (ls.take k).flatten = xs := ⟨_, rfl⟩
          rw [hxs] at HFT hfk2 HR ⊢
          subst e
          clear hle g0 hxs
          go_wp2_with (first | ((with_reducible refine gate_builtin (b := .append) (xs := #[.tmp 31, .tmp 32]) rfl ?_); at_builtin; refine Kd.R_append_rows k34 (w0 := wr) (Rr := k34.K w9) wr.heap.size rfl (.tmp 31) (.tmp 32) 22 34 zc34 96 rfl Try.underlying22 info34 rfl (by decide) (by omega) (.slice Av xs.length cv) xs l A0 l.length c0 (fun k => wr.heap.size ≤ k) (fun _ => False) rfl rfl ?aO ?aR ?aK (fun _ hk => hk.elim) ?aF ?aB ?aS ?aL ?_; (case aO => exact HR.out); (case aR => exact HG.out); (case aK => exact fun x cs hx => by obtain rfl := k34_open hx; exact k34_mkM _ _ _ _); (case aF => exact fun k hk => Nat.le_trans HB.out.size hk); (case aB => exact HB.out); (case aS => exact HB.out.size); (case aL => omega); intro v1 w1 ho hb hg hat; have HO := Aside0.mk ho; have HB1 := Aside0.mk hb; clear ho hb hg hat))
          go_roundw
          case rel => exact ⟨k + 1, by omega, by go_num, ⟨by rw [HFT.out]; exact HO.out⟩, HB1⟩
          case measure => simp [intOf]; omega
        · obtain rfl : k = ls.length := by omega
          rw [List.take_length] at HR ⊢
          go_wp2
          go_ret
          exact ⟨_, rfl, HR.out, HB.out⟩
end Go.Proofs.Ytmflggbpiadkjaa.P

/- The contract of sheet.kept: a key with the fields of a mask only. -/
namespace Go.Proofs.Ytmflggbpiadkjaa.P
open Go.RowKit Go.Sort Go.Proofs.YtmflggbpiadkjaaW.PrintWords Go.Proofs.YtmflggbpiadkjaaW.PrintLast Go.Proofs.YtmflggbpiadkjaaW.PrintMore
set_option linter.unusedVariables false
set_option linter.unusedSimpArgs false
/-- The field j of a mask. -/
def bitF (mask : Int) : Nat → Int
  | 0 => mask % 2
  | 1 => mask / 2 % 2
  | 2 => mask / 4 % 2
  | 3 => mask / 8 % 2
  | _ => mask / 16 % 2
/-- A field behind k rounds. -/
def fldF (x : S32) (mask : Int) (k j : Nat) : ByteArray := if j < k ∧ bitF mask j = 0 then ⟨#[]⟩ else kfld x j
def blkF (x : S32) (mask : Int) (k : Nat) : Array Value := #[.string (fldF x mask k 0), .string (fldF x mask k 1), .string (fldF x mask k 2), .string (fldF x mask k 3), .string (fldF x mask k 4)]
theorem and_one (v : Int) (h0 : 0 ≤ v) (h1 : v ≤ 31) : bits BinOp.and IntKind.i64 v 1 = v % 2 := by
  obtain ⟨n, rfl⟩ := Int.eq_ofNat_of_zero_le h0
  have key : ∀ n : Fin 32, bits BinOp.and IntKind.i64 ((n.val : Nat) : Int) 1 = ((n.val : Nat) : Int) % 2 := by decide
  exact key ⟨n, by omega⟩
theorem blkF_clear (x : S32) (mask : Int) {k : Nat} (hk : k < 5) (hb : bitF mask k = 0) : (blkF x mask k).setIfInBounds k (.string ⟨#[]⟩) = blkF x mask (k + 1) := by
  rcases (by omega : k = 0 ∨ k = 1 ∨ k = 2 ∨ k = 3 ∨ k = 4) with rfl | rfl | rfl | rfl | rfl <;> simp [blkF, fldF, hb]
theorem blkF_stay (x : S32) (mask : Int) {k : Nat} (hk : k < 5) (hb : bitF mask k ≠ 0) : blkF x mask k = blkF x mask (k + 1) := by
  have e : ∀ j, fldF x mask k j = fldF x mask (k + 1) j := fun j => by
    unfold fldF
    by_cases hj : j = k
    · subst hj
      rw [if_neg (by omega), if_neg (fun h => hb h.2)]
    · by_cases h1 : j < k ∧ bitF mask j = 0
      · rw [if_pos h1, if_pos ⟨by omega, h1.2⟩]
      · rw [if_neg h1, if_neg (fun h => h1 ⟨by omega, h.2⟩)]
  unfold blkF
  rw [e, e, e, e, e]
set_option maxHeartbeats 4000000 in
set_option maxRecDepth 100000 in
theorem kept_calls (x : S32) (mask : Int) (hm0 : 0 ≤ mask) (hm1 : mask ≤ 31) (w : World) : Calls Try.prog 63 #[.agg #[.string x.f0, .string x.f1, .string x.f2, .string x.f3, .string x.f4], .int .i64 mask] w fun e w' => e = .returned (.agg (blkF x mask 5)) ∧ Below w.heap.size w w' := by
  go_enter Try.func63, Try.ntmps63
  go_upto_region 1 with (fail)
  refine with_world (P := fun x => Code.wp _ _ _ _ x) _ ?_
  intro w1 hw1
  have HB1 := Aside0.mk (show Below w.heap.size w w1 from by rw [hw1]; exact below_alloc (below_alloc (Below.refl _ _) _) _)
  have BK := Aside0.mk (show w1.heap[w.heap.size]? = some (.cells (blkF x mask 0) 32 (0, 0)) from by rw [hw1]; exact blk_alloc (blk_new w _) _)
  have BR := Aside0.mk (show w1.heap[w.heap.size + 1]? = some (.cells #[.string ⟨#[]⟩, .string ⟨#[]⟩, .string ⟨#[]⟩, .string ⟨#[]⟩, .string ⟨#[]⟩] 32 (0, 0)) from by rw [hw1]; exact blk_newAt _ _ _ (by simp))
  obtain ⟨g, hg⟩ : ∃ g, w.heap.size = g := ⟨_, rfl⟩
  rw [hg] at BK BR ⊢
  have HG := Aside0.mk hg
  clear hw1 hg
  go_wp2
  go_loopw [5, 6, 13, 14, 15, 16, 17, 18, 19, 20, 21, 22, 23, 24] (fun _ _ v13 _ _ _ _ _ _ _ _ _ _ _ wr => ∃ k : Nat, k ≤ 5 ∧ v13 = .int .i64 k ∧ Aside0 (wr.heap[g]? = some (.cells (blkF x mask k) 32 (0, 0))) ∧ Aside0 (wr.heap[g + 1]? = some (.cells #[.string ⟨#[]⟩, .string ⟨#[]⟩, .string ⟨#[]⟩, .string ⟨#[]⟩, .string ⟨#[]⟩] 32 (0, 0))) ∧ Aside0 (Below w.heap.size w wr)) (fun _ _ v13 _ _ _ _ _ _ _ _ _ _ _ _ => 5 - (intOf v13).toNat)
  case atStart => exact ⟨0, by omega, rfl, BK, BR, HB1⟩
  case round =>
    clear BK BR HB1
    obtain ⟨k, hk, rfl, BK, BR, HB⟩ := hrel
    have i0 : ∀ w : World, (Instr.index 97 (.agg #[.pointer (some ⟨g, 0, none⟩), .pointer (some ⟨g, 1, none⟩), .pointer (some ⟨g, 2, none⟩), .pointer (some ⟨g, 3, none⟩), .pointer (some ⟨g, 4, none⟩)]) (.int .i64 0)).run Try.prog w = .ok (.pointer (some ⟨g, 0, none⟩)) w := fun _ => by kernel_rfl
    have i1 : ∀ w : World, (Instr.index 97 (.agg #[.pointer (some ⟨g, 0, none⟩), .pointer (some ⟨g, 1, none⟩), .pointer (some ⟨g, 2, none⟩), .pointer (some ⟨g, 3, none⟩), .pointer (some ⟨g, 4, none⟩)]) (.int .i64 1)).run Try.prog w = .ok (.pointer (some ⟨g, 1, none⟩)) w := fun _ => by kernel_rfl
    have i2 : ∀ w : World, (Instr.index 97 (.agg #[.pointer (some ⟨g, 0, none⟩), .pointer (some ⟨g, 1, none⟩), .pointer (some ⟨g, 2, none⟩), .pointer (some ⟨g, 3, none⟩), .pointer (some ⟨g, 4, none⟩)]) (.int .i64 2)).run Try.prog w = .ok (.pointer (some ⟨g, 2, none⟩)) w := fun _ => by kernel_rfl
    have i3 : ∀ w : World, (Instr.index 97 (.agg #[.pointer (some ⟨g, 0, none⟩), .pointer (some ⟨g, 1, none⟩), .pointer (some ⟨g, 2, none⟩), .pointer (some ⟨g, 3, none⟩), .pointer (some ⟨g, 4, none⟩)]) (.int .i64 3)).run Try.prog w = .ok (.pointer (some ⟨g, 3, none⟩)) w := fun _ => by kernel_rfl
    have i4 : ∀ w : World, (Instr.index 97 (.agg #[.pointer (some ⟨g, 0, none⟩), .pointer (some ⟨g, 1, none⟩), .pointer (some ⟨g, 2, none⟩), .pointer (some ⟨g, 3, none⟩), .pointer (some ⟨g, 4, none⟩)]) (.int .i64 4)).run Try.prog w = .ok (.pointer (some ⟨g, 4, none⟩)) w := fun _ => by kernel_rfl
    rcases (by omega : k = 0 ∨ k = 1 ∨ k = 2 ∨ k = 3 ∨ k = 4 ∨ k = 5) with rfl | rfl | rfl | rfl | rfl | rfl
    · have eb : bits BinOp.and IntKind.i64 (mask) 1 = bitF mask 0 := and_one _ (by omega) (by omega)
      have c0 : wr.cell? ⟨g, 0, none⟩ = some (.string (fldF x mask 0 0)) := (blk_cell BK.out 0).trans rfl
      have f0 := blk_frozen BK.out 0
      by_cases hb : bitF mask 0 = 0
      · have d1 : (bits BinOp.and IntKind.i64 (mask) 1 == 0) = true := by rw [eb, hb]; rfl
        have HN := Aside0.mk (blkF_clear x mask (show 0 < 5 by decide) hb)
        clear hb eb
        go_wp2
        go_roundw
        case rel => exact ⟨1, by decide, rfl, ⟨blk_put BK.out 0 _ HN.out⟩, ⟨blk_far BR.out (by show g + 1 ≠ g; omega) _⟩, ⟨below_set HB.out (by show w.heap.size ≤ g; have := HG.out; omega)⟩⟩
        case measure => simp [intOf]
      · have d1 : (bits BinOp.and IntKind.i64 (mask) 1 == 0) = false := by rw [eb]; exact beq_eq_false_iff_ne.mpr hb
        have HN := Aside0.mk (blkF_stay x mask (show 0 < 5 by decide) hb)
        clear hb eb
        go_wp2
        go_roundw
        case rel => exact ⟨1, by decide, rfl, ⟨by rw [← HN.out]; exact BK.out⟩, BR, HB⟩
        case measure => simp [intOf]
    · have eb : bits BinOp.and IntKind.i64 (mask / 2) 1 = bitF mask 1 := and_one _ (by omega) (by omega)
      have c1 : wr.cell? ⟨g, 1, none⟩ = some (.string (fldF x mask 1 1)) := (blk_cell BK.out 1).trans rfl
      have f1 := blk_frozen BK.out 1
      by_cases hb : bitF mask 1 = 0
      · have d1 : (bits BinOp.and IntKind.i64 (mask / 2) 1 == 0) = true := by rw [eb, hb]; rfl
        have HN := Aside0.mk (blkF_clear x mask (show 1 < 5 by decide) hb)
        clear hb eb
        go_wp2
        go_roundw
        case rel => exact ⟨2, by decide, rfl, ⟨blk_put BK.out 1 _ HN.out⟩, ⟨blk_far BR.out (by show g + 1 ≠ g; omega) _⟩, ⟨below_set HB.out (by show w.heap.size ≤ g; have := HG.out; omega)⟩⟩
        case measure => simp [intOf]
      · have d1 : (bits BinOp.and IntKind.i64 (mask / 2) 1 == 0) = false := by rw [eb]; exact beq_eq_false_iff_ne.mpr hb
        have HN := Aside0.mk (blkF_stay x mask (show 1 < 5 by decide) hb)
        clear hb eb
        go_wp2
        go_roundw
        case rel => exact ⟨2, by decide, rfl, ⟨by rw [← HN.out]; exact BK.out⟩, BR, HB⟩
        case measure => simp [intOf]
    · have eb : bits BinOp.and IntKind.i64 (mask / 4) 1 = bitF mask 2 := and_one _ (by omega) (by omega)
      have c2 : wr.cell? ⟨g, 2, none⟩ = some (.string (fldF x mask 2 2)) := (blk_cell BK.out 2).trans rfl
      have f2 := blk_frozen BK.out 2
      by_cases hb : bitF mask 2 = 0
      · have d1 : (bits BinOp.and IntKind.i64 (mask / 4) 1 == 0) = true := by rw [eb, hb]; rfl
        have HN := Aside0.mk (blkF_clear x mask (show 2 < 5 by decide) hb)
        clear hb eb
        go_wp2
        go_roundw
        case rel => exact ⟨3, by decide, rfl, ⟨blk_put BK.out 2 _ HN.out⟩, ⟨blk_far BR.out (by show g + 1 ≠ g; omega) _⟩, ⟨below_set HB.out (by show w.heap.size ≤ g; have := HG.out; omega)⟩⟩
        case measure => simp [intOf]
      · have d1 : (bits BinOp.and IntKind.i64 (mask / 4) 1 == 0) = false := by rw [eb]; exact beq_eq_false_iff_ne.mpr hb
        have HN := Aside0.mk (blkF_stay x mask (show 2 < 5 by decide) hb)
        clear hb eb
        go_wp2
        go_roundw
        case rel => exact ⟨3, by decide, rfl, ⟨by rw [← HN.out]; exact BK.out⟩, BR, HB⟩
        case measure => simp [intOf]
    · have eb : bits BinOp.and IntKind.i64 (mask / 8) 1 = bitF mask 3 := and_one _ (by omega) (by omega)
      have c3 : wr.cell? ⟨g, 3, none⟩ = some (.string (fldF x mask 3 3)) := (blk_cell BK.out 3).trans rfl
      have f3 := blk_frozen BK.out 3
      by_cases hb : bitF mask 3 = 0
      · have d1 : (bits BinOp.and IntKind.i64 (mask / 8) 1 == 0) = true := by rw [eb, hb]; rfl
        have HN := Aside0.mk (blkF_clear x mask (show 3 < 5 by decide) hb)
        clear hb eb
        go_wp2
        go_roundw
        case rel => exact ⟨4, by decide, rfl, ⟨blk_put BK.out 3 _ HN.out⟩, ⟨blk_far BR.out (by show g + 1 ≠ g; omega) _⟩, ⟨below_set HB.out (by show w.heap.size ≤ g; have := HG.out; omega)⟩⟩
        case measure => simp [intOf]
      · have d1 : (bits BinOp.and IntKind.i64 (mask / 8) 1 == 0) = false := by rw [eb]; exact beq_eq_false_iff_ne.mpr hb
        have HN := Aside0.mk (blkF_stay x mask (show 3 < 5 by decide) hb)
        clear hb eb
        go_wp2
        go_roundw
        case rel => exact ⟨4, by decide, rfl, ⟨by rw [← HN.out]; exact BK.out⟩, BR, HB⟩
        case measure => simp [intOf]
    · have eb : bits BinOp.and IntKind.i64 (mask / 16) 1 = bitF mask 4 := and_one _ (by omega) (by omega)
      have c4 : wr.cell? ⟨g, 4, none⟩ = some (.string (fldF x mask 4 4)) := (blk_cell BK.out 4).trans rfl
      have f4 := blk_frozen BK.out 4
      by_cases hb : bitF mask 4 = 0
      · have d1 : (bits BinOp.and IntKind.i64 (mask / 16) 1 == 0) = true := by rw [eb, hb]; rfl
        have HN := Aside0.mk (blkF_clear x mask (show 4 < 5 by decide) hb)
        clear hb eb
        go_wp2
        go_roundw
        case rel => exact ⟨5, by decide, rfl, ⟨blk_put BK.out 4 _ HN.out⟩, ⟨blk_far BR.out (by show g + 1 ≠ g; omega) _⟩, ⟨below_set HB.out (by show w.heap.size ≤ g; have := HG.out; omega)⟩⟩
        case measure => simp [intOf]
      · have d1 : (bits BinOp.and IntKind.i64 (mask / 16) 1 == 0) = false := by rw [eb]; exact beq_eq_false_iff_ne.mpr hb
        have HN := Aside0.mk (blkF_stay x mask (show 4 < 5 by decide) hb)
        clear hb eb
        go_wp2
        go_roundw
        case rel => exact ⟨5, by decide, rfl, ⟨by rw [← HN.out]; exact BK.out⟩, BR, HB⟩
        case measure => simp [intOf]
    · have c0 : wr.cell? ⟨g, 0, none⟩ = some (.string (fldF x mask 5 0)) := (blk_cell BK.out 0).trans rfl
      have c1 : wr.cell? ⟨g, 1, none⟩ = some (.string (fldF x mask 5 1)) := (blk_cell BK.out 1).trans rfl
      have c2 : wr.cell? ⟨g, 2, none⟩ = some (.string (fldF x mask 5 2)) := (blk_cell BK.out 2).trans rfl
      have c3 : wr.cell? ⟨g, 3, none⟩ = some (.string (fldF x mask 5 3)) := (blk_cell BK.out 3).trans rfl
      have c4 : wr.cell? ⟨g, 4, none⟩ = some (.string (fldF x mask 5 4)) := (blk_cell BK.out 4).trans rfl
      have r0 : wr.cell? ⟨g + 1, 0, none⟩ = some (.string ⟨#[]⟩) := (blk_cell BR.out 0).trans rfl
      have f0 := blk_frozen BR.out 0
      have r1 : wr.cell? ⟨g + 1, 1, none⟩ = some (.string ⟨#[]⟩) := (blk_cell BR.out 1).trans rfl
      have f1 := blk_frozen BR.out 1
      have r2 : wr.cell? ⟨g + 1, 2, none⟩ = some (.string ⟨#[]⟩) := (blk_cell BR.out 2).trans rfl
      have f2 := blk_frozen BR.out 2
      have r3 : wr.cell? ⟨g + 1, 3, none⟩ = some (.string ⟨#[]⟩) := (blk_cell BR.out 3).trans rfl
      have f3 := blk_frozen BR.out 3
      have r4 : wr.cell? ⟨g + 1, 4, none⟩ = some (.string ⟨#[]⟩) := (blk_cell BR.out 4).trans rfl
      have f4 := blk_frozen BR.out 4
      go_wp2
      refine with_world (P := fun x => bodyPost _ _ _ _ _ x) _ ?_
      intro w9 hw9
      have B9 : w9.heap[g + 1]? = some (.cells (blkF x mask 5) 32 (0, 0)) := by
        rw [hw9]
        exact blk_put (blk_put (blk_put (blk_put (blk_put BR.out 0 _ rfl) 1 _ rfl) 2 _ rfl) 3 _ rfl) 4 _ rfl
      have L9 : Below w.heap.size w w9 := by
        rw [hw9]
        have hg : w.heap.size ≤ g + 1 := by have := HG.out; omega
        exact below_set (below_set (below_set (below_set (below_set HB.out hg) hg) hg) hg) hg
      refine bodyPost_ret (results_cell_row rfl _ _ (g + 1) 32 (blkF x mask 5) (0, 0) _ rfl B9 Try.underlying32 rfl (by kernel_rfl)) rfl ⟨rfl, L9⟩
end Go.Proofs.Ytmflggbpiadkjaa.P

/- The contract of sheet.Match. -/
namespace Go.Proofs.Ytmflggbpiadkjaa.P
open Go.RowKit Go.Sort Go.Proofs.YtmflggbpiadkjaaW.PrintWords Go.Proofs.YtmflggbpiadkjaaW.PrintLast Go.Proofs.YtmflggbpiadkjaaW.PrintMore
set_option linter.unusedVariables false
set_option linter.unusedSimpArgs false
def matchL : List (ByteArray × ByteArray) → Bool
  | [] => true
  | p :: r => if p.1.toList = [] ∨ p.1.toList = p.2.toList then matchL r else false
/-- Does a key match a pattern? -/
def matchK (x y : S32) : Bool := matchL (flds x y)
set_option maxHeartbeats 8000000 in
set_option maxRecDepth 100000 in
theorem match_calls (x y : S32) (w : World) : Calls Try.prog 31 #[.agg #[.string x.f0, .string x.f1, .string x.f2, .string x.f3, .string x.f4], .agg #[.string y.f0, .string y.f1, .string y.f2, .string y.f3, .string y.f4]] w fun e w' => e = .returned (.bool (matchK x y)) ∧ Grw w w' := by
  go_enter Try.func31, Try.ntmps31
  go_upto_region 1 with (fail)
  refine with_world (P := fun x => Code.wp _ _ _ _ x) _ ?_
  intro w1 hw1
  obtain ⟨g, hg⟩ : ∃ g, w.heap.size = g := ⟨_, rfl⟩
  have BX := Aside0.mk (show w1.heap[g]? = some (.cells #[.string x.f0, .string x.f1, .string x.f2, .string x.f3, .string x.f4] 32 (0, 0)) from by rw [hw1, ← hg]; exact blk_alloc (blk_new w _) _)
  have BY := Aside0.mk (show w1.heap[g + 1]? = some (.cells #[.string y.f0, .string y.f1, .string y.f2, .string y.f3, .string y.f4] 32 (0, 0)) from by
    rw [hw1, ← hg]
    have := blk_new (w.alloc (.cells #[.string x.f0, .string x.f1, .string x.f2, .string x.f3, .string x.f4] 32)) (.cells #[.string y.f0, .string y.f1, .string y.f2, .string y.f3, .string y.f4] 32)
    rwa [show (w.alloc (.cells #[.string x.f0, .string x.f1, .string x.f2, .string x.f3, .string x.f4] 32)).heap.size = w.heap.size + 1 by simp] at this)
  have HG := Aside0.mk (show Grw w w1 from by rw [hw1]; exact ((Grw.refl w).alloc _).alloc _)
  rw [hg]
  clear hw1 hg
  have x0 : w1.cell? ⟨g, 0, none⟩ = some (.string x.f0) := (blk_cell BX.out 0).trans rfl
  have x1 : w1.cell? ⟨g, 1, none⟩ = some (.string x.f1) := (blk_cell BX.out 1).trans rfl
  have x2 : w1.cell? ⟨g, 2, none⟩ = some (.string x.f2) := (blk_cell BX.out 2).trans rfl
  have x3 : w1.cell? ⟨g, 3, none⟩ = some (.string x.f3) := (blk_cell BX.out 3).trans rfl
  have x4 : w1.cell? ⟨g, 4, none⟩ = some (.string x.f4) := (blk_cell BX.out 4).trans rfl
  have y0 : w1.cell? ⟨g + 1, 0, none⟩ = some (.string y.f0) := (blk_cell BY.out 0).trans rfl
  have y1 : w1.cell? ⟨g + 1, 1, none⟩ = some (.string y.f1) := (blk_cell BY.out 1).trans rfl
  have y2 : w1.cell? ⟨g + 1, 2, none⟩ = some (.string y.f2) := (blk_cell BY.out 2).trans rfl
  have y3 : w1.cell? ⟨g + 1, 3, none⟩ = some (.string y.f3) := (blk_cell BY.out 3).trans rfl
  have y4 : w1.cell? ⟨g + 1, 4, none⟩ = some (.string y.f4) := (blk_cell BY.out 4).trans rfl
  go_cut [5, 6, 8, 9, 10, 11] (fun v5 v6 _ _ _ _ wc => ∃ b c, v5 = .pointer (some ⟨b, 0, none⟩) ∧ v6 = .pointer (some ⟨c, 0, none⟩) ∧ Aside0 (wc.heap[b]? = some (.cells #[.string x.f0, .string x.f1, .string x.f2, .string x.f3, .string x.f4] 78 (0, 0))) ∧ Aside0 (wc.heap[c]? = some (.cells #[.string y.f0, .string y.f1, .string y.f2, .string y.f3, .string y.f4] 78 (0, 0))) ∧ Aside0 (Grw w wc))
  case first =>
    go_region_held3 (fun w' => w'.cell? ⟨g, 0, none⟩ = some (.string x.f0) ∧ w'.cell? ⟨g, 1, none⟩ = some (.string x.f1) ∧ w'.cell? ⟨g, 2, none⟩ = some (.string x.f2) ∧ w'.cell? ⟨g, 3, none⟩ = some (.string x.f3) ∧ w'.cell? ⟨g, 4, none⟩ = some (.string x.f4) ∧ w'.cell? ⟨g + 1, 0, none⟩ = some (.string y.f0) ∧ w'.cell? ⟨g + 1, 1, none⟩ = some (.string y.f1) ∧ w'.cell? ⟨g + 1, 2, none⟩ = some (.string y.f2) ∧ w'.cell? ⟨g + 1, 3, none⟩ = some (.string y.f3) ∧ w'.cell? ⟨g + 1, 4, none⟩ = some (.string y.f4)) (exact ⟨by (repeat (with_reducible first | apply keep_drew | apply keep_alloc)); with_reducible exact x0, by (repeat (with_reducible first | apply keep_drew | apply keep_alloc)); with_reducible exact x1, by (repeat (with_reducible first | apply keep_drew | apply keep_alloc)); with_reducible exact x2, by (repeat (with_reducible first | apply keep_drew | apply keep_alloc)); with_reducible exact x3, by (repeat (with_reducible first | apply keep_drew | apply keep_alloc)); with_reducible exact x4, by (repeat (with_reducible first | apply keep_drew | apply keep_alloc)); with_reducible exact y0, by (repeat (with_reducible first | apply keep_drew | apply keep_alloc)); with_reducible exact y1, by (repeat (with_reducible first | apply keep_drew | apply keep_alloc)); with_reducible exact y2, by (repeat (with_reducible first | apply keep_drew | apply keep_alloc)); with_reducible exact y3, by (repeat (with_reducible first | apply keep_drew | apply keep_alloc)); with_reducible exact y4⟩) (first | (go_at_call 65; (with_reducible refine (parts_calls x _).mono ?_); rintro e w' ⟨rfl, rfl⟩) | (go_at_call 65; (with_reducible refine (parts_calls y _).mono ?_); rintro e w' ⟨rfl, rfl⟩))
    all_goals
      go_wp2
      go_meet
      case rel =>
        refine ⟨_, _, rfl, rfl, ⟨?_⟩, ⟨?_⟩, ⟨?_⟩⟩
        · (repeat (first | with_reducible refine blk_drew ?_ | (refine blk_newAt _ _ _ ?_; simp; done) | with_reducible refine blk_alloc ?_ _))
        · (repeat (first | with_reducible refine blk_drew ?_ | (refine blk_newAt _ _ _ ?_; simp; done) | with_reducible refine blk_alloc ?_ _))
        · (repeat (first | exact HG.out | with_reducible apply Grw.drew | with_reducible apply Grw.alloc))
  case rest =>
    obtain ⟨b, c, rfl, rfl, HB, HC, HGW⟩ := hcut
    clear x0 x1 x2 x3 x4 y0 y1 y2 y3 y4 BX BY
    have HG2 := HGW
    clear HG HGW
    have HE0 := Aside0.mk (show matchL ((flds x y).drop 0) = matchK x y from rfl)
    go_wp2
    go_loopw [4, 7, 12, 13, 14, 15, 16, 17, 18, 19, 20, 21, 22, 23, 24, 25, 26, 27, 28] (fun _ _ v12 _ _ _ _ _ _ _ _ _ _ _ _ _ _ _ _ wr => ∃ k : Nat, k ≤ 5 ∧ v12 = .int .i64 k ∧ Aside0 (matchL ((flds x y).drop k) = matchK x y) ∧ Aside0 (wr.heap[b]? = some (.cells #[.string x.f0, .string x.f1, .string x.f2, .string x.f3, .string x.f4] 78 (0, 0))) ∧ Aside0 (wr.heap[c]? = some (.cells #[.string y.f0, .string y.f1, .string y.f2, .string y.f3, .string y.f4] 78 (0, 0))) ∧ Aside0 (Grw w wr)) (fun _ _ v12 _ _ _ _ _ _ _ _ _ _ _ _ _ _ _ _ _ => 5 - (intOf v12).toNat)
    case atStart => exact ⟨0, by omega, rfl, HE0, HB, HC, HG2⟩
    case round =>
      clear HE0 HB HC HG2
      obtain ⟨k, hk, rfl, HE, HB, HC, HG⟩ := hrel
      by_cases hlt : k < 5
      · have d1 : decide ((k : Int) < 5) = true := decide_eq_true (by omega)
        have d2 : decide (k < 5) = true := decide_eq_true hlt
        have p0 : (0 : Int) ≤ (k : Int) := by omega
        have p1 : (k : Int) < 5 := by omega
        have hd := HE.out
        rw [flds_drop x y hlt] at hd
        have hd : (if (kfld x k).toList = [] ∨ (kfld x k).toList = (kfld y k).toList then matchL ((flds x y).drop (k + 1)) else false) = matchK x y := hd
        have qb : wr.cell? ⟨b, k, none⟩ = some (.string (kfld x k)) := arr_cell HB.out hlt
        have qc : wr.cell? ⟨c, k, none⟩ = some (.string (kfld y k)) := arr_cell HC.out hlt
        obtain ⟨u, hu⟩ : ∃ u, kfld x k = u := ⟨_, rfl⟩
        obtain ⟨v, hv⟩ : ∃ v, kfld y k = v := ⟨_, rfl⟩
        rw [hu, hv] at hd
        rw [hu] at qb
        rw [hv] at qc
        clear hu hv
        by_cases he : u.toList = []
        · rw [if_pos (.inl he)] at hd
          have HD := Aside0.mk hd
          have e1 : u.toList.isEmpty = true := by rw [he]; rfl
          have e2 : (!u.toList.isEmpty) = false := by rw [e1]; rfl
          have e3 : (u.toList != []) = false := by rw [he]; rfl
          have e4 : (u.toList == []) = true := by rw [he]; rfl
          have e5 : (!(u.toList == [])) = false := by rw [e4]; rfl
          clear hd
          go_upto_region 5 with (fail)
          go_quiet (fail)
          go_wp2
          go_roundw
          case rel => exact ⟨k + 1, by omega, by go_num, HD, HB, HC, ⟨HG.out.drewN _⟩⟩
          case measure => simp [intOf]; omega
        · have e1 : u.toList.isEmpty = false := by cases h : u.toList with | nil => exact absurd h he | cons _ _ => rfl
          have e2 : (!u.toList.isEmpty) = true := by rw [e1]; rfl
          have e3 : (u.toList != []) = true := bne_iff_ne.mpr he
          have e4 : (u.toList == []) = false := beq_eq_false_iff_ne.mpr he
          have e5 : (!(u.toList == [])) = true := by rw [e4]; rfl
          by_cases hq : u.toList = v.toList
          · rw [if_pos (.inr hq)] at hd
            have HD := Aside0.mk hd
            have g1 : (u.toList != v.toList) = false := bne_eq_false_iff_eq.mpr hq
            have g2 : (u.toList == v.toList) = true := beq_iff_eq.mpr hq
            have g3 : (!(u.toList == v.toList)) = false := by rw [g2]; rfl
            clear hd hq
            go_upto_region 5 with (fail)
            go_quiet (fail)
            go_wp2
            go_roundw
            case rel => exact ⟨k + 1, by omega, by go_num, HD, HB, HC, ⟨HG.out.drewN _⟩⟩
            case measure => simp [intOf]; omega
          · rw [if_neg (fun h => h.elim he hq)] at hd
            have HD := Aside0.mk hd
            have g1 : (u.toList != v.toList) = true := bne_iff_ne.mpr hq
            have g2 : (u.toList == v.toList) = false := beq_eq_false_iff_ne.mpr hq
            have g3 : (!(u.toList == v.toList)) = true := by rw [g2]; rfl
            clear hd hq
            go_upto_region 5 with (fail)
            go_quiet (fail)
            go_wp2
            go_ret
            exact ⟨congrArg (fun z => Ending.returned (Value.bool z)) HD.out, HG.out.drewN _⟩
      · obtain rfl : k = 5 := by omega
        have hd : true = matchK x y := HE.out
        have HD := Aside0.mk hd
        clear hd
        go_wp2
        go_ret
        exact ⟨congrArg (fun z => Ending.returned (Value.bool z)) HD.out, HG.out⟩
end Go.Proofs.Ytmflggbpiadkjaa.P

/- The contracts, as the print asks for them. -/
namespace Go.Proofs.Ytmflggbpiadkjaa.P
open Go.RowKit Go.Sort Go.Proofs.YtmflggbpiadkjaaW.PrintWords Go.Proofs.YtmflggbpiadkjaaW.PrintLast Go.Proofs.YtmflggbpiadkjaaW.PrintMore
set_option linter.unusedVariables false
set_option linter.unusedSimpArgs false
def sheet_Cmp.f (a0_0 : ByteArray) (a0_1 : ByteArray) (a0_2 : ByteArray) (a0_3 : ByteArray) (a0_4 : ByteArray) (a1_0 : ByteArray) (a1_1 : ByteArray) (a1_2 : ByteArray) (a1_3 : ByteArray) (a1_4 : ByteArray) : Option Int := some (cmpK ⟨a0_0, a0_1, a0_2, a0_3, a0_4⟩ ⟨a1_0, a1_1, a1_2, a1_3, a1_4⟩)
theorem sheet_Cmp.calls (a0_0 : ByteArray) (a0_1 : ByteArray) (a0_2 : ByteArray) (a0_3 : ByteArray) (a0_4 : ByteArray) (a1_0 : ByteArray) (a1_1 : ByteArray) (a1_2 : ByteArray) (a1_3 : ByteArray) (a1_4 : ByteArray) (r : Int) (w : World) (h : sheet_Cmp.f a0_0 a0_1 a0_2 a0_3 a0_4 a1_0 a1_1 a1_2 a1_3 a1_4 = some r) :
    Calls Try.prog 29 #[.agg #[.string a0_0, .string a0_1, .string a0_2, .string a0_3, .string a0_4], .agg #[.string a1_0, .string a1_1, .string a1_2, .string a1_3, .string a1_4]] w fun e w' => e = .returned (.int .i64 r) ∧ Below w.heap.size w w' := by
  cases h
  refine (cmp_calls ⟨a0_0, a0_1, a0_2, a0_3, a0_4⟩ ⟨a1_0, a1_1, a1_2, a1_3, a1_4⟩ w).mono ?_
  rintro e w' ⟨rfl, hg⟩
  exact ⟨rfl, hg.below⟩
def sheet_Match.f (a0_0 : ByteArray) (a0_1 : ByteArray) (a0_2 : ByteArray) (a0_3 : ByteArray) (a0_4 : ByteArray) (a1_0 : ByteArray) (a1_1 : ByteArray) (a1_2 : ByteArray) (a1_3 : ByteArray) (a1_4 : ByteArray) : Option Bool := some (matchK ⟨a0_0, a0_1, a0_2, a0_3, a0_4⟩ ⟨a1_0, a1_1, a1_2, a1_3, a1_4⟩)
theorem sheet_Match.calls (a0_0 : ByteArray) (a0_1 : ByteArray) (a0_2 : ByteArray) (a0_3 : ByteArray) (a0_4 : ByteArray) (a1_0 : ByteArray) (a1_1 : ByteArray) (a1_2 : ByteArray) (a1_3 : ByteArray) (a1_4 : ByteArray) (r : Bool) (w : World) (h : sheet_Match.f a0_0 a0_1 a0_2 a0_3 a0_4 a1_0 a1_1 a1_2 a1_3 a1_4 = some r) :
    Calls Try.prog 31 #[.agg #[.string a0_0, .string a0_1, .string a0_2, .string a0_3, .string a0_4], .agg #[.string a1_0, .string a1_1, .string a1_2, .string a1_3, .string a1_4]] w fun e w' => e = .returned (.bool r) ∧ Below w.heap.size w w' := by
  cases h
  refine (match_calls ⟨a0_0, a0_1, a0_2, a0_3, a0_4⟩ ⟨a1_0, a1_1, a1_2, a1_3, a1_4⟩ w).mono ?_
  rintro e w' ⟨rfl, hg⟩
  exact ⟨rfl, hg.below⟩
/-- The key with the fields of the mask alone. -/
def keptK (x : S32) (mask : Int) : S32 := ⟨fldF x mask 5 0, fldF x mask 5 1, fldF x mask 5 2, fldF x mask 5 3, fldF x mask 5 4⟩
def sheet_kept.f (a0_0 : ByteArray) (a0_1 : ByteArray) (a0_2 : ByteArray) (a0_3 : ByteArray) (a0_4 : ByteArray) (a1 : Int) : Option (ByteArray × ByteArray × ByteArray × ByteArray × ByteArray) :=
  if 0 ≤ a1 ∧ a1 ≤ 31 then some ((keptK ⟨a0_0, a0_1, a0_2, a0_3, a0_4⟩ a1).f0, (keptK ⟨a0_0, a0_1, a0_2, a0_3, a0_4⟩ a1).f1, (keptK ⟨a0_0, a0_1, a0_2, a0_3, a0_4⟩ a1).f2, (keptK ⟨a0_0, a0_1, a0_2, a0_3, a0_4⟩ a1).f3, (keptK ⟨a0_0, a0_1, a0_2, a0_3, a0_4⟩ a1).f4) else none
theorem sheet_kept.calls (a0_0 : ByteArray) (a0_1 : ByteArray) (a0_2 : ByteArray) (a0_3 : ByteArray) (a0_4 : ByteArray) (a1 : Int) (r1 : ByteArray) (r2 : ByteArray) (r3 : ByteArray) (r4 : ByteArray) (r5 : ByteArray) (w : World) (h : sheet_kept.f a0_0 a0_1 a0_2 a0_3 a0_4 a1 = some (r1, r2, r3, r4, r5)) :
    Calls Try.prog 63 #[.agg #[.string a0_0, .string a0_1, .string a0_2, .string a0_3, .string a0_4], .int .i64 a1] w fun e w' => e = .returned (.agg #[.string r1, .string r2, .string r3, .string r4, .string r5]) ∧ Below w.heap.size w w' := by
  unfold sheet_kept.f at h
  by_cases hm : 0 ≤ a1 ∧ a1 ≤ 31
  · rw [if_pos hm] at h
    cases h
    exact kept_calls ⟨a0_0, a0_1, a0_2, a0_3, a0_4⟩ a1 hm.1 hm.2 w
  · rw [if_neg hm] at h
    cases h
def slices_Clone.f (l0 : List S34) : Option (List S34) := if l0.length ≤ 1000000 then some l0 else none
theorem slices_Clone.calls (A0 : Option Addr) (c0 : Nat) (l0 : List (S34)) (r : List (S34)) (w : World) (hr0 : Kd.C k34 w A0 l0.length l0) (hc0 : l0.length ≤ c0) (h : slices_Clone.f l0 = some r) :
    Calls Try.prog 62 #[.slice A0 l0.length c0] w fun e w' => ∃ v0_ : Value, e = .returned (v0_) ∧ Kd.R k34 34 w' w.heap.size (fun _ => True) v0_ r ∧ Below w.heap.size w w' := by
  unfold slices_Clone.f at h
  by_cases hm : l0.length ≤ 1000000
  · rw [if_pos hm] at h
    cases h
    refine (clone_calls A0 c0 l0 w hr0 hc0 hm).mono ?_
    rintro e w' ⟨v, rfl, hR, hB⟩
    exact ⟨v, rfl, Kd.R_mono hR (fun _ _ => trivial), hB⟩
  · rw [if_neg hm] at h
    cases h
def slices_Concat.f (l0 : List (List S34)) : Option (List S34) := if l0.length ≤ 1000 ∧ l0.flatten.length ≤ 1000000 then some l0.flatten else none
theorem slices_Concat.calls (A0 : Option Addr) (c0 : Nat) (l0 : List (List (S34))) (r : List (S34)) (w : World) (hr0 : Kd.C (Kd.slice 34 k34) w A0 l0.length l0) (hc0 : l0.length ≤ c0) (h : slices_Concat.f l0 = some r) :
    Calls Try.prog 68 #[.slice A0 l0.length c0] w fun e w' => ∃ v0_ : Value, e = .returned (v0_) ∧ Kd.R k34 34 w' w.heap.size (fun _ => True) v0_ r ∧ Below w.heap.size w w' := by
  unfold slices_Concat.f at h
  by_cases hm : l0.length ≤ 1000 ∧ l0.flatten.length ≤ 1000000
  · rw [if_pos hm] at h
    cases h
    refine (concat_calls A0 c0 l0 w hr0 hc0 hm.1 hm.2).mono ?_
    rintro e w' ⟨v, rfl, hR, hB⟩
    exact ⟨v, rfl, Kd.R_mono hR (fun _ _ => trivial), hB⟩
  · rw [if_neg hm] at h
    cases h
/-- Values that a 64-bit integer holds. -/
def OkS (l : List S34) : Prop := l.length ≤ 1000000 ∧ ∀ x ∈ l, i64ok x.f1 ∧ i64ok x.f2
instance (l : List S34) : Decidable (OkS l) := by unfold OkS; exact inferInstance
def sheet_Of.f (l0 : List S34) : Option (List S34 × Int) := if OkS l0 then some (ofK l0) else none
theorem sheet_Of.calls (A0 : Option Addr) (c0 : Nat) (l0 : List (S34)) (r1 : List (S34)) (r2 : Int) (w : World) (hr0 : Kd.C k34 w A0 l0.length l0) (hc0 : l0.length ≤ c0) (h : sheet_Of.f l0 = some (r1, r2)) :
    Calls Try.prog 19 #[.slice A0 l0.length c0] w fun e w' => ∃ v0_ : Value, e = .returned (.tuple #[v0_, .int .i64 r2]) ∧ Kd.R k34 34 w' w.heap.size (fun _ => True) v0_ r1 ∧ Below w.heap.size w w' := by
  unfold sheet_Of.f at h
  by_cases hm : OkS l0
  · rw [if_pos hm] at h
    have h2 : ofK l0 = (r1, r2) := Option.some.inj h
    have h1 := of_calls A0 c0 l0 w hr0 hc0 hm.1 hm.2
    rw [h2] at h1
    exact h1
  · rw [if_neg hm] at h
    cases h
end Go.Proofs.Ytmflggbpiadkjaa.P
