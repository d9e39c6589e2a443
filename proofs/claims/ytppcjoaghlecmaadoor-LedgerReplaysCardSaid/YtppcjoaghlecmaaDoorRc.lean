/- Texts of mine and of the print, joined. -/
import Derived.Test.YtppcjoaghlecmaaDoorRb
import Derived.Deep.RegionLaw
import Derived.Deep.RegionHeld3
import Derived.Test.YtppcjoaghlecmaaDoorRa
import Derived.Lib.AppendZerosOnto
import Derived.Laws.BitsLemmas
import Derived.Carry
import Derived.StringKeys
import Derived.Maps.OwnRows
import Derived.Maps.OwnSet
import Derived.Maps.Views
import Derived.Maps.Keyed
import Derived.Laws.MakeOwn
set_option linter.unusedVariables false
set_option linter.unusedSimpArgs false
set_option maxHeartbeats 16000000
open Go.RowKit Go.Proofs.YtppcjoaghlecmaaDoorW.PrintWords Go.Proofs.YtppcjoaghlecmaaDoorW.PrintLast Go.Proofs.YtppcjoaghlecmaaDoorW.PrintMore
namespace Go.Proofs.YtppcjoaghlecmaaDoor.P
section
open Go.Sort
def zsI (xs : List Int) (i : Nat) : List Int := xs.take i ++ List.replicate (xs.length - i) 0
theorem zsI_set (xs : List Int) {i : Nat} (h : i < xs.length) : (zsI xs i).set i xs[i] = zsI xs (i + 1) := by
 unfold zsI
 have h1 : (xs.take i).length = i := by simp; omega
 rw [List.set_append_right _ _ (by omega), h1, Nat.sub_self, show xs.length - i = (xs.length - (i + 1)) + 1 by omega, List.replicate_succ, List.set_cons_zero, List.take_add_one, List.getElem?_eq_getElem h]
 show _ = (xs.take i ++ [xs[i]]) ++ _
 rw [List.append_assoc]
 rfl
theorem zsI_all (xs : List Int) : zsI xs xs.length = xs := by unfold zsI; simp
def amts (g : List S112) : List Int := g.map S112.f1
def bass (g : List S112) : List Int := g.map S112.f2
def oneOf (g : List S112) (out : List S112) : Bool × List S112 :=
 ((totF (amts g)).2 && (totF (bass g)).2, if (totF (amts g)).2 = true ∧ (totF (bass g)).2 = true ∧ ((totF (amts g)).1 ≠ 0 ∨ (totF (bass g)).1 ≠ 0) then out ++ [⟨(qx g 0).f0, (totF (amts g)).1, (totF (bass g)).1⟩] else out)
structure But (X : Nat → Prop) (w w' : World) : Prop where
 os : w'.os = w.os
 tape : w'.tape = w.tape
 output : w'.output = w.output
 size : w.heap.size ≤ w'.heap.size
 block : ∀ k, k < w.heap.size → ¬ X k → w'.heap[k]? = w.heap[k]?
theorem But.refl (X : Nat → Prop) (w : World) : But X w w := ⟨rfl, rfl, rfl, Nat.le_refl _, fun _ _ _ => rfl⟩
theorem But.trans {X : Nat → Prop} {a b c : World} (h : But X a b) (k : But X b c) : But X a c :=
 ⟨k.os.trans h.os, k.tape.trans h.tape, k.output.trans h.output, Nat.le_trans h.size k.size, fun i hi hx => (k.block i (Nat.lt_of_lt_of_le hi h.size) hx).trans (h.block i hi hx)⟩
theorem But.mono {X Y : Nat → Prop} {w w' : World} (h : But X w w') (hx : ∀ k, k < w.heap.size → X k → Y k) : But Y w w' := ⟨h.os, h.tape, h.output, h.size, fun k hk hy => h.block k hk (fun e => hy (hx k hk e))⟩
theorem But.of_below {w w' : World} (h : Below w.heap.size w w') (X : Nat → Prop) : But X w w' := ⟨h.os, h.tape, h.output, h.size, fun k hk _ => h.block k hk⟩
theorem But.qjc {w w' : World} {row : Option Nat} (h : w.grownBy w' row) {X : Nat → Prop} (hx : ∀ k, row = some k → X k) : But X w w' := ⟨h.os, h.tape, h.output, h.size, fun k hk hn => h.block k hk (fun e => hn (hx k e.symm))⟩
theorem But.alloc {X : Nat → Prop} {a w : World} (h : But X a w) (o : Obj) : But X a (w.alloc o) := h.trans (But.of_below ((Below.refl _ w).alloc (Nat.le_refl _) o) X)
theorem But.drewN {X : Nat → Prop} {a w : World} (h : But X a w) (n : Nat) : But X a (w.drewN n) := h.trans (But.of_below (qbn (Below.refl _ w) n) X)
theorem But.setCell {X : Nat → Prop} {a w : World} (h : But X a w) {p : Addr} (hp : X p.block) (u : Value) : But X a (w.setCell p u) :=
 h.trans ⟨rfl, rfl, rfl, by simp [World.setCell], fun k hk hn => Below.heap_setCell _ _ _ _ (fun e => hn (by rw [e]; exact hp))⟩
theorem But.below {X : Nat → Prop} {w0 w w' : World} {n : Nat} (h0 : Below n w0 w) (h : But X w w') (hn : n ≤ w.heap.size) (hx : ∀ k, X k → n ≤ k) : Below n w0 w' :=
 h0.trans ⟨h.os, h.tape, h.output, h.size, fun k hk => h.block k (by omega) (fun e => by have := hx k e; omega)⟩
theorem But.obj {X : Nat → Prop} {w w' : World} (h : But X w w') {k : Nat} {o : Obj} (ho : w.heap[k]? = some o) (hx : ¬ X k) : w'.heap[k]? = some o := (h.block k (Array.getElem?_eq_some_iff.1 ho).1 hx).trans ho
theorem But.cell {X : Nat → Prop} {w w' : World} (h : But X w w') {a : Addr} {v : Value} (hv : w.cell? a = some v) (hx : ¬ X a.block) : w'.cell? a = some v :=
 (World.cell?_of_block (h.block a.block (World.block_lt_of_cell? w a hv) hx)).trans hv
def qhc (rs base : Nat) (ok : Nat → Prop) (v : Value) (g out : List S112) (w : World) (e : Ending) (w' : World) : Prop :=
 e = .returned (.bool (oneOf g out).1) ∧ But (fun k => k = rs ∨ v.ownBlock = some k) w w' ∧ ∃ v', w'.heap[rs]? = some (.cells #[v'] 32 (0, 0)) ∧ k112.R 112 w' base ok v' (oneOf g out).2
theorem qhc.same {rs base : Nat} {ok : Nat → Prop} {v : Value} {g out : List S112} {w w' : World} {r : Bool} (h : oneOf g out = (r, out)) (hb : Below w.heap.size w w') (hrs : w.heap[rs]? = some (.cells #[v] 32 (0, 0))) (hv : k112.R 112 w base ok v out) : qhc rs base ok v g out w (.returned (.bool r)) w' := by
 unfold qhc
 rw [h]
 exact ⟨rfl, But.of_below hb _, v, qcj hrs hb, Kd.qdw hv hb⟩
structure qne (w : World) (base ga gb n : Nat) (xs ys : List Int) : Prop where
 a : w.ownsRow base 3 1 (.slice (some ⟨ga, 0, none⟩) n n) n (nums .i64 xs)
 b : w.ownsRow base 3 1 (.slice (some ⟨gb, 0, none⟩) n n) n (nums .i64 ys)
 ne : ga ≠ gb
theorem qne.below {w w1 : World} {base ga gb n : Nat} {xs ys : List Int} (h : qne w base ga gb n xs ys) (hb : Below w.heap.size w w1) : qne w1 base ga gb n xs ys := ⟨qfx h.a hb, qfx h.b hb, h.ne⟩
theorem qne.set {w : World} {base ga gb n : Nat} {xs ys : List Int} (h : qne w base ga gb n xs ys) (i : Nat) (x y : Int) :
  qne ((w.setCell ⟨ga, i, none⟩ (.int .i64 x)).setCell ⟨gb, i, none⟩ (.int .i64 y)) base ga gb n (xs.set i x) (ys.set i y) := by
 have ha := own_store h.a (i : Int) x
 rw [Int.toNat_natCast] at ha
 have hb := own_other h.b ha.2 (.inr (by intro e; exact h.ne (Option.some.inj e).symm))
 have hb2 := own_store hb (i : Int) y
 rw [Int.toNat_natCast] at hb2
 exact ⟨own_other ha.1 hb2.2 (.inr (by intro e; exact h.ne (Option.some.inj e))), hb2.1, h.ne⟩
set_option maxRecDepth 100000 in
theorem one_calls (A : Option Addr) (c : Nat) (g : List S112) (rs base : Nat) (ok : Nat → Prop) (v : Value) (out : List S112) (w : World) (h : Kd.C k112 w A g.length g) (hc : g.length ≤ c) (hg0 : 0 < g.length) (hgl : g.length ≤ 1000000) (hi : ∀ x ∈ g, qdl x.f1 ∧ qdl x.f2)
  (hrs : w.heap[rs]? = some (.cells #[v] 32 (0, 0))) (hv : k112.R 112 w base ok v out) (hok : ∀ k, w.heap.size ≤ k → ok k) (hbs : base ≤ w.heap.size) (hol : out.length ≤ 1000000) (hsep : ∀ ad, A = some ad → v.ownBlock ≠ some ad.block ∧ rs ≠ ad.block) :
  Calls Tryd.prog 58 #[.slice A g.length c, .pointer (some ⟨rs, 0, none⟩)] w fun e w' => qhc rs base ok v g out w e w' := by
 have HC := qd.mk h
 have HRS := qd.mk hrs
 have HV := qd.mk hv
 have HOK := qd.mk hok
 have HI := qd.mk hi
 have HSEP := qd.mk hsep
 obtain ⟨n, hn⟩ : ∃ n, g.length = n := ⟨_, rfl⟩
 have HN := qd.mk hn
 have hna : (amts g).length = n := by rw [← hn]; exact List.length_map ..
 have hnb : (bass g).length = n := by rw [← hn]; exact List.length_map ..
 have HNA := qd.mk hna
 have HNB := qd.mk hnb
 rw [hn] at hc hg0 hgl HC ⊢
 clear h hrs hv hok hi hn hna hnb hsep
 have hmk := print_make (P := Tryd.prog) 43 3 .i64 8 Tryd.underlying43 info3 (by decide) n (by omega)
 go_enter Tryd.func58, Tryd.ntmps58
 go_upto_region 1 with (fail)
 go_cut [4, 5, 12, 13, 14, 15, 16, 17] (fun v4 v5 _ _ _ _ _ _ wc => ∃ ga gb : Nat, v4 = .slice (some ⟨ga, 0, none⟩) n n ∧ v5 = .slice (some ⟨gb, 0, none⟩) n n ∧ qd (qne wc w.heap.size ga gb n (zsI (amts g) 0) (zsI (bass g) 0)) ∧ qd (Below w.heap.size w wc))
 case first =>
  have hza : zsI (amts g) 0 = List.replicate n 0 := by unfold zsI; rw [HNA.out]; rfl
  have hzb : zsI (bass g) 0 = List.replicate n 0 := by unfold zsI; rw [HNB.out]; rfl
  have HZ := qd.mk (And.intro hza hzb)
  clear hza hzb
  have m1 := own_made w w.heap.size 3 .i64 n (Nat.le_refl _) (by omega)
  have m2 := own_made (w.alloc (.cells (madeCells #[.int .i64 0] n) 3)) w.heap.size 3 .i64 n (by simp) (by omega)
  rw [show (w.alloc (.cells (madeCells #[.int .i64 0] n) 3)).heap.size = w.heap.size + 1 by simp] at m2
  have m3 := qfx m1 (qbk (Below.refl _ (w.alloc (.cells (madeCells #[.int .i64 0] n) 3))) (.cells (madeCells #[.int .i64 0] n) 3))
  have M2 := qd.mk m2
  have M3 := qd.mk m3
  clear m1 m2 m3
  go_region
  all_goals
   go_wp2
   go_meet
  case rel => exact ⟨_, _, rfl, rfl, ⟨⟨by rw [HZ.out.1]; exact M3.out, by rw [HZ.out.2]; exact M2.out, by omega⟩⟩, ⟨qdo (qbk (qbk (Below.refl _ _) _) _)⟩⟩
  case rel => exact ⟨_, _, rfl, rfl, ⟨⟨by rw [HZ.out.1]; exact M2.out, by rw [HZ.out.2]; exact M3.out, by omega⟩⟩, ⟨qdo (qbk (qbk (Below.refl _ _) _) _)⟩⟩
 obtain ⟨ga, gb, rfl, rfl, HR, HB⟩ := hcut
 clear hmk
 go_wp2
 go_loopw [6, 7, 20, 21, 22, 23, 24, 25, 26, 27, 28, 29, 30, 31, 32, 33, 34, 35] (fun _ _ v20 _ _ _ _ _ _ _ _ _ _ _ _ _ _ _ wr => ∃ k : Nat, k ≤ n ∧ v20 = .int .i64 k ∧ qd (qne wr w.heap.size ga gb n (zsI (amts g) k) (zsI (bass g) k)) ∧ qd (Below w.heap.size w wr)) (fun _ _ v20 _ _ _ _ _ _ _ _ _ _ _ _ _ _ _ _ => n - (intOf v20).toNat)
 case atStart => exact ⟨0, Nat.zero_le _, rfl, HR, HB⟩
 clear HR HB
 obtain ⟨k, hk, rfl, HR, HB⟩ := hrel
 by_cases hlt : k < n
 ·have d1 : decide ((k : Int) < (n : Int)) = true := decide_eq_true (by omega)
  have d2 : decide (k < n) = true := decide_eq_true hlt
  have p0 : (0 : Int) ≤ (k : Int) := by omega
  have p1 : (k : Int) < (n : Int) := by omega
  have hgk : k < g.length := by rw [HN.out]; exact hlt
  obtain ⟨ad, e, q0, q1, q2, q3, q4, q5, q6⟩ := qep (Kd.qbw HC.out HB.out) (k : Int) (by omega) (by omega)
  rw [Int.toNat_natCast] at q0 q1 q2 q3 q4 q5 q6
  have hx0 : qx g (k : Int) = g[k] := by simp [qx, hgk]
  obtain ⟨x, hx⟩ : ∃ x, qx g (k : Int) = x := ⟨_, rfl⟩
  rw [hx] at q0 q1 q2 q3 q4 q5 q6 hx0
  have hka : k < (amts g).length := by rw [HNA.out]; exact hlt
  have hkb : k < (bass g).length := by rw [HNB.out]; exact hlt
  have HSA := qd.mk (show (zsI (amts g) k).set k x.f1 = zsI (amts g) (k + 1) from by rw [← zsI_set (amts g) hka]; congr 1; rw [hx0]; simp [amts])
  have HSB := qd.mk (show (zsI (bass g) k).set k x.f2 = zsI (bass g) (k + 1) from by rw [← zsI_set (bass g) hkb]; congr 1; rw [hx0]; simp [bass])
  have HAD := qd.mk e
  subst e
  clear hx hx0 hka hkb hgk
  go_upto_region 5 with (fail)
  refine qdj (P := fun x => Code.wp _ _ _ _ x) _ ?_
  intro w2 hw2
  obtain ⟨b, hb⟩ : ∃ b, wr.heap.size = b := ⟨_, rfl⟩
  have BX := qd.mk (show w2.heap[b]? = some (.cells #[.string x.f0.f0, .string x.f0.f1, .string x.f0.f2, .string x.f0.f3, .string x.f0.f4, .int .i64 x.f1, .int .i64 x.f2] 112 (0, 0)) from by rw [hw2, ← hb]; exact qdu wr _)
  have HB2 := qd.mk (show Below w.heap.size w w2 from by rw [hw2]; exact qbk HB.out _)
  have HR2 := qd.mk (show qne w2 w.heap.size ga gb n (zsI (amts g) k) (zsI (bass g) k) from by rw [hw2]; exact HR.out.below (qbk (Below.refl _ _) _))
  have hba : ¬ b = ga := fun e => by have := (HR.out.a.lt ga rfl).2; omega
  have hbb : ¬ b = gb := fun e => by have := (HR.out.b.lt gb rfl).2; omega
  rw [hb]
  clear hw2 hb q0 q1 q2 q3 q4 q5 q6 HB HR
  have c5 : w2.cell? ⟨b, 5, none⟩ = some (.int .i64 x.f1) := (qg BX.out 5).trans rfl
  have c6 : w2.cell? ⟨b, 6, none⟩ = some (.int .i64 x.f2) := (qg BX.out 6).trans rfl
  obtain ⟨a1, a2⟩ := own_at HR2.out.a (k : Int) p0 p1
  obtain ⟨b1, b2⟩ := own_at HR2.out.b (k : Int) p0 p1
  rw [Int.toNat_natCast] at a1 a2 b1 b2
  have hne := HR2.out.ne
  have hne' : ¬ gb = ga := fun e => hne e.symm
  go_region
  refine qdj (P := fun x => Exit.inBlock _ _ _ _ x) _ ?_
  intro w3 hw3
  have HR3 := qd.mk (show qne w3 w.heap.size ga gb n (zsI (amts g) (k + 1)) (zsI (bass g) (k + 1)) from by rw [hw3, ← HSA.out, ← HSB.out]; exact (HR2.out.set k x.f1 x.f2).below (qdo (Below.refl _ _)))
  have HB3 := qd.mk (show Below w.heap.size w w3 from by rw [hw3]; exact qdo (qdm (qdm HB2.out (HR2.out.a.lt ga rfl).1) (HR2.out.b.lt gb rfl).1))
  clear hw3 c5 c6 a1 a2 b1 b2 hne hne' hba hbb HR2 HB2 BX
  go_wp2
  go_roundw
  case rel => exact ⟨k + 1, by omega, by go_num, HR3, HB3⟩
  case measure => simp [intOf]; omega
 obtain rfl : k = n := by omega
 have d1 : decide ((k : Int) < (k : Int)) = false := decide_eq_false (by omega)
 have d2 : decide (k < k) = false := decide_eq_false (by omega)
 obtain ⟨⟨a1, a2⟩, hta⟩ : ∃ q, totF (amts g) = q := ⟨_, rfl⟩
 obtain ⟨⟨b1, b2⟩, htb⟩ : ∃ q, totF (bass g) = q := ⟨_, rfl⟩
 have hone : oneOf g out = (a2 && b2, if a2 = true ∧ b2 = true ∧ (a1 ≠ 0 ∨ b1 ≠ 0) then out ++ [⟨(qx g 0).f0, a1, b1⟩] else out) := by unfold oneOf; rw [hta, htb]
 have HONE := qd.mk hone
 have oa := HR.out.a
 have ob := HR.out.b
 rw [show zsI (amts g) k = amts g from by have := zsI_all (amts g); rwa [HNA.out] at this] at oa
 rw [show zsI (bass g) k = bass g from by have := zsI_all (bass g); rwa [HNB.out] at this] at ob
 have ra : (Kd.int .i64).C wr (some ⟨ga, 0, none⟩) (amts g).length (amts g) := (Kd.qbt (Kd.qlj (e := 3) (base := w.heap.size) (v := .slice (some ⟨ga, 0, none⟩) k k) (by rw [HNA.out]; exact oa) (ok := fun _ => True) (h1 := fun _ => rfl) (fun _ _ => trivial))).2.2
 have rb : (Kd.int .i64).C wr (some ⟨gb, 0, none⟩) (bass g).length (bass g) := (Kd.qbt (Kd.qlj (e := 3) (base := w.heap.size) (v := .slice (some ⟨gb, 0, none⟩) k k) (by rw [HNB.out]; exact ob) (ok := fun _ => True) (h1 := fun _ => rfl) (fun _ _ => trivial))).2.2
 have HTA := qd.mk (show ∀ W, Below wr.heap.size wr W → Calls Tryd.prog 59 #[.slice (some ⟨ga, 0, none⟩) k k] W fun e w' => e = .returned (.tuple #[.int .i64 a1, .bool a2]) ∧ qcs W w' from fun W hW => by
  have h_ := qlm (some ⟨ga, 0, none⟩) k (amts g) W (Kd.qbw ra hW) (by rw [HNA.out]; exact Nat.le_refl _) (by rw [HNA.out]; exact hgl) (fun x hx => by
   obtain ⟨y, hy, rfl⟩ := List.mem_map.1 hx
   exact (HI.out y hy).1)
  rw [HNA.out, hta] at h_
  exact h_)
 have HTB := qd.mk (show ∀ W, Below wr.heap.size wr W → Calls Tryd.prog 59 #[.slice (some ⟨gb, 0, none⟩) k k] W fun e w' => e = .returned (.tuple #[.int .i64 b1, .bool b2]) ∧ qcs W w' from fun W hW => by
  have h_ := qlm (some ⟨gb, 0, none⟩) k (bass g) W (Kd.qbw rb hW) (by rw [HNB.out]; exact Nat.le_refl _) (by rw [HNB.out]; exact hgl) (fun x hx => by
   obtain ⟨y, hy, rfl⟩ := List.mem_map.1 hx
   exact (HI.out y hy).2)
  rw [HNB.out, htb] at h_
  exact h_)
 clear hta htb hone oa ob ra rb HR
 go_upto_region 9 with (first | (go_at_call 59; (with_reducible refine (HTA.out _ (Below.refl _ _)).mono ?_); rintro e_ w4 ⟨rfl, hd_⟩; have HD4 := qd.mk hd_.below; clear hd_) | (go_at_call 59; (with_reducible refine (HTB.out _ HD4.out).mono ?_); rintro e_ w5 ⟨rfl, hd_⟩; have HD5 := qd.mk hd_.below; clear hd_))
 have HB5 := qd.mk (qcn (qcn HB.out HB.out.size HD4.out) (Nat.le_trans HB.out.size HD4.out.size) HD5.out)
 clear HTA HTB HD4 HD5 HB
 by_cases hno : a2 = true ∧ b2 = true ∧ (a1 ≠ 0 ∨ b1 ≠ 0)
 rotate_left
 ·have HOF := qd.mk (show oneOf g out = (a2 && b2, out) from by rw [HONE.out, if_neg hno])
  clear HONE
  cases a2 with
  | false =>
   clear hno
   go_wp2
   go_ret
   exact qhc.same HOF.out HB5.out HRS.out HV.out
  | true =>
   cases b2 with
   | false =>
    clear hno
    go_wp2
    go_ret
    exact qhc.same HOF.out HB5.out HRS.out HV.out
   | true =>
    have za : a1 = 0 := by
     rcases Decidable.em (a1 = 0) with h | h
     ·exact h
     ·exact absurd ⟨rfl, rfl, .inl h⟩ hno
    have zb : b1 = 0 := by
     rcases Decidable.em (b1 = 0) with h | h
     ·exact h
     ·exact absurd ⟨rfl, rfl, .inr h⟩ hno
    subst za
    subst zb
    clear hno
    go_wp2
    go_ret
    exact qhc.same HOF.out HB5.out HRS.out HV.out
 have HON := qd.mk (show oneOf g out = (true, out ++ [⟨(qx g 0).f0, a1, b1⟩]) from by rw [HONE.out, if_pos hno, hno.1, hno.2.1]; rfl)
 obtain ⟨rfl, rfl, hz⟩ := hno
 have crs : w5.cell? ⟨rs, 0, none⟩ = some v := (qg (qcj HRS.out HB5.out) 0).trans rfl
 have frs := qbq (qcj HRS.out HB5.out) 0
 have hrl := qeo (qcj HRS.out HB5.out)
 obtain ⟨ad, e, q0, q1, q2, q3, q4, q5, q6⟩ := qep (Kd.qbw HC.out HB5.out) 0 (by omega) (by omega)
 obtain ⟨x, hx⟩ : ∃ x, (qx g 0).f0 = x := ⟨_, rfl⟩
 have HAD := qd.mk e
 rw [hx] at q0 q1 q2 q3 q4
 rw [hx] at HON
 subst e
 have p1 : (0 : Int) < (k : Int) := by omega
 have ea : ad.add (Int.toNat 0 * 7) = ad := by simp [Addr.add]
 rw [ea] at q0 q1 q2 q3 q4
 clear q5 q6 hx HONE ea
 have HNR := qd.mk (show some rs ≠ v.ownBlock from fun e => by
  obtain ⟨cells, hcl⟩ := Kd.qea HV.out rs e.symm
  rw [HRS.out] at hcl
  cases hcl)
 have hva : some ad.block ≠ v.ownBlock := fun e => (HSEP.out ad rfl).1 e.symm
 have hna : ad.block ≠ rs := fun e => (HSEP.out ad rfl).2 e.symm
 by_cases ha0 : a1 = 0
 ·have e1 : (a1 != (0 : Int)) = false := bne_eq_false_iff_eq.mpr ha0
  have e2 : (b1 != (0 : Int)) = true := bne_iff_ne.mpr (hz.resolve_left (fun h => h ha0))
  clear ha0 hz
  go_upto_region 10 with (fail)
  go_region_law (first | (refine Kd.qes k112 (w0 := w5) (W := w5.drew) base (by rfl) (.tmp 58) (.tmp 66) 32 112 zc112 96 rfl Tryd.underlying32 qfk rfl (by decide) (by omega) v out ⟨x, a1, b1⟩ [.string x.f0, .string x.f1, .string x.f2, .string x.f3, .string x.f4, .int .i64 a1, .int .i64 b1] ok (fun _ => False) rfl rfl ?aP (fun _ hk => hk.elim) ?aF ?aO ?aB ?aS ?aL ?_; (case aP => exact qfw _ _ _ (⟨x, a1, b1⟩ : S112)); (case aF => exact fun k hk => HOK.out k (Nat.le_trans HB5.out.size hk)); (case aO => exact Kd.qbl (Kd.qdw HV.out HB5.out)); (case aB => exact ⟨rfl, rfl, rfl, Nat.le_refl _, fun _ _ => rfl⟩); (case aS => exact Nat.le_trans hbs HB5.out.size); (case aL => omega); intro v1 w6 hro hbl hg hat; obtain ⟨A1, c1, rfl⟩ := Kd.qct hro; have HO := qd.mk hro; have B6 := qer (qz (qcj HRS.out HB5.out)) hg HNR.out; have HB6 := qd.mk B6; have crs6 : w6.cell? ⟨rs, 0, none⟩ = some v := (qg B6 0).trans rfl; have frs6 := qbq B6 0; have HG := qd.mk hg; have HAT := qd.mk hat;clear hro hbl hg hat B6))
  all_goals
   go_wp2
   go_ret
   unfold qhc
   rw [HON.out]
   have hbd : But (fun k => k = rs ∨ v.ownBlock = some k) w w5.drew := But.of_below (qdo HB5.out) _
   have hb6 := hbd.trans (But.qjc HG.out (fun k e => .inr e))
   refine ⟨rfl, hb6.setCell (.inl rfl) _, _, qcr HB6.out 0 _ rfl, ?_⟩
   have h_ := Kd.qdt (ok' := ok) (Kd.qjh (p := ⟨rs, 0, none⟩) (u := .slice A1 (out.length + 1) c1) (Kd.qjs (Kd.qgt HO.out) HB6.out (by decide)) (fun k hk => hk.2)) (fun k hk => hk.1.1)
   rw [show (out ++ [(⟨x, a1, b1⟩ : S112)]).length = out.length + 1 by simp] at h_
   exact h_
 have e1 : (a1 != (0 : Int)) = true := bne_iff_ne.mpr ha0
 clear ha0 hz
 go_upto_region 10 with (fail)
 go_region_law (first | (refine Kd.qes k112 (w0 := w5) (W := w5.drew) base (by rfl) (.tmp 58) (.tmp 66) 32 112 zc112 96 rfl Tryd.underlying32 qfk rfl (by decide) (by omega) v out ⟨x, a1, b1⟩ [.string x.f0, .string x.f1, .string x.f2, .string x.f3, .string x.f4, .int .i64 a1, .int .i64 b1] ok (fun _ => False) rfl rfl ?aP (fun _ hk => hk.elim) ?aF ?aO ?aB ?aS ?aL ?_; (case aP => exact qfw _ _ _ (⟨x, a1, b1⟩ : S112)); (case aF => exact fun k hk => HOK.out k (Nat.le_trans HB5.out.size hk)); (case aO => exact Kd.qbl (Kd.qdw HV.out HB5.out)); (case aB => exact ⟨rfl, rfl, rfl, Nat.le_refl _, fun _ _ => rfl⟩); (case aS => exact Nat.le_trans hbs HB5.out.size); (case aL => omega); intro v1 w6 hro hbl hg hat; obtain ⟨A1, c1, rfl⟩ := Kd.qct hro; have HO := qd.mk hro; have B6 := qer (qz (qcj HRS.out HB5.out)) hg HNR.out; have HB6 := qd.mk B6; have crs6 : w6.cell? ⟨rs, 0, none⟩ = some v := (qg B6 0).trans rfl; have frs6 := qbq B6 0; have HG := qd.mk hg; have HAT := qd.mk hat;clear hro hbl hg hat B6))
 all_goals
  go_wp2
  go_ret
  unfold qhc
  rw [HON.out]
  have hbd : But (fun k => k = rs ∨ v.ownBlock = some k) w w5.drew := But.of_below (qdo HB5.out) _
  have hb6 := hbd.trans (But.qjc HG.out (fun k e => .inr e))
  refine ⟨rfl, hb6.setCell (.inl rfl) _, _, qcr HB6.out 0 _ rfl, ?_⟩
  have h_ := Kd.qdt (ok' := ok) (Kd.qjh (p := ⟨rs, 0, none⟩) (u := .slice A1 (out.length + 1) c1) (Kd.qjs (Kd.qgt HO.out) HB6.out (by decide)) (fun k hk => hk.2)) (fun k hk => hk.1.1)
  rw [show (out ++ [(⟨x, a1, b1⟩ : S112)]).length = out.length + 1 by simp] at h_
  exact h_
end
section
attribute [local go_sem] qfp qfn qgk qgj qex qew qfo qfm
def qhn.f (a0_0 : ByteArray) (a0_1 : ByteArray) (a0_2 : Int) (a0_3 : Int) (a0_4 : ByteArray) (a0_5 : ByteArray) (l0_6 : List (S213)) : Option (ByteArray) := some a0_1
set_option maxRecDepth 100000 in
theorem qhn.calls (a0_0 : ByteArray) (a0_1 : ByteArray) (a0_2 : Int) (a0_3 : Int) (a0_4 : ByteArray) (a0_5 : ByteArray) (A0_6 : Option Addr) (c0_6 : Nat) (l0_6 : List (S213)) (r : ByteArray) (w : World) (hr0_6 : Kd.C k213 w A0_6 l0_6.length l0_6) (hc0_6 : l0_6.length ≤ c0_6) (h : qhn.f a0_0 a0_1 a0_2 a0_3 a0_4 a0_5 l0_6 = some r) :
  Calls Tryd.prog 136 #[.agg #[.string a0_0, .string a0_1, .int .i64 a0_2, .int .i64 a0_3, .string a0_4, .string a0_5, .slice A0_6 l0_6.length c0_6]] w fun e w' => e = .returned (.string r) ∧ Below w.heap.size w w' := by
 have hu109 := Tryd.underlying109
 have HR0_6 := qd.mk hr0_6
 have HC0_6 := qd.mk hc0_6
 clear hr0_6 hc0_6
 have HB := qd.mk (Below.refl w.heap.size w)
 have H : (some a0_1) = some r := h
 clear h
 obtain rfl := Option.some.inj H
 go_enter Tryd.func136, Tryd.ntmps136
 go_wp2_with (first | ((with_reducible refine qbx (N := 1) rfl ?_); refine qbu ?hg (N := 1) ?hd (cs := #[.string a0_0, .string a0_1, .int .i64 a0_2, .int .i64 a0_3, .string a0_4, .string a0_5, .slice A0_6 l0_6.length c0_6]) (t := 109) ?hr ?_; (case hd => rfl); (case hg => rfl); (case hr => first | (go_simp; done) | (go_simp; rfl)); intro gb143 hg w2 hbox hb; have n0_ := qd.mk (qw (bw_) hb); have n1_ := qd.mk (hbox); have n2_ := qd.mk (gw_ (w := w) hg); have n3_ := qd.mk (gw_ (w := w) hg); clear HB; have HB := n0_; have BK143 := n1_; have GW143 := n2_; have GE143 := n3_; clear n0_ n1_ n2_ n3_; clear hb hbox hg; obtain ⟨cz3_0, cz3_1, cz3_2, cz3_3, cz3_4, cz3_5, cz3_6⟩ := bc7_ (w := w2) BK143.out; obtain ⟨fz3_0, fz3_1, fz3_2, fz3_3, fz3_4, fz3_5, fz3_6⟩ := bf7_ BK143.out))
 go_ret
 exact ⟨ew_, bwx_⟩
end
section
open Go.Sort
theorem frozen_own {w : World} {g : Nat} {cells : Array Value} {e : TypeId} (h : w.heap[g]? = some (.cells cells e (0, 0))) (j : Nat) : w.frozen? ⟨g, j, none⟩ = false := by
 simp [World.frozen?, h]
theorem qnr {w : World} {base : Nat} {ok : Nat → Prop} {g cap : Nat} {l : List S112} (h : k112.R 112 w base ok (.slice (some ⟨g, 0, none⟩) l.length cap) l) : HoldsK e34 7 w g 0 l.toArray := by
 obtain ⟨cells, hty⟩ := Kd.qea h g rfl
 have hc := (Kd.qbt h).2.2
 intro t ht
 rw [size_flatK, List.size_toArray] at ht
 refine ⟨?_, frozen_own hty _⟩
 have hd : t / 7 < l.length := Nat.div_lt_of_lt_mul (by omega)
 have hm : t % 7 < 7 := Nat.mod_lt _ (by decide)
 obtain ⟨ad, e, hcell⟩ := hc.2.2 (by omega)
 cases e
 obtain ⟨c, h1, h2, h3⟩ := hcell (t / 7) l[t / 7] (List.getElem?_eq_getElem hd)
 obtain rfl := qir h2
 rw [get_flatK _ _ _ _ (by rw [List.size_toArray]; exact ht)]
 have hx : (l.toArray)[t / 7]! = l[t / 7] := by rw [getElem!_pos _ _ (by simpa using hd)]; simp
 rw [hx]
 have h4 := h3 (t % 7) (e34 l[t / 7])[t % 7]! (by
  show (e34 l[t / 7])[t % 7]? = _
  rw [List.getElem?_eq_getElem (by rw [qmm]; exact hm), getElem!_pos _ _ (by rw [qmm]; exact hm)])
 have e5 : (⟨g, 0, none⟩ : Addr).add (t / 7 * k112.sz + t % 7) = ⟨g, 0 + t, none⟩ := by
  have : t / 7 * k112.sz + t % 7 = t := by show t / 7 * 7 + t % 7 = t; omega
  rw [this]
  unfold Addr.add
  by_cases h0 : t = 0 <;> simp [h0]
 rw [e5] at h4
 exact h4
theorem C_of_holds {W : World} {g : Nat} {d : Array S112} (h : HoldsK e34 7 W g 0 d) (hl : d.size ≤ 1000000) : Kd.C k112 W (some ⟨g, 0, none⟩) d.toList.length d.toList := by
 refine ⟨rfl, by rw [Array.length_toList]; omega, fun hp => ⟨_, rfl, fun j p hj => ?_⟩⟩
 have hj2 : j < d.size := by
  have := (List.getElem?_eq_some_iff.1 hj).1
  rwa [Array.length_toList] at this
 have hp2 : d[j]! = p := by
  rw [getElem!_pos d j hj2]
  have := (List.getElem?_eq_some_iff.1 hj).2
  simpa using this
 refine ⟨e34 p, rfl, k112_mk W p, fun i u hu => ?_⟩
 have hi : i < 7 := by
  have := (List.getElem?_eq_some_iff.1 hu).1
  rwa [qmm] at this
 have h1 := (h.cell hj2 hi).1
 rw [hp2, getElem!_pos _ i (by rw [qmm]; exact hi), (List.getElem?_eq_some_iff.1 hu).2] at h1
 have e5 : (⟨g, 0, none⟩ : Addr).add (j * k112.sz + i) = ⟨g, 0 + j * 7 + i, none⟩ := by
  show (⟨g, 0, none⟩ : Addr).add (j * 7 + i) = _
  unfold Addr.add
  by_cases h0 : j * 7 + i = 0
  ·rw [if_pos h0, Nat.add_assoc, h0]
  rw [if_neg h0]; simp
 rw [e5]
 exact h1
theorem C_but {X : Nat → Prop} {w w' : World} {A : Option Addr} {n : Nat} {l : List S112} (h : Kd.C k112 w A n l) (hb : But X w w') (hx : ∀ ad, A = some ad → ¬ X ad.block) : Kd.C k112 w' A n l := by
 refine ⟨h.1, h.2.1, fun hp => ?_⟩
 obtain ⟨ad, rfl, hc⟩ := h.2.2 hp
 refine ⟨ad, rfl, fun j p hj => ?_⟩
 obtain ⟨c, h1, h2, h3⟩ := hc j p hj
 obtain rfl := qir h2
 refine ⟨_, rfl, k112_mk _ p, fun i u hu => hb.cell (h3 i u hu) ?_⟩
 rw [show (ad.add (j * k112.sz + i)).block = ad.block by unfold Addr.add; split <;> rfl]
 exact hx ad rfl
theorem But.of_swk {w W : World} {blk off : Nat} {d : Array S112} (h : SWK e34 7 w blk off d W) : But (fun k => k = blk) w W := by
 have hle := h.le
 obtain ⟨n, os, rfl⟩ := h
 refine ⟨rfl, rfl, rfl, hle, fun k hk hx => ?_⟩
 unfold sortWorldK
 rw [heap_grow_old _ os (by rw [size_putRowK]; exact hk)]
 unfold putRowK putRow mapBlock
 rw [Array.getElem?_modify, if_neg (fun e => hx e.symm)]
 rfl
def goOf : List S112 → List S112 → Bool × List S112
 | [], out => (true, out)
 | x :: r, out => if (oneOf (x :: r.takeWhile (fun y => decide (cmpK x.f0 y.f0 = 0))) out).1 = true then goOf (r.dropWhile (fun y => decide (cmpK x.f0 y.f0 = 0))) (oneOf (x :: r.takeWhile (fun y => decide (cmpK x.f0 y.f0 = 0))) out).2 else (false, out)
 termination_by l => l.length
 decreasing_by
  have := (List.dropWhile_sublist (fun y : S112 => decide (cmpK x.f0 y.f0 = 0)) (l := r)).length_le
  simp only [List.length_cons]
  omega
theorem qng {α : Type} (p : α → Bool) : ∀ (l : List α) (k : Nat), k ≤ l.length → (∀ j, (h : j < l.length) → j < k → p l[j] = true) → (∀ h : k < l.length, p l[k] = false) → l.takeWhile p = l.take k ∧ l.dropWhile p = l.drop k
 | [], k, hk, _, _ => by simp
 | x :: r, 0, _, _, h2 => by
  have := h2 (by simp)
  simp only [List.getElem_cons_zero] at this
  simp [this]
 | x :: r, k + 1, hk, h1, h2 => by
  have hx : p x = true := h1 0 (by simp) (by omega)
  have ih := qng p r k (by simpa using hk) (fun j hj hjk => by
   have := h1 (j + 1) (by simpa using hj) (by omega)
   simpa using this) (fun hk2 => by
   have := h2 (by simpa using hk2)
   simpa using this)
  rw [List.takeWhile_cons, if_pos hx, List.dropWhile_cons, if_pos hx, ih.1, ih.2]
  exact ⟨rfl, rfl⟩
theorem go_step {s out : List S112} {a b : Nat} (ha : a < b) (hb : b ≤ s.length) (h1 : ∀ j, a ≤ j → j < b → cmpK (qx s a).f0 (qx s j).f0 = 0) (h2 : b < s.length → ¬ cmpK (qx s a).f0 (qx s b).f0 = 0) :
  goOf (s.drop a) out = if (oneOf ((s.take b).drop a) out).1 = true then goOf (s.drop b) (oneOf ((s.take b).drop a) out).2 else (false, out) := by
 have hal : a < s.length := by omega
 have rd : ∀ j, (h : j < s.length) → qx s (j : Int) = s[j] := fun j h => by simp [qx, h]
 have e1 : s.drop a = s[a] :: s.drop (a + 1) := List.drop_eq_getElem_cons hal
 have hw := qng (fun y : S112 => decide (cmpK s[a].f0 y.f0 = 0)) (s.drop (a + 1)) (b - (a + 1)) (by rw [List.length_drop]; omega) (fun j hj hjk => by
  rw [List.length_drop] at hj
  have h3 := h1 (a + 1 + j) (by omega) (by omega)
  rw [rd a hal, rd (a + 1 + j) (by omega)] at h3
  rw [List.getElem_drop]
  exact decide_eq_true h3) (fun hk => by
  rw [List.length_drop] at hk
  have h3 := h2 (by omega)
  rw [rd a hal, rd b (by omega)] at h3
  rw [List.getElem_drop]
  have e2 : a + 1 + (b - (a + 1)) = b := by omega
  simp only [e2]
  exact decide_eq_false h3)
 have e2 : (s.take b).drop a = s[a] :: (s.drop (a + 1)).take (b - (a + 1)) := by
  rw [← List.drop_take, List.drop_eq_getElem_cons (by rw [List.length_take]; omega), List.getElem_take]
 have e3 : (s.drop (a + 1)).drop (b - (a + 1)) = s.drop b := by rw [List.drop_drop]; congr 1; omega
 rw [e1, goOf, hw.1, hw.2, e2, e3]
theorem goOf_nil (out : List S112) : goOf [] out = (true, out) := by rw [goOf]
theorem oneOf_len (g out : List S112) : (oneOf g out).2.length ≤ out.length + 1 := by
 unfold oneOf
 split
 ·simp
 ·simp
set_option maxRecDepth 1000000 in
theorem insertion_nil (A : Option Addr) (c : Nat) (f : Value) (w : World) : Calls Tryd.prog 175 #[.slice A 0 c, .int .i64 0, .int .i64 0, f] w fun e w' => e = .returned (.tuple #[]) ∧ w' = w := by
 go_enter Tryd.func175, Tryd.ntmps175
 go_wp2
 go_loopw [8, 9, 12, 13, 14, 15, 16, 17, 18, 19, 20, 21, 22, 23, 24, 25, 26, 27, 28, 29, 30, 31, 32, 33, 34, 35, 36, 37, 38, 39, 40, 41, 42, 43, 44, 45, 46, 47, 48, 49, 50, 51, 52] (fun v8 _ _ _ _ _ _ _ _ _ _ _ _ _ _ _ _ _ _ _ _ _ _ _ _ _ _ _ _ _ _ _ _ _ _ _ _ _ _ _ _ _ _ wr => v8 = .int .i64 1 ∧ wr = w) (fun _ _ _ _ _ _ _ _ _ _ _ _ _ _ _ _ _ _ _ _ _ _ _ _ _ _ _ _ _ _ _ _ _ _ _ _ _ _ _ _ _ _ _ _ => 0)
 case atStart => exact ⟨rfl, rfl⟩
 obtain ⟨rfl, rfl⟩ := hrel
 go_wp2
 go_end0
 exact ⟨rfl, rfl⟩
set_option maxRecDepth 1000000 in
theorem stable_nil (A : Option Addr) (c : Nat) (f : Value) (w : World) : Calls Tryd.prog 148 #[.slice A 0 c, .int .i64 0, f] w fun e w' => e = .returned (.tuple #[]) ∧ w' = w := by
 have HIN := qd.mk (insertion_nil A c f)
 go_enter Tryd.func148, Tryd.ntmps148
 go_wp2
 go_loopw [7, 8, 11, 12, 13, 14, 15, 16, 17, 18, 19, 20, 21, 22] (fun v7 v8 _ _ _ _ _ _ _ _ _ _ _ _ wr => v7 = .int .i64 0 ∧ v8 = .int .i64 20 ∧ wr = w) (fun _ _ _ _ _ _ _ _ _ _ _ _ _ _ _ => 0)
 case atStart => exact ⟨rfl, rfl, rfl⟩
 obtain ⟨rfl, rfl, rfl⟩ := hrel
 go_upto_region 7 with (first | (go_at_call 175; refine (HIN.out _).mono ?_; rintro e_ w2 ⟨rfl, rfl⟩))
 go_loopw [6, 7, 8, 9, 28, 29, 30, 31, 32, 33, 34, 35, 36, 37, 38, 39, 40, 41, 42, 43, 44, 45, 46, 47, 48, 49, 50, 51, 52, 53, 54, 55, 56, 57, 58, 59, 60, 61, 62] (fun v6 _ _ _ _ _ _ _ _ _ _ _ _ _ _ _ _ _ _ _ _ _ _ _ _ _ _ _ _ _ _ _ _ _ _ _ _ _ _ wr => v6 = .int .i64 20 ∧ wr = w2) (fun _ _ _ _ _ _ _ _ _ _ _ _ _ _ _ _ _ _ _ _ _ _ _ _ _ _ _ _ _ _ _ _ _ _ _ _ _ _ _ _ => 0)
 case atStart => exact ⟨rfl, rfl⟩
 obtain ⟨rfl, rfl⟩ := hrel
 go_wp2
 go_end0
 exact ⟨rfl, rfl⟩
theorem qmy (A : Option Addr) (c : Nat) (f : Value) (w : World) : Calls Tryd.prog 108 #[.slice A 0 c, f] w fun e w' => e = .returned (.tuple #[]) ∧ w' = w := by
 have HC := qd.mk (stable_nil A c f)
 go_enter Tryd.func108, Tryd.ntmps108
 go_wp2_with (first | (go_at_call 148; refine (HC.out _).mono ?_; rintro e_ w2 ⟨rfl, rfl⟩))
 go_end0
 exact ⟨rfl, rfl⟩
theorem mrg_perm {l : List S112} {s : Array S112} (h : Mrg ltC 0 l.toArray.size l.toArray s) : s.toList.Perm l := by
 have h1 := h.perm.2.2
 have h2 := h.perm.1
 rw [← h2, Array.extract_size] at h1
 rw [h2, Array.extract_size] at h1
 exact h1
def GrpPost (rs base : Nat) (l : List S112) (w : World) (e : Ending) (w' : World) : Prop :=
 ∃ s : Array S112, Mrg ltC 0 l.toArray.size l.toArray s ∧ e = .returned (.bool (goOf s.toList []).1) ∧ But (fun k => k = rs) w w' ∧
  (∃ v, w'.heap[rs]? = some (.cells #[v] 32 (0, 0)) ∧ ((goOf s.toList []).1 = true → k112.R 112 w' base (fun k => w.heap.size ≤ k) v (goOf s.toList []).2))
structure Box2 (w : World) (pk pc : Nat) : Prop where
 k : w.heap[pk]? = some (.cells #[.func (.func 61) #[] #[]] 132 (0, 0))
 c : w.heap[pc]? = some (.cells #[.func (.func 62) #[] #[]] 133 (0, 0))
theorem Box2.but {X : Nat → Prop} {w w' : World} {pk pc : Nat} (h : Box2 w pk pc) (hb : But X w w') (hk : ¬ X pk) (hc : ¬ X pc) : Box2 w' pk pc := ⟨hb.obj h.k hk, hb.obj h.c hc⟩
theorem Box2.cells {w : World} {pk pc : Nat} (h : Box2 w pk pc) : w.cell? ⟨pk, 0, none⟩ = some (.func (.func 61) #[] #[]) ∧ w.cell? ⟨pc, 0, none⟩ = some (.func (.func 62) #[] #[]) := ⟨(qg h.k 0).trans rfl, (qg h.c 0).trans rfl⟩
set_option maxRecDepth 100000 in
theorem grouped_nil (A : Option Addr) (c rs base : Nat) (w : World) (h : Kd.C k112 w A 0 []) (hrs : w.heap[rs]? = some (.cells #[.slice none 0 0] 32 (0, 0))) :
  Calls Tryd.prog 60 #[.slice A 0 c, .func (.func 61) #[] #[], .func (.func 62) #[] #[], .func (.func 58) #[] #[.pointer (some ⟨rs, 0, none⟩)]] w fun e w' => GrpPost rs base [] w e w' := by
 have HC := qd.mk h
 have HRS := qd.mk hrs
 clear h hrs
 go_enter Tryd.func60, Tryd.ntmps60
 go_upto_region 1 with (fail)
 refine qdj (P := fun x => Code.wp _ _ _ _ x) _ ?_
 intro w1 hw1
 have HB1 := qd.mk (show Below w.heap.size w w1 from by rw [hw1]; exact qbk (qbk (Below.refl _ _) _) _)
 clear hw1
 have HC1 := qd.mk (Kd.qbw HC.out HB1.out)
 go_upto_region 2 with (first | (go_at_call 63; (refine (qmo A c [] _ HC1.out (Nat.zero_le _) (by decide)).mono ?_); rintro e_ w2 ⟨v, rfl, hR, hB⟩; obtain ⟨A1, c1, rfl⟩ := Kd.qct hR; have HB2 := qd.mk (qcn HB1.out HB1.out.size hB); clear hR hB))
 go_upto_region 3 with (first | (go_at_call 108; (refine (qmy A1 c1 _ _).mono ?_); rintro e_ w3 ⟨rfl, rfl⟩))
 go_wp2
 go_loopw [10, 11, 17, 18, 19, 20, 21, 22, 23, 24, 25, 26, 27, 28, 29, 30, 31, 32, 33, 34, 35, 36, 37, 38, 39, 40, 41, 42, 43, 44, 45, 46, 47, 48, 49, 50, 51, 52, 53] (fun v10 _ _ _ _ _ _ _ _ _ _ _ _ _ _ _ _ _ _ _ _ _ _ _ _ _ _ _ _ _ _ _ _ _ _ _ _ _ _ wr => v10 = .int .i64 0 ∧ wr = w3) (fun _ _ _ _ _ _ _ _ _ _ _ _ _ _ _ _ _ _ _ _ _ _ _ _ _ _ _ _ _ _ _ _ _ _ _ _ _ _ _ _ => 0)
 case atStart => exact ⟨rfl, rfl⟩
 obtain ⟨rfl, rfl⟩ := hrel
 go_wp2
 go_ret
 refine ⟨#[], Mrg.refl (sorted_empty (Nat.zero_le _)), ?_, But.of_below HB2.out _, ⟨_, qcj HRS.out HB2.out, fun _ => ?_⟩⟩
 ·show _ = Ending.returned (.bool (goOf [] []).1)
  rw [goOf_nil]
  rfl
 ·show k112.R _ _ _ _ _ (goOf [] []).2
  rw [goOf_nil]
  exact Kd.qhz _ _ _ _ _
set_option maxRecDepth 100000 in
theorem grouped_cons (A : Option Addr) (c : Nat) (l : List S112) (rs base : Nat) (w : World) (h : Kd.C k112 w A l.length l) (hc : l.length ≤ c) (h0 : 0 < l.length) (hl : l.length ≤ 1000000) (hi : ∀ x ∈ l, qdl x.f1 ∧ qdl x.f2) (hbs : base ≤ w.heap.size) (hrs : w.heap[rs]? = some (.cells #[.slice none 0 0] 32 (0, 0))) :
  Calls Tryd.prog 60 #[.slice A l.length c, .func (.func 61) #[] #[], .func (.func 62) #[] #[], .func (.func 58) #[] #[.pointer (some ⟨rs, 0, none⟩)]] w fun e w' => GrpPost rs base l w e w' := by
 have HC := qd.mk h
 have HRS := qd.mk hrs
 have HI := qd.mk hi
 have HL := qd.mk (And.intro h0 hl)
 have HBS := qd.mk hbs
 clear h hrs hi hbs
 go_enter Tryd.func60, Tryd.ntmps60
 go_upto_region 1 with (fail)
 refine qdj (P := fun x => Code.wp _ _ _ _ x) _ ?_
 intro w1 hw1
 obtain ⟨g, hg⟩ : ∃ g, w.heap.size = g := ⟨_, rfl⟩
 have HBX := qd.mk (show Box2 w1 g (g + 1) from ⟨by rw [hw1, ← hg]; exact qm (qdu w _) _, by rw [hw1, ← hg]; exact qhy _ _ _ (by simp)⟩)
 have HB1 := qd.mk (show Below w.heap.size w w1 from by rw [hw1]; exact qbk (qbk (Below.refl _ _) _) _)
 have HS1 := qd.mk (show w1.heap.size = g + 2 from by rw [hw1, ← hg]; simp)
 have HG := qd.mk hg
 rw [hg]
 clear hw1 hg
 have HC1 := qd.mk (Kd.qbw HC.out HB1.out)
 go_upto_region 2 with (first | (go_at_call 63; (with_reducible refine (qmo A c l _ HC1.out hc hl).mono ?_); rintro e_ w2 ⟨v, rfl, hR, hB⟩; obtain ⟨b, c1, rfl, hb1, hb2, _⟩ := Kd.R_form hR HL.out.1; have HR2 := qd.mk hR; have HB2 := qd.mk hB; clear hR hB))
 have HBX2 := qd.mk (show Box2 w2 g (g + 1) from ⟨qcj HBX.out.k HB2.out, qcj HBX.out.c HB2.out⟩)
 have HN := qd.mk (show g + 2 ≤ b ∧ b < w2.heap.size from ⟨by have := HS1.out; omega, hb2⟩)
 have HB02 := qd.mk (qcn HB1.out HB1.out.size HB2.out)
 have hcell := HBX2.out.cells
 have HSO := qd.mk (qky b 0 c1 (g + 1) g l.toArray w2 ⟨qmm, e34_one, qnr HR2.out, hb2⟩ ⟨hcell.2, hcell.1, by have := HN.out.1; omega, by have := HN.out.1; omega⟩ (by rw [List.size_toArray]; omega))
 have HH := qd.mk (qnr HR2.out)
 have HCAP := qd.mk (show l.length ≤ c1 from (Kd.qbt HR2.out).2.1)
 clear hcell HB1 HBX HC1 HR2 HB2 hb1 hb2
 go_upto_region 3 with (first | (go_at_call 108; (refine HSO.out.mono ?_); rintro e_ w3 ⟨rfl, s, hm_, hs_⟩; have HM := qd.mk hm_; have HS := qd.mk hs_; clear hm_ hs_))
 have HB3 := qd.mk (But.of_swk HS.out)
 have HZ := qd.mk (show s.toList.length = l.length from by
  have := HM.out.perm.1
  rw [Array.length_toList, this, List.size_toArray])
 have HC3 := qd.mk (C_of_holds (HS.out.holds HN.out.2 HH.out (by have := HM.out.perm.1; rw [this])) (by have := HZ.out; rw [Array.length_toList] at this; omega))
 have HBX3 := qd.mk (HBX2.out.but HB3.out (by have := HN.out.1; omega) (by have := HN.out.1; omega))
 have HI3 := qd.mk (show ∀ x ∈ s.toList, qdl x.f1 ∧ qdl x.f2 from fun x hx => HI.out x ((mrg_perm HM.out).mem_iff.1 hx))
 have HNB := qd.mk (show rs ≠ b from fun e => by have := qeo HRS.out; have := HN.out.1; have := HG.out; omega)
 have HRS3 := qd.mk (HB3.out.obj (qcj HRS.out HB02.out) (fun e => HNB.out e))
 have HALL := qd.mk (show But (fun k => k = rs ∨ w.heap.size ≤ k) w w3 from (But.of_below HB02.out _).trans (HB3.out.mono (fun k _ hk => .inr (by have := HN.out.1; have := HG.out; omega))))
 obtain ⟨ad, had⟩ : ∃ ad : Addr, ad = ⟨b, 0, none⟩ := ⟨_, rfl⟩
 have HAD := qd.mk had
 rw [← had] at HC3 ⊢
 obtain ⟨n, hn⟩ : ∃ n, l.length = n := ⟨_, rfl⟩
 have HNL := qd.mk hn
 rw [hn] at HCAP HZ HL ⊢
 rw [HZ.out] at HC3
 obtain ⟨q, hq⟩ : ∃ q, s.toList = q := ⟨_, rfl⟩
 have HQ := qd.mk hq
 rw [hq] at HC3 HI3 HZ
 clear HSO HH HB02 HBX2 HS had hn hq hc h0 hl
 have N0 := qd.mk (show goOf (q.drop 0) [] = goOf q [] from rfl)
 go_wp2
 go_loopw [10, 11, 17, 18, 19, 20, 21, 22, 23, 24, 25, 26, 27, 28, 29, 30, 31, 32, 33, 34, 35, 36, 37, 38, 39, 40, 41, 42, 43, 44, 45, 46, 47, 48, 49, 50, 51, 52, 53] (fun v10 _ _ _ _ _ _ _ _ _ _ _ _ _ _ _ _ _ _ _ _ _ _ _ _ _ _ _ _ _ _ _ _ _ _ _ _ _ _ wr => ∃ (a : Nat) (o : List S112) (v : Value), a ≤ n ∧ v10 = .int .i64 a ∧ qd (o.length ≤ a) ∧ qd (goOf (q.drop a) o = goOf q []) ∧ qd (wr.heap[rs]? = some (.cells #[v] 32 (0, 0))) ∧ qd (k112.R 112 wr base (fun k => w3.heap.size ≤ k) v o) ∧ qd (But (fun k => k = rs ∨ w3.heap.size ≤ k) w3 wr)) (fun v10 _ _ _ _ _ _ _ _ _ _ _ _ _ _ _ _ _ _ _ _ _ _ _ _ _ _ _ _ _ _ _ _ _ _ _ _ _ _ _ => n - (intOf v10).toNat)
 case atStart => exact ⟨0, [], _, Nat.zero_le _, rfl, ⟨Nat.le_refl _⟩, N0, HRS3, ⟨Kd.qhz _ _ _ _ _⟩, ⟨But.refl _ _⟩⟩
 clear N0 HRS3
 obtain ⟨a, o, v, han, rfl, HOL, HGO, HRSr, HV, HBr⟩ := hrel
 by_cases hlt : a < n
 rotate_left
 ·obtain rfl : a = n := by omega
  have d1 : decide ((a : Int) < (a : Int)) = false := decide_eq_false (by omega)
  have d2 : decide (a < a) = false := decide_eq_false (by omega)
  have hg_ : goOf q [] = (true, o) := by rw [← HGO.out, List.drop_of_length_le (by rw [HZ.out]; exact Nat.le_refl _), goOf_nil]
  have HG_ := qd.mk hg_
  clear hg_
  go_wp2
  go_ret
  refine ⟨s, HM.out, by rw [HQ.out, HG_.out]; rfl, ?_, ⟨v, HRSr.out, fun h => ?_⟩⟩
  ·exact (HALL.out.trans (HBr.out.mono (fun k hk e => e.imp id (fun e => Nat.le_trans HALL.out.size e)))).mono (fun k hk e => e.elim id (fun e => by omega))
  ·rw [HQ.out, HG_.out]
   exact Kd.qdt HV.out (fun k hk => Nat.le_trans HALL.out.size hk)
 have d1 : decide ((a : Int) < (n : Int)) = true := decide_eq_true (by omega)
 have d2 : decide (a < n) = true := decide_eq_true hlt
 have hA0 : (0 : Int) ≤ (a : Int) := by omega
 have hA1 : (a : Int) < (n : Int) := by omega
 have HBXr := qd.mk (HBX3.out.but HBr.out (fun e => by rcases e with e | e; (have := qeo HRS.out; have := HG.out; omega); (have := qeo HBX3.out.k; omega)) (fun e => by rcases e with e | e; (have := qeo HRS.out; have := HG.out; omega); (have := qeo HBX3.out.c; omega)))
 have HCr := qd.mk (C_but HC3.out HBr.out (fun ad' e => by
  cases e
  intro e
  have h1 := HAD.out
  rw [h1] at e
  simp only at e
  rcases e with e | e
  ·exact HNB.out e.symm
  ·have := HN.out.2; have := HB3.out.size; omega))
 have hn1 := HL.out.2
 go_wp2
 rename World => wo
 go_loopw [11, 23, 24, 25, 26, 27, 28, 29, 30, 31, 32, 33, 34, 35, 36, 37, 38, 39, 40, 41, 42, 43, 44, 45] (fun v11 _ _ _ _ _ _ _ _ _ _ _ _ _ _ _ _ _ _ _ _ _ _ _ wq => ∃ b' : Nat, a < b' ∧ b' ≤ n ∧ v11 = .int .i64 b' ∧ qd (∀ j : Nat, a ≤ j → j < b' → cmpK (qx q (a : Int)).f0 (qx q (j : Int)).f0 = 0) ∧ qd (Grw wo wq)) (fun v11 _ _ _ _ _ _ _ _ _ _ _ _ _ _ _ _ _ _ _ _ _ _ _ _ => n - (intOf v11).toNat)
 case atStart =>
  refine ⟨a + 1, by omega, by omega, by go_num, ⟨fun j h1 h2 => ?_⟩, ⟨Grw.refl _⟩⟩
  obtain rfl : j = a := by omega
  exact qim.refl _
 obtain ⟨b', hb1, hb2, rfl, HEQ, HGq⟩ := hrel
 rename World => wq
 have hn1 := HL.out.2
 have HCq := qd.mk (Kd.qbw HCr.out HGq.out.below)
 by_cases hlt2 : b' < n
 rotate_left
 ·have d3 : decide ((b' : Int) < (n : Int)) = false := decide_eq_false (by omega)
  have d4 : decide (b' < n) = false := decide_eq_false hlt2
  have HNE := qd.mk (show b' < n → ¬ cmpK (qx q (a : Int)).f0 (qx q (b' : Int)).f0 = 0 from fun h => absurd h hlt2)
  have mixed : Tryd.prog.follows .mixedOrders = true := by kernel_rfl
  have HG2 := qd.mk (show Grw wo wq.drew from HGq.out.drew)
  go_wp2_with fail
  go_big_region_o
  clear mixed HCq HGq
  generalize wq.drew = w4 at HG2 ⊢
  rename World => wq
  have HGq := HG2
  have HCq := qd.mk (Kd.qbw HCr.out HGq.out.below)
  clear HG2
  have hal : a < q.length := by have := HZ.out; omega
  have HST := qd.mk (go_step (s := q) (out := o) hb1 (by have := HZ.out; omega) HEQ.out (fun h => HNE.out (by have := HZ.out; omega)))
  obtain ⟨grp, hgrp⟩ : ∃ grp, (q.take b').drop a = grp := ⟨_, rfl⟩
  have hgl : grp.length = b' - a := by rw [← hgrp, List.length_drop, List.length_take]; have := HZ.out; omega
  have hgi : ∀ x ∈ grp, qdl x.f1 ∧ qdl x.f2 := fun x hx => HI3.out x (by rw [← hgrp] at hx; exact List.mem_of_mem_take (List.mem_of_mem_drop hx))
  have hcg := Kd.C_mid (k := k112) (lo := a) (hi := b') (c := c1) (show Kd.C k112 wq (some ad) q.length q from by rw [HZ.out]; exact HCq.out) (by omega) (by have := HZ.out; omega) (by have := HZ.out; have := HCAP.out; omega)
  rw [hgrp, if_neg (show ¬ c1 = a by have := HCAP.out; omega)] at hcg
  obtain ⟨ti, hti, htz⟩ := Option.map_eq_some_iff.1 qfk
  have hcut := cut_mid (P := Tryd.prog) 32 112 .i64 .i64 Tryd.underlying32 hti 7 (congrArg (fun t => t.2.1) htz) (some ad) n c1 (a : Int) (b' : Int) (by omega) (by omega) (by omega) HCAP.out
  rw [Int.toNat_natCast, Int.toNat_natCast, if_neg (show ¬ c1 = a by have := HCAP.out; omega)] at hcut
  obtain ⟨gd, hgd⟩ : ∃ gd, ad.add (a * 7) = gd := ⟨_, rfl⟩
  have hgb : gd.block = b := by rw [← hgd, HAD.out]; unfold Addr.add; split <;> rfl
  rw [show (some ad).map (fun x => x.add (a * 7)) = some gd from by rw [← hgd]; rfl] at hcut
  rw [show (some ad).map (fun x => x.add (a * k112.sz)) = some gd from by rw [← hgd]; rfl] at hcg
  have HON := qd.mk (one_calls (some gd) (c1 - a) grp rs base (fun k => w3.heap.size ≤ k) v o wq hcg (by rw [hgl]; have := HCAP.out; omega) (by omega) (by have := HL.out; omega) hgi (qcj HRSr.out HGq.out.below) (Kd.qdw HV.out HGq.out.below) (fun k hk => Nat.le_trans HBr.out.size (Nat.le_trans HGq.out.below.size hk)) (by have := HBS.out; have := HALL.out.size; have := HBr.out.size; have := HGq.out.below.size; omega) (by have := HOL.out; have := HL.out; omega) (fun ad' e => by
   cases e
   rw [hgb]
   exact ⟨fun e => by have := HV.out.1 _ e; have := HN.out.2; have := HB3.out.size; omega, HNB.out⟩))
  rw [hgl] at HON
  rw [hgrp] at HST
  have HBV := qd.mk (show But (fun k => k = rs ∨ w3.heap.size ≤ k) w3 wq from HBr.out.trans (But.of_below HGq.out.below _))
  have HVO := qd.mk HV.out.1
  have HA := qd.mk hb1
  clear hti htz ti hgrp hcg hgd hgb HCq HCr HBXr HBr HRSr HV HGq HEQ HNE hgi hal
  obtain ⟨m, hm⟩ : ∃ m, b' - a = m := ⟨_, rfl⟩
  obtain ⟨cm, hcm⟩ : ∃ cm, c1 - a = cm := ⟨_, rfl⟩
  rw [hm] at HON hcut hgl
  rw [hcm] at HON hcut
  clear hm hcm
  obtain ⟨⟨r, o2⟩, hr⟩ : ∃ r, oneOf grp o = r := ⟨_, rfl⟩
  have HO2 := qd.mk (show o2.length ≤ o.length + 1 from by have := oneOf_len grp o; rwa [hr] at this)
  unfold qhc at HON
  rw [hr] at HON HST
  clear hr hgl
  cases r with
  | true =>
   go_upto_region 10 with (first | (go_at_call 58; (refine HON.out.mono ?_); rintro e_ w5 ⟨rfl, hb_, v', hv_, hr_⟩; have HB5 := qd.mk hb_; have HV5 := qd.mk hv_; have HR5 := qd.mk hr_; clear hb_ hv_ hr_))
   go_wp2
   go_roundw
   case rel =>
    refine ⟨b', o2, v', by omega, rfl, ⟨by have := HO2.out; have := HOL.out; have := HA.out; omega⟩, ⟨?_⟩, HV5, ⟨HR5.out⟩, ⟨HBV.out.trans (HB5.out.mono (fun k hk e => ?_))⟩⟩
    ·rw [← HGO.out, HST.out]
     rfl
    ·rcases e with e | e
     ·exact .inl e
     ·exact .inr (HVO.out k e)
   case measure => have := HA.out; simp [intOf]; omega
  | false =>
   go_wp2_with (first | (go_at_call 58; (refine HON.out.mono ?_); rintro e_ w5 ⟨rfl, hb_, v', hv_, hr_⟩; have HB5 := qd.mk hb_; have HV5 := qd.mk hv_; clear hb_ hv_ hr_))
   go_ret
   have hg_ : goOf q [] = (false, o) := by rw [← HGO.out, HST.out]; rfl
   refine ⟨s, HM.out, by rw [HQ.out, hg_]; rfl, ?_, ⟨v', HV5.out, fun h => ?_⟩⟩
   ·have h1 := HALL.out.trans ((HBV.out.trans (HB5.out.mono (fun k hk e => e.imp id (HVO.out k)))).mono (fun k hk e => e.imp id (fun e => Nat.le_trans HALL.out.size e)))
    exact h1.mono (fun k hk e => e.elim id (fun e => by omega))
   ·rw [HQ.out, hg_] at h
    cases h
 have d3 : decide ((b' : Int) < (n : Int)) = true := decide_eq_true (by omega)
 have d4 : decide (b' < n) = true := decide_eq_true hlt2
 have hB0 : (0 : Int) ≤ (b' : Int) := by omega
 have hB1 : (b' : Int) < (n : Int) := by omega
 obtain ⟨ad1, e1, x0, x1, x2, x3, x4, x5, x6⟩ := qep HCq.out (a : Int) hA0 hA1
 obtain ⟨ad2, e2, y0, y1, y2, y3, y4, y5, y6⟩ := qep HCq.out (b' : Int) hB0 hB1
 cases e1
 cases e2
 have hcells := (Box2.but HBXr.out (But.of_below HGq.out.below (fun _ => False)) (fun h => h) (fun h => h)).cells
 have hk := qbc hcells.1
 have hc := qbc hcells.2
 clear hcells
 rw [Int.toNat_natCast] at x0 x1 x2 x3 x4 x5 x6 y0 y1 y2 y3 y4 y5 y6
 obtain ⟨x, hx⟩ : ∃ x, qx q (a : Int) = x := ⟨_, rfl⟩
 obtain ⟨y, hy⟩ : ∃ y, qx q (b' : Int) = y := ⟨_, rfl⟩
 rw [hx] at x0 x1 x2 x3 x4 x5 x6
 rw [hy] at y0 y1 y2 y3 y4 y5 y6
 have x0 := qbc x0
 have x1 := qbc x1
 have x2 := qbc x2
 have x3 := qbc x3
 have x4 := qbc x4
 have x5 := qbc x5
 have x6 := qbc x6
 have y0 := qbc y0
 have y1 := qbc y1
 have y2 := qbc y2
 have y3 := qbc y3
 have y4 := qbc y4
 have y5 := qbc y5
 have y6 := qbc y6
 obtain ⟨z, hz⟩ : ∃ z, cmpK x.f0 y.f0 = z := ⟨_, rfl⟩
 have hcmp := cmp_calls x.f0 y.f0
 rw [hz] at hcmp
 have mixed : Tryd.prog.follows .mixedOrders = true := by kernel_rfl
 by_cases h00 : z = 0
 ·subst h00
  have HZ0 := qd.mk (show cmpK (qx q (a : Int)).f0 (qx q (b' : Int)).f0 = 0 from by rw [hx, hy]; exact hz)
  clear hz hx hy
  go_wp2_with fail
  go_quiet_grown (first | (go_at_call 61; (with_reducible refine Calls.grown_of (qhv x _))) | (go_at_call 61; (with_reducible refine Calls.grown_of (qhv y _))) | (go_at_call 62; refine Calls.grown_of (hcmp _)))
  have HG2 := qd.mk (show Grw wo (grow (wq.drewN nq) osq) from HGq.out.trans ⟨_, _, rfl⟩)
  clear x0 x1 x2 x3 x4 x5 x6 y0 y1 y2 y3 y4 y5 y6 hk hc hcmp mixed HCq HGq
  generalize grow (wq.drewN nq) osq = w4 at HG2 ⊢
  clear nq osq
  go_wp2
  go_roundw
  case rel =>
   refine ⟨b' + 1, by omega, by omega, by go_num, ⟨fun j h1 h2 => ?_⟩, HG2⟩
   rcases Nat.lt_or_ge j b' with h3 | h3
   ·exact HEQ.out j h1 h3
   ·obtain rfl : j = b' := by omega
    exact HZ0.out
  case measure => simp [intOf]; omega
 have e1 : (z == (0 : Int)) = false := beq_false_of_ne h00
 have HNE := qd.mk (show b' < n → ¬ cmpK (qx q (a : Int)).f0 (qx q (b' : Int)).f0 = 0 from fun _ => by rw [hx, hy, hz]; exact h00)
 clear hz hx hy
 go_wp2_with fail
 go_quiet_grown (first | (go_at_call 61; (with_reducible refine Calls.grown_of (qhv x _))) | (go_at_call 61; (with_reducible refine Calls.grown_of (qhv y _))) | (go_at_call 62; refine Calls.grown_of (hcmp _)))
 have HG2 := qd.mk (show Grw wo (grow (wq.drewN nq) osq) from HGq.out.trans ⟨_, _, rfl⟩)
 clear x0 x1 x2 x3 x4 x5 x6 y0 y1 y2 y3 y4 y5 y6 hk hc hcmp mixed HCq HGq e1 h00
 generalize grow (wq.drewN nq) osq = w4 at HG2 ⊢
 clear nq osq
 rename World => wq
 have HGq := HG2
 have HCq := qd.mk (Kd.qbw HCr.out HGq.out.below)
 clear HG2
 have hal : a < q.length := by have := HZ.out; omega
 have HST := qd.mk (go_step (s := q) (out := o) hb1 (by have := HZ.out; omega) HEQ.out (fun h => HNE.out (by have := HZ.out; omega)))
 obtain ⟨grp, hgrp⟩ : ∃ grp, (q.take b').drop a = grp := ⟨_, rfl⟩
 have hgl : grp.length = b' - a := by rw [← hgrp, List.length_drop, List.length_take]; have := HZ.out; omega
 have hgi : ∀ x ∈ grp, qdl x.f1 ∧ qdl x.f2 := fun x hx => HI3.out x (by rw [← hgrp] at hx; exact List.mem_of_mem_take (List.mem_of_mem_drop hx))
 have hcg := Kd.C_mid (k := k112) (lo := a) (hi := b') (c := c1) (show Kd.C k112 wq (some ad) q.length q from by rw [HZ.out]; exact HCq.out) (by omega) (by have := HZ.out; omega) (by have := HZ.out; have := HCAP.out; omega)
 rw [hgrp, if_neg (show ¬ c1 = a by have := HCAP.out; omega)] at hcg
 obtain ⟨ti, hti, htz⟩ := Option.map_eq_some_iff.1 qfk
 have hcut := cut_mid (P := Tryd.prog) 32 112 .i64 .i64 Tryd.underlying32 hti 7 (congrArg (fun t => t.2.1) htz) (some ad) n c1 (a : Int) (b' : Int) (by omega) (by omega) (by omega) HCAP.out
 rw [Int.toNat_natCast, Int.toNat_natCast, if_neg (show ¬ c1 = a by have := HCAP.out; omega)] at hcut
 obtain ⟨gd, hgd⟩ : ∃ gd, ad.add (a * 7) = gd := ⟨_, rfl⟩
 have hgb : gd.block = b := by rw [← hgd, HAD.out]; unfold Addr.add; split <;> rfl
 rw [show (some ad).map (fun x => x.add (a * 7)) = some gd from by rw [← hgd]; rfl] at hcut
 rw [show (some ad).map (fun x => x.add (a * k112.sz)) = some gd from by rw [← hgd]; rfl] at hcg
 have HON := qd.mk (one_calls (some gd) (c1 - a) grp rs base (fun k => w3.heap.size ≤ k) v o wq hcg (by rw [hgl]; have := HCAP.out; omega) (by omega) (by have := HL.out; omega) hgi (qcj HRSr.out HGq.out.below) (Kd.qdw HV.out HGq.out.below) (fun k hk => Nat.le_trans HBr.out.size (Nat.le_trans HGq.out.below.size hk)) (by have := HBS.out; have := HALL.out.size; have := HBr.out.size; have := HGq.out.below.size; omega) (by have := HOL.out; have := HL.out; omega) (fun ad' e => by
  cases e
  rw [hgb]
  exact ⟨fun e => by have := HV.out.1 _ e; have := HN.out.2; have := HB3.out.size; omega, HNB.out⟩))
 rw [hgl] at HON
 rw [hgrp] at HST
 have HBV := qd.mk (show But (fun k => k = rs ∨ w3.heap.size ≤ k) w3 wq from HBr.out.trans (But.of_below HGq.out.below _))
 have HVO := qd.mk HV.out.1
 have HA := qd.mk hb1
 clear hti htz ti hgrp hcg hgd hgb HCq HCr HBXr HBr HRSr HV HGq HEQ HNE hgi hal
 obtain ⟨m, hm⟩ : ∃ m, b' - a = m := ⟨_, rfl⟩
 obtain ⟨cm, hcm⟩ : ∃ cm, c1 - a = cm := ⟨_, rfl⟩
 rw [hm] at HON hcut hgl
 rw [hcm] at HON hcut
 clear hm hcm
 obtain ⟨⟨r, o2⟩, hr⟩ : ∃ r, oneOf grp o = r := ⟨_, rfl⟩
 have HO2 := qd.mk (show o2.length ≤ o.length + 1 from by have := oneOf_len grp o; rwa [hr] at this)
 unfold qhc at HON
 rw [hr] at HON HST
 clear hr hgl
 cases r with
 | true =>
  go_upto_region 10 with (first | (go_at_call 58; (refine HON.out.mono ?_); rintro e_ w5 ⟨rfl, hb_, v', hv_, hr_⟩; have HB5 := qd.mk hb_; have HV5 := qd.mk hv_; have HR5 := qd.mk hr_; clear hb_ hv_ hr_))
  go_wp2
  go_roundw
  case rel =>
   refine ⟨b', o2, v', by omega, rfl, ⟨by have := HO2.out; have := HOL.out; have := HA.out; omega⟩, ⟨?_⟩, HV5, ⟨HR5.out⟩, ⟨HBV.out.trans (HB5.out.mono (fun k hk e => ?_))⟩⟩
   ·rw [← HGO.out, HST.out]
    rfl
   ·rcases e with e | e
    ·exact .inl e
    ·exact .inr (HVO.out k e)
  case measure => have := HA.out; simp [intOf]; omega
 | false =>
  go_wp2_with (first | (go_at_call 58; (refine HON.out.mono ?_); rintro e_ w5 ⟨rfl, hb_, v', hv_, hr_⟩; have HB5 := qd.mk hb_; have HV5 := qd.mk hv_; clear hb_ hv_ hr_))
  go_ret
  have hg_ : goOf q [] = (false, o) := by rw [← HGO.out, HST.out]; rfl
  refine ⟨s, HM.out, by rw [HQ.out, hg_]; rfl, ?_, ⟨v', HV5.out, fun h => ?_⟩⟩
  ·have h1 := HALL.out.trans ((HBV.out.trans (HB5.out.mono (fun k hk e => e.imp id (HVO.out k)))).mono (fun k hk e => e.imp id (fun e => Nat.le_trans HALL.out.size e)))
   exact h1.mono (fun k hk e => e.elim id (fun e => by omega))
  ·rw [HQ.out, hg_] at h
   cases h
def SS (ks : List S40) : Prop := ks.Pairwise (fun a b => cmpK a b < 0)
def insK (k : S40) : List S40 → List S40
 | [] => [k]
 | h :: t => if cmpK k h < 0 then k :: h :: t else if cmpK k h = 0 then h :: t else h :: insK k t
theorem qhx (k : S40) : cmpK k k = 0 := qim.refl k
theorem cmpK_flip {a b : S40} (h : ¬ cmpK a b < 0) (h2 : ¬ cmpK a b = 0) : cmpK b a < 0 := by have := qim.sw a b; omega
theorem qnz {a b c : S40} (h : cmpK a b < 0) (h2 : cmpK b c < 0) : cmpK a c < 0 := qim.lt_le h (by omega)
theorem mem_insK (k x : S40) : ∀ ks, x ∈ insK k ks ↔ x = k ∨ x ∈ ks
 | [] => by simp [insK]
 | h :: t => by
  unfold insK
  by_cases h1 : cmpK k h < 0
  ·rw [if_pos h1]; simp
  ·rw [if_neg h1]
   by_cases h2 : cmpK k h = 0
   ·rw [if_pos h2]
    have := qiv h2
    subst this
    simp
   ·rw [if_neg h2, List.mem_cons, mem_insK k x t, List.mem_cons]
    constructor
    ·rintro (h | h | h)
     ·exact .inr (.inl h)
     ·exact .inl h
     ·exact .inr (.inr h)
    ·rintro (h | h | h)
     ·exact .inr (.inl h)
     ·exact .inl h
     ·exact .inr (.inr h)
theorem ss_insK (k : S40) : ∀ ks, SS ks → SS (insK k ks)
 | [], _ => List.pairwise_singleton _ _
 | h :: t, hs => by
  have h0 := List.pairwise_cons.1 hs
  unfold insK
  by_cases h1 : cmpK k h < 0
  ·rw [if_pos h1]
   refine List.pairwise_cons.2 ⟨fun x hx => ?_, hs⟩
   rcases List.mem_cons.1 hx with rfl | hx
   ·exact h1
   ·exact qnz h1 (h0.1 x hx)
  ·rw [if_neg h1]
   by_cases h2 : cmpK k h = 0
   ·rw [if_pos h2]; exact hs
   ·rw [if_neg h2]
    refine List.pairwise_cons.2 ⟨fun x hx => ?_, ss_insK k t h0.2⟩
    rcases (mem_insK k x t).1 hx with rfl | hx
    ·exact cmpK_flip h1 h2
    ·exact h0.1 x hx
theorem qlq : ∀ {a b : List S40}, SS a → SS b → (∀ k, k ∈ a ↔ k ∈ b) → a = b
 | [], [], _, _, _ => rfl
 | [], y :: b, _, _, h => absurd ((h y).2 (by simp)) (by simp)
 | x :: a, [], _, _, h => absurd ((h x).1 (by simp)) (by simp)
 | x :: a, y :: b, ha, hb, h => by
  have ha' := List.pairwise_cons.1 ha
  have hb' := List.pairwise_cons.1 hb
  have hxy : x = y := by
   rcases List.mem_cons.1 ((h x).1 (by simp)) with h1 | h1
   ·exact h1
   ·rcases List.mem_cons.1 ((h y).2 (by simp)) with h2 | h2
    ·exact h2.symm
    ·have := qnz (ha'.1 y h2) (hb'.1 x h1)
     rw [qhx] at this
     omega
  subst hxy
  congr 1
  refine qlq ha'.2 hb'.2 (fun k => ?_)
  constructor
  ·intro hk
   rcases List.mem_cons.1 ((h k).1 (by simp [hk])) with h1 | h1
   ·have := ha'.1 k hk
    rw [h1, qhx] at this
    omega
   ·exact h1
  ·intro hk
   rcases List.mem_cons.1 ((h k).2 (by simp [hk])) with h1 | h1
   ·have := hb'.1 k hk
    rw [h1, qhx] at this
    omega
   ·exact h1
def qff : List S112 → List S40
 | [] => []
 | c :: r => insK c.f0 (qff r)
theorem qiz : ∀ l, SS (qff l)
 | [] => List.Pairwise.nil
 | c :: r => ss_insK _ _ (qiz r)
theorem qga (k : S40) : ∀ l, k ∈ qff l ↔ ∃ c ∈ l, c.f0 = k
 | [] => by simp [qff]
 | c :: r => by
  unfold qff
  rw [mem_insK, qga k r]
  constructor
  ·rintro (rfl | ⟨x, hx, rfl⟩)
   ·exact ⟨c, by simp, rfl⟩
   ·exact ⟨x, by simp [hx], rfl⟩
  ·rintro ⟨x, hx, rfl⟩
   rcases List.mem_cons.1 hx with rfl | hx
   ·exact .inl rfl
   ·exact .inr ⟨x, hx, rfl⟩
theorem qnq {a b : List S112} (h : a.Perm b) : qff a = qff b :=
 qlq (qiz a) (qiz b) (fun k => by rw [qga, qga]; exact ⟨fun ⟨c, h1, h2⟩ => ⟨c, h.mem_iff.1 h1, h2⟩, fun ⟨c, h1, h2⟩ => ⟨c, h.mem_iff.2 h1, h2⟩⟩)
def eqK (k : S40) (c : S112) : Bool := decide (cmpK k c.f0 = 0)
def sumA (l : List S112) (k : S40) : Int := (amts (l.filter (eqK k))).sum
def sumB (l : List S112) (k : S40) : Int := (bass (l.filter (eqK k))).sum
def qgd (l : List S112) : List S40 → List S112 → Bool × List S112
 | [], out => (true, out)
 | k :: t, out => if fitB (sumA l k) && fitB (sumB l k) then qgd l t (if sumA l k ≠ 0 ∨ sumB l k ≠ 0 then out ++ [⟨k, sumA l k, sumB l k⟩] else out) else (false, out)
theorem perm_sum {a b : List Int} (h : a.Perm b) : a.sum = b.sum := by
 induction h with
 | nil => rfl
 | cons x _ ih => rw [List.sum_cons, List.sum_cons, ih]
 | swap x y l => simp only [List.sum_cons]; omega
 | trans _ _ h1 h2 => exact h1.trans h2
theorem sumA_perm {a b : List S112} (h : a.Perm b) (k : S40) : sumA a k = sumA b k := perm_sum ((h.filter _).map _)
theorem sumB_perm {a b : List S112} (h : a.Perm b) (k : S40) : sumB a k = sumB b k := perm_sum ((h.filter _).map _)
theorem qix {a b : List S112} : ∀ (ks : List S40) (out : List S112), (∀ k ∈ ks, sumA a k = sumA b k ∧ sumB a k = sumB b k) → qgd a ks out = qgd b ks out
 | [], out, _ => rfl
 | k :: t, out, h => by
  unfold qgd
  rw [(h k (by simp)).1, (h k (by simp)).2, qix t _ (fun x hx => h x (by simp [hx]))]
theorem fit_i64 {n : Int} (h : fitB n = true) : qdl n := by
 unfold fitB at h
 simp only [Bool.and_eq_true, decide_eq_true_eq] at h
 exact ⟨by omega, by omega⟩
theorem tot_2 (l : List Int) : (totF l).2 = fitB l.sum := by
 unfold totF
 by_cases h : qdl l.sum
 ·rw [if_pos h]
 ·rw [if_neg h]
  cases hf : fitB l.sum with
  | false => rfl
  | true => exact absurd (fit_i64 hf) h
theorem tot_1 {l : List Int} (h : fitB l.sum = true) : (totF l).1 = l.sum := by
 unfold totF
 rw [if_pos (fit_i64 h)]
theorem one_fit (g out : List S112) : (oneOf g out).1 = (fitB (amts g).sum && fitB (bass g).sum) := by
 unfold oneOf
 rw [tot_2, tot_2]
theorem one_out {g out : List S112} (h : (fitB (amts g).sum && fitB (bass g).sum) = true) : (oneOf g out).2 = if (amts g).sum ≠ 0 ∨ (bass g).sum ≠ 0 then out ++ [⟨(qx g 0).f0, (amts g).sum, (bass g).sum⟩] else out := by
 rw [Bool.and_eq_true] at h
 unfold oneOf
 rw [tot_2, tot_2, tot_1 h.1, tot_1 h.2]
 by_cases h2 : (amts g).sum ≠ 0 ∨ (bass g).sum ≠ 0
 ·rw [if_pos ⟨h.1, h.2, h2⟩, if_pos h2]
 ·rw [if_neg (fun h => h2 h.2.2), if_neg h2]
def SL (s : List S112) : Prop := s.Pairwise (fun a b => cmpK a.f0 b.f0 ≤ 0)
theorem qln (k : S40) : ∀ (r : List S112), SL r → (∀ y ∈ r, cmpK k y.f0 ≤ 0) → r.takeWhile (eqK k) = r.filter (eqK k) ∧ r.dropWhile (eqK k) = r.filter (fun c => !eqK k c)
 | [], _, _ => by simp
 | y :: r, hs, hk => by
  have hs' := List.pairwise_cons.1 hs
  by_cases h : eqK k y = true
  ·have ih := qln k r hs'.2 (fun z hz => hk z (by simp [hz]))
   rw [List.takeWhile_cons, if_pos h, List.dropWhile_cons, if_pos h, List.filter_cons, if_pos h, List.filter_cons, if_neg (by simp [h]), ih.1, ih.2]
   exact ⟨rfl, rfl⟩
  ·have hlt : cmpK k y.f0 < 0 := by
    have h1 := hk y (by simp)
    unfold eqK at h
    have h2 : ¬ cmpK k y.f0 = 0 := fun e => h (decide_eq_true e)
    omega
   have hall : ∀ z ∈ r, eqK k z = false := fun z hz => decide_eq_false (by have := qim.lt_le hlt (hs'.1 z hz); omega)
   have hf : eqK k y = false := by simpa using h
   rw [List.takeWhile_cons, if_neg h, List.dropWhile_cons, if_neg h, List.filter_cons, if_neg h, List.filter_cons, if_pos (by simp [hf]), List.filter_eq_nil_iff.2 (fun z hz => by simp [hall z hz]), List.filter_eq_self.2 (fun z hz => by simp [hall z hz])]
   exact ⟨rfl, rfl⟩
theorem qnw : ∀ (n : Nat) (s out : List S112), s.length ≤ n → SL s → goOf s out = qgd s (qff s) out
 | _, [], out, _, _ => by rw [goOf]; rfl
 | 0, x :: r, out, h, _ => by simp at h
 | n + 1, x :: r, out, h, hs => by
  have hs' := List.pairwise_cons.1 hs
  have hf := qln x.f0 r hs'.2 (fun y hy => hs'.1 y hy)
  have hg : x :: r.takeWhile (fun y => decide (cmpK x.f0 y.f0 = 0)) = (x :: r).filter (eqK x.f0) := by
   rw [List.filter_cons, if_pos (by unfold eqK; exact decide_eq_true (qhx _)), ← hf.1]
   rfl
  have hd : r.dropWhile (fun y => decide (cmpK x.f0 y.f0 = 0)) = r.filter (fun c => !eqK x.f0 c) := hf.2
  have hlt : ∀ c ∈ r.filter (fun c => !eqK x.f0 c), cmpK x.f0 c.f0 < 0 := by
   intro c hc
   have h1 := List.mem_filter.1 hc
   have h2 := hs'.1 c h1.1
   have h3 : ¬ cmpK x.f0 c.f0 = 0 := by
    intro e
    have h4 := h1.2
    unfold eqK at h4
    rw [decide_eq_true e] at h4
    cases h4
   omega
  have hk : qff (x :: r) = x.f0 :: qff (r.filter (fun c => !eqK x.f0 c)) := by
   refine qlq (qiz _) (List.pairwise_cons.2 ⟨fun k hk => ?_, qiz _⟩) (fun k => ?_)
   ·obtain ⟨c, hc, rfl⟩ := (qga k _).1 hk
    exact hlt c hc
   ·rw [qga, List.mem_cons, qga]
    constructor
    ·rintro ⟨c, hc, rfl⟩
     rcases List.mem_cons.1 hc with rfl | hc
     ·exact .inl rfl
     ·by_cases e : cmpK x.f0 c.f0 = 0
      ·exact .inl (qiv e).symm
      ·exact .inr ⟨c, List.mem_filter.2 ⟨hc, by unfold eqK; rw [decide_eq_false e]; rfl⟩, rfl⟩
    ·rintro (rfl | ⟨c, hc, rfl⟩)
     ·exact ⟨x, by simp, rfl⟩
     ·exact ⟨c, by simp [(List.mem_filter.1 hc).1], rfl⟩
  rw [goOf, hg, hd, hk]
  unfold qgd
  rw [one_fit]
  show (if (fitB (sumA (x :: r) x.f0) && fitB (sumB (x :: r) x.f0)) = true then _ else _) = _
  by_cases hfit : (fitB (sumA (x :: r) x.f0) && fitB (sumB (x :: r) x.f0)) = true
  ·rw [if_pos hfit, if_pos hfit, one_out hfit]
   have hrd : (qx ((x :: r).filter (eqK x.f0)) 0).f0 = x.f0 := by rw [← hg]; rfl
   rw [hrd]
   have ih := qnw n (r.filter (fun c => !eqK x.f0 c)) (if sumA (x :: r) x.f0 ≠ 0 ∨ sumB (x :: r) x.f0 ≠ 0 then out ++ [⟨x.f0, sumA (x :: r) x.f0, sumB (x :: r) x.f0⟩] else out) (by
    have := List.length_filter_le (fun c => !eqK x.f0 c) r
    simp only [List.length_cons] at h
    omega) (hs'.2.filter _)
   refine Eq.trans ih (qix _ _ (fun k hk => ?_))
   obtain ⟨c, hc, rfl⟩ := (qga k _).1 hk
   have e : (r.filter (fun c => !eqK x.f0 c)).filter (eqK c.f0) = (x :: r).filter (eqK c.f0) := by
    have hx : ¬ eqK c.f0 x = true := by
     unfold eqK
     intro e
     have h1 := of_decide_eq_true e
     have h2 := hlt c hc
     have := qim.sw x.f0 c.f0
     omega
    rw [List.filter_cons, if_neg hx, List.filter_filter]
    refine List.filter_congr (fun y hy => ?_)
    by_cases e : eqK c.f0 y = true
    ·rw [e]
     have e1 := qiv (of_decide_eq_true e)
     have h2 := hlt c hc
     have : eqK x.f0 y = false := decide_eq_false (by rw [← e1]; omega)
     rw [this]
     rfl
    ·rw [Bool.not_eq_true] at e
     rw [e]
     rfl
   unfold sumA sumB
   rw [e]
   exact ⟨rfl, rfl⟩
  ·rw [if_neg hfit, if_neg hfit]
theorem goOf_mrg {l : List S112} {s : Array S112} (h : Mrg ltC 0 l.toArray.size l.toArray s) : goOf s.toList [] = qgd l (qff l) [] := by
 have hp := mrg_perm h
 have hs : SL s.toList := by
  refine List.pairwise_iff_getElem.2 (fun i j hi hj hij => ?_)
  rw [Array.length_toList] at hi hj
  have h1 := h.sorted i j (Nat.zero_le _) hij (by have := h.perm.1; omega)
  rw [getElem!_pos s i hi, getElem!_pos s j hj] at h1
  have h2 : ¬ cmpC s[j] s[i] < 0 := of_decide_eq_false h1
  have h3 := cmp3_C.sw s[i] s[j]
  simp only [Array.getElem_toList]
  show cmpC s[i] s[j] ≤ 0
  omega
 rw [qnw _ _ _ (Nat.le_refl _) hs, qnq hp]
 exact qix _ _ (fun k _ => ⟨sumA_perm hp k, sumB_perm hp k⟩)
def ofK (l : List S112) : List S112 × Int := if (qgd l (qff l) []).1 = true then ((qgd l (qff l) []).2, 0) else ([], 4)
theorem grouped_calls (A : Option Addr) (c : Nat) (l : List S112) (rs base : Nat) (w : World) (h : Kd.C k112 w A l.length l) (hc : l.length ≤ c) (hl : l.length ≤ 1000000) (hi : ∀ x ∈ l, qdl x.f1 ∧ qdl x.f2) (hbs : base ≤ w.heap.size) (hrs : w.heap[rs]? = some (.cells #[.slice none 0 0] 32 (0, 0))) :
  Calls Tryd.prog 60 #[.slice A l.length c, .func (.func 61) #[] #[], .func (.func 62) #[] #[], .func (.func 58) #[] #[.pointer (some ⟨rs, 0, none⟩)]] w fun e w' => GrpPost rs base l w e w' := by
 cases l with
 | nil => exact grouped_nil A c rs base w h hrs
 | cons x r => exact grouped_cons A c (x :: r) rs base w h hc (by simp) hl hi hbs hrs
set_option maxRecDepth 100000 in
theorem of_calls (A : Option Addr) (c : Nat) (l : List S112) (w : World) (h : Kd.C k112 w A l.length l) (hc : l.length ≤ c) (hl : l.length ≤ 1000000) (hi : ∀ x ∈ l, qdl x.f1 ∧ qdl x.f2) :
  Calls Tryd.prog 31 #[.slice A l.length c] w fun e w' => ∃ v, e = .returned (.tuple #[v, .int .i64 (ofK l).2]) ∧ Kd.R k112 112 w' w.heap.size (fun _ => True) v (ofK l).1 ∧ Below w.heap.size w w' := by
 obtain ⟨⟨r, o⟩, hr⟩ : ∃ q, qgd l (qff l) [] = q := ⟨_, rfl⟩
 have HR := qd.mk hr
 have HK := qd.mk (show ofK l = if r = true then (o, 0) else ([], 4) from by unfold ofK; rw [hr])
 have HC := qd.mk h
 clear h hr
 go_enter Tryd.func31, Tryd.ntmps31
 go_upto_region 1 with (fail)
 refine qdj (P := fun x => Code.wp _ _ _ _ x) _ ?_
 intro w1 hw1
 obtain ⟨rs, hg⟩ : ∃ g, w.heap.size = g := ⟨_, rfl⟩
 have HRS := qd.mk (show w1.heap[rs]? = some (.cells #[.slice none 0 0] 32 (0, 0)) from by rw [hw1, ← hg]; exact qdu w _)
 have HB1 := qd.mk (show Below w.heap.size w w1 from by rw [hw1]; exact qbk (Below.refl _ _) _)
 have HG := qd.mk hg
 rw [hg]
 clear hw1 hg
 have HGR := qd.mk (grouped_calls A c l rs w.heap.size w1 (Kd.qbw HC.out HB1.out) hc hl hi HB1.out.size HRS.out)
 clear hc hl hi
 cases r with
 | true =>
  go_upto_region 2 with (fail)
  go_upto_region 4 with (first | (go_at_call 60; (refine HGR.out.mono ?_); rintro e_ w2 ⟨s, hm_, rfl, hb_, hp_⟩; rw [goOf_mrg hm_, HR.out] at hp_ ⊢; obtain ⟨v, hv_, hr_⟩ := hp_; have hr_ := hr_ rfl; obtain ⟨A1, c1, rfl⟩ := Kd.qct hr_; have HB2 := qd.mk hb_; have HV := qd.mk hv_; have HRR := qd.mk hr_; clear hm_ hb_ hv_ hr_))
  have c2 : w2.cell? ⟨rs, 0, none⟩ = some (.slice A1 o.length c1) := (qg HV.out 0).trans rfl
  have f2 := qbq HV.out 0
  have hl2 := qeo HV.out
  go_wp2
  have H3 := qd.mk (qcr HV.out 0 (.slice A1 o.length c1) rfl)
  have c3 : (w2.setCell ⟨rs, 0, none⟩ (.slice A1 o.length c1)).cell? ⟨rs, 0, none⟩ = some (.slice A1 o.length c1) := (qg H3.out 0).trans rfl
  refine bodyPost_ret (v := .tuple #[(.slice A1 o.length c1), .int .i64 0]) (by simp [results, Tryd.results31, go_sem, loadVar, c3, Tryd.underlying32]) rfl ?_
  refine ⟨_, by rw [HK.out]; rfl, ?_, ?_⟩
  ·rw [HK.out]
   show k112.R _ _ _ _ _ o
   exact Kd.qdt (Kd.qjh (p := ⟨rs, 0, none⟩) (Kd.qjs (Kd.qgt HRR.out) HV.out (by decide)) (fun k hk => hk.2) _) (fun _ _ => trivial)
  ·exact ((HB1.out.trans ⟨HB2.out.os, HB2.out.tape, HB2.out.output, HB2.out.size, fun k hk => HB2.out.block k (Nat.lt_of_lt_of_le hk HB1.out.size) (fun e => by have := HG.out; omega)⟩)).setCell (by have := HG.out; show w.heap.size ≤ rs; omega) _
 | false =>
  go_upto_region 2 with (fail)
  go_upto_region 3 with (first | (go_at_call 60; (refine HGR.out.mono ?_); rintro e_ w2 ⟨s, hm_, rfl, hb_, hp_⟩; rw [goOf_mrg hm_, HR.out] at hp_ ⊢; obtain ⟨v, hv_, hr_⟩ := hp_; have HB2 := qd.mk hb_; have HV := qd.mk hv_; clear hm_ hb_ hv_ hr_))
  have c2 : w2.cell? ⟨rs, 0, none⟩ = some v := (qg HV.out 0).trans rfl
  have f2 := qbq HV.out 0
  have hl2 := qeo HV.out
  go_wp2
  have H3 := qd.mk (qcr HV.out 0 (.slice none 0 0) rfl)
  have c3 : (w2.setCell ⟨rs, 0, none⟩ (.slice none 0 0)).cell? ⟨rs, 0, none⟩ = some (.slice none 0 0) := (qg H3.out 0).trans rfl
  refine bodyPost_ret (v := .tuple #[(.slice none 0 0), .int .i64 4]) (by simp [results, Tryd.results31, go_sem, loadVar, c3, Tryd.underlying32]) rfl ?_
  refine ⟨_, by rw [HK.out]; rfl, ?_, ?_⟩
  ·rw [HK.out]
   exact Kd.qhz _ _ _ _ _
  ·exact ((HB1.out.trans ⟨HB2.out.os, HB2.out.tape, HB2.out.output, HB2.out.size, fun k hk => HB2.out.block k (Nat.lt_of_lt_of_le hk HB1.out.size) (fun e => by have := HG.out; omega)⟩)).setCell (by have := HG.out; show w.heap.size ≤ rs; omega) _
def matchL : List (ByteArray × ByteArray) → Bool
 | [] => true
 | p :: r => if p.1.toList = [] ∨ p.1.toList = p.2.toList then matchL r else false
def qhs (x y : S40) : Bool := matchL (flds x y)
set_option maxRecDepth 100000 in
theorem match_calls (x y : S40) (w : World) : Calls Tryd.prog 52 #[.agg #[.string x.f0, .string x.f1, .string x.f2, .string x.f3, .string x.f4], .agg #[.string y.f0, .string y.f1, .string y.f2, .string y.f3, .string y.f4]] w fun e w' => e = .returned (.bool (qhs x y)) ∧ Grw w w' := by
 go_enter Tryd.func52, Tryd.ntmps52
 go_upto_region 1 with (fail)
 refine qdj (P := fun x => Code.wp _ _ _ _ x) _ ?_
 intro w1 hw1
 obtain ⟨g, hg⟩ : ∃ g, w.heap.size = g := ⟨_, rfl⟩
 have BX := qd.mk (show w1.heap[g]? = some (.cells #[.string x.f0, .string x.f1, .string x.f2, .string x.f3, .string x.f4] 40 (0, 0)) from by rw [hw1, ← hg]; exact qm (qdu w _) _)
 have BY := qd.mk (show w1.heap[g + 1]? = some (.cells #[.string y.f0, .string y.f1, .string y.f2, .string y.f3, .string y.f4] 40 (0, 0)) from by
  rw [hw1, ← hg]
  have := qdu (w.alloc (.cells #[.string x.f0, .string x.f1, .string x.f2, .string x.f3, .string x.f4] 40)) (.cells #[.string y.f0, .string y.f1, .string y.f2, .string y.f3, .string y.f4] 40)
  rwa [show (w.alloc (.cells #[.string x.f0, .string x.f1, .string x.f2, .string x.f3, .string x.f4] 40)).heap.size = w.heap.size + 1 by simp] at this)
 have HG := qd.mk (show Grw w w1 from by rw [hw1]; exact ((Grw.refl w).alloc _).alloc _)
 rw [hg]
 clear hw1 hg
 have x0 : w1.cell? ⟨g, 0, none⟩ = some (.string x.f0) := (qg BX.out 0).trans rfl
 have x1 : w1.cell? ⟨g, 1, none⟩ = some (.string x.f1) := (qg BX.out 1).trans rfl
 have x2 : w1.cell? ⟨g, 2, none⟩ = some (.string x.f2) := (qg BX.out 2).trans rfl
 have x3 : w1.cell? ⟨g, 3, none⟩ = some (.string x.f3) := (qg BX.out 3).trans rfl
 have x4 : w1.cell? ⟨g, 4, none⟩ = some (.string x.f4) := (qg BX.out 4).trans rfl
 have y0 : w1.cell? ⟨g + 1, 0, none⟩ = some (.string y.f0) := (qg BY.out 0).trans rfl
 have y1 : w1.cell? ⟨g + 1, 1, none⟩ = some (.string y.f1) := (qg BY.out 1).trans rfl
 have y2 : w1.cell? ⟨g + 1, 2, none⟩ = some (.string y.f2) := (qg BY.out 2).trans rfl
 have y3 : w1.cell? ⟨g + 1, 3, none⟩ = some (.string y.f3) := (qg BY.out 3).trans rfl
 have y4 : w1.cell? ⟨g + 1, 4, none⟩ = some (.string y.f4) := (qg BY.out 4).trans rfl
 go_cut [5, 6, 8, 9, 10, 11] (fun v5 v6 _ _ _ _ wc => ∃ b c, v5 = .pointer (some ⟨b, 0, none⟩) ∧ v6 = .pointer (some ⟨c, 0, none⟩) ∧ qd (wc.heap[b]? = some (.cells #[.string x.f0, .string x.f1, .string x.f2, .string x.f3, .string x.f4] 166 (0, 0))) ∧ qd (wc.heap[c]? = some (.cells #[.string y.f0, .string y.f1, .string y.f2, .string y.f3, .string y.f4] 166 (0, 0))) ∧ qd (Grw w wc))
 case first =>
  go_region_held3 (fun w' => w'.cell? ⟨g, 0, none⟩ = some (.string x.f0) ∧ w'.cell? ⟨g, 1, none⟩ = some (.string x.f1) ∧ w'.cell? ⟨g, 2, none⟩ = some (.string x.f2) ∧ w'.cell? ⟨g, 3, none⟩ = some (.string x.f3) ∧ w'.cell? ⟨g, 4, none⟩ = some (.string x.f4) ∧ w'.cell? ⟨g + 1, 0, none⟩ = some (.string y.f0) ∧ w'.cell? ⟨g + 1, 1, none⟩ = some (.string y.f1) ∧ w'.cell? ⟨g + 1, 2, none⟩ = some (.string y.f2) ∧ w'.cell? ⟨g + 1, 3, none⟩ = some (.string y.f3) ∧ w'.cell? ⟨g + 1, 4, none⟩ = some (.string y.f4)) (exact ⟨by (repeat (with_reducible first | apply qdz | apply qdk)); with_reducible exact x0, by (repeat (with_reducible first | apply qdz | apply qdk)); with_reducible exact x1, by (repeat (with_reducible first | apply qdz | apply qdk)); with_reducible exact x2, by (repeat (with_reducible first | apply qdz | apply qdk)); with_reducible exact x3, by (repeat (with_reducible first | apply qdz | apply qdk)); with_reducible exact x4, by (repeat (with_reducible first | apply qdz | apply qdk)); with_reducible exact y0, by (repeat (with_reducible first | apply qdz | apply qdk)); with_reducible exact y1, by (repeat (with_reducible first | apply qdz | apply qdk)); with_reducible exact y2, by (repeat (with_reducible first | apply qdz | apply qdk)); with_reducible exact y3, by (repeat (with_reducible first | apply qdz | apply qdk)); with_reducible exact y4⟩) (first | (go_at_call 99; (with_reducible refine (qic x _).mono ?_); rintro e w' ⟨rfl, rfl⟩) | (go_at_call 99; (with_reducible refine (qic y _).mono ?_); rintro e w' ⟨rfl, rfl⟩))
  all_goals
   go_wp2
   go_meet
   case rel =>
    refine ⟨_, _, rfl, rfl, ⟨?_⟩, ⟨?_⟩, ⟨?_⟩⟩
    ·(repeat (first | with_reducible refine qz ?_ | (refine qhy _ _ _ ?_; simp; done) | with_reducible refine qm ?_ _))
    ·(repeat (first | with_reducible refine qz ?_ | (refine qhy _ _ _ ?_; simp; done) | with_reducible refine qm ?_ _))
    ·(repeat (first | exact HG.out | with_reducible apply Grw.drew | with_reducible apply Grw.alloc))
 obtain ⟨b, c, rfl, rfl, HB, HC, HGW⟩ := hcut
 clear x0 x1 x2 x3 x4 y0 y1 y2 y3 y4 BX BY
 have HG2 := HGW
 clear HG HGW
 have HE0 := qd.mk (show matchL ((flds x y).drop 0) = qhs x y from rfl)
 go_wp2
 go_loopw [4, 7, 12, 13, 14, 15, 16, 17, 18, 19, 20, 21, 22, 23, 24, 25, 26, 27, 28] (fun _ _ v12 _ _ _ _ _ _ _ _ _ _ _ _ _ _ _ _ wr => ∃ k : Nat, k ≤ 5 ∧ v12 = .int .i64 k ∧ qd (matchL ((flds x y).drop k) = qhs x y) ∧ qd (wr.heap[b]? = some (.cells #[.string x.f0, .string x.f1, .string x.f2, .string x.f3, .string x.f4] 166 (0, 0))) ∧ qd (wr.heap[c]? = some (.cells #[.string y.f0, .string y.f1, .string y.f2, .string y.f3, .string y.f4] 166 (0, 0))) ∧ qd (Grw w wr)) (fun _ _ v12 _ _ _ _ _ _ _ _ _ _ _ _ _ _ _ _ _ => 5 - (intOf v12).toNat)
 case atStart => exact ⟨0, by omega, rfl, HE0, HB, HC, HG2⟩
 clear HE0 HB HC HG2
 obtain ⟨k, hk, rfl, HE, HB, HC, HG⟩ := hrel
 by_cases hlt : k < 5
 rotate_left
 ·obtain rfl : k = 5 := by omega
  have hd : true = qhs x y := HE.out
  have HD := qd.mk hd
  clear hd
  go_wp2
  go_ret
  exact ⟨congrArg (fun z => Ending.returned (Value.bool z)) HD.out, HG.out⟩
 have d1 : decide ((k : Int) < 5) = true := decide_eq_true (by omega)
 have d2 : decide (k < 5) = true := decide_eq_true hlt
 have p0 : (0 : Int) ≤ (k : Int) := by omega
 have p1 : (k : Int) < 5 := by omega
 have hd := HE.out
 rw [flds_drop x y hlt] at hd
 have hd : (if (kfld x k).toList = [] ∨ (kfld x k).toList = (kfld y k).toList then matchL ((flds x y).drop (k + 1)) else false) = qhs x y := hd
 have qb : wr.cell? ⟨b, k, none⟩ = some (.string (kfld x k)) := qli HB.out hlt
 have qc : wr.cell? ⟨c, k, none⟩ = some (.string (kfld y k)) := qli HC.out hlt
 obtain ⟨u, hu⟩ : ∃ u, kfld x k = u := ⟨_, rfl⟩
 obtain ⟨v, hv⟩ : ∃ v, kfld y k = v := ⟨_, rfl⟩
 rw [hu, hv] at hd
 rw [hu] at qb
 rw [hv] at qc
 clear hu hv
 by_cases he : u.toList = []
 ·rw [if_pos (.inl he)] at hd
  have HD := qd.mk hd
  have e1 : u.toList.isEmpty = true := by rw [he]; rfl
  have e2 : (!u.toList.isEmpty) = false := by rw [e1]; rfl
  have e3 : (u.toList != []) = false := by rw [he]; rfl
  have e4 : (u.toList == []) = true := by rw [he]; rfl
  have e5 : (!(u.toList == [])) = false := by rw [e4]; rfl
  clear hd
  go_upto_region 5 with (fail)
  go_quiet (fail)
  go_wp2
  go_roundw
  case rel => exact ⟨k + 1, by omega, by go_num, HD, HB, HC, ⟨HG.out.drewN _⟩⟩
  case measure => simp [intOf]; omega
 have e1 : u.toList.isEmpty = false := by cases h : u.toList with | nil => exact absurd h he | cons _ _ => rfl
 have e2 : (!u.toList.isEmpty) = true := by rw [e1]; rfl
 have e3 : (u.toList != []) = true := bne_iff_ne.mpr he
 have e4 : (u.toList == []) = false := beq_eq_false_iff_ne.mpr he
 have e5 : (!(u.toList == [])) = true := by rw [e4]; rfl
 by_cases hq : u.toList = v.toList
 ·rw [if_pos (.inr hq)] at hd
  have HD := qd.mk hd
  have g1 : (u.toList != v.toList) = false := bne_eq_false_iff_eq.mpr hq
  have g2 : (u.toList == v.toList) = true := beq_iff_eq.mpr hq
  have g3 : (!(u.toList == v.toList)) = false := by rw [g2]; rfl
  clear hd hq
  go_upto_region 5 with (fail)
  go_quiet (fail)
  go_wp2
  go_roundw
  case rel => exact ⟨k + 1, by omega, by go_num, HD, HB, HC, ⟨HG.out.drewN _⟩⟩
  case measure => simp [intOf]; omega
 rw [if_neg (fun h => h.elim he hq)] at hd
 have HD := qd.mk hd
 have g1 : (u.toList != v.toList) = true := bne_iff_ne.mpr hq
 have g2 : (u.toList == v.toList) = false := beq_eq_false_iff_ne.mpr hq
 have g3 : (!(u.toList == v.toList)) = true := by rw [g2]; rfl
 clear hd hq
 go_upto_region 5 with (fail)
 go_quiet (fail)
 go_wp2
 go_ret
 exact ⟨congrArg (fun z => Ending.returned (Value.bool z)) HD.out, HG.out.drewN _⟩
def qjj.f (a0_0 : ByteArray) (a0_1 : ByteArray) (a0_2 : ByteArray) (a0_3 : ByteArray) (a0_4 : ByteArray) (a1_0 : ByteArray) (a1_1 : ByteArray) (a1_2 : ByteArray) (a1_3 : ByteArray) (a1_4 : ByteArray) : Option Bool := some (qhs ⟨a0_0, a0_1, a0_2, a0_3, a0_4⟩ ⟨a1_0, a1_1, a1_2, a1_3, a1_4⟩)
theorem qjj.calls (a0_0 : ByteArray) (a0_1 : ByteArray) (a0_2 : ByteArray) (a0_3 : ByteArray) (a0_4 : ByteArray) (a1_0 : ByteArray) (a1_1 : ByteArray) (a1_2 : ByteArray) (a1_3 : ByteArray) (a1_4 : ByteArray) (r : Bool) (w : World) (h : qjj.f a0_0 a0_1 a0_2 a0_3 a0_4 a1_0 a1_1 a1_2 a1_3 a1_4 = some r) :
  Calls Tryd.prog 52 #[.agg #[.string a0_0, .string a0_1, .string a0_2, .string a0_3, .string a0_4], .agg #[.string a1_0, .string a1_1, .string a1_2, .string a1_3, .string a1_4]] w fun e w' => e = .returned (.bool r) ∧ Below w.heap.size w w' := by
 cases h
 refine (match_calls ⟨a0_0, a0_1, a0_2, a0_3, a0_4⟩ ⟨a1_0, a1_1, a1_2, a1_3, a1_4⟩ w).mono ?_
 rintro e w' ⟨rfl, hg⟩
 exact ⟨rfl, hg.below⟩
def OkS (l : List S112) : Prop := l.length ≤ 1000000 ∧ ∀ x ∈ l, qdl x.f1 ∧ qdl x.f2
instance (l : List S112) : Decidable (OkS l) := by unfold OkS; exact inferInstance
def qhf.f (l0 : List S112) : Option (List S112 × Int) := if OkS l0 then some (ofK l0) else none
theorem qhf.calls (A0 : Option Addr) (c0 : Nat) (l0 : List (S112)) (r1 : List (S112)) (r2 : Int) (w : World) (hr0 : Kd.C k112 w A0 l0.length l0) (hc0 : l0.length ≤ c0) (h : qhf.f l0 = some (r1, r2)) :
  Calls Tryd.prog 31 #[.slice A0 l0.length c0] w fun e w' => ∃ v0_ : Value, e = .returned (.tuple #[v0_, .int .i64 r2]) ∧ Kd.R k112 112 w' w.heap.size (fun _ => True) v0_ r1 ∧ Below w.heap.size w w' := by
 unfold qhf.f at h
 by_cases hm : OkS l0
 ·rw [if_pos hm] at h
  have h2 : ofK l0 = (r1, r2) := Option.some.inj h
  have h1 := of_calls A0 c0 l0 w hr0 hc0 hm.1 hm.2
  rw [h2] at h1
  exact h1
 rw [if_neg hm] at h
 cases h
end
section
attribute [local go_sem] qfp qfn qgk qgj qex qew qfo qfm
def qiu.f (a0 : Int) (l1 : List Int) : Option (Int × Int) := (qgi.f l1).bind fun bt144 => (if bt144.2 = true then ((qdg.f bt144.1 a0).bind fun t146 => (if t146 = true then (some (bt144.1, 0)) else (some (0, 4)))) else (some (0, 4)))
set_option maxRecDepth 100000 in
theorem qiu.calls (a0 : Int) (A1 : Option Addr) (c1 : Nat) (l1 : List Int) (r1 : Int) (r2 : Int) (w : World) (hr1 : Kd.C (Kd.int .i64) w A1 l1.length l1) (hc1 : l1.length ≤ c1) (h : qiu.f a0 l1 = some (r1, r2)) :
  Calls Tryd.prog 172 #[.int .i64 a0, .slice A1 l1.length c1] w fun e w' => e = .returned (.tuple #[.int .i64 r1, .int .i64 r2]) ∧ qcs w w' := by
 have HR1 := qd.mk hr1
 have HC1 := qd.mk hc1
 clear hr1 hc1
 have H : ((qgi.f l1).bind fun bt144 => (if bt144.2 = true then ((qdg.f bt144.1 a0).bind fun t146 => (if t146 = true then (some (bt144.1, 0)) else (some (0, 4)))) else (some (0, 4)))) = some (r1, r2) := h
 clear h
 replace H := Option.bind_eq_some_iff.mp H
 obtain ⟨⟨t144, t145⟩, A30, H⟩ := H
 try dsimp only at H
 have A3 := qd.mk A30
 clear A30
 by_cases c4 : t145 = true
 ·subst c4
  have H1 : ((qdg.f t144 a0).bind fun t146 => (if t146 = true then (some (t144, 0)) else (some (0, 4)))) = some (r1, r2) := by rw [if_pos rfl] at H; exact H
  clear H
  have H := H1
  clear H1
  replace H := Option.bind_eq_some_iff.mp H
  obtain ⟨t146, A50, H⟩ := H
  replace H : (if t146 = true then (some (t144, 0)) else (some (0, 4))) = some (r1, r2) := H
  have A5 := qd.mk A50
  clear A50
  by_cases c6 : t146 = true
  ·subst c6
   have H1 : (some (t144, 0)) = some (r1, r2) := by rw [if_pos rfl] at H; exact H
   clear H
   have H := H1
   clear H1
   simp only [Option.some.injEq, Prod.mk.injEq] at H
   obtain ⟨rfl, rfl⟩ := H
   go_enter Tryd.func172, Tryd.ntmps172
   go_wp2_with (first | ((with_reducible refine qbf (f := 107) rfl ?_); refine qcp (some 10) rfl rfl Tryd.func107 (by kernel_rfl) rfl #[.slice A1 l1.length c1] rfl ml_ ?_; (with_reducible refine (qgi.calls _ _ l1 t144 true _ ?side1 ?side2 A3.out).mono ?_); (case side1 => repeat (first | exact HR1.out | (with_reducible refine Kd.qck ?_ _) | (with_reducible refine Kd.qcf ?_ _) | (with_reducible refine Kd.qcz ?_))); (case side2 => exact HC1.out); rintro e w' ⟨rfl, ⟨nd, rfl⟩⟩; refine ⟨_, rfl, ?_⟩) | (go_at_call 134; (with_reducible refine (qdg.calls t144 a0 true _ A5.out).mono ?_); rintro e w' ⟨rfl, ⟨nd, rfl⟩⟩))
   go_ret2
   exact ⟨sm_, dn_⟩
  replace c6 := Bool.eq_false_iff.mpr c6
  subst c6
  have H1 : (some (0, 4)) = some (r1, r2) := by rw [if_neg (show ¬ (false = true) by decide)] at H; exact H
  clear H
  have H := H1
  clear H1
  simp only [Option.some.injEq, Prod.mk.injEq] at H
  obtain ⟨rfl, rfl⟩ := H
  go_enter Tryd.func172, Tryd.ntmps172
  go_wp2_with (first | ((with_reducible refine qbf (f := 107) rfl ?_); refine qcp (some 10) rfl rfl Tryd.func107 (by kernel_rfl) rfl #[.slice A1 l1.length c1] rfl ml_ ?_; (with_reducible refine (qgi.calls _ _ l1 t144 true _ ?side1 ?side2 A3.out).mono ?_); (case side1 => repeat (first | exact HR1.out | (with_reducible refine Kd.qck ?_ _) | (with_reducible refine Kd.qcf ?_ _) | (with_reducible refine Kd.qcz ?_))); (case side2 => exact HC1.out); rintro e w' ⟨rfl, ⟨nd, rfl⟩⟩; refine ⟨_, rfl, ?_⟩) | (go_at_call 134; (with_reducible refine (qdg.calls t144 a0 false _ A5.out).mono ?_); rintro e w' ⟨rfl, ⟨nd, rfl⟩⟩))
  go_ret2
  exact ⟨sm_, dn_⟩
 ·replace c4 := Bool.eq_false_iff.mpr c4
  subst c4
  have H1 : (some (0, 4)) = some (r1, r2) := by rw [if_neg (show ¬ (false = true) by decide)] at H; exact H
  clear H
  have H := H1
  clear H1
  simp only [Option.some.injEq, Prod.mk.injEq] at H
  obtain ⟨rfl, rfl⟩ := H
  go_enter Tryd.func172, Tryd.ntmps172
  go_wp2_with (first | ((with_reducible refine qbf (f := 107) rfl ?_); refine qcp (some 10) rfl rfl Tryd.func107 (by kernel_rfl) rfl #[.slice A1 l1.length c1] rfl ml_ ?_; (with_reducible refine (qgi.calls _ _ l1 t144 false _ ?side1 ?side2 A3.out).mono ?_); (case side1 => repeat (first | exact HR1.out | (with_reducible refine Kd.qck ?_ _) | (with_reducible refine Kd.qcf ?_ _) | (with_reducible refine Kd.qcz ?_))); (case side2 => exact HC1.out); rintro e w' ⟨rfl, ⟨nd, rfl⟩⟩; refine ⟨_, rfl, ?_⟩))
  go_ret2
  exact ⟨sm_, dn_⟩
end
section
open Go.Sort
def Tch (b : Nat) (x y : Value) (k : Nat) : Prop := k = b ∨ x.ownBlock = some k ∨ y.ownBlock = some k
structure qhe (w : World) (base b : Nat) (A B : List Int) (x y : Value) : Prop where
 blk : w.heap[b]? = some (.cells #[x, y] 228 (0, 0))
 ra : (Kd.int .i64).R 3 w base (fun _ => True) x A
 rb : (Kd.int .i64).R 3 w base (fun _ => True) y B
 ap : ∀ k, x.ownBlock = some k → y.ownBlock ≠ some k
 low : base ≤ b
section
variable {w w' w2 : World} {base b : Nat} {A B : List Int} {x y v1 : Value} {a : Int}
theorem qlh {e : Nat} {v : Value} {xs : List Int} (h : (Kd.int .i64).R e w base (fun _ => True) v xs) (hm : ∀ k, v.ownBlock = some k → k < w.heap.size → w'.heap[k]? = w.heap[k]?) : (Kd.int .i64).R e w' base (fun _ => True) v xs := by
 have h1 := Kd.qdt (Kd.qkn rfl h) (ok' := fun k => v.ownBlock = some k) (fun k hk => hk.symm)
 exact Kd.qdt (Kd.qhj h1 hm) (fun _ _ => trivial)
theorem int_far {v : Value} {xs : List Int} {cs : Array Value} (h : (Kd.int .i64).R 3 w base (fun _ => True) v xs) (hb : w.heap[b]? = some (.cells cs 228 (0, 0))) (i : Nat) (u : Value) : (Kd.int .i64).R 3 (w.setCell ⟨b, i, none⟩ u) base (fun _ => True) v xs :=
 Kd.qdt (Kd.qjh (p := ⟨b, i, none⟩) (Kd.qjs h hb (by decide)) (fun k hk => hk.2) u) (fun _ _ => trivial)
theorem int_lt {e : Nat} {v : Value} {xs : List Int} (h : (Kd.int .i64).R e w base (fun _ => True) v xs) {k : Nat} (hk : v.ownBlock = some k) : base ≤ k ∧ k < w.heap.size := by
 have := (Kd.qgt h).1 k hk
 exact ⟨this.2.1, this.2.2.1⟩
theorem qhe.lt (h : qhe w base b A B x y) {k : Nat} (hk : Tch b x y k) : base ≤ k ∧ k < w.heap.size := by
 rcases hk with rfl | hk | hk
 ·exact ⟨h.low, qeo h.blk⟩
 ·exact int_lt h.ra hk
 ·exact int_lt h.rb hk
theorem qhe.step (h : qhe w base b A B x y) (hm : ∀ k, Tch b x y k → w'.heap[k]? = w.heap[k]?) : qhe w' base b A B x y :=
 ⟨(hm b (.inl rfl)).trans h.blk, qlh h.ra (fun k hk _ => hm k (.inr (.inl hk))), qlh h.rb (fun k hk _ => hm k (.inr (.inr hk))), h.ap, h.low⟩
theorem qhe.below (h : qhe w base b A B x y) (hb : Below w.heap.size w w') : qhe w' base b A B x y := h.step (fun k hk => hb.block k (h.lt hk).2)
theorem col_left (h : qhe w base b A B x y) (hro : (Kd.int .i64).R 3 w2 base (fun _ => True) v1 (A ++ [a])) (hg : w.grownBy w2 x.ownBlock) (hat : v1.ownBlock = x.ownBlock ∨ ∃ q, v1.ownBlock = some q ∧ w.heap.size ≤ q) :
  qhe (w2.setCell ⟨b, 0, none⟩ v1) base b (A ++ [a]) B v1 y ∧ But (Tch b x y) w (w2.setCell ⟨b, 0, none⟩ v1) ∧ ∀ k, Tch b v1 y k → Tch b x y k ∨ w.heap.size ≤ k := by
 have hb2 := qer h.blk hg (Kd.R_ne h.ra h.blk (by decide))
 refine ⟨⟨qcr hb2 0 _ rfl, int_far hro hb2 _ _, int_far (qlh h.rb (fun k hk hlt => hg.block k hlt (fun e => h.ap k e.symm hk))) hb2 _ _, fun k hk hy => ?_, h.low⟩, (But.qjc hg (fun k e => .inr (.inl e))).setCell (.inl rfl) _, fun k hk => ?_⟩
 ·rcases hat with e | ⟨q, e, hq⟩
  ·exact h.ap k (e.symm.trans hk) hy
  ·have := (int_lt h.rb hy).2
   rw [e] at hk
   obtain rfl := Option.some.inj hk
   omega
 ·rcases hk with rfl | hk | hk
  ·exact .inl (.inl rfl)
  ·rcases hat with e | ⟨q, e, hq⟩
   ·exact .inl (.inr (.inl (e.symm.trans hk)))
   ·rw [e] at hk
    obtain rfl := Option.some.inj hk
    exact .inr hq
  ·exact .inl (.inr (.inr hk))
theorem col_right (h : qhe w base b A B x y) (hro : (Kd.int .i64).R 3 w2 base (fun _ => True) v1 (B ++ [a])) (hg : w.grownBy w2 y.ownBlock) (hat : v1.ownBlock = y.ownBlock ∨ ∃ q, v1.ownBlock = some q ∧ w.heap.size ≤ q) :
  qhe (w2.setCell ⟨b, 1, none⟩ v1) base b A (B ++ [a]) x v1 ∧ But (Tch b x y) w (w2.setCell ⟨b, 1, none⟩ v1) ∧ ∀ k, Tch b x v1 k → Tch b x y k ∨ w.heap.size ≤ k := by
 have hb2 := qer h.blk hg (Kd.R_ne h.rb h.blk (by decide))
 refine ⟨⟨qcr hb2 1 _ rfl, int_far (qlh h.ra (fun k hk hlt => hg.block k hlt (fun e => h.ap k hk e.symm))) hb2 _ _, int_far hro hb2 _ _, fun k hk hy => ?_, h.low⟩, (But.qjc hg (fun k e => .inr (.inr e))).setCell (.inl rfl) _, fun k hk => ?_⟩
 ·rcases hat with e | ⟨q, e, hq⟩
  ·exact h.ap k hk (e.symm.trans hy)
  ·have := (int_lt h.ra hk).2
   rw [e] at hy
   obtain rfl := Option.some.inj hy
   omega
 ·rcases hk with rfl | hk | hk
  ·exact .inl (.inl rfl)
  ·exact .inl (.inr (.inl hk))
  ·rcases hat with e | ⟨q, e, hq⟩
   ·exact .inl (.inr (.inr (e.symm.trans hk)))
   ·rw [e] at hk
    obtain rfl := Option.some.inj hk
    exact .inr hq
end
set_option maxRecDepth 100000 in
theorem add_calls (base b : Nat) (A B : List Int) (x y : Value) (l0 l1 l4 l5 : ByteArray) (a c : Int) (v6 : Value) (w : World) (h : qhe w base b A B x y) (hA : A.length ≤ 1000000) (hB : B.length ≤ 1000000) (hbs : base ≤ w.heap.size) :
  Calls Tryd.prog 171 #[.pointer (some ⟨b, 0, none⟩), .agg #[.string l0, .string l1, .int .i64 a, .int .i64 c, .string l4, .string l5, v6]] w fun e w' => e = .returned (.tuple #[]) ∧ ∃ x' y', qhe w' base b (A ++ [a]) (B ++ [c]) x' y' ∧ But (Tch b x y) w w' ∧ ∀ k, Tch b x' y' k → Tch b x y k ∨ w.heap.size ≤ k := by
 have HC := qd.mk h
 clear h
 go_enter Tryd.func171, Tryd.ntmps171
 go_upto_region 1 with (fail)
 refine qdj (P := fun x => Code.wp _ _ _ _ x) _ ?_
 intro w1 hw1
 have HB1 := qd.mk (show Below w.heap.size w w1 from by rw [hw1]; exact qbk (Below.refl _ _) _)
 have HK1 := qd.mk (show w1.heap[w.heap.size]? = some (.cells #[.string l0, .string l1, .int .i64 a, .int .i64 c, .string l4, .string l5, v6] 109 (0, 0)) from by rw [hw1]; exact qdu w _)
 obtain ⟨g, hg⟩ : ∃ g, w.heap.size = g := ⟨_, rfl⟩
 have HG := qd.mk hg
 rw [hg] at HK1 ⊢
 clear hw1 hg
 have HC1 := qd.mk (HC.out.below HB1.out)
 have HCD := qd.mk (show qhe w1.drew base b A B x y from HC1.out.step (fun _ _ => rfl))
 have HKD := qd.mk (show w1.drew.heap[g]? = some (.cells #[.string l0, .string l1, .int .i64 a, .int .i64 c, .string l4, .string l5, v6] 109 (0, 0)) from HK1.out)
 have HBG := qd.mk (show b ≠ g from by have := qeo HC.out.blk; have := HG.out; omega)
 have HS1 := qd.mk (show base ≤ w1.drew.heap.size from Nat.le_trans hbs HB1.out.size)
 have HWS := qd.mk (show w.heap.size ≤ w1.drew.heap.size from HB1.out.size)
 go_cut [4, 5, 6, 7, 8, 9, 10, 11, 12, 13, 14] (fun _ _ _ _ _ _ _ _ _ _ _ wc => ∃ x', qd (qhe wc base b (A ++ [a]) B x' y) ∧ qd (But (Tch b x y) w wc) ∧ qd (∀ k, Tch b x' y k → Tch b x y k ∨ w.heap.size ≤ k) ∧ qd (wc.heap[g]? = some (.cells #[.string l0, .string l1, .int .i64 a, .int .i64 c, .string l4, .string l5, v6] 109 (0, 0))))
 case first =>
  have c0 := (qg HC1.out.blk 0).trans rfl
  have q2 := (qg HK1.out 2).trans rfl
  have hbl := qeo HC1.out.blk
  have hgl := qeo HK1.out
  go_region_law (first | (refine Kd.qes (Kd.int .i64) (w0 := w1) (W := w1.drew) base (by rfl) (.tmp 8) (.tmp 11) 43 3 (.int .i64 0) 8 rfl Tryd.underlying43 info3 rfl (by decide) (by omega) x A a [.int .i64 a] (fun _ => True) (fun _ => False) rfl rfl ?aP (fun _ hk => hk.elim) ?aF ?aO ?aB ?aS ?aL ?_; (case aP => exact rfl); (case aF => exact fun k hk => trivial); (case aO => exact HCD.out.ra); (case aB => exact ⟨rfl, rfl, rfl, Nat.le_refl _, fun _ _ => rfl⟩); (case aS => exact HS1.out); (case aL => omega); intro v1 w2 hro hbl hg hat; obtain ⟨A1, c1, rfl⟩ := Kd.qct hro; have HRO1 := qd.mk hro; have HGR1 := qd.mk hg; have HAT1 := qd.mk hat; have B2 := qer HCD.out.blk hg (Kd.R_ne HCD.out.ra HCD.out.blk (by decide)); have crs1 := (qg B2 0).trans rfl; have frs1 := qbq B2 0; clear hro hbl hg hat B2))
  all_goals
   go_wp2
   go_meet
   case rel =>
    have HX := col_left HCD.out HRO1.out HGR1.out HAT1.out
    rw [show (A ++ [a]).length = A.length + 1 by simp] at HX
    exact ⟨_, ⟨HX.1⟩, ⟨(But.of_below (qdo HB1.out) _).trans HX.2.1⟩, ⟨fun k hk => (HX.2.2 k hk).imp id (Nat.le_trans HWS.out)⟩, ⟨(Below.heap_setCell _ _ _ _ HBG.out.symm).trans (qer HKD.out HGR1.out (Kd.R_ne HCD.out.ra HKD.out (by decide)))⟩⟩
 obtain ⟨x', HCC, HBC, HTC, HKC⟩ := hcut
 clear HC1 HCD HKD HK1 HC
 have HCE := qd.mk (show qhe wc.drew base b (A ++ [a]) B x' y from HCC.out.step (fun _ _ => rfl))
 have HS2 := qd.mk (show base ≤ wc.drew.heap.size from Nat.le_trans hbs HBC.out.size)
 have c0 := (qg HCC.out.blk 1).trans rfl
 have q2 := (qg HKC.out 3).trans rfl
 have hbl := qeo HCC.out.blk
 have hgl := qeo HKC.out
 go_upto_region 2 with (fail)
 go_region_law (first | (refine Kd.qes (Kd.int .i64) (w0 := wc) (W := wc.drew) base (by rfl) (.tmp 19) (.tmp 22) 43 3 (.int .i64 0) 8 rfl Tryd.underlying43 info3 rfl (by decide) (by omega) y B c [.int .i64 c] (fun _ => True) (fun _ => False) rfl rfl ?aP (fun _ hk => hk.elim) ?aF ?aO ?aB ?aS ?aL ?_; (case aP => exact rfl); (case aF => exact fun k hk => trivial); (case aO => exact HCE.out.rb); (case aB => exact ⟨rfl, rfl, rfl, Nat.le_refl _, fun _ _ => rfl⟩); (case aS => exact HS2.out); (case aL => omega); intro v1 w4 hro hbl hg hat; obtain ⟨A2, c2, rfl⟩ := Kd.qct hro; have HRO2 := qd.mk hro; have HGR2 := qd.mk hg; have HAT2 := qd.mk hat; have B2 := qer HCE.out.blk hg (Kd.R_ne HCE.out.rb HCE.out.blk (by decide)); have crs2 := (qg B2 1).trans rfl; have frs2 := qbq B2 1; clear hro hbl hg hat B2))
 all_goals
  go_end0
  have HX := col_right HCE.out HRO2.out HGR2.out HAT2.out
  rw [show (B ++ [c]).length = B.length + 1 by simp] at HX
  have hbd : But (Tch b x y) wc wc.drew := But.of_below (qdo (Below.refl _ _)) _
  have hsub : ∀ k, k < w.heap.size → Tch b x' y k → Tch b x y k := fun k hk h => (HTC.out k h).elim id (fun h2 => by omega)
  refine ⟨rfl, _, _, HX.1, ?_, fun k hk => ?_⟩
  ·exact ⟨(HBC.out.trans hbd).os ▸ HX.2.1.os, (HBC.out.trans hbd).tape ▸ HX.2.1.tape, (HBC.out.trans hbd).output ▸ HX.2.1.output, Nat.le_trans HBC.out.size HX.2.1.size, fun k hk hn => (HX.2.1.block k (Nat.lt_of_lt_of_le hk HBC.out.size) (fun h => hn (hsub k hk h))).trans (HBC.out.block k hk hn)⟩
  ·exact (HX.2.2 k hk).elim (fun h => HTC.out k h) (fun h => .inr (Nat.le_trans HBC.out.size h))
theorem sum_zero {l : List Int} (hl : l.length ≤ 1000000) (hi : ∀ x ∈ l, qdl x) : qiu.f 0 l = some (0, if l.sum = 0 then 0 else 4) := by
 unfold qiu.f qgi.f
 rw [if_pos hl, if_pos hi]
 by_cases h : qdl l.sum
 rotate_left
 ·rw [if_neg h]
  have h0 : l.sum ≠ 0 := fun e => h (by rw [e]; unfold qdl; omega)
  rw [if_neg h0]
  rfl
 rw [if_pos h]
 simp only [Option.bind_some, if_true]
 unfold qdg.f
 have e : wrap64 (-0) = 0 := by decide +kernel
 rw [e]
 by_cases h0 : l.sum = 0
 ·rw [if_pos (by omega), if_pos h0, h0]
  rfl
 rw [if_neg h0]
 by_cases h1 : l.sum ≥ 0
 ·rw [if_pos h1, decide_eq_false (by omega)]
  rfl
 rw [if_neg h1]
 rfl
theorem sum_is {A : Option Addr} {c : Nat} {l : List Int} {w : World} (hr : (Kd.int .i64).C w A l.length l) (hc : l.length ≤ c) (hl : l.length ≤ 1000000) (hi : ∀ x ∈ l, qdl x) {z : Int} (hz : (if l.sum = 0 then (0 : Int) else 4) = z) :
  Calls Tryd.prog 172 #[.int .i64 0, .slice A l.length c] w fun e w' => e = .returned (.tuple #[.int .i64 0, .int .i64 z]) ∧ qcs w w' :=
 qiu.calls 0 A c l 0 z w hr hc (by rw [sum_zero hl hi, hz])
set_option maxRecDepth 100000 in
theorem qoc (base b : Nat) (A B : List Int) (x y : Value) (w : World) (h : qhe w base b A B x y) (hA : A.length ≤ 1000000) (hB : B.length ≤ 1000000) (iA : ∀ z ∈ A, qdl z) (iB : ∀ z ∈ B, qdl z) :
  Calls Tryd.prog 137 #[.pointer (some ⟨b, 0, none⟩), .int .i64 0] w fun e w' => e = .returned (.tuple #[.int .i64 0, .int .i64 0, .int .i64 (if A.sum = 0 ∧ B.sum = 0 then 0 else 4)]) ∧ Below w.heap.size w w' := by
 obtain ⟨Aa, ca, rfl⟩ := Kd.qct h.ra
 obtain ⟨Ab, cb, rfl⟩ := Kd.qct h.rb
 have HRA := qd.mk (Kd.qbt h.ra)
 have HRB := qd.mk (Kd.qbt h.rb)
 have HBK := qd.mk h.blk
 have HIA := qd.mk iA
 have HIB := qd.mk iB
 have HLA := qd.mk hA
 have HLB := qd.mk hB
 have c0 := (qg h.blk 0).trans rfl
 clear h iA iB hA hB
 obtain ⟨za, hza⟩ : ∃ z, (if A.sum = 0 then (0 : Int) else 4) = z := ⟨_, rfl⟩
 obtain ⟨zb, hzb⟩ : ∃ z, (if B.sum = 0 then (0 : Int) else 4) = z := ⟨_, rfl⟩
 have HZA := qd.mk hza
 have HZB := qd.mk hzb
 by_cases hA0 : A.sum = 0
 rotate_left
 ·rw [if_neg hA0] at hza
  subst hza
  rw [if_neg (fun h => hA0 h.1)]
  clear hA0 hzb
  go_enter Tryd.func137, Tryd.ntmps137
  go_wp2_with (first | (go_at_call 172; (with_reducible refine (sum_is HRA.out.2.2 HRA.out.2.1 HLA.out HIA.out HZA.out).mono ?_); rintro e w' ⟨rfl, hd_⟩; have HD := qd.mk hd_; clear hd_ c0))
  go_ret3
  exact ⟨rfl, HD.out.below⟩
 rw [if_pos hA0] at hza
 subst hza
 by_cases hB0 : B.sum = 0
 ·rw [if_pos hB0] at hzb
  subst hzb
  rw [if_pos ⟨hA0, hB0⟩]
  clear hA0 hB0
  go_enter Tryd.func137, Tryd.ntmps137
  go_wp2_with (first | (go_at_call 172; (with_reducible refine (sum_is HRA.out.2.2 HRA.out.2.1 HLA.out HIA.out HZA.out).mono ?_); rintro e w' ⟨rfl, ⟨nd, rfl⟩⟩; have c1 := (qg (qp HBK.out nd) 1).trans rfl; have HRB2 := qd.mk (Kd.qcf HRB.out.2.2 nd); clear c0) | (go_at_call 172; (with_reducible refine (sum_is HRB2.out HRB.out.2.1 HLB.out HIB.out HZB.out).mono ?_); rintro e w' ⟨rfl, hd_⟩; have HD := qd.mk hd_; clear hd_ c1))
  go_ret3
  exact ⟨rfl, qcn (qbn (Below.refl _ _) _) (Nat.le_refl _) HD.out.below⟩
 rw [if_neg hB0] at hzb
 subst hzb
 rw [if_neg (fun h => hB0 h.2)]
 clear hA0 hB0
 go_enter Tryd.func137, Tryd.ntmps137
 go_wp2_with (first | (go_at_call 172; (with_reducible refine (sum_is HRA.out.2.2 HRA.out.2.1 HLA.out HIA.out HZA.out).mono ?_); rintro e w' ⟨rfl, ⟨nd, rfl⟩⟩; have c1 := (qg (qp HBK.out nd) 1).trans rfl; have HRB2 := qd.mk (Kd.qcf HRB.out.2.2 nd); clear c0) | (go_at_call 172; (with_reducible refine (sum_is HRB2.out HRB.out.2.1 HLB.out HIB.out HZB.out).mono ?_); rintro e w' ⟨rfl, hd_⟩; have HD := qd.mk hd_; clear hd_ c1))
 go_ret3
 exact ⟨rfl, qcn (qbn (Below.refl _ _) _) (Nat.le_refl _) HD.out.below⟩
end
section
open Go.Sort Go.Maps Go.ChangeShapes Go.WideShapes Go.WideMaps
def vR (v : Value) : Option (DataW Value × List MemPlace) := some (.held v, [])
theorem zero210 (w : World) : (zeroValue 210).run Tryd.prog w = .ok (.pointer none) w := by kernel_rfl
theorem strKeyed : Keyed Tryd.prog 9 := string_keyed Tryd.underlying9
theorem keyS {s : ByteArray} (h : s.size ≤ maxLen) : keyOf Tryd.prog 9 (.string s) = some (.string s.data.toList) := keyOf_string_mk Tryd.underlying9 h
theorem lit_ne {a b : ByteArray} (h : a ≠ b) : Lit.string a.data.toList ≠ Lit.string b.data.toList := by
 intro h'
 simp only [Lit.string.injEq] at h'
 exact h (ByteArray.ext (Array.ext' h'))
structure Cl where
 key : ByteArray
 A : List Int
 B : List Int
 b : Nat
 x : Value
 y : Value
def Cl.t (c : Cl) (k : Nat) : Prop := Tch c.b c.x c.y k
def ptrL (L : List Cl) (s : ByteArray) : Value := match L.find? (fun c => decide (c.key = s)) with | some c => .pointer (some ⟨c.b, 0, none⟩) | none => .pointer none
structure Cols (w : World) (base m n : Nat) (L : List Cl) : Prop where
 map : ∃ D : DataW Value, w.ownsMap Tryd.prog 9 vR m n D ∧ ∀ s : ByteArray, s.size ≤ maxLen → D.atKey (.string s.data.toList) (.held (.pointer none)) = .held (ptrL L s)
 col : ∀ c ∈ L, qhe w base c.b c.A c.B c.x c.y
 apart : L.Pairwise (fun c d => ∀ k, c.t k → ¬ d.t k)
 keys : L.Pairwise (fun c d => c.key ≠ d.key)
 off : ∀ c ∈ L, ¬ c.t m
 low : base ≤ m
 lt : m < w.heap.size
section
variable {w w' : World} {base m n : Nat} {L : List Cl}
theorem Cols.step (h : Cols w base m n L) (hm : w'.heap[m]? = w.heap[m]?) (hc : ∀ c ∈ L, ∀ k, c.t k → w'.heap[k]? = w.heap[k]?) : Cols w' base m n L := by
 obtain ⟨D, ⟨es, clock, h1, h2⟩, hD⟩ := h.map
 exact ⟨⟨D, ⟨es, clock, hm.trans h1, h2⟩, hD⟩, fun c hL => (h.col c hL).step (hc c hL), h.apart, h.keys, h.off, h.low, (Array.getElem?_eq_some_iff.1 (hm.trans h1)).1⟩
theorem Cols.below (h : Cols w base m n L) (hb : Below w.heap.size w w') : Cols w' base m n L :=
 h.step (hb.block m h.lt) (fun c hL k hk => hb.block k ((h.col c hL).lt hk).2)
theorem Cols.look (h : Cols w base m n L) {s : ByteArray} (hs : s.size ≤ maxLen) : (Instr.lookup 204 (.map (some m)) (.string s) false).run Tryd.prog w = .ok (ptrL L s) w := by
 obtain ⟨D, ho, hD⟩ := h.map
 obtain ⟨v, ps, hrun, hv⟩ := ho.lookup strKeyed Tryd.underlying204 (zero210 w) (zd := .held (.pointer none)) (zp := []) rfl (keyS hs)
 rw [hrun]
 simp only [vR, Option.some.injEq, Prod.mk.injEq] at hv
 rw [hD s hs] at hv
 simp only [DataW.held.injEq] at hv
 rw [hv.1]
theorem ptrL_none {s : ByteArray} (h : ∀ c ∈ L, c.key ≠ s) : ptrL L s = .pointer none := by
 unfold ptrL
 rw [List.find?_eq_none.2 (fun c hc => by simpa using h c hc)]
theorem qma {c : Cl} (hk : L.Pairwise (fun c d => c.key ≠ d.key)) (hc : c ∈ L) : ptrL L c.key = .pointer (some ⟨c.b, 0, none⟩) := by
 unfold ptrL
 have : L.find? (fun d => decide (d.key = c.key)) = some c := by
  induction L with
  | nil => cases hc
  | cons d r ih =>
   rw [List.pairwise_cons] at hk
   rcases List.mem_cons.1 hc with rfl | hc
   ·rw [List.find?_cons_of_pos (by simp)]
   ·rw [List.find?_cons_of_neg (by simpa using hk.1 c hc)]
    exact ih hk.2 hc
 rw [this]
theorem ptrL_snoc {c : Cl} (s : ByteArray) : ptrL (L ++ [c]) s = if c.key = s ∧ (∀ d ∈ L, d.key ≠ s) then .pointer (some ⟨c.b, 0, none⟩) else ptrL L s := by
 unfold ptrL
 rw [List.find?_append]
 cases hf : L.find? (fun c => decide (c.key = s)) with
 | none =>
  have hn : ∀ d ∈ L, d.key ≠ s := fun d hd => by simpa using List.find?_eq_none.1 hf d hd
  by_cases e : c.key = s
  ·rw [if_pos ⟨e, hn⟩]
   simp [e]
  rw [if_neg (fun h => e h.1)]
  simp [e]
 | some d =>
  have hd : d ∈ L ∧ d.key = s := ⟨List.mem_of_find?_eq_some hf, by simpa using List.find?_some hf⟩
  rw [if_neg (fun h => h.2 d hd.1 hd.2)]
  simp
theorem Cols.put (h : Cols w base m n L) {s : ByteArray} (hs : s.size ≤ maxLen) (hn : n < maxLen) (hnew : ∀ c ∈ L, c.key ≠ s) {b : Nat} (hb : w.heap[b]? = some (.cells #[.slice none 0 0, .slice none 0 0] 228 (0, 0))) (hbb : base ≤ b) (hfar : ∀ c ∈ L, ¬ c.t b) :
  ∃ w', (Instr.mapUpdate 204 (.map (some m)) (.string s) (.pointer (some ⟨b, 0, none⟩))).run Tryd.prog w = .ok () w' ∧ Cols w' base m (n + 1) (L ++ [⟨s, [], [], b, .slice none 0 0, .slice none 0 0⟩]) ∧ w.grownBy w' (some m) := by
 obtain ⟨D, ho, hD⟩ := h.map
 have hM := World.ownsMap.isMap ho
 obtain ⟨w', hrun, ho', hg⟩ := ho.update strKeyed Tryd.underlying204 hn (val := .pointer (some ⟨b, 0, none⟩)) (d := .held (.pointer (some ⟨b, 0, none⟩))) (ps := []) (keyS hs) rfl
 have hbm : b ≠ m := by
  rintro rfl
  obtain ⟨es, cl, h1, _⟩ := ho
  rw [hb] at h1
  cases h1
 have hblk : ∀ k, k < w.heap.size → k ≠ m → w'.heap[k]? = w.heap[k]? := fun k hk hne => hg.block k hk (fun e => hne (Option.some.inj e))
 have ht : ∀ k, Tch b (.slice none 0 0) (.slice none 0 0) k → k = b := fun k hk => by
  rcases hk with e | e | e
  ·exact e
  ·cases e
  ·cases e
 refine ⟨w', hrun, ⟨⟨_, ho', fun t hts => ?_⟩, fun c hc => ?_, ?_, ?_, fun c hc => ?_, h.low, Nat.lt_of_lt_of_le h.lt hg.size⟩, hg⟩
 ·rw [ptrL_snoc]
  by_cases e : s = t
  ·subst e
   rw [atKey_put_same hM (strKeyed.key (keyS hs)), if_pos ⟨rfl, hnew⟩]
  rw [atKey_put_other (lit_ne (fun e2 => e e2.symm)), if_neg (fun h => e h.1), hD t hts]
 ·rcases List.mem_append.1 hc with hc | hc
  ·exact (h.col c hc).step (fun k hk => hblk k ((h.col c hc).lt hk).2 (fun e => h.off c hc (e ▸ hk)))
  ·rw [List.mem_singleton] at hc
   subst hc
   exact ⟨(hblk b (qeo hb) hbm).trans hb, Kd.qhz _ _ _ _ _, Kd.qhz _ _ _ _ _, (fun k hk => by cases hk), hbb⟩
 ·rw [List.pairwise_append]
  refine ⟨h.apart, List.pairwise_singleton _ _, fun c hc d hd k hk hk2 => ?_⟩
  rw [List.mem_singleton] at hd
  subst hd
  have := ht k hk2
  subst this
  exact hfar c hc hk
 ·rw [List.pairwise_append]
  refine ⟨h.keys, List.pairwise_singleton _ _, fun c hc d hd => ?_⟩
  rw [List.mem_singleton] at hd
  subst hd
  exact hnew c hc
 ·rcases List.mem_append.1 hc with hc | hc
  ·exact h.off c hc
  ·rw [List.mem_singleton] at hc
   subst hc
   exact fun hk => hbm (ht m hk).symm
theorem qje {α : Type} {l : List α} {j i : Nat} {x y : α} (h : (l.set j x)[i]? = some y) : (i = j ∧ y = x) ∨ (i ≠ j ∧ l[i]? = some y) := by
 rw [List.getElem?_set] at h
 by_cases e : j = i
 ·rw [if_pos e] at h
  split at h
  ·exact .inl ⟨e.symm, (Option.some.inj h).symm⟩
  ·cases h
 rw [if_neg e] at h
 exact .inr ⟨fun h => e h.symm, h⟩
theorem qmc {α : Type} {R : α → α → Prop} {l : List α} (h : l.Pairwise R) {i j : Nat} {x y : α} (hij : i < j) (hi : l[i]? = some x) (hj : l[j]? = some y) : R x y := by
 obtain ⟨hi', rfl⟩ := List.getElem?_eq_some_iff.1 hi
 obtain ⟨hj', rfl⟩ := List.getElem?_eq_some_iff.1 hj
 exact List.pairwise_iff_getElem.1 h i j hi' hj' hij
theorem pair_set {α : Type} {R : α → α → Prop} {l : List α} (h : l.Pairwise R) {j : Nat} {z c : α} (hc : l[j]? = some c) (h1 : ∀ i d, i < j → l[i]? = some d → R d c → R d z) (h2 : ∀ i d, j < i → l[i]? = some d → R c d → R z d) : (l.set j z).Pairwise R := by
 rw [List.pairwise_iff_getElem]
 intro i1 i2 k1 k2 hlt
 rcases qje (List.getElem?_eq_getElem k1) with ⟨e1, b1⟩ | ⟨n1, b1⟩
 ·rcases qje (List.getElem?_eq_getElem k2) with ⟨e2, _⟩ | ⟨n2, b2⟩
  ·omega
  ·rw [b1]
   exact h2 i2 _ (by omega) b2 (qmc h (by omega) hc b2)
 ·rcases qje (List.getElem?_eq_getElem k2) with ⟨e2, b2⟩ | ⟨n2, b2⟩
  ·rw [b2]
   exact h1 i1 _ (by omega) b1 (qmc h (by omega) b1 hc)
  ·exact qmc h hlt b1 b2
theorem Cols.turn (h : Cols w base m n L) {j : Nat} {c z : Cl} (hc : L[j]? = some c) (hz : qhe w' base z.b z.A z.B z.x z.y) (hk : z.key = c.key) (hb : z.b = c.b) (hB : But c.t w w') (ht : ∀ k, z.t k → c.t k ∨ w.heap.size ≤ k) : Cols w' base m n (L.set j z) := by
 have hcm : c ∈ L := List.mem_of_getElem? hc
 have hmb : w'.heap[m]? = w.heap[m]? := hB.block m h.lt (h.off c hcm)
 have htl : ∀ d ∈ L, ∀ k, d.t k → k < w.heap.size := fun d hd k hk => ((h.col d hd).lt hk).2
 obtain ⟨D, ⟨es, clock, h1, h2⟩, hD⟩ := h.map
 have hj := (List.getElem?_eq_some_iff.1 hc).1
 refine ⟨⟨D, ⟨es, clock, hmb.trans h1, h2⟩, fun s hs => ?_⟩, fun d hd => ?_, ?_, ?_, fun d hd => ?_, h.low, Nat.lt_of_lt_of_le h.lt hB.size⟩
 ·rw [hD s hs]
  have : ∀ (M : List Cl) (j : Nat), M[j]? = some c → (M.set j z).find? (fun c => decide (c.key = s)) = (M.find? (fun c => decide (c.key = s))).map (fun d => if d.key = s ∧ False then z else d) ∨ ptrL (M.set j z) s = ptrL M s := by
   intro M
   induction M with
   | nil => intro j hj; simp at hj
   | cons d r ih =>
    intro j hj
    right
    cases j with
    | zero =>
     obtain rfl : d = c := by simpa using hj
     unfold ptrL
     rw [List.set_cons_zero]
     by_cases e : d.key = s
     ·rw [List.find?_cons_of_pos (by simp [hk, e]), List.find?_cons_of_pos (by simp [e]), ]
      simp only [hb]
     rw [List.find?_cons_of_neg (by simp [hk, e]), List.find?_cons_of_neg (by simp [e])]
    | succ j =>
     rw [List.set_cons_succ]
     unfold ptrL
     by_cases e : d.key = s
     ·rw [List.find?_cons_of_pos (by simp [e]), List.find?_cons_of_pos (by simp [e])]
     rw [List.find?_cons_of_neg (by simp [e]), List.find?_cons_of_neg (by simp [e])]
     rcases ih j (by simpa using hj) with h3 | h3
     ·rw [h3]
      cases r.find? (fun c => decide (c.key = s)) <;> simp
     ·exact h3
  rcases this L j hc with h3 | h3
  ·unfold ptrL
   rw [h3]
   cases L.find? (fun c => decide (c.key = s)) <;> simp
  ·rw [h3]
 ·obtain ⟨i, hi⟩ := List.mem_iff_getElem?.1 hd
  rcases qje hi with ⟨_, rfl⟩ | ⟨hne, hi⟩
  ·exact hz
  ·have hdm := List.mem_of_getElem? hi
   refine (h.col d hdm).step (fun k hk => hB.block k (htl d hdm k hk) (fun hck => ?_))
   rcases Nat.lt_or_gt_of_ne hne with h3 | h3
   ·exact qmc h.apart h3 hi hc k hk hck
   ·exact qmc h.apart h3 hc hi k hck hk
 ·refine pair_set h.apart hc (fun i d _ hd hR k hk hz => ?_) (fun i d _ hd hR k hz hk => ?_)
  ·rcases ht k hz with h3 | h3
   ·exact hR k hk h3
   ·have := htl d (List.mem_of_getElem? hd) k hk
    omega
  ·rcases ht k hz with h3 | h3
   ·exact hR k h3 hk
   ·have := htl d (List.mem_of_getElem? hd) k hk
    omega
 ·exact pair_set h.keys hc (fun i d _ _ hR => by rw [hk]; exact hR) (fun i d _ _ hR => by rw [hk]; exact hR)
 ·obtain ⟨i, hi⟩ := List.mem_iff_getElem?.1 hd
  rcases qje hi with ⟨_, rfl⟩ | ⟨hne, hi⟩
  ·intro hk
   rcases ht m hk with h3 | h3
   ·exact h.off c hcm h3
   ·have := h.lt; omega
  ·exact h.off d (List.mem_of_getElem? hi)
end
abbrev Grp := ByteArray × List Int × List Int
def absC (L : List Cl) : List Grp := L.map (fun c => (c.key, c.A, c.B))
def addC (s : ByteArray) (a b : Int) : List Grp → List Grp
 | [] => [(s, [a], [b])]
 | q :: r => if q.1 = s then (q.1, q.2.1 ++ [a], q.2.2 ++ [b]) :: r else q :: addC s a b r
def qku (l : List S109) : List Grp := l.foldl (fun acc x => addC x.f1 x.f2 x.f3 acc) []
theorem addC_new (s : ByteArray) (a b : Int) : ∀ (G : List Grp), (∀ q ∈ G, q.1 ≠ s) → addC s a b G = G ++ [(s, [a], [b])]
 | [], _ => rfl
 | q :: r, h => by
  unfold addC
  rw [if_neg (h q (by simp)), addC_new s a b r (fun p hp => h p (by simp [hp]))]
  rfl
theorem addC_old (s : ByteArray) (a b : Int) : ∀ (G : List Grp) (j : Nat) (q : Grp), G[j]? = some q → q.1 = s → G.Pairwise (fun c d => c.1 ≠ d.1) → addC s a b G = G.set j (q.1, q.2.1 ++ [a], q.2.2 ++ [b])
 | [], j, q, h, _, _ => by simp at h
 | p :: r, 0, q, h, hk, _ => by
  obtain rfl : p = q := by simpa using h
  unfold addC
  rw [if_pos hk]
  rfl
 | p :: r, j + 1, q, h, hk, hp => by
  rw [List.pairwise_cons] at hp
  have hq : r[j]? = some q := by simpa using h
  unfold addC
  rw [if_neg (fun e => hp.1 q (List.mem_of_getElem? hq) (e.trans hk.symm)), addC_old s a b r j q hq hk hp.2]
  rfl
section
variable {w w' : World} {base b m n : Nat} {A B : List Int} {x y v : Value} {ks : List ByteArray} {L : List Cl} {ok : Nat → Prop}
theorem tch_ne9 (hc : qhe w base b A B x y) {k : Nat} {cs : Array Value} (h : w.heap[k]? = some (.cells cs 9 (0, 0))) : ¬ Tch b x y k := by
 rintro (rfl | hk | hk)
 ·rw [hc.blk] at h; cases h
 ·obtain ⟨cs', h2⟩ := Kd.qea hc.ra k hk
  rw [h] at h2; cases h2
 ·obtain ⟨cs', h2⟩ := Kd.qea hc.rb k hk
  rw [h] at h2; cases h2
theorem row_but (h : Kd.string.R 9 w base ok v ks) (hc : qhe w base b A B x y) (hB : But (Tch b x y) w w') : Kd.string.R 9 w' base ok v ks := by
 have h1 := Kd.qdt (Kd.qkn rfl h) (ok' := fun k => v.ownBlock = some k) (fun k hk => hk.symm)
 have h2 := Kd.qhj h1 (w1 := w') (fun k hk hlt => by
  obtain ⟨cs, hcs⟩ := Kd.qea h k hk
  exact hB.block k hlt (tch_ne9 hc hcs))
 exact Kd.qdt h2 (fun k hk => h.1 k hk)
theorem Cols.grown (h : Cols w base m n L) (hr : Kd.string.R 9 w base ok v ks) (hg : w.grownBy w' v.ownBlock) : Cols w' base m n L := by
 refine h.step (hg.block m h.lt (fun e => ?_)) (fun c hc k hk => hg.block k ((h.col c hc).lt hk).2 (fun e => ?_))
 ·obtain ⟨cs, hcs⟩ := Kd.qea hr m e.symm
  obtain ⟨D, ⟨es, cl, h1, _⟩, _⟩ := h.map
  rw [hcs] at h1; cases h1
 ·obtain ⟨cs, hcs⟩ := Kd.qea hr k e.symm
  exact tch_ne9 (h.col c hc) hcs hk
theorem Cols.made (w : World) : Cols (w.alloc (.map #[] 0)) w.heap.size w.heap.size 0 [] :=
 ⟨⟨_, World.ownsMap_made w _ _ _, fun _ _ => rfl⟩, (fun c hc => by cases hc), .nil, .nil, (fun c hc => by cases hc), Nat.le_refl _, (by simp)⟩
theorem but_below {X : Nat → Prop} {w0 : World} (h0 : Below base w0 w) (h : But X w w') (hn : base ≤ w.heap.size) (hx : ∀ k, X k → base ≤ k) : Below base w0 w' := But.below h0 h hn hx
end
def LenOk (L : List Cl) (n i : Nat) : Prop := n ≤ i ∧ L.length ≤ i ∧ ∀ c ∈ L, c.A.length ≤ i ∧ c.B.length ≤ i
theorem LenOk.set {L : List Cl} {n i j : Nat} {c1 : Cl} {a b : Int} {x y : Value} (h : LenOk L n i) (hj : L[j]? = some c1) : LenOk (L.set j ⟨c1.key, c1.A ++ [a], c1.B ++ [b], c1.b, x, y⟩) n (i + 1) := by
 refine ⟨Nat.le_succ_of_le h.1, by rw [List.length_set]; exact Nat.le_succ_of_le h.2.1, fun c hc => ?_⟩
 obtain ⟨k, hk⟩ := List.mem_iff_getElem?.1 hc
 rcases qje hk with ⟨_, rfl⟩ | ⟨_, hk⟩
 ·have := h.2.2 c1 (List.mem_of_getElem? hj)
  simp only [List.length_append, List.length_singleton]
  omega
 ·have := h.2.2 c (List.mem_of_getElem? hk)
  omega
theorem LenOk.snoc {L : List Cl} {n i : Nat} {s : ByteArray} {a b : Int} {q : Nat} {x y : Value} (h : LenOk L n i) : LenOk (L ++ [⟨s, [a], [b], q, x, y⟩]) (n + 1) (i + 1) := by
 refine ⟨Nat.succ_le_succ h.1, by have := h.2.1; simp; omega, fun c hc => ?_⟩
 rcases List.mem_append.1 hc with hc | hc
 ·have := h.2.2 c hc
  omega
 ·rw [List.mem_singleton] at hc
  subst hc
  simp
theorem keys_set {L : List Cl} {j : Nat} {c z : Cl} (hj : L[j]? = some c) (hk : z.key = c.key) : (L.set j z).map Cl.key = L.map Cl.key := by
 apply List.ext_getElem?
 intro i
 rw [List.getElem?_map, List.getElem?_map, List.getElem?_set]
 by_cases e : j = i
 ·subst e
  rw [if_pos rfl, if_pos (List.getElem?_eq_some_iff.1 hj).1, hj]
  simp [hk]
 rw [if_neg e]
theorem abs_set {L : List Cl} {j : Nat} {z : Cl} : absC (L.set j z) = (absC L).set j (z.key, z.A, z.B) := by unfold absC; rw [List.map_set]
theorem abs_pair {L : List Cl} (h : L.Pairwise (fun c d => c.key ≠ d.key)) : (absC L).Pairwise (fun c d => c.1 ≠ d.1) := by unfold absC; rw [List.pairwise_map]; exact h
theorem qjr {l : List S109} {i : Nat} {x : S109} (h : l[i]? = some x) : qku (l.take (i + 1)) = addC x.f1 x.f2 x.f3 (qku (l.take i)) := by
 unfold qku
 rw [List.take_add_one, h, List.foldl_append]
 rfl
theorem row_grown {w w' : World} {base : Nat} {v : Value} {ks : List ByteArray} {ok : Nat → Prop} {r : Option Nat} (h : Kd.string.R 9 w base ok v ks) (hg : w.grownBy w' r) (hne : ∀ k cs, w.heap[k]? = some (.cells cs 9 (0, 0)) → some k ≠ r) : Kd.string.R 9 w' base ok v ks := by
 have h1 := Kd.qdt (Kd.qkn rfl h) (ok' := fun k => v.ownBlock = some k) (fun k hk => hk.symm)
 have h2 := Kd.qhj h1 (w1 := w') (fun k hk hlt => by
  obtain ⟨cs, hcs⟩ := Kd.qea h k hk
  exact hg.block k hlt (hne k cs hcs))
 exact Kd.qdt h2 (fun k hk => h.1 k hk)
theorem map_ne9 {w : World} {base m n : Nat} {L : List Cl} (h : Cols w base m n L) : ∀ k cs, w.heap[k]? = some (.cells cs 9 (0, 0)) → some k ≠ some m := by
 intro k cs hk e
 obtain rfl := Option.some.inj e
 obtain ⟨D, ⟨es, cl, h1, _⟩, _⟩ := h.map
 rw [hk] at h1; cases h1
theorem map_ne109 {w : World} {base m n t : Nat} {L : List Cl} {k : Nat} {cs : Array Value} (h : Cols w base m n L) (hk : w.heap[k]? = some (.cells cs t (0, 0))) : some k ≠ some m := by
 intro e
 obtain rfl := Option.some.inj e
 obtain ⟨D, ⟨es, cl, h1, _⟩, _⟩ := h.map
 rw [hk] at h1; cases h1
set_option maxRecDepth 100000 in
theorem columns_calls (A : Option Addr) (c : Nat) (l : List S109) (w : World) (h : Kd.C k109 w A l.length l) (hc : l.length ≤ c) (hl : l.length ≤ 1000000) (hs : ∀ x ∈ l, x.f1.size ≤ maxLen) :
  Calls Tryd.prog 135 #[.slice A l.length c, .func (.func 136) #[] #[]] w fun e w' => ∃ m n v L, e = .returned (.tuple #[.map (some m), v]) ∧ Cols w' w.heap.size m n L ∧ Kd.string.R 9 w' w.heap.size (fun _ => True) v (L.map Cl.key) ∧ absC L = qku l ∧ Below w.heap.size w w' := by
 have HC := qd.mk h
 have HS := qd.mk hs
 clear h hs
 obtain ⟨base, hbase⟩ : ∃ base, w.heap.size = base := ⟨_, rfl⟩
 have HBS := qd.mk hbase
 rw [hbase]
 have hmm := @run_makeMap Tryd.prog
 go_enter Tryd.func135, Tryd.ntmps135
 go_upto_region 4 with (fail)
 refine qdj (P := fun x => Code.wp _ _ _ _ x) _ ?_
 intro w1 hw1
 have HCL := qd.mk (show Cols w1 base base 0 [] from by rw [hw1, ← hbase]; exact Cols.made w)
 have HB1 := qd.mk (show Below base w w1 from by rw [hw1, ← hbase]; exact qbk (Below.refl _ _) _)
 try rw [hbase]
 clear hw1 hbase
 clear hmm
 go_wp2
 go_loopw [7, 9, 10, 14, 15, 16, 17, 18, 19, 20, 21, 22, 23, 24, 25, 26, 27, 28, 29, 30, 31, 32, 33, 34, 35, 36, 37, 38] (fun v7 _ _ v14 _ _ _ _ _ _ _ _ _ _ _ _ _ _ _ _ _ _ _ _ _ _ _ _ wr => ∃ (i n : Nat) (L : List Cl), i ≤ l.length ∧ v14 = .int .i64 i ∧ qd (Cols wr base base n L) ∧ qd (Kd.string.R 9 wr base (fun _ => True) v7 (L.map Cl.key)) ∧ qd (absC L = qku (l.take i)) ∧ qd (LenOk L n i) ∧ qd (Below base w wr)) (fun _ _ _ v14 _ _ _ _ _ _ _ _ _ _ _ _ _ _ _ _ _ _ _ _ _ _ _ _ _ => l.length - (intOf v14).toNat)
 case atStart => exact ⟨0, 0, [], Nat.zero_le _, rfl, HCL, ⟨Kd.qhz _ _ _ _ _⟩, ⟨rfl⟩, ⟨Nat.le_refl _, Nat.le_refl _, fun c hc => by cases hc⟩, HB1⟩
 clear HCL HB1
 obtain ⟨i, n, L, hi, rfl, HCL, HKR, HAB, HLN, HB⟩ := hrel
 obtain ⟨Ak, ck, hk7⟩ := Kd.qct HKR.out
 rw [List.length_map] at hk7
 subst hk7
 rename World => wo
 by_cases hlt : i < l.length
 rotate_left
 ·obtain rfl : i = l.length := by omega
  have d1 : decide ((l.length : Int) < (l.length : Int)) = false := decide_eq_false (by omega)
  have hab := HAB.out
  rw [List.take_length] at hab
  have HAB2 := qd.mk hab
  clear hab
  go_wp2
  go_ret2
  exact ⟨_, _, _, L, rfl, HCL.out, HKR.out, HAB2.out, HB.out⟩
 have d1 : decide ((i : Int) < (l.length : Int)) = true := decide_eq_true (by omega)
 have d2 : decide (i < l.length) = true := decide_eq_true hlt
 have p0 : (0 : Int) ≤ (i : Int) := by omega
 have p1 : (i : Int) < (l.length : Int) := by omega
 obtain ⟨ad, A6, c6, e, q0, q1, q2, q3, q4, q5, q6, l6, g6⟩ := qfg (Kd.qbw HC.out (by rw [HBS.out]; exact HB.out)) (i : Int) (by omega) (by omega)
 subst e
 rw [Int.toNat_natCast] at q0 q1 q2 q3 q4 q5 q6
 obtain ⟨x, hx⟩ : ∃ x, ql l (i : Int) = x := ⟨_, rfl⟩
 have hxi : l[i]? = some x := by rw [← hx]; simp [ql, hlt]
 rw [hx] at q0 q1 q2 q3 q4 q5 q6 l6 g6
 have HXI := qd.mk hxi
 have HXS := qd.mk (HS.out x (List.mem_of_getElem? hxi))
 have HG6 := qd.mk g6
 have HL6 := qd.mk l6
 clear hx hxi l6 g6
 go_upto_region 6 with (fail)
 refine qdj (P := fun x => Code.wp _ _ _ _ x) _ ?_
 intro w1 hw1
 have HB1 := qd.mk (show Below wo.heap.size wo w1 from by rw [hw1]; exact qbk (Below.refl _ _) _)
 have BK1 : w1.heap[wo.heap.size]? = some (.cells #[.string x.f0, .string x.f1, .int .i64 x.f2, .int .i64 x.f3, .string x.f4, .string x.f5, .slice A6 x.f6.length c6] 109 (0, 0)) := by rw [hw1]; exact qdu wo _
 obtain ⟨g, hg⟩ : ∃ g, wo.heap.size = g := ⟨_, rfl⟩
 rw [hg] at BK1 ⊢
 clear hw1 hg q0 q1 q2 q3 q4 q5 q6
 have HBK := qd.mk BK1
 have a0 := (qg BK1 0).trans rfl
 have a1 := (qg BK1 1).trans rfl
 have a2 := (qg BK1 2).trans rfl
 have a3 := (qg BK1 3).trans rfl
 have a4 := (qg BK1 4).trans rfl
 have a5 := (qg BK1 5).trans rfl
 have a6 := (qg BK1 6).trans rfl
 clear BK1
 go_upto_region 7 with (first | (go_at_call 136; refine (qhn.calls x.f0 x.f1 x.f2 x.f3 x.f4 x.f5 A6 c6 x.f6 x.f1 _ (Kd.qbw HG6.out HB1.out) HL6.out rfl).mono ?_; rintro e_ w2 ⟨rfl, hb_⟩; have HB12 := qd.mk hb_; clear hb_ a0 a1 a2 a3 a4 a5 a6))
 have HB02 := qd.mk (qcn HB1.out HB1.out.size HB12.out)
 have HCL2 := qd.mk (HCL.out.below HB02.out)
 have HKR2 := qd.mk (Kd.qdw HKR.out HB02.out)
 have HBK2 := qd.mk (qcj HBK.out HB12.out)
 have HGW := qd.mk (show wo.heap.size ≤ w2.heap.size from HB02.out.size)
 have hbs : base ≤ w2.heap.size := Nat.le_trans (by have := HCL.out.lt; omega) HB02.out.size
 have HBW := qd.mk (qcn HB.out (by have := HCL.out.lt; omega) HB02.out)
 have hlk := HCL2.out.look HXS.out
 by_cases hin : ∃ (j : Nat) (c1 : Cl), L[j]? = some c1 ∧ c1.key = x.f1
 ·obtain ⟨j, c1, hj, hkc⟩ := hin
  have hcm : c1 ∈ L := List.mem_of_getElem? hj
  rw [show ptrL L x.f1 = .pointer (some ⟨c1.b, 0, none⟩) from by rw [← hkc]; exact qma HCL.out.keys hcm] at hlk
  have HJ := qd.mk hj
  have HKC := qd.mk hkc
  have hA : c1.A.length ≤ 1000000 := by have := (HLN.out.2.2 c1 hcm).1; omega
  have hB : c1.B.length ≤ 1000000 := by have := (HLN.out.2.2 c1 hcm).2; omega
  have HCC := qd.mk (HCL2.out.col c1 hcm)
  have a0 := (qg HBK2.out 0).trans rfl
  have a1 := (qg HBK2.out 1).trans rfl
  have a2 := (qg HBK2.out 2).trans rfl
  have a3 := (qg HBK2.out 3).trans rfl
  have a4 := (qg HBK2.out 4).trans rfl
  have a5 := (qg HBK2.out 5).trans rfl
  have a6 := (qg HBK2.out 6).trans rfl
  clear hj hkc hcm
  go_wp2_with (first | (go_at_call 171; (with_reducible refine (add_calls base c1.b c1.A c1.B c1.x c1.y x.f0 x.f1 x.f4 x.f5 x.f2 x.f3 _ _ HCC.out hA hB hbs).mono ?_); rintro e_ w3 ⟨rfl, x', y', hC_, hBt_, hT_⟩; have HC3 := qd.mk hC_; have HBT := qd.mk hBt_; have HTT := qd.mk hT_; clear hC_ hBt_ hT_))
  go_roundw
  case rel =>
   refine ⟨i + 1, n, L.set j ⟨c1.key, c1.A ++ [x.f2], c1.B ++ [x.f3], c1.b, x', y'⟩, by omega, by go_num, ⟨HCL2.out.turn HJ.out HC3.out rfl rfl HBT.out HTT.out⟩, ⟨?_⟩, ⟨?_⟩, ⟨?_⟩, ⟨but_below HBW.out HBT.out hbs (fun k hk => (HCC.out.lt hk).1)⟩⟩
   ·rw [keys_set (z := ⟨c1.key, c1.A ++ [x.f2], c1.B ++ [x.f3], c1.b, x', y'⟩) HJ.out rfl]
    exact row_but HKR2.out HCC.out HBT.out
   ·rw [qjr HXI.out, ← HAB.out, abs_set]
    exact (addC_old x.f1 x.f2 x.f3 (absC L) j (c1.key, c1.A, c1.B) (by unfold absC; rw [List.getElem?_map, HJ.out]; rfl) HKC.out (abs_pair HCL.out.keys)).symm
   ·exact HLN.out.set HJ.out
  case measure => simp [intOf]; omega
 have hnew : ∀ c ∈ L, c.key ≠ x.f1 := by
  intro c hc e
  obtain ⟨j, hj⟩ := List.mem_iff_getElem?.1 hc
  exact hin ⟨j, c, hj, e⟩
 rw [show ptrL L x.f1 = .pointer none from ptrL_none hnew] at hlk
 have HNEW := qd.mk hnew
 have HBA := qd.mk (qbk (Below.refl w2.heap.size w2) (.cells #[.slice none 0 0, .slice none 0 0] 228))
 obtain ⟨w4, hup, hC4, hg4⟩ := (HCL2.out.below HBA.out).put HXS.out (show n < maxLen by have := HLN.out.1; unfold maxLen; omega) hnew (qdu w2 _) hbs (fun c hc hk => by have := ((HCL2.out.col c hc).lt hk).2; omega)
 have HC4 := qd.mk hC4
 have HG4 := qd.mk hg4
 have HKR4 := qd.mk (show Kd.string.R 9 w4 base (fun _ => True) (.slice Ak L.length ck) (L.map Cl.key) from
  row_grown (Kd.qdw HKR2.out HBA.out) hg4 (map_ne9 (HCL2.out.below HBA.out)))
 have HS4 := qd.mk (show base ≤ w4.heap.size from Nat.le_trans (Nat.le_trans hbs HBA.out.size) hg4.size)
 have HB4 := qd.mk (show Below base w w4 from (qcn HBW.out hbs HBA.out).grown hg4 (Nat.le_trans hbs HBA.out.size) (fun k e => by have := Option.some.inj e; omega))
 have HK4 := qd.mk (show w4.heap[g]? = some (.cells #[.string x.f0, .string x.f1, .int .i64 x.f2, .int .i64 x.f3, .string x.f4, .string x.f5, .slice A6 x.f6.length c6] 109 (0, 0)) from qer (qcj HBK2.out HBA.out) hg4 (map_ne109 (HCL2.out.below HBA.out) (qcj HBK2.out HBA.out)))
 have hkl : L.length ≤ 1000000 := by have := HLN.out.2.1; omega
 obtain ⟨b, hb⟩ : ∃ b, w2.heap.size = b := ⟨_, rfl⟩
 rw [hb] at hup HC4
 clear hC4 hg4 hin hnew
 go_upto_region 10 with (first | ((with_reducible refine qdf (b := .append) (xs := #[.tmp 29, .tmp 31]) rfl ?_); at_builtin; refine Kd.qet Kd.string (w0 := w) base rfl (.tmp 29) (.tmp 31) 205 9 (.string ⟨#[]⟩) 16 rfl Tryd.underlying205 qid rfl (by decide) (by omega) (.slice Ak L.length ck) (L.map Cl.key) x.f1 [.string x.f1] (fun _ => True) (fun _ => False) rfl rfl ?aP (fun _ hk => hk.elim) ?aF ?aO ?aB ?aS ?aL ?_; (case aP => exact rfl); (case aF => exact fun k hk => trivial); (case aO => exact HKR4.out); (case aB => exact HB4.out); (case aS => exact HS4.out); (case aL => rw [List.length_map]; omega); intro v1 w5 hro hbl hg_ hat_; have HKR5 := qd.mk hro; have HB5 := qd.mk hbl; have HG5 := qd.mk hg_; clear hro hbl hg_ hat_ hlk hup))
 have HC5 := qd.mk (HC4.out.grown HKR4.out HG5.out)
 have HK5 := qd.mk (show w5.heap[g]? = some (.cells #[.string x.f0, .string x.f1, .int .i64 x.f2, .int .i64 x.f3, .string x.f4, .string x.f5, .slice A6 x.f6.length c6] 109 (0, 0)) from qer HK4.out HG5.out (Kd.R_ne HKR4.out HK4.out (by decide)))
 have hlk5 := HC5.out.look HXS.out
 have hptr : ptrL (L ++ [⟨x.f1, [], [], b, .slice none 0 0, .slice none 0 0⟩]) x.f1 = .pointer (some ⟨b, 0, none⟩) := qma (c := ⟨x.f1, [], [], b, .slice none 0 0, .slice none 0 0⟩) HC5.out.keys (by simp)
 rw [hptr] at hlk5
 have hbs5 : base ≤ w5.heap.size := by have := HC5.out.lt; have := HC5.out.low; omega
 have HCC := qd.mk (HC5.out.col ⟨x.f1, [], [], b, .slice none 0 0, .slice none 0 0⟩ (by simp))
 have a0 := (qg HK5.out 0).trans rfl
 have a1 := (qg HK5.out 1).trans rfl
 have a2 := (qg HK5.out 2).trans rfl
 have a3 := (qg HK5.out 3).trans rfl
 have a4 := (qg HK5.out 4).trans rfl
 have a5 := (qg HK5.out 5).trans rfl
 have a6 := (qg HK5.out 6).trans rfl
 clear hptr hkl
 go_wp2_with (first | (go_at_call 171; (with_reducible refine (add_calls base b [] [] (.slice none 0 0) (.slice none 0 0) x.f0 x.f1 x.f4 x.f5 x.f2 x.f3 _ _ HCC.out (Nat.zero_le _) (Nat.zero_le _) hbs5).mono ?_); rintro e_ w6 ⟨rfl, x', y', hC_, hBt_, hT_⟩; have HC3 := qd.mk hC_; have HBT := qd.mk hBt_; have HTT := qd.mk hT_; clear hC_ hBt_ hT_))
 go_roundw
 case rel =>
  have hj : (L ++ [(⟨x.f1, [], [], b, .slice none 0 0, .slice none 0 0⟩ : Cl)])[L.length]? = some ⟨x.f1, [], [], b, .slice none 0 0, .slice none 0 0⟩ := by simp
  have hset : (L ++ [(⟨x.f1, [], [], b, .slice none 0 0, .slice none 0 0⟩ : Cl)]).set L.length ⟨x.f1, [x.f2], [x.f3], b, x', y'⟩ = L ++ [⟨x.f1, [x.f2], [x.f3], b, x', y'⟩] := by
   rw [List.set_append_right _ _ (Nat.le_refl _), Nat.sub_self]
   rfl
  have ht := HC5.out.turn (z := ⟨x.f1, [x.f2], [x.f3], b, x', y'⟩) hj HC3.out rfl rfl HBT.out HTT.out
  rw [hset] at ht
  refine ⟨i + 1, n + 1, L ++ [⟨x.f1, [x.f2], [x.f3], b, x', y'⟩], by omega, by go_num, ⟨ht⟩, ⟨?_⟩, ⟨?_⟩, ⟨?_⟩, ⟨but_below HB5.out HBT.out hbs5 (fun k hk => (HCC.out.lt hk).1)⟩⟩
  ·rw [List.map_append]
   exact row_but HKR5.out HCC.out HBT.out
  ·rw [qjr HXI.out, ← HAB.out, addC_new x.f1 x.f2 x.f3 (absC L) (fun q hq => by
    unfold absC at hq
    rw [List.mem_map] at hq
    obtain ⟨c2, hc2, rfl⟩ := hq
    exact HNEW.out c2 hc2)]
   unfold absC
   rw [List.map_append]
   rfl
  ·exact HLN.out.snoc
 case measure => simp [intOf]; omega
theorem nodup_le {α : Type} [DecidableEq α] : ∀ {a b : List α}, a.Nodup → (∀ x ∈ a, x ∈ b) → a.length ≤ b.length
 | [], b, _, _ => Nat.zero_le _
 | x :: a, b, hn, hs => by
  rw [List.nodup_cons] at hn
  have hx := hs x (by simp)
  have := nodup_le (b := b.erase x) hn.2 (fun y hy => by
   rw [List.mem_erase_of_ne (fun e : y = x => hn.1 (by rw [← e]; exact hy))]
   exact hs y (by simp [hy]))
  rw [List.length_erase_of_mem hx] at this
  have := List.length_pos_of_mem hx
  simp
  omega
def qfz (l : List S109) (s : ByteArray) : List S109 := l.filter (fun x => decide (x.f1 = s))
structure CInv (l : List S109) (G : List Grp) : Prop where
 pw : G.Pairwise (fun c d => c.1 ≠ d.1)
 val : ∀ q ∈ G, q.2.1 = (qfz l q.1).map S109.f2 ∧ q.2.2 = (qfz l q.1).map S109.f3 ∧ ∃ x ∈ l, x.f1 = q.1
 has : ∀ x ∈ l, ∃ q ∈ G, q.1 = x.f1
theorem addC_mem {s : ByteArray} {a b : Int} : ∀ {G : List Grp}, G.Pairwise (fun c d => c.1 ≠ d.1) → ∀ {q : Grp}, q ∈ addC s a b G → (q ∈ G ∧ q.1 ≠ s) ∨ (∃ p ∈ G, p.1 = s ∧ q = (s, p.2.1 ++ [a], p.2.2 ++ [b])) ∨ ((∀ p ∈ G, p.1 ≠ s) ∧ q = (s, [a], [b]))
 | [], _, q, h => by
  have h : q = (s, [a], [b]) := by simpa [addC] using h
  exact .inr (.inr ⟨(fun p hp => by cases hp), h⟩)
 | g :: r, hp, q, h => by
  rw [List.pairwise_cons] at hp
  unfold addC at h
  by_cases e : g.1 = s
  ·rw [if_pos e] at h
   rcases List.mem_cons.1 h with rfl | h
   ·exact .inr (.inl ⟨g, by simp, e, by rw [e]⟩)
   ·exact .inl ⟨by simp [h], fun e2 => hp.1 q h (e.trans e2.symm)⟩
  rw [if_neg e] at h
  rcases List.mem_cons.1 h with rfl | h
  ·exact .inl ⟨by simp, e⟩
  ·rcases addC_mem hp.2 h with ⟨h1, h2⟩ | ⟨p, h1, h2, h3⟩ | ⟨h1, h2⟩
   ·exact .inl ⟨by simp [h1], h2⟩
   ·exact .inr (.inl ⟨p, by simp [h1], h2, h3⟩)
   ·exact .inr (.inr ⟨fun p hp' => by
     rcases List.mem_cons.1 hp' with rfl | hp'
     ·exact e
     ·exact h1 p hp', h2⟩)
theorem qmt {s : ByteArray} {a b : Int} : ∀ {G : List Grp}, (∀ q ∈ G, ∃ p ∈ addC s a b G, p.1 = q.1) ∧ ∃ p ∈ addC s a b G, p.1 = s
 | [] => ⟨(fun q hq => by cases hq), (s, [a], [b]), by simp [addC], rfl⟩
 | g :: r => by
  obtain ⟨h1, h2⟩ := qmt (s := s) (a := a) (b := b) (G := r)
  unfold addC
  by_cases e : g.1 = s
  ·rw [if_pos e]
   refine ⟨fun q hq => ?_, _, List.mem_cons_self, e⟩
   rcases List.mem_cons.1 hq with rfl | hq
   ·exact ⟨_, List.mem_cons_self, rfl⟩
   ·exact ⟨q, List.mem_cons_of_mem _ hq, rfl⟩
  rw [if_neg e]
  refine ⟨fun q hq => ?_, ?_⟩
  ·rcases List.mem_cons.1 hq with rfl | hq
   ·exact ⟨_, List.mem_cons_self, rfl⟩
   ·obtain ⟨p, hp, e2⟩ := h1 q hq
    exact ⟨p, List.mem_cons_of_mem _ hp, e2⟩
  ·obtain ⟨p, hp, e2⟩ := h2
   exact ⟨p, List.mem_cons_of_mem _ hp, e2⟩
theorem addC_pw {s : ByteArray} {a b : Int} : ∀ {G : List Grp}, G.Pairwise (fun c d => c.1 ≠ d.1) → (addC s a b G).Pairwise (fun c d => c.1 ≠ d.1)
 | [], _ => List.pairwise_singleton _ _
 | g :: r, hp => by
  rw [List.pairwise_cons] at hp
  unfold addC
  by_cases e : g.1 = s
  ·rw [if_pos e, List.pairwise_cons]
   exact ⟨hp.1, hp.2⟩
  rw [if_neg e, List.pairwise_cons]
  refine ⟨fun q hq => ?_, addC_pw hp.2⟩
  rcases addC_mem hp.2 hq with ⟨h1, _⟩ | ⟨p, h1, h2, h3⟩ | ⟨_, h2⟩
  ·exact hp.1 q h1
  ·rw [h3]; exact e
  ·rw [h2]; exact e
theorem qjd (l : List S109) (x : S109) (s : ByteArray) : qfz (l ++ [x]) s = qfz l s ++ (if x.f1 = s then [x] else []) := by
 unfold qfz
 rw [List.filter_append]
 by_cases e : x.f1 = s <;> simp [e]
theorem CInv.step {l : List S109} {G : List Grp} (h : CInv l G) (x : S109) : CInv (l ++ [x]) (addC x.f1 x.f2 x.f3 G) := by
 refine ⟨addC_pw h.pw, fun q hq => ?_, fun y hy => ?_⟩
 ·rcases addC_mem h.pw hq with ⟨h1, h2⟩ | ⟨p, h1, h2, h3⟩ | ⟨h1, h2⟩
  ·obtain ⟨a1, a2, y, a3, a4⟩ := h.val q h1
   rw [qjd, if_neg (fun e => h2 e.symm), List.append_nil]
   exact ⟨a1, a2, y, by simp [a3], a4⟩
  ·obtain ⟨a1, a2, _⟩ := h.val p h1
   subst h3
   rw [qjd, if_pos rfl, a1, a2, h2]
   exact ⟨by simp, by simp, x, by simp, rfl⟩
  ·subst h2
   have : qfz l x.f1 = [] := by
    unfold qfz
    rw [List.filter_eq_nil_iff]
    intro y hy e
    obtain ⟨q, hq, e2⟩ := h.has y hy
    exact h1 q hq (e2.trans (by simpa using e))
   rw [qjd, if_pos rfl, this]
   exact ⟨by simp, by simp, x, by simp, rfl⟩
 ·rcases List.mem_append.1 hy with hy | hy
  ·obtain ⟨q, hq, e⟩ := h.has y hy
   obtain ⟨p, hp, e2⟩ := qmt.1 q hq
   exact ⟨p, hp, e2.trans e⟩
  ·rw [List.mem_singleton] at hy
   subst hy
   exact qmt.2
theorem cols_inv (l : List S109) : CInv l (qku l) := by
 have key : ∀ i, i ≤ l.length → CInv (l.take i) (qku (l.take i)) := by
  intro i
  induction i with
  | zero => intro _; exact ⟨.nil, (fun q hq => by cases hq), (fun x hx => by cases hx)⟩
  | succ i ih =>
   intro hi
   have hg : l[i]? = some l[i] := List.getElem?_eq_getElem (by omega)
   rw [qjr hg, List.take_add_one, hg]
   exact (ih (by omega)).step l[i]
 have := key l.length (Nat.le_refl _)
 rwa [List.take_length] at this
def balB (l : List S109) : Bool := (qku l).all (fun q => decide (q.2.1.sum = 0 ∧ q.2.2.sum = 0))
theorem balB_eq (l : List S109) : balB l = l.all (fun x => decide (((qfz l x.f1).map S109.f2).sum = 0 ∧ ((qfz l x.f1).map S109.f3).sum = 0)) := by
 have h := cols_inv l
 unfold balB
 rw [Bool.eq_iff_iff, List.all_eq_true, List.all_eq_true]
 constructor
 ·intro hq x hx
  obtain ⟨q, hq', e⟩ := h.has x hx
  obtain ⟨a1, a2, _⟩ := h.val q hq'
  have := hq q hq'
  rw [a1, a2, e] at this
  exact this
 ·intro hx q hq
  obtain ⟨a1, a2, x, hx', e⟩ := h.val q hq
  have := hx x hx'
  rw [e] at this
  rw [a1, a2]
  exact this
set_option maxRecDepth 100000 in
theorem qnd (A : Option Addr) (c : Nat) (l : List S109) (w : World) (h : Kd.C k109 w A l.length l) (hc : l.length ≤ c) (hl : l.length ≤ 1000000) (hs : ∀ x ∈ l, x.f1.size ≤ maxLen) (hi : ∀ x ∈ l, qdl x.f2 ∧ qdl x.f3) :
  Calls Tryd.prog 96 #[.slice A l.length c] w fun e w' => e = .returned (.bool (balB l)) ∧ Below w.heap.size w w' := by
 have HC := qd.mk (columns_calls A c l w h hc hl hs)
 have HI := qd.mk hi
 have HLL := qd.mk hl
 have HSS := qd.mk hs
 clear h hc hi hs
 obtain ⟨res, hres⟩ : ∃ r, balB l = r := ⟨_, rfl⟩
 rw [hres]
 have HRES := qd.mk hres
 clear hres hl
 go_enter Tryd.func96, Tryd.ntmps96
 go_upto_region 2 with (first | (go_at_call 135; (refine HC.out.mono ?_); rintro e_ w1 ⟨m, n, v, L, rfl, hC_, hK_, hA_, hB_⟩; obtain ⟨Ak, ck, hk7⟩ := Kd.qct hK_; rw [List.length_map] at hk7; subst hk7; have HCL := qd.mk hC_; have HKR := qd.mk hK_; have HAB := qd.mk hA_; have HB1 := qd.mk hB_; clear hC_ hK_ hA_ hB_))
 have HLL2 := qd.mk (show L.length ≤ 1000000 ∧ (∀ c ∈ L, c.A.length ≤ 1000000 ∧ c.B.length ≤ 1000000 ∧ (∀ z ∈ c.A, qdl z) ∧ (∀ z ∈ c.B, qdl z) ∧ c.key.size ≤ maxLen) from by
  have hci := cols_inv l
  rw [← HAB.out] at hci
  refine ⟨?_, fun c hc => ?_⟩
  ·have hn : (L.map Cl.key).Nodup := by
    rw [List.nodup_iff_pairwise_ne, List.pairwise_map]
    exact HCL.out.keys
   have hsub : ∀ s ∈ L.map Cl.key, s ∈ l.map S109.f1 := by
    intro s hs
    rw [List.mem_map] at hs
    obtain ⟨c, hc, rfl⟩ := hs
    obtain ⟨_, _, x, hx, e⟩ := hci.val (c.key, c.A, c.B) (by unfold absC; rw [List.mem_map]; exact ⟨c, hc, rfl⟩)
    rw [List.mem_map]
    exact ⟨x, hx, e⟩
   have := nodup_le hn hsub
   rw [List.length_map, List.length_map] at this
   exact Nat.le_trans this HLL.out
  ·obtain ⟨a1, a2, x, hx, e⟩ := hci.val (c.key, c.A, c.B) (by unfold absC; rw [List.mem_map]; exact ⟨c, hc, rfl⟩)
   have hlen : (qfz l c.key).length ≤ 1000000 := Nat.le_trans (List.length_filter_le _ _) HLL.out
   have a1 : c.A = _ := a1
   have a2 : c.B = _ := a2
   have e : x.f1 = c.key := e
   rw [a1, a2, List.length_map, List.length_map, ← e]
   rw [← e] at hlen
   refine ⟨hlen, hlen, fun z hz => ?_, fun z hz => ?_, HSS.out x hx⟩
   ·rw [List.mem_map] at hz
    obtain ⟨y, hy, rfl⟩ := hz
    exact (HI.out y (List.mem_filter.1 hy).1).1
   ·rw [List.mem_map] at hz
    obtain ⟨y, hy, rfl⟩ := hz
    exact (HI.out y (List.mem_filter.1 hy).1).2)
 have HRR := qd.mk (show L.all (fun c => decide (c.A.sum = 0 ∧ c.B.sum = 0)) = res from by
  rw [← HRES.out]
  unfold balB
  rw [← HAB.out]
  unfold absC
  rw [List.all_map]
  rfl)
 clear HC HI HAB HRES HSS
 have hll := HLL2.out.1
 go_wp2
 go_loopw [6, 7, 8, 9, 17, 18, 19, 20, 21, 22, 23, 24, 25, 26, 27, 28, 29, 30, 31] (fun _ _ _ _ v17 _ _ _ _ _ _ _ _ _ _ _ _ _ _ wr => ∃ k : Nat, k ≤ L.length ∧ v17 = .int .i64 k ∧ qd (Below w1.heap.size w1 wr) ∧ qd ((L.drop k).all (fun c => decide (c.A.sum = 0 ∧ c.B.sum = 0)) = res)) (fun _ _ _ _ v17 _ _ _ _ _ _ _ _ _ _ _ _ _ _ _ => L.length - (intOf v17).toNat)
 case atStart => exact ⟨0, Nat.zero_le _, rfl, ⟨Below.refl _ _⟩, HRR⟩
 clear HRR
 obtain ⟨k, hk, rfl, HB, HRR⟩ := hrel
 by_cases hlt : k < L.length
 rotate_left
 ·obtain rfl : k = L.length := by omega
  have d1 : decide ((L.length : Int) < (L.length : Int)) = false := decide_eq_false (by omega)
  have hrt : true = res := by rw [← HRR.out, List.drop_length]; rfl
  subst hrt
  go_wp2
  go_ret
  exact ⟨rfl, qcn HB1.out HB1.out.size HB.out⟩
 have d1 : decide ((k : Int) < (L.length : Int)) = true := decide_eq_true (by omega)
 have d2 : decide (k < L.length) = true := decide_eq_true hlt
 have p0 : (0 : Int) ≤ (k : Int) := by omega
 have p1 : (k : Int) < (L.length : Int) := by omega
 have hrd := Kd.qbt (Kd.qdw HKR.out HB.out)
 rw [List.length_map] at hrd
 obtain ⟨ad, e, q0⟩ := Kd.qfv hrd.2.2 (k : Int) (by omega) (by omega)
 obtain ⟨cl, hcl⟩ : ∃ cl, L[k]? = some cl := ⟨_, List.getElem?_eq_getElem hlt⟩
 rw [Int.toNat_natCast, show rdOf ByteArray.empty (L.map Cl.key) (k : Int) = cl.key by simp [rdOf, hcl]] at q0
 subst e
 have hcm := List.mem_of_getElem? hcl
 have HCB := qd.mk (HCL.out.below HB.out)
 have hlk := HCB.out.look (HLL2.out.2 cl hcm).2.2.2.2
 rw [qma HCL.out.keys hcm] at hlk
 have HCC := qd.mk (HCB.out.col cl hcm)
 have HLC := qd.mk (HLL2.out.2 cl hcm)
 have hdr := HRR.out
 rw [List.drop_eq_getElem_cons hlt, List.all_cons, show L[k] = cl from Option.some.inj ((List.getElem?_eq_getElem hlt).symm.trans hcl)] at hdr
 have HDR := qd.mk hdr
 clear hdr hcl hcm hrd
 by_cases hz : cl.A.sum = 0 ∧ cl.B.sum = 0
 ·have HZ := qd.mk hz
  clear hz
  go_wp2_with (first | (go_at_call 137; (with_reducible refine (qoc _ cl.b cl.A cl.B cl.x cl.y _ HCC.out HLC.out.1 HLC.out.2.1 HLC.out.2.2.1 HLC.out.2.2.2.1).mono ?_); rw [if_pos HZ.out]; rintro e_ w2 ⟨rfl, hb_⟩; have HB2 := qd.mk hb_; clear hb_))
  go_roundw
  case rel =>
   refine ⟨k + 1, by omega, by go_num, ⟨qcn HB.out HB.out.size HB2.out⟩, ⟨?_⟩⟩
   rw [← HDR.out, decide_eq_true HZ.out, Bool.true_and]
  case measure => simp [intOf]; omega
 have HZ := qd.mk hz
 have hrf : false = res := by rw [← HDR.out, decide_eq_false hz, Bool.false_and]
 subst hrf
 clear hz
 go_wp2_with (first | (go_at_call 137; (with_reducible refine (qoc _ cl.b cl.A cl.B cl.x cl.y _ HCC.out HLC.out.1 HLC.out.2.1 HLC.out.2.2.1 HLC.out.2.2.2.1).mono ?_); rw [if_neg HZ.out]; rintro e_ w2 ⟨rfl, hb_⟩; have HB2 := qd.mk hb_; clear hb_))
 go_ret
 exact ⟨rfl, qcn HB1.out HB1.out.size (qcn HB.out HB.out.size HB2.out)⟩
def qel.f (l0 : List S109) : Option Bool := if l0.length ≤ 1000000 ∧ (∀ x ∈ l0, x.f1.size ≤ maxLen ∧ qdl x.f2 ∧ qdl x.f3) then some (balB l0) else none
theorem qel.calls (A0 : Option Addr) (c0 : Nat) (l0 : List S109) (r : Bool) (w : World) (hr0 : Kd.C k109 w A0 l0.length l0) (hc0 : l0.length ≤ c0) (h : qel.f l0 = some r) :
  Calls Tryd.prog 96 #[.slice A0 l0.length c0] w fun e w' => e = .returned (.bool r) ∧ Below w.heap.size w w' := by
 unfold qel.f at h
 split at h
 ·rename_i hok
  obtain rfl := Option.some.inj h
  exact qnd A0 c0 l0 w hr0 hc0 hok.1 (fun x hx => (hok.2 x hx).1) (fun x hx => (hok.2 x hx).2)
 ·cases h
end
section
attribute [local go_sem] qfp qfn qgk qgj qex qew qfo qfm
def qde.l0 : Nat → List (S109) → Int → Int → Int → ByteArray → Int → Int → Int → ByteArray → ByteArray → Int → List (S109) → Option (Int × Int)
 | 0, _, _, _, _, _, _, _, _, _, _, _, _ => none
 | k + 1, x14, x15, x16, x152000, x152001, x152002, x152003, x152004, x152005, x152006, x152007, x152008 => if x16 < x15 then (if 0 ≤ x16 then (if x16 < (x14.length : Int) then ((qca.f k ((ql x14 x16).f0) ((ql x14 x16).f1) ((ql x14 x16).f2) ((ql x14 x16).f3) ((ql x14 x16).f4) ((ql x14 x16).f5) ((ql x14 x16).f6)).bind fun t155 => (if t155 = 0 then (qde.l0 k x14 x15 (wrap64 (x16 + 1)) x152000 x152001 x152002 x152003 x152004 x152005 x152006 x152007 x152008) else (some (x16, t155)))) else (none)) else (none)) else ((qel.f x152008).bind fun t156 => (if t156 = true then (some ((-1), 0)) else (some ((-1), 15))))
def qde.f (k : Nat) (a0_0 : Int) (a0_1 : ByteArray) (a0_2 : Int) (a0_3 : Int) (a0_4 : Int) (a0_5 : ByteArray) (a0_6 : ByteArray) (a0_7 : Int) (l0_8 : List (S109)) : Option (Int × Int) := (qbs.f k a0_0 a0_1 a0_2 a0_3 a0_4 a0_5 a0_6 a0_7 l0_8).bind fun t152 => (if t152 = 0 then (qde.l0 k l0_8 (l0_8.length : Int) 0 a0_0 a0_1 a0_2 a0_3 a0_4 a0_5 a0_6 a0_7 l0_8) else (some ((-1), t152)))
set_option maxRecDepth 100000 in
theorem qde.calls (k : Nat) (a0_0 : Int) (a0_1 : ByteArray) (a0_2 : Int) (a0_3 : Int) (a0_4 : Int) (a0_5 : ByteArray) (a0_6 : ByteArray) (a0_7 : Int) (A0_8 : Option Addr) (c0_8 : Nat) (l0_8 : List (S109)) (r1 : Int) (r2 : Int) (w : World) (hr0_8 : Kd.C k109 w A0_8 l0_8.length l0_8) (hc0_8 : l0_8.length ≤ c0_8) (h : qde.f k a0_0 a0_1 a0_2 a0_3 a0_4 a0_5 a0_6 a0_7 l0_8 = some (r1, r2)) (hT : Tab w) :
  Calls Tryd.prog 47 #[.agg #[.int .i64 a0_0, .string a0_1, .int .i64 a0_2, .int .i64 a0_3, .int .i64 a0_4, .string a0_5, .string a0_6, .int .i64 a0_7, .slice A0_8 l0_8.length c0_8]] w fun e w' => e = .returned (.tuple #[.int .i64 r1, .int .i64 r2]) ∧ Below w.heap.size w w' := by
 have HTB := qd.mk hT
 clear hT
 have hu29 := Tryd.underlying29
 have hu109 := Tryd.underlying109
 have HR0_8 := qd.mk hr0_8
 have HC0_8 := qd.mk hc0_8
 clear hr0_8 hc0_8
 have HB := qd.mk (Below.refl w.heap.size w)
 have H : ((qbs.f k a0_0 a0_1 a0_2 a0_3 a0_4 a0_5 a0_6 a0_7 l0_8).bind fun t152 => (if t152 = 0 then (qde.l0 k l0_8 (l0_8.length : Int) 0 a0_0 a0_1 a0_2 a0_3 a0_4 a0_5 a0_6 a0_7 l0_8) else (some ((-1), t152)))) = some (r1, r2) := h
 clear h
 replace H := Option.bind_eq_some_iff.mp H
 obtain ⟨t152, A20, H⟩ := H
 try dsimp only at H
 have A2 := qd.mk A20
 clear A20
 by_cases c3 : t152 = 0
 ·rw [if_pos c3] at H
  have c3b0 : (t152 == 0) = true := beq_iff_eq.mpr c3
  have c3b1 : (t152 != 0) = false := bne_eq_false_iff_eq.mpr c3
  clear c3
  have H' := qd.mk H
  clear H
  go_enter Tryd.func47, Tryd.ntmps47
  go_wp2_with (first | ((with_reducible refine qbx (N := 1) rfl ?_); refine qbu ?hg (N := 1) ?hd (cs := #[.int .i64 a0_0, .string a0_1, .int .i64 a0_2, .int .i64 a0_3, .int .i64 a0_4, .string a0_5, .string a0_6, .int .i64 a0_7, .slice A0_8 l0_8.length c0_8]) (t := 29) ?hr ?_; (case hd => rfl); (case hg => rfl); (case hr => first | (go_simp; done) | (go_simp; rfl)); intro gb151 hg w4 hbox hb; have n0_ := qd.mk (qw (bw_) hb); have n1_ := qd.mk (hbox); have n2_ := qd.mk (gw_ (w := w) hg); have n3_ := qd.mk (gw_ (w := w) hg); clear HB; have HB := n0_; have BK151 := n1_; have GW151 := n2_; have GE151 := n3_; clear n0_ n1_ n2_ n3_; clear hb hbox hg; obtain ⟨cz5_0, cz5_1, cz5_2, cz5_3, cz5_4, cz5_5, cz5_6, cz5_7, cz5_8⟩ := bc9_ (w := w4) BK151.out; obtain ⟨fz5_0, fz5_1, fz5_2, fz5_3, fz5_4, fz5_5, fz5_6, fz5_7, fz5_8⟩ := bf9_ BK151.out) | ((with_reducible refine qbf (f := 94) rfl ?_); refine qcp (some 9) rfl rfl Tryd.func94 (by kernel_rfl) rfl #[.agg #[.int .i64 a0_0, .string a0_1, .int .i64 a0_2, .int .i64 a0_3, .int .i64 a0_4, .string a0_5, .string a0_6, .int .i64 a0_7, .slice A0_8 l0_8.length c0_8]] rfl ml_ ?_; (with_reducible refine (qbs.calls k a0_0 a0_1 a0_2 a0_3 a0_4 a0_5 a0_6 a0_7 _ _ l0_8 t152 _ ?side1 ?side2 A2.out (by first | exact HTB.out | (exact Tab.below HTB.out (by repeat (first | (with_reducible first | exact HB.out | apply qbk | apply qbn | apply qcq | apply pw_below_drew) | exact HB.out | refine qdm ?_ (qd.out (by assumption))))) | (repeat (first | exact HTB.out | apply Tab.alloc | apply Tab.drewN | apply Tab.drew)))).mono ?_); (case side1 => repeat (first | exact (Kd.qbw HR0_8.out HB.out) | (with_reducible refine Kd.qck ?_ _) | (with_reducible refine Kd.qcf ?_ _) | (with_reducible refine Kd.qcz ?_))); (case side2 => exact HC0_8.out); rintro e w6 ⟨rfl, hb⟩; refine ⟨_, rfl, ?_⟩; have n0_ := qd.mk (bb_ BK151 hb); have n1_ := qd.mk (qw (bwx_) hb); clear BK151; clear HB; have BK151 := n0_; have HB := n1_; clear n0_ n1_; (try clear hb); (try clear hb2); (try clear hk); (try clear hi); obtain ⟨cz7_0, cz7_1, cz7_2, cz7_3, cz7_4, cz7_5, cz7_6, cz7_7, cz7_8⟩ := bc9_ (w := w6) BK151.out; obtain ⟨fz7_0, fz7_1, fz7_2, fz7_3, fz7_4, fz7_5, fz7_6, fz7_7, fz7_8⟩ := bf9_ BK151.out))
  go_loopg [16] k (fun kq v16 w' => ∃ (x16_1 : Int), v16 = .int .i64 x16_1 ∧ qd (qde.l0 kq l0_8 (l0_8.length : Int) x16_1 a0_0 a0_1 a0_2 a0_3 a0_4 a0_5 a0_6 a0_7 l0_8 = some (r1, r2)) ∧ qd (kq ≤ k) ∧ qd (w'.heap[gb151]? = some (.cells #[.int .i64 a0_0, .string a0_1, .int .i64 a0_2, .int .i64 a0_3, .int .i64 a0_4, .string a0_5, .string a0_6, .int .i64 a0_7, (.slice A0_8 l0_8.length c0_8)] 29 (0, 0))) ∧ qd (Below w.heap.size w w'))
  case atStart => exact ⟨(0), sm_, H', ⟨Nat.le_refl _⟩, ⟨by (with_reducible repeat (first | refine qp ?_ _ | refine qz ?_ | refine qm ?_ _)); exact BK151.out⟩, ⟨bwx_⟩⟩
  clear H'
  try clear p2
  try clear c3
  try clear c3b0
  try clear c3b1
  try clear c4
  try clear cz5_0 cz5_1 cz5_2 cz5_3 cz5_4 cz5_5 cz5_6 cz5_7 cz5_8
  try clear cz7_0 cz7_1 cz7_2 cz7_3 cz7_4 cz7_5 cz7_6 cz7_7 cz7_8
  try clear fz5_0 fz5_1 fz5_2 fz5_3 fz5_4 fz5_5 fz5_6 fz5_7 fz5_8
  try clear fz7_0 fz7_1 fz7_2 fz7_3 fz7_4 fz7_5 fz7_6 fz7_7 fz7_8
  obtain ⟨x16_1, rfl, HA, HK1, BK151, HB⟩ := hrel
  cases gk with
  | zero => exact absurd HA.out (by simp [qde.l0])
  | succ k1 =>
   have H := HA.out
   clear HA
   simp only [qde.l0] at H
   by_cases c8 : x16_1 < (l0_8.length : Int)
   rotate_left
   ·rw [if_neg c8] at H
    have c8b0 : decide (x16_1 < (l0_8.length : Int)) = false := decide_eq_false c8
    clear c8
    replace H := Option.bind_eq_some_iff.mp H
    obtain ⟨t156, A210, H⟩ := H
    replace H : (if t156 = true then (some ((-1), 0)) else (some ((-1), 15))) = some (r1, r2) := H
    have A21 := qd.mk A210
    clear A210
    by_cases c22 : t156 = true
    ·subst c22
     have H1 : (some ((-1), 0)) = some (r1, r2) := by rw [if_pos rfl] at H; exact H
     clear H
     have H := H1
     clear H1
     simp only [Option.some.injEq, Prod.mk.injEq] at H
     obtain ⟨rfl, rfl⟩ := H
     obtain ⟨cz23_0, cz23_1, cz23_2, cz23_3, cz23_4, cz23_5, cz23_6, cz23_7, cz23_8⟩ := bc9_ (w := wr) BK151.out
     obtain ⟨fz23_0, fz23_1, fz23_2, fz23_3, fz23_4, fz23_5, fz23_6, fz23_7, fz23_8⟩ := bf9_ BK151.out
     go_wp2_with (first | ((with_reducible refine qbf (f := 96) rfl ?_); refine qcp (some 30) rfl rfl Tryd.func96 (by kernel_rfl) rfl #[.slice A0_8 l0_8.length c0_8] rfl ml_ ?_; (with_reducible refine (qel.calls _ _ l0_8 true _ ?side1 ?side2 A21.out).mono ?_); (case side1 => repeat (first | exact (Kd.qbw HR0_8.out HB.out) | (with_reducible refine Kd.qck ?_ _) | (with_reducible refine Kd.qcf ?_ _) | (with_reducible refine Kd.qcz ?_))); (case side2 => exact HC0_8.out); rintro e w24 ⟨rfl, hb⟩; refine ⟨_, rfl, ?_⟩; have n0_ := qd.mk (bb_ BK151 hb); have n1_ := qd.mk (qw (bwx_) hb); clear BK151; clear HB; have BK151 := n0_; have HB := n1_; clear n0_ n1_; (try clear hb); (try clear hb2); (try clear hk); (try clear hi)))
     go_ret2
     exact ⟨ew_, bwx_⟩
    replace c22 := Bool.eq_false_iff.mpr c22
    subst c22
    have H1 : (some ((-1), 15)) = some (r1, r2) := by rw [if_neg (show ¬ (false = true) by decide)] at H; exact H
    clear H
    have H := H1
    clear H1
    simp only [Option.some.injEq, Prod.mk.injEq] at H
    obtain ⟨rfl, rfl⟩ := H
    obtain ⟨cz25_0, cz25_1, cz25_2, cz25_3, cz25_4, cz25_5, cz25_6, cz25_7, cz25_8⟩ := bc9_ (w := wr) BK151.out
    obtain ⟨fz25_0, fz25_1, fz25_2, fz25_3, fz25_4, fz25_5, fz25_6, fz25_7, fz25_8⟩ := bf9_ BK151.out
    go_wp2_with (first | ((with_reducible refine qbf (f := 96) rfl ?_); refine qcp (some 30) rfl rfl Tryd.func96 (by kernel_rfl) rfl #[.slice A0_8 l0_8.length c0_8] rfl ml_ ?_; (with_reducible refine (qel.calls _ _ l0_8 false _ ?side1 ?side2 A21.out).mono ?_); (case side1 => repeat (first | exact (Kd.qbw HR0_8.out HB.out) | (with_reducible refine Kd.qck ?_ _) | (with_reducible refine Kd.qcf ?_ _) | (with_reducible refine Kd.qcz ?_))); (case side2 => exact HC0_8.out); rintro e w26 ⟨rfl, hb⟩; refine ⟨_, rfl, ?_⟩; have n0_ := qd.mk (bb_ BK151 hb); have n1_ := qd.mk (qw (bwx_) hb); clear BK151; clear HB; have BK151 := n0_; have HB := n1_; clear n0_ n1_; (try clear hb); (try clear hb2); (try clear hk); (try clear hi)))
    go_ret2
    exact ⟨ew_, bwx_⟩
   rw [if_pos c8] at H
   have c8b0 : decide (x16_1 < (l0_8.length : Int)) = true := decide_eq_true c8
   clear c8
   by_cases c9 : 0 ≤ x16_1
   rotate_left
   ·rw [if_neg c9] at H
    exact absurd H (by simp)
   rw [if_pos c9] at H
   have c9b0 : decide (0 ≤ x16_1) = true := decide_eq_true c9
   clear c9
   by_cases c10 : x16_1 < (l0_8.length : Int)
   rotate_left
   ·rw [if_neg c10] at H
    exact absurd H (by simp)
   rw [if_pos c10] at H
   have c10b0 : decide (x16_1 < (l0_8.length : Int)) = true := decide_eq_true c10
   clear c10
   replace H := Option.bind_eq_some_iff.mp H
   obtain ⟨t155, A110, H⟩ := H
   try dsimp only at H
   have A11 := qd.mk A110
   clear A110
   by_cases c12 : t155 = 0
   ·rw [if_pos c12] at H
    have c12b0 : (t155 == 0) = true := beq_iff_eq.mpr c12
    have c12b1 : (t155 != 0) = false := bne_eq_false_iff_eq.mpr c12
    clear c12
    have H' := qd.mk H
    clear H
    have p153 : 0 ≤ (x16_1 : Int) := odt_
    have q153 : x16_1 < (l0_8.length : Int) := odt_
    obtain ⟨ad153, A153_6, c153_6, e153, hx153_0, hx153_1, hx153_2, hx153_3, hx153_4, hx153_5, hx153_6, hl153_6, hi153_6⟩ := qfg HR0_8.out x16_1 p153 q153
    cases e153
    replace hx153_0 := bcl_ HB hx153_0
    replace hx153_1 := bcl_ HB hx153_1
    replace hx153_2 := bcl_ HB hx153_2
    replace hx153_3 := bcl_ HB hx153_3
    replace hx153_4 := bcl_ HB hx153_4
    replace hx153_5 := bcl_ HB hx153_5
    replace hx153_6 := bcl_ HB hx153_6
    have HR153_6 := qd.mk hi153_6
    have HC153_6 := qd.mk hl153_6
    clear hi153_6 hl153_6
    replace p153 := eq_true p153
    replace q153 := eq_true q153
    go_wp2_with (first | ((with_reducible refine qbx (N := 6) rfl ?_); refine qbu ?hg (N := 6) ?hd (cs := #[.string (⟨#[]⟩ : ByteArray), .string (⟨#[]⟩ : ByteArray), .int .i64 0, .int .i64 0, .string (⟨#[]⟩ : ByteArray), .string (⟨#[]⟩ : ByteArray), .slice none 0 0]) (t := 109) ?hr ?_; (case hd => rfl); (case hg => rfl); (case hr => first | (go_simp; done) | (go_simp; rfl)); intro gb154 hg w13 hbox hb; have n0_ := qd.mk (bb_ BK151 hb); have n1_ := qd.mk (qw (bwx_) hb); have n2_ := qd.mk (hbox); have n3_ := qd.mk (gw_ (w := w) hg); have n4_ := qd.mk (gw_ (w := w) hg); have n5_ := qd.mk ((by rw [hg]; exact Nat.ne_of_lt (bl_ BK151) : gb151 ≠ gb154)); have n6_ := qd.mk ((by rw [hg]; exact Nat.ne_of_gt (bl_ BK151) : gb154 ≠ gb151)); clear BK151; clear HB; have BK151 := n0_; have HB := n1_; have BK154 := n2_; have GW154 := n3_; have GE154 := n4_; have NB151_154 := n5_; have NB154_151 := n6_; clear n0_ n1_ n2_ n3_ n4_ n5_ n6_; clear hb hbox hg; have hnb14 := NB154_151.out; have hnc14 := NB151_154.out; obtain ⟨cz15_0, cz15_1, cz15_2, cz15_3, cz15_4, cz15_5, cz15_6⟩ := bc7_ (w := w13) BK154.out; obtain ⟨fz15_0, fz15_1, fz15_2, fz15_3, fz15_4, fz15_5, fz15_6⟩ := bf7_ BK154.out) | ((with_reducible refine qbf (f := 95) rfl ?_); refine qcp (some 22) rfl rfl Tryd.func95 (by kernel_rfl) rfl #[.agg #[.string ((ql l0_8 x16_1).f0), .string ((ql l0_8 x16_1).f1), .int .i64 ((ql l0_8 x16_1).f2), .int .i64 ((ql l0_8 x16_1).f3), .string ((ql l0_8 x16_1).f4), .string ((ql l0_8 x16_1).f5), .slice A153_6 ((ql l0_8 x16_1).f6).length c153_6]] rfl ml_ ?_; (with_reducible refine (qca.calls k1 ((ql l0_8 x16_1).f0) ((ql l0_8 x16_1).f1) ((ql l0_8 x16_1).f2) ((ql l0_8 x16_1).f3) ((ql l0_8 x16_1).f4) ((ql l0_8 x16_1).f5) _ _ ((ql l0_8 x16_1).f6) t155 _ ?side1 ?side2 A11.out).mono ?_); (case side1 => exact Kd.qbw HR153_6.out (bwx_)); (case side2 => exact HC153_6.out); rintro e w16 ⟨rfl, hb⟩; refine ⟨_, rfl, ?_⟩; have n0_ := qd.mk (qcj (g := gb151) (o := .cells #[.int .i64 a0_0, .string a0_1, .int .i64 a0_2, .int .i64 a0_3, .int .i64 a0_4, .string a0_5, .string a0_6, .int .i64 a0_7, .slice (some ad153) l0_8.length c0_8] 29 (0, 0)) (by (with_reducible repeat (first | refine qp ?_ _ | refine qz ?_ | refine qm ?_ _)); refine qdy ?_ NB151_154.out _; (with_reducible repeat (first | refine qp ?_ _ | refine qz ?_ | refine qm ?_ _)); refine qdy ?_ NB151_154.out _; (with_reducible repeat (first | refine qp ?_ _ | refine qz ?_ | refine qm ?_ _)); refine qdy ?_ NB151_154.out _; (with_reducible repeat (first | refine qp ?_ _ | refine qz ?_ | refine qm ?_ _)); refine qdy ?_ NB151_154.out _; (with_reducible repeat (first | refine qp ?_ _ | refine qz ?_ | refine qm ?_ _)); refine qdy ?_ NB151_154.out _; (with_reducible repeat (first | refine qp ?_ _ | refine qz ?_ | refine qm ?_ _)); refine qdy ?_ NB151_154.out _; (with_reducible repeat (first | refine qp ?_ _ | refine qz ?_ | refine qm ?_ _)); refine qdy ?_ NB151_154.out _; (with_reducible repeat (first | refine qp ?_ _ | refine qz ?_ | refine qm ?_ _)); exact BK151.out) hb); have n1_ := qd.mk (qcj (g := gb154) (o := .cells #[.string ((ql l0_8 x16_1).f0), .string ((ql l0_8 x16_1).f1), .int .i64 ((ql l0_8 x16_1).f2), .int .i64 ((ql l0_8 x16_1).f3), .string ((ql l0_8 x16_1).f4), .string ((ql l0_8 x16_1).f5), .slice A153_6 ((ql l0_8 x16_1).f6).length c153_6] 109 (0, 0)) (by (with_reducible repeat (first | refine qp ?_ _ | refine qz ?_ | refine qm ?_ _)); refine qcr (cs := #[.string ((ql l0_8 x16_1).f0), .string ((ql l0_8 x16_1).f1), .int .i64 ((ql l0_8 x16_1).f2), .int .i64 ((ql l0_8 x16_1).f3), .string ((ql l0_8 x16_1).f4), .string ((ql l0_8 x16_1).f5), .slice none 0 0]) ?_ 6 _ rfl; (with_reducible repeat (first | refine qp ?_ _ | refine qz ?_ | refine qm ?_ _)); refine qcr (cs := #[.string ((ql l0_8 x16_1).f0), .string ((ql l0_8 x16_1).f1), .int .i64 ((ql l0_8 x16_1).f2), .int .i64 ((ql l0_8 x16_1).f3), .string ((ql l0_8 x16_1).f4), .string (⟨#[]⟩ : ByteArray), .slice none 0 0]) ?_ 5 _ rfl; (with_reducible repeat (first | refine qp ?_ _ | refine qz ?_ | refine qm ?_ _)); refine qcr (cs := #[.string ((ql l0_8 x16_1).f0), .string ((ql l0_8 x16_1).f1), .int .i64 ((ql l0_8 x16_1).f2), .int .i64 ((ql l0_8 x16_1).f3), .string (⟨#[]⟩ : ByteArray), .string (⟨#[]⟩ : ByteArray), .slice none 0 0]) ?_ 4 _ rfl; (with_reducible repeat (first | refine qp ?_ _ | refine qz ?_ | refine qm ?_ _)); refine qcr (cs := #[.string ((ql l0_8 x16_1).f0), .string ((ql l0_8 x16_1).f1), .int .i64 ((ql l0_8 x16_1).f2), .int .i64 0, .string (⟨#[]⟩ : ByteArray), .string (⟨#[]⟩ : ByteArray), .slice none 0 0]) ?_ 3 _ rfl; (with_reducible repeat (first | refine qp ?_ _ | refine qz ?_ | refine qm ?_ _)); refine qcr (cs := #[.string ((ql l0_8 x16_1).f0), .string ((ql l0_8 x16_1).f1), .int .i64 0, .int .i64 0, .string (⟨#[]⟩ : ByteArray), .string (⟨#[]⟩ : ByteArray), .slice none 0 0]) ?_ 2 _ rfl; (with_reducible repeat (first | refine qp ?_ _ | refine qz ?_ | refine qm ?_ _)); refine qcr (cs := #[.string ((ql l0_8 x16_1).f0), .string (⟨#[]⟩ : ByteArray), .int .i64 0, .int .i64 0, .string (⟨#[]⟩ : ByteArray), .string (⟨#[]⟩ : ByteArray), .slice none 0 0]) ?_ 1 _ rfl; (with_reducible repeat (first | refine qp ?_ _ | refine qz ?_ | refine qm ?_ _)); refine qcr (cs := #[.string (⟨#[]⟩ : ByteArray), .string (⟨#[]⟩ : ByteArray), .int .i64 0, .int .i64 0, .string (⟨#[]⟩ : ByteArray), .string (⟨#[]⟩ : ByteArray), .slice none 0 0]) ?_ 0 _ rfl; (with_reducible repeat (first | refine qp ?_ _ | refine qz ?_ | refine qm ?_ _)); exact BK154.out) hb); have n2_ := qd.mk (qw (bwx_) hb); clear BK151; clear BK154; clear HB; have BK151 := n0_; have BK154 := n1_; have HB := n2_; clear n0_ n1_ n2_; (try clear hb); (try clear hb2); (try clear hk); (try clear hi)))
    go_roundg k1
    case measure => have := HK1.out; omega
    case rel => exact ⟨(wrap64 (x16_1 + 1)), sm_, H', ⟨by have := HK1.out; omega⟩, ⟨by (with_reducible repeat (first | refine qp ?_ _ | refine qz ?_ | refine qm ?_ _)); exact BK151.out⟩, ⟨bwx_⟩⟩
   rw [if_neg c12] at H
   have c12b0 : (t155 == 0) = false := beq_eq_false_iff_ne.mpr c12
   have c12b1 : (t155 != 0) = true := bne_iff_ne.mpr c12
   simp only [Option.some.injEq, Prod.mk.injEq] at H
   obtain ⟨rfl, rfl⟩ := H
   have p153 : 0 ≤ (x16_1 : Int) := odt_
   have q153 : x16_1 < (l0_8.length : Int) := odt_
   obtain ⟨ad153, A153_6, c153_6, e153, hx153_0, hx153_1, hx153_2, hx153_3, hx153_4, hx153_5, hx153_6, hl153_6, hi153_6⟩ := qfg HR0_8.out x16_1 p153 q153
   cases e153
   replace hx153_0 := bcl_ HB hx153_0
   replace hx153_1 := bcl_ HB hx153_1
   replace hx153_2 := bcl_ HB hx153_2
   replace hx153_3 := bcl_ HB hx153_3
   replace hx153_4 := bcl_ HB hx153_4
   replace hx153_5 := bcl_ HB hx153_5
   replace hx153_6 := bcl_ HB hx153_6
   have HR153_6 := qd.mk hi153_6
   have HC153_6 := qd.mk hl153_6
   clear hi153_6 hl153_6
   replace p153 := eq_true p153
   replace q153 := eq_true q153
   go_wp2_with (first | ((with_reducible refine qbx (N := 6) rfl ?_); refine qbu ?hg (N := 6) ?hd (cs := #[.string (⟨#[]⟩ : ByteArray), .string (⟨#[]⟩ : ByteArray), .int .i64 0, .int .i64 0, .string (⟨#[]⟩ : ByteArray), .string (⟨#[]⟩ : ByteArray), .slice none 0 0]) (t := 109) ?hr ?_; (case hd => rfl); (case hg => rfl); (case hr => first | (go_simp; done) | (go_simp; rfl)); intro gb154 hg w17 hbox hb; have n0_ := qd.mk (bb_ BK151 hb); have n1_ := qd.mk (qw (bwx_) hb); have n2_ := qd.mk (hbox); have n3_ := qd.mk (gw_ (w := w) hg); have n4_ := qd.mk (gw_ (w := w) hg); have n5_ := qd.mk ((by rw [hg]; exact Nat.ne_of_lt (bl_ BK151) : gb151 ≠ gb154)); have n6_ := qd.mk ((by rw [hg]; exact Nat.ne_of_gt (bl_ BK151) : gb154 ≠ gb151)); clear BK151; clear HB; have BK151 := n0_; have HB := n1_; have BK154 := n2_; have GW154 := n3_; have GE154 := n4_; have NB151_154 := n5_; have NB154_151 := n6_; clear n0_ n1_ n2_ n3_ n4_ n5_ n6_; clear hb hbox hg; have hnb18 := NB154_151.out; have hnc18 := NB151_154.out; obtain ⟨cz19_0, cz19_1, cz19_2, cz19_3, cz19_4, cz19_5, cz19_6⟩ := bc7_ (w := w17) BK154.out; obtain ⟨fz19_0, fz19_1, fz19_2, fz19_3, fz19_4, fz19_5, fz19_6⟩ := bf7_ BK154.out) | ((with_reducible refine qbf (f := 95) rfl ?_); refine qcp (some 22) rfl rfl Tryd.func95 (by kernel_rfl) rfl #[.agg #[.string ((ql l0_8 x16_1).f0), .string ((ql l0_8 x16_1).f1), .int .i64 ((ql l0_8 x16_1).f2), .int .i64 ((ql l0_8 x16_1).f3), .string ((ql l0_8 x16_1).f4), .string ((ql l0_8 x16_1).f5), .slice A153_6 ((ql l0_8 x16_1).f6).length c153_6]] rfl ml_ ?_; (with_reducible refine (qca.calls k1 ((ql l0_8 x16_1).f0) ((ql l0_8 x16_1).f1) ((ql l0_8 x16_1).f2) ((ql l0_8 x16_1).f3) ((ql l0_8 x16_1).f4) ((ql l0_8 x16_1).f5) _ _ ((ql l0_8 x16_1).f6) t155 _ ?side1 ?side2 A11.out).mono ?_); (case side1 => exact Kd.qbw HR153_6.out (bwx_)); (case side2 => exact HC153_6.out); rintro e w20 ⟨rfl, hb⟩; refine ⟨_, rfl, ?_⟩; have n0_ := qd.mk (qcj (g := gb151) (o := .cells #[.int .i64 a0_0, .string a0_1, .int .i64 a0_2, .int .i64 a0_3, .int .i64 a0_4, .string a0_5, .string a0_6, .int .i64 a0_7, .slice (some ad153) l0_8.length c0_8] 29 (0, 0)) (by (with_reducible repeat (first | refine qp ?_ _ | refine qz ?_ | refine qm ?_ _)); refine qdy ?_ NB151_154.out _; (with_reducible repeat (first | refine qp ?_ _ | refine qz ?_ | refine qm ?_ _)); refine qdy ?_ NB151_154.out _; (with_reducible repeat (first | refine qp ?_ _ | refine qz ?_ | refine qm ?_ _)); refine qdy ?_ NB151_154.out _; (with_reducible repeat (first | refine qp ?_ _ | refine qz ?_ | refine qm ?_ _)); refine qdy ?_ NB151_154.out _; (with_reducible repeat (first | refine qp ?_ _ | refine qz ?_ | refine qm ?_ _)); refine qdy ?_ NB151_154.out _; (with_reducible repeat (first | refine qp ?_ _ | refine qz ?_ | refine qm ?_ _)); refine qdy ?_ NB151_154.out _; (with_reducible repeat (first | refine qp ?_ _ | refine qz ?_ | refine qm ?_ _)); refine qdy ?_ NB151_154.out _; (with_reducible repeat (first | refine qp ?_ _ | refine qz ?_ | refine qm ?_ _)); exact BK151.out) hb); have n1_ := qd.mk (qcj (g := gb154) (o := .cells #[.string ((ql l0_8 x16_1).f0), .string ((ql l0_8 x16_1).f1), .int .i64 ((ql l0_8 x16_1).f2), .int .i64 ((ql l0_8 x16_1).f3), .string ((ql l0_8 x16_1).f4), .string ((ql l0_8 x16_1).f5), .slice A153_6 ((ql l0_8 x16_1).f6).length c153_6] 109 (0, 0)) (by (with_reducible repeat (first | refine qp ?_ _ | refine qz ?_ | refine qm ?_ _)); refine qcr (cs := #[.string ((ql l0_8 x16_1).f0), .string ((ql l0_8 x16_1).f1), .int .i64 ((ql l0_8 x16_1).f2), .int .i64 ((ql l0_8 x16_1).f3), .string ((ql l0_8 x16_1).f4), .string ((ql l0_8 x16_1).f5), .slice none 0 0]) ?_ 6 _ rfl; (with_reducible repeat (first | refine qp ?_ _ | refine qz ?_ | refine qm ?_ _)); refine qcr (cs := #[.string ((ql l0_8 x16_1).f0), .string ((ql l0_8 x16_1).f1), .int .i64 ((ql l0_8 x16_1).f2), .int .i64 ((ql l0_8 x16_1).f3), .string ((ql l0_8 x16_1).f4), .string (⟨#[]⟩ : ByteArray), .slice none 0 0]) ?_ 5 _ rfl; (with_reducible repeat (first | refine qp ?_ _ | refine qz ?_ | refine qm ?_ _)); refine qcr (cs := #[.string ((ql l0_8 x16_1).f0), .string ((ql l0_8 x16_1).f1), .int .i64 ((ql l0_8 x16_1).f2), .int .i64 ((ql l0_8 x16_1).f3), .string (⟨#[]⟩ : ByteArray), .string (⟨#[]⟩ : ByteArray), .slice none 0 0]) ?_ 4 _ rfl; (with_reducible repeat (first | refine qp ?_ _ | refine qz ?_ | refine qm ?_ _)); refine qcr (cs := #[.string ((ql l0_8 x16_1).f0), .string ((ql l0_8 x16_1).f1), .int .i64 ((ql l0_8 x16_1).f2), .int .i64 0, .string (⟨#[]⟩ : ByteArray), .string (⟨#[]⟩ : ByteArray), .slice none 0 0]) ?_ 3 _ rfl; (with_reducible repeat (first | refine qp ?_ _ | refine qz ?_ | refine qm ?_ _)); refine qcr (cs := #[.string ((ql l0_8 x16_1).f0), .string ((ql l0_8 x16_1).f1), .int .i64 0, .int .i64 0, .string (⟨#[]⟩ : ByteArray), .string (⟨#[]⟩ : ByteArray), .slice none 0 0]) ?_ 2 _ rfl; (with_reducible repeat (first | refine qp ?_ _ | refine qz ?_ | refine qm ?_ _)); refine qcr (cs := #[.string ((ql l0_8 x16_1).f0), .string (⟨#[]⟩ : ByteArray), .int .i64 0, .int .i64 0, .string (⟨#[]⟩ : ByteArray), .string (⟨#[]⟩ : ByteArray), .slice none 0 0]) ?_ 1 _ rfl; (with_reducible repeat (first | refine qp ?_ _ | refine qz ?_ | refine qm ?_ _)); refine qcr (cs := #[.string (⟨#[]⟩ : ByteArray), .string (⟨#[]⟩ : ByteArray), .int .i64 0, .int .i64 0, .string (⟨#[]⟩ : ByteArray), .string (⟨#[]⟩ : ByteArray), .slice none 0 0]) ?_ 0 _ rfl; (with_reducible repeat (first | refine qp ?_ _ | refine qz ?_ | refine qm ?_ _)); exact BK154.out) hb); have n2_ := qd.mk (qw (bwx_) hb); clear BK151; clear BK154; clear HB; have BK151 := n0_; have BK154 := n1_; have HB := n2_; clear n0_ n1_ n2_; (try clear hb); (try clear hb2); (try clear hk); (try clear hi)))
   go_ret2
   exact ⟨ew_, bwx_⟩
 ·rw [if_neg c3] at H
  have c3b0 : (t152 == 0) = false := beq_eq_false_iff_ne.mpr c3
  have c3b1 : (t152 != 0) = true := bne_iff_ne.mpr c3
  simp only [Option.some.injEq, Prod.mk.injEq] at H
  obtain ⟨rfl, rfl⟩ := H
  go_enter Tryd.func47, Tryd.ntmps47
  go_wp2_with (first | ((with_reducible refine qbx (N := 1) rfl ?_); refine qbu ?hg (N := 1) ?hd (cs := #[.int .i64 a0_0, .string a0_1, .int .i64 a0_2, .int .i64 a0_3, .int .i64 a0_4, .string a0_5, .string a0_6, .int .i64 a0_7, .slice A0_8 l0_8.length c0_8]) (t := 29) ?hr ?_; (case hd => rfl); (case hg => rfl); (case hr => first | (go_simp; done) | (go_simp; rfl)); intro gb151 hg w27 hbox hb; have n0_ := qd.mk (qw (bw_) hb); have n1_ := qd.mk (hbox); have n2_ := qd.mk (gw_ (w := w) hg); have n3_ := qd.mk (gw_ (w := w) hg); clear HB; have HB := n0_; have BK151 := n1_; have GW151 := n2_; have GE151 := n3_; clear n0_ n1_ n2_ n3_; clear hb hbox hg; obtain ⟨cz28_0, cz28_1, cz28_2, cz28_3, cz28_4, cz28_5, cz28_6, cz28_7, cz28_8⟩ := bc9_ (w := w27) BK151.out; obtain ⟨fz28_0, fz28_1, fz28_2, fz28_3, fz28_4, fz28_5, fz28_6, fz28_7, fz28_8⟩ := bf9_ BK151.out) | ((with_reducible refine qbf (f := 94) rfl ?_); refine qcp (some 9) rfl rfl Tryd.func94 (by kernel_rfl) rfl #[.agg #[.int .i64 a0_0, .string a0_1, .int .i64 a0_2, .int .i64 a0_3, .int .i64 a0_4, .string a0_5, .string a0_6, .int .i64 a0_7, .slice A0_8 l0_8.length c0_8]] rfl ml_ ?_; (with_reducible refine (qbs.calls k a0_0 a0_1 a0_2 a0_3 a0_4 a0_5 a0_6 a0_7 _ _ l0_8 t152 _ ?side1 ?side2 A2.out (by first | exact HTB.out | (exact Tab.below HTB.out (by repeat (first | (with_reducible first | exact HB.out | apply qbk | apply qbn | apply qcq | apply pw_below_drew) | exact HB.out | refine qdm ?_ (qd.out (by assumption))))) | (repeat (first | exact HTB.out | apply Tab.alloc | apply Tab.drewN | apply Tab.drew)))).mono ?_); (case side1 => repeat (first | exact (Kd.qbw HR0_8.out HB.out) | (with_reducible refine Kd.qck ?_ _) | (with_reducible refine Kd.qcf ?_ _) | (with_reducible refine Kd.qcz ?_))); (case side2 => exact HC0_8.out); rintro e w29 ⟨rfl, hb⟩; refine ⟨_, rfl, ?_⟩; have n0_ := qd.mk (bb_ BK151 hb); have n1_ := qd.mk (qw (bwx_) hb); clear BK151; clear HB; have BK151 := n0_; have HB := n1_; clear n0_ n1_; (try clear hb); (try clear hb2); (try clear hk); (try clear hi)))
  go_ret2
  exact ⟨ew_, bwx_⟩
def qee.l0 : Nat → ByteArray → List (S213) → Int → Int → Option (ByteArray × Int)
 | 0, _, _, _, _ => none
 | k + 1, x2, x9, x10, x11 => if x11 < x10 then (if 0 ≤ x11 then (if x11 < (x9.length : Int) then (if x11 > 0 then (if x2.size + 1 ≤ 9223372036854775807 then (if ((qo x9 x11).f0).size + 1 ≤ 9223372036854775807 then (if (((qo x9 x11).f0) ++ (⟨#[61]⟩ : ByteArray)).size + ((qo x9 x11).f1).size ≤ 9223372036854775807 then (if (x2 ++ (⟨#[44]⟩ : ByteArray)).size + ((((qo x9 x11).f0) ++ (⟨#[61]⟩ : ByteArray)) ++ ((qo x9 x11).f1)).size ≤ 9223372036854775807 then (qee.l0 k ((x2 ++ (⟨#[44]⟩ : ByteArray)) ++ ((((qo x9 x11).f0) ++ (⟨#[61]⟩ : ByteArray)) ++ ((qo x9 x11).f1))) x9 x10 (wrap64 (x11 + 1))) else (none)) else (none)) else (none)) else (none)) else (if ((qo x9 x11).f0).size + 1 ≤ 9223372036854775807 then (if (((qo x9 x11).f0) ++ (⟨#[61]⟩ : ByteArray)).size + ((qo x9 x11).f1).size ≤ 9223372036854775807 then (if x2.size + ((((qo x9 x11).f0) ++ (⟨#[61]⟩ : ByteArray)) ++ ((qo x9 x11).f1)).size ≤ 9223372036854775807 then (qee.l0 k (x2 ++ ((((qo x9 x11).f0) ++ (⟨#[61]⟩ : ByteArray)) ++ ((qo x9 x11).f1))) x9 x10 (wrap64 (x11 + 1))) else (none)) else (none)) else (none))) else (none)) else (none)) else (some (x2, 0))
def qee.f (k : Nat) (l0 : List (S213)) : Option (ByteArray × Int) := (qcl.f k l0).bind fun t157 => (if t157 = true then (qee.l0 k (⟨#[]⟩ : ByteArray) l0 (l0.length : Int) 0) else (some ((⟨#[]⟩ : ByteArray), 14)))
set_option maxRecDepth 100000 in
theorem qee.calls (k : Nat) (A0 : Option Addr) (c0 : Nat) (l0 : List (S213)) (r1 : ByteArray) (r2 : Int) (w : World) (hr0 : Kd.C k213 w A0 l0.length l0) (hc0 : l0.length ≤ c0) (h : qee.f k l0 = some (r1, r2)) :
  Calls Tryd.prog 98 #[.slice A0 l0.length c0] w fun e w' => e = .returned (.tuple #[.string r1, .int .i64 r2]) ∧ Below w.heap.size w w' := by
 have hu213 := Tryd.underlying213
 have HR0 := qd.mk hr0
 have HC0 := qd.mk hc0
 clear hr0 hc0
 have HB := qd.mk (Below.refl w.heap.size w)
 have H : ((qcl.f k l0).bind fun t157 => (if t157 = true then (qee.l0 k (⟨#[]⟩ : ByteArray) l0 (l0.length : Int) 0) else (some ((⟨#[]⟩ : ByteArray), 14)))) = some (r1, r2) := h
 clear h
 replace H := Option.bind_eq_some_iff.mp H
 obtain ⟨t157, A20, H⟩ := H
 try dsimp only at H
 have A2 := qd.mk A20
 clear A20
 by_cases c3 : t157 = true
 ·subst c3
  have H1 : (qee.l0 k (⟨#[]⟩ : ByteArray) l0 (l0.length : Int) 0) = some (r1, r2) := by rw [if_pos rfl] at H; exact H
  clear H
  have H := H1
  clear H1
  have H' := qd.mk H
  clear H
  go_enter Tryd.func98, Tryd.ntmps98
  go_wp2_with (first | ((with_reducible refine qbf (f := 129) rfl ?_); refine qcp (some 7) rfl rfl Tryd.func129 (by kernel_rfl) rfl #[.slice A0 l0.length c0] rfl ml_ ?_; (with_reducible refine (qcl.calls k _ _ l0 true _ ?side1 ?side2 A2.out).mono ?_); (case side1 => repeat (first | exact HR0.out | (with_reducible refine Kd.qck ?_ _) | (with_reducible refine Kd.qcf ?_ _) | (with_reducible refine Kd.qcz ?_))); (case side2 => exact HC0.out); rintro e w4 ⟨rfl, hb⟩; refine ⟨_, rfl, ?_⟩; have n0_ := qd.mk (qw (bw_) hb); clear HB; have HB := n0_; clear n0_; (try clear hb); (try clear hb2); (try clear hk); (try clear hi)))
  go_loopg [2, 11] k (fun kq v2 v11 w' => ∃ (x2_1 : ByteArray) (x11_1 : Int), v2 = .string x2_1 ∧ v11 = .int .i64 x11_1 ∧ qd (qee.l0 kq x2_1 l0 (l0.length : Int) x11_1 = some (r1, r2)) ∧ qd (kq ≤ k) ∧ qd (Below w.heap.size w w'))
  case atStart => exact ⟨((⟨#[]⟩ : ByteArray)), (0), sm_, sm_, H', ⟨Nat.le_refl _⟩, ⟨bw_⟩⟩
  clear H'
  try clear c1
  try clear p2
  try clear c3
  obtain ⟨x2_1, x11_1, rfl, rfl, HA, HK1, HB⟩ := hrel
  cases gk with
  | zero => exact absurd HA.out (by simp [qee.l0])
  | succ k1 =>
   have H := HA.out
   clear HA
   simp only [qee.l0] at H
   by_cases c5 : x11_1 < (l0.length : Int)
   rotate_left
   ·rw [if_neg c5] at H
    have c5b0 : decide (x11_1 < (l0.length : Int)) = false := decide_eq_false c5
    clear c5
    simp only [Option.some.injEq, Prod.mk.injEq] at H
    obtain ⟨rfl, rfl⟩ := H
    go_wp2
    go_ret2
    exact ⟨ew_, bw_⟩
   rw [if_pos c5] at H
   have c5b0 : decide (x11_1 < (l0.length : Int)) = true := decide_eq_true c5
   clear c5
   by_cases c6 : 0 ≤ x11_1
   rotate_left
   ·rw [if_neg c6] at H
    exact absurd H (by simp)
   rw [if_pos c6] at H
   have c6b0 : decide (0 ≤ x11_1) = true := decide_eq_true c6
   clear c6
   by_cases c7 : x11_1 < (l0.length : Int)
   rotate_left
   ·rw [if_neg c7] at H
    exact absurd H (by simp)
   rw [if_pos c7] at H
   have c7b0 : decide (x11_1 < (l0.length : Int)) = true := decide_eq_true c7
   clear c7
   by_cases c8 : x11_1 > 0
   rotate_left
   ·rw [if_neg c8] at H
    have c8b0 : decide (0 < x11_1) = false := decide_eq_false c8
    clear c8
    by_cases c15 : ((qo l0 x11_1).f0).size + 1 ≤ 9223372036854775807
    rotate_left
    ·rw [if_neg c15] at H
     exact absurd H (by simp)
    rw [if_pos c15] at H
    have c15b0 := eq_true c15
    have c15b1 : decide (((qo l0 x11_1).f0).size + 1 ≤ 9223372036854775807) = true := decide_eq_true c15
    try have c15b2 : (9223372036854775807 < ((qo l0 x11_1).f0).size + 1) = False := eq_false (Nat.not_lt.2 c15)
    by_cases c16 : (((qo l0 x11_1).f0) ++ (⟨#[61]⟩ : ByteArray)).size + ((qo l0 x11_1).f1).size ≤ 9223372036854775807
    rotate_left
    ·rw [if_neg c16] at H
     exact absurd H (by simp)
    rw [if_pos c16] at H
    have c16b0 := eq_true c16
    have c16b1 : decide ((((qo l0 x11_1).f0) ++ (⟨#[61]⟩ : ByteArray)).size + ((qo l0 x11_1).f1).size ≤ 9223372036854775807) = true := decide_eq_true c16
    try have c16b2 : (9223372036854775807 < (((qo l0 x11_1).f0) ++ (⟨#[61]⟩ : ByteArray)).size + ((qo l0 x11_1).f1).size) = False := eq_false (Nat.not_lt.2 c16)
    by_cases c17 : x2_1.size + ((((qo l0 x11_1).f0) ++ (⟨#[61]⟩ : ByteArray)) ++ ((qo l0 x11_1).f1)).size ≤ 9223372036854775807
    rotate_left
    ·rw [if_neg c17] at H
     exact absurd H (by simp)
    rw [if_pos c17] at H
    have c17b0 := eq_true c17
    have c17b1 : decide (x2_1.size + ((((qo l0 x11_1).f0) ++ (⟨#[61]⟩ : ByteArray)) ++ ((qo l0 x11_1).f1)).size ≤ 9223372036854775807) = true := decide_eq_true c17
    try have c17b2 : (9223372036854775807 < x2_1.size + ((((qo l0 x11_1).f0) ++ (⟨#[61]⟩ : ByteArray)) ++ ((qo l0 x11_1).f1)).size) = False := eq_false (Nat.not_lt.2 c17)
    have H' := qd.mk H
    clear H
    have p158 : 0 ≤ (x11_1 : Int) := odt_
    have q158 : x11_1 < (l0.length : Int) := odt_
    obtain ⟨ad158, e158, hx158_0, hx158_1⟩ := qey HR0.out x11_1 p158 q158
    cases e158
    replace hx158_0 := bcl_ HB hx158_0
    replace hx158_1 := bcl_ HB hx158_1
    replace p158 := eq_true p158
    replace q158 := eq_true q158
    go_wp2_with (first | ((with_reducible refine qbx (N := 5) rfl ?_); refine qbu ?hg (N := 5) ?hd (cs := #[.string (⟨#[]⟩ : ByteArray), .string (⟨#[]⟩ : ByteArray)]) (t := 213) ?hr ?_; (case hd => rfl); (case hg => rfl); (case hr => first | (go_simp; done) | (go_simp; rfl)); intro gb159 hg w18 hbox hb; have n0_ := qd.mk (qw (bw_) hb); have n1_ := qd.mk (hbox); have n2_ := qd.mk (gw_ (w := w) hg); have n3_ := qd.mk (gw_ (w := w) hg); clear HB; have HB := n0_; have BK159 := n1_; have GW159 := n2_; have GE159 := n3_; clear n0_ n1_ n2_ n3_; clear hb hbox hg; obtain ⟨cz19_0, cz19_1⟩ := bc2_ (w := w18) BK159.out; obtain ⟨fz19_0, fz19_1⟩ := bf2_ BK159.out))
    go_roundg k1
    case measure => have := HK1.out; omega
    case rel => exact ⟨(x2_1 ++ ((((qo l0 x11_1).f0) ++ (⟨#[61]⟩ : ByteArray)) ++ ((qo l0 x11_1).f1))), (wrap64 (x11_1 + 1)), sm_, sm_, H', ⟨by have := HK1.out; omega⟩, ⟨bwx_⟩⟩
   rw [if_pos c8] at H
   have c8b0 : decide (0 < x11_1) = true := decide_eq_true c8
   clear c8
   by_cases c9 : x2_1.size + 1 ≤ 9223372036854775807
   rotate_left
   ·rw [if_neg c9] at H
    exact absurd H (by simp)
   rw [if_pos c9] at H
   have c9b0 := eq_true c9
   have c9b1 : decide (x2_1.size + 1 ≤ 9223372036854775807) = true := decide_eq_true c9
   try have c9b2 : (9223372036854775807 < x2_1.size + 1) = False := eq_false (Nat.not_lt.2 c9)
   by_cases c10 : ((qo l0 x11_1).f0).size + 1 ≤ 9223372036854775807
   rotate_left
   ·rw [if_neg c10] at H
    exact absurd H (by simp)
   rw [if_pos c10] at H
   have c10b0 := eq_true c10
   have c10b1 : decide (((qo l0 x11_1).f0).size + 1 ≤ 9223372036854775807) = true := decide_eq_true c10
   try have c10b2 : (9223372036854775807 < ((qo l0 x11_1).f0).size + 1) = False := eq_false (Nat.not_lt.2 c10)
   by_cases c11 : (((qo l0 x11_1).f0) ++ (⟨#[61]⟩ : ByteArray)).size + ((qo l0 x11_1).f1).size ≤ 9223372036854775807
   rotate_left
   ·rw [if_neg c11] at H
    exact absurd H (by simp)
   rw [if_pos c11] at H
   have c11b0 := eq_true c11
   have c11b1 : decide ((((qo l0 x11_1).f0) ++ (⟨#[61]⟩ : ByteArray)).size + ((qo l0 x11_1).f1).size ≤ 9223372036854775807) = true := decide_eq_true c11
   try have c11b2 : (9223372036854775807 < (((qo l0 x11_1).f0) ++ (⟨#[61]⟩ : ByteArray)).size + ((qo l0 x11_1).f1).size) = False := eq_false (Nat.not_lt.2 c11)
   by_cases c12 : (x2_1 ++ (⟨#[44]⟩ : ByteArray)).size + ((((qo l0 x11_1).f0) ++ (⟨#[61]⟩ : ByteArray)) ++ ((qo l0 x11_1).f1)).size ≤ 9223372036854775807
   rotate_left
   ·rw [if_neg c12] at H
    exact absurd H (by simp)
   rw [if_pos c12] at H
   have c12b0 := eq_true c12
   have c12b1 : decide ((x2_1 ++ (⟨#[44]⟩ : ByteArray)).size + ((((qo l0 x11_1).f0) ++ (⟨#[61]⟩ : ByteArray)) ++ ((qo l0 x11_1).f1)).size ≤ 9223372036854775807) = true := decide_eq_true c12
   try have c12b2 : (9223372036854775807 < (x2_1 ++ (⟨#[44]⟩ : ByteArray)).size + ((((qo l0 x11_1).f0) ++ (⟨#[61]⟩ : ByteArray)) ++ ((qo l0 x11_1).f1)).size) = False := eq_false (Nat.not_lt.2 c12)
   have H' := qd.mk H
   clear H
   have p158 : 0 ≤ (x11_1 : Int) := odt_
   have q158 : x11_1 < (l0.length : Int) := odt_
   obtain ⟨ad158, e158, hx158_0, hx158_1⟩ := qey HR0.out x11_1 p158 q158
   cases e158
   replace hx158_0 := bcl_ HB hx158_0
   replace hx158_1 := bcl_ HB hx158_1
   replace p158 := eq_true p158
   replace q158 := eq_true q158
   go_wp2_with (first | ((with_reducible refine qbx (N := 5) rfl ?_); refine qbu ?hg (N := 5) ?hd (cs := #[.string (⟨#[]⟩ : ByteArray), .string (⟨#[]⟩ : ByteArray)]) (t := 213) ?hr ?_; (case hd => rfl); (case hg => rfl); (case hr => first | (go_simp; done) | (go_simp; rfl)); intro gb159 hg w13 hbox hb; have n0_ := qd.mk (qw (bw_) hb); have n1_ := qd.mk (hbox); have n2_ := qd.mk (gw_ (w := w) hg); have n3_ := qd.mk (gw_ (w := w) hg); clear HB; have HB := n0_; have BK159 := n1_; have GW159 := n2_; have GE159 := n3_; clear n0_ n1_ n2_ n3_; clear hb hbox hg; obtain ⟨cz14_0, cz14_1⟩ := bc2_ (w := w13) BK159.out; obtain ⟨fz14_0, fz14_1⟩ := bf2_ BK159.out))
   go_roundg k1
   case measure => have := HK1.out; omega
   case rel => exact ⟨((x2_1 ++ (⟨#[44]⟩ : ByteArray)) ++ ((((qo l0 x11_1).f0) ++ (⟨#[61]⟩ : ByteArray)) ++ ((qo l0 x11_1).f1))), (wrap64 (x11_1 + 1)), sm_, sm_, H', ⟨by have := HK1.out; omega⟩, ⟨bwx_⟩⟩
 ·replace c3 := Bool.eq_false_iff.mpr c3
  subst c3
  have H1 : (some ((⟨#[]⟩ : ByteArray), 14)) = some (r1, r2) := by rw [if_neg (show ¬ (false = true) by decide)] at H; exact H
  clear H
  have H := H1
  clear H1
  simp only [Option.some.injEq, Prod.mk.injEq] at H
  obtain ⟨rfl, rfl⟩ := H
  go_enter Tryd.func98, Tryd.ntmps98
  go_wp2_with (first | ((with_reducible refine qbf (f := 129) rfl ?_); refine qcp (some 7) rfl rfl Tryd.func129 (by kernel_rfl) rfl #[.slice A0 l0.length c0] rfl ml_ ?_; (with_reducible refine (qcl.calls k _ _ l0 false _ ?side1 ?side2 A2.out).mono ?_); (case side1 => repeat (first | exact HR0.out | (with_reducible refine Kd.qck ?_ _) | (with_reducible refine Kd.qcf ?_ _) | (with_reducible refine Kd.qcz ?_))); (case side2 => exact HC0.out); rintro e w20 ⟨rfl, hb⟩; refine ⟨_, rfl, ?_⟩; have n0_ := qd.mk (qw (bw_) hb); clear HB; have HB := n0_; clear n0_; (try clear hb); (try clear hb2); (try clear hk); (try clear hi)))
  go_ret2
  exact ⟨ew_, bw_⟩
theorem mk_event {o : Oper} {ops : Array Oper} {rest : List Oper} {a : Act} {Q : Exit → Act → World → Prop} {W : World} (hgd : o.guard = none) {N : Tmp} (_hd : o.dst = some N) (s : Operand) (hop : o.op = .makeSlice 32 (.const (.int .i64 0)) s) (c : Nat) {m : Int} (hs : a.eval s = .int .i64 m) (hm : m = (c : Int)) (hc : c ≤ 2000000) (base : Nat) (hb : base ≤ W.heap.size)
  (h : ∀ g w1, g = W.heap.size → w1.ownsRow base 112 7 (.slice (some ⟨g, 0, none⟩) 0 c) 0 [] → Below W.heap.size W w1 → wpList Tryd.prog ops Q rest (a.put o.dst (.slice (some ⟨g, 0, none⟩) 0 c)) w1) : wpList Tryd.prog ops Q (o :: rest) a W := by
 obtain ⟨i0, hi0, hz0, hz1, hz2⟩ := info_parts qfk
 subst hm
 obtain ⟨w1, hr, ho, hg⟩ := run_make_own (P := Tryd.prog) W base 32 112 i0 _ 7 Tryd.underlying32 hi0 hz0 hz1 .i64 .i64 c (by rw [hz2]; omega) (by unfold maxLen; omega) hb
 refine Kd.qml hgd ?_ (h W.heap.size w1 rfl ho ⟨hg.os, hg.tape, hg.output, hg.size, fun k hk => hg.block k hk (by simp)⟩)
 unfold execOp
 simp only [hop]
 rw [show a.eval (.const (.int .i64 0)) = .int .i64 0 from rfl, hs]
 simp [hr, Result.andThen]
theorem R_empty {W : World} {base g c : Nat} {ok : Nat → Prop} (h : W.ownsRow base 112 7 (.slice (some ⟨g, 0, none⟩) 0 c) 0 []) (hok : ok g) : Kd.R k112 112 W base ok (.slice (some ⟨g, 0, none⟩) 0 c) [] := by
 refine ⟨fun k hk => ?_, [], h, rfl, fun j p hj => by simp at hj⟩
 simp [Value.ownBlock] at hk
 subst hk
 exact hok
def qdx.l0 : Nat → List (S112) → List (S109) → Int → Int → Int → ByteArray → Int → Int → Int → ByteArray → ByteArray → Int → List (S109) → Option ((List (S112)))
 | 0, _, _, _, _, _, _, _, _, _, _, _, _, _ => none
 | k + 1, x3, x14, x15, x16, x161000, x161001, x161002, x161003, x161004, x161005, x161006, x161007, x161008 => if x16 < x15 then (if 0 ≤ x16 then (if x16 < (x14.length : Int) then ((qee.f k ((ql x14 x16).f6)).bind fun bt163 => (if x3.length < 1466015503701 then (qdx.l0 k (x3 ++ [(⟨(⟨x161001, (ql x14 x16).f0, (ql x14 x16).f1, (ql x14 x16).f4, bt163.1⟩ : S40), (ql x14 x16).f2, (ql x14 x16).f3⟩ : S112)]) x14 x15 (wrap64 (x16 + 1)) x161000 x161001 x161002 x161003 x161004 x161005 x161006 x161007 x161008) else (none))) else (none)) else (none)) else (some x3)
def qdx.f (k : Nat) (a0_0 : Int) (a0_1 : ByteArray) (a0_2 : Int) (a0_3 : Int) (a0_4 : Int) (a0_5 : ByteArray) (a0_6 : ByteArray) (a0_7 : Int) (l0_8 : List (S109)) : Option ((List (S112))) := if l0_8.length ≤ 1000000 then qdx.l0 k ([] : List (S112)) l0_8 (l0_8.length : Int) 0 a0_0 a0_1 a0_2 a0_3 a0_4 a0_5 a0_6 a0_7 l0_8 else none
set_option maxRecDepth 100000 in
theorem qdx.calls (k : Nat) (a0_0 : Int) (a0_1 : ByteArray) (a0_2 : Int) (a0_3 : Int) (a0_4 : Int) (a0_5 : ByteArray) (a0_6 : ByteArray) (a0_7 : Int) (A0_8 : Option Addr) (c0_8 : Nat) (l0_8 : List (S109)) (r : List (S112)) (w : World) (hr0_8 : Kd.C k109 w A0_8 l0_8.length l0_8) (hc0_8 : l0_8.length ≤ c0_8) (h : qdx.f k a0_0 a0_1 a0_2 a0_3 a0_4 a0_5 a0_6 a0_7 l0_8 = some r) :
  Calls Tryd.prog 51 #[.agg #[.int .i64 a0_0, .string a0_1, .int .i64 a0_2, .int .i64 a0_3, .int .i64 a0_4, .string a0_5, .string a0_6, .int .i64 a0_7, .slice A0_8 l0_8.length c0_8]] w fun e w' => ∃ v0_ : Value, e = .returned (v0_) ∧ Kd.R k112 112 w' w.heap.size (fun _ => True) v0_ r ∧ Below w.heap.size w w' := by
 have hu29 := Tryd.underlying29
 have hu109 := Tryd.underlying109
 have hu40 := Tryd.underlying40
 have hu112 := Tryd.underlying112
 have HR0_8 := qd.mk hr0_8
 have HC0_8 := qd.mk hc0_8
 clear hr0_8 hc0_8
 have HB := qd.mk (Below.refl w.heap.size w)
 unfold qdx.f at h
 have hlen : l0_8.length ≤ 1000000 := by
  by_cases hl : l0_8.length ≤ 1000000
  ·exact hl
  rw [if_neg hl] at h; cases h
 rw [if_pos hlen] at h
 have HLEN := qd.mk hlen
 clear hlen
 have H : (qdx.l0 k ([] : List (S112)) l0_8 (l0_8.length : Int) 0 a0_0 a0_1 a0_2 a0_3 a0_4 a0_5 a0_6 a0_7 l0_8) = some r := h
 clear h
 have H' := qd.mk H
 clear H
 go_enter Tryd.func51, Tryd.ntmps51
 go_wp2_with (first | ((with_reducible refine qbx (N := 1) rfl ?_); refine qbu ?hg (N := 1) ?hd (cs := #[.int .i64 a0_0, .string a0_1, .int .i64 a0_2, .int .i64 a0_3, .int .i64 a0_4, .string a0_5, .string a0_6, .int .i64 a0_7, .slice A0_8 l0_8.length c0_8]) (t := 29) ?hr ?_; (case hd => rfl); (case hg => rfl); (case hr => first | (go_simp; done) | (go_simp; rfl)); intro gb160 hg w2 hbox hb; have n0_ := qd.mk (qw (bw_) hb); have n1_ := qd.mk (hbox); have n2_ := qd.mk (gw_ (w := w) hg); have n3_ := qd.mk (gw_ (w := w) hg); clear HB; have HB := n0_; have BK160 := n1_; have GW160 := n2_; have GE160 := n3_; clear n0_ n1_ n2_ n3_; clear hb hbox hg; obtain ⟨cz3_0, cz3_1, cz3_2, cz3_3, cz3_4, cz3_5, cz3_6, cz3_7, cz3_8⟩ := bc9_ (w := w2) BK160.out; obtain ⟨fz3_0, fz3_1, fz3_2, fz3_3, fz3_4, fz3_5, fz3_6, fz3_7, fz3_8⟩ := bf9_ BK160.out) | ((with_reducible refine qbx (N := 12) rfl ?_); refine mk_event rfl rfl (.tmp 11) rfl l0_8.length rfl ?hm ?hc w.heap.size ?hb ?_; (case hm => first | rfl | (simp; done) | (simp [*]; done)); (case hc => have hl_ := HLEN.out; omega); (case hb => exact qcm (bw_)); intro g49 w49 hg ho49 hb; have n0_ := qd.mk (bb_ BK160 hb); have n1_ := qd.mk (qw (bw_) hb); have HO49 := qd.mk ho49; clear BK160; clear HB; have BK160 := n0_; have HB := n1_; clear n0_ n1_; clear ho49 hb hg; obtain ⟨cz3_0, cz3_1, cz3_2, cz3_3, cz3_4, cz3_5, cz3_6, cz3_7, cz3_8⟩ := bc9_ (w := w49) BK160.out; obtain ⟨fz3_0, fz3_1, fz3_2, fz3_3, fz3_4, fz3_5, fz3_6, fz3_7, fz3_8⟩ := bf9_ BK160.out))
 go_loopg [3, 16] k (fun kq v3 v16 w' => ∃ (x3_1 : List (S112)) (x16_1 : Int), v16 = .int .i64 x16_1 ∧ qd (qdx.l0 kq x3_1 l0_8 (l0_8.length : Int) x16_1 a0_0 a0_1 a0_2 a0_3 a0_4 a0_5 a0_6 a0_7 l0_8 = some r) ∧ qd (kq ≤ k) ∧ qd (Kd.R k112 112 w' w.heap.size (fun _ => True) v3 x3_1) ∧ qd (w'.heap[gb160]? = some (.cells #[.int .i64 a0_0, .string a0_1, .int .i64 a0_2, .int .i64 a0_3, .int .i64 a0_4, .string a0_5, .string a0_6, .int .i64 a0_7, (.slice A0_8 l0_8.length c0_8)] 29 (0, 0))) ∧ qd (Below w.heap.size w w'))
 case atStart => exact ⟨(([] : List (S112))), (0), sm_, H', ⟨Nat.le_refl _⟩, ⟨by (with_reducible repeat (first | apply Kd.R_alloc | apply Kd.qbj | apply Kd.qbl)); exact R_empty HO49.out trivial⟩, ⟨by (with_reducible repeat (first | refine qp ?_ _ | refine qz ?_ | refine qm ?_ _)); exact BK160.out⟩, ⟨bwx_⟩⟩
 clear H'
 try clear p2
 try clear cz3_0 cz3_1 cz3_2 cz3_3 cz3_4 cz3_5 cz3_6 cz3_7 cz3_8
 try clear fz3_0 fz3_1 fz3_2 fz3_3 fz3_4 fz3_5 fz3_6 fz3_7 fz3_8
 obtain ⟨x3_1, x16_1, rfl, HA, HK1, HO_3, BK160, HB⟩ := hrel
 cases gk with
 | zero => exact absurd HA.out (by simp [qdx.l0])
 | succ k1 =>
  have H := HA.out
  clear HA
  simp only [qdx.l0] at H
  by_cases c4 : x16_1 < (l0_8.length : Int)
  rotate_left
  ·rw [if_neg c4] at H
   have c4b0 : decide (x16_1 < (l0_8.length : Int)) = false := decide_eq_false c4
   clear c4
   obtain rfl := Option.some.inj H
   go_wp2
   go_ret
   exact ⟨_, ew_, by (with_reducible repeat (first | apply Kd.R_alloc | apply Kd.qbj | apply Kd.qbl)); exact HO_3.out, bwx_⟩
  rw [if_pos c4] at H
  have c4b0 : decide (x16_1 < (l0_8.length : Int)) = true := decide_eq_true c4
  clear c4
  by_cases c5 : 0 ≤ x16_1
  rotate_left
  ·rw [if_neg c5] at H
   exact absurd H (by simp)
  rw [if_pos c5] at H
  have c5b0 : decide (0 ≤ x16_1) = true := decide_eq_true c5
  clear c5
  by_cases c6 : x16_1 < (l0_8.length : Int)
  rotate_left
  ·rw [if_neg c6] at H
   exact absurd H (by simp)
  rw [if_pos c6] at H
  have c6b0 : decide (x16_1 < (l0_8.length : Int)) = true := decide_eq_true c6
  clear c6
  replace H := Option.bind_eq_some_iff.mp H
  obtain ⟨⟨t163, t164⟩, A70, H⟩ := H
  try dsimp only at H
  have A7 := qd.mk A70
  clear A70
  by_cases c8 : x3_1.length < 1466015503701
  rotate_left
  ·rw [if_neg c8] at H
   exact absurd H (by simp)
  rw [if_pos c8] at H
  have LMc8 := qd.mk c8
  clear c8
  obtain ⟨y166, hy166⟩ : ∃ y_ : List (S112), y_ = (x3_1 ++ [(⟨(⟨a0_1, (ql l0_8 x16_1).f0, (ql l0_8 x16_1).f1, (ql l0_8 x16_1).f4, t163⟩ : S40), (ql l0_8 x16_1).f2, (ql l0_8 x16_1).f3⟩ : S112)]) := ⟨_, rfl⟩
  replace H : (qdx.l0 k1 y166 l0_8 (l0_8.length : Int) (wrap64 (x16_1 + 1)) a0_0 a0_1 a0_2 a0_3 a0_4 a0_5 a0_6 a0_7 l0_8) = some r := by first | (rw [hy166]; with_reducible exact H) | (have H2_ := (Option.bind_some _ _).symm.trans H; rw [hy166]; with_reducible exact H2_) | (have H2_ := (Option.bind_some _ _).symm.trans H; with_reducible exact H2_) | with_reducible exact H | (rw [hy166]; exact H) | exact H
  have Ny166 := qd.mk hy166
  clear hy166
  have H' := qd.mk H
  clear H
  have p161 : 0 ≤ (x16_1 : Int) := odt_
  have q161 : x16_1 < (l0_8.length : Int) := odt_
  obtain ⟨ad161, A161_6, c161_6, e161, hx161_0, hx161_1, hx161_2, hx161_3, hx161_4, hx161_5, hx161_6, hl161_6, hi161_6⟩ := qfg HR0_8.out x16_1 p161 q161
  cases e161
  replace hx161_0 := bcl_ HB hx161_0
  replace hx161_1 := bcl_ HB hx161_1
  replace hx161_2 := bcl_ HB hx161_2
  replace hx161_3 := bcl_ HB hx161_3
  replace hx161_4 := bcl_ HB hx161_4
  replace hx161_5 := bcl_ HB hx161_5
  replace hx161_6 := bcl_ HB hx161_6
  have HR161_6 := qd.mk hi161_6
  have HC161_6 := qd.mk hl161_6
  clear hi161_6 hl161_6
  replace p161 := eq_true p161
  replace q161 := eq_true q161
  go_wp2_with (first | ((with_reducible refine qbx (N := 5) rfl ?_); refine qbu ?hg (N := 5) ?hd (cs := #[.string (⟨#[]⟩ : ByteArray), .string (⟨#[]⟩ : ByteArray), .int .i64 0, .int .i64 0, .string (⟨#[]⟩ : ByteArray), .string (⟨#[]⟩ : ByteArray), .slice none 0 0]) (t := 109) ?hr ?_; (case hd => rfl); (case hg => rfl); (case hr => first | (go_simp; done) | (go_simp; rfl)); intro gb162 hg w9 hbox hb; have n0_ := qd.mk (Kd.qdw (by (with_reducible repeat (first | apply Kd.R_alloc | apply Kd.qbj | apply Kd.qbl)); exact HO_3.out) hb); have n1_ := qd.mk (bb_ BK160 hb); have n2_ := qd.mk (qw (bwx_) hb); have n3_ := qd.mk (hbox); have n4_ := qd.mk (gw_ (w := w) hg); have n5_ := qd.mk (gw_ (w := w) hg); have n6_ := qd.mk ((by rw [hg]; exact Nat.ne_of_lt (bl_ BK160) : gb160 ≠ gb162)); have n7_ := qd.mk ((by rw [hg]; exact Nat.ne_of_gt (bl_ BK160) : gb162 ≠ gb160)); clear HO_3; clear BK160; clear HB; have HO_3 := n0_; have BK160 := n1_; have HB := n2_; have BK162 := n3_; have GW162 := n4_; have GE162 := n5_; have NB160_162 := n6_; have NB162_160 := n7_; clear n0_ n1_ n2_ n3_ n4_ n5_ n6_ n7_; clear hb hbox hg; have hnb10 := NB162_160.out; have hnc10 := NB160_162.out; obtain ⟨cz11_0, cz11_1, cz11_2, cz11_3, cz11_4, cz11_5, cz11_6⟩ := bc7_ (w := w9) BK162.out; obtain ⟨fz11_0, fz11_1, fz11_2, fz11_3, fz11_4, fz11_5, fz11_6⟩ := bf7_ BK162.out) | ((with_reducible refine qbf (f := 98) rfl ?_); refine qcp (some 23) rfl rfl Tryd.func98 (by kernel_rfl) rfl #[.slice A161_6 ((ql l0_8 x16_1).f6).length c161_6] rfl ml_ ?_; (with_reducible refine (qee.calls k1 _ _ ((ql l0_8 x16_1).f6) t163 t164 _ ?side1 ?side2 A7.out).mono ?_); (case side1 => exact Kd.qbw HR161_6.out (bwx_)); (case side2 => exact HC161_6.out); rintro e w12 ⟨rfl, hb⟩; refine ⟨_, rfl, ?_⟩; have n0_ := qd.mk (Kd.qdw (by (with_reducible repeat (first | apply Kd.R_alloc | apply Kd.qbj | apply Kd.qbl)); exact (Kd.qdt (Kd.qjh (p := ⟨gb162, 6, none⟩) (Kd.qjh (p := ⟨gb162, 5, none⟩) (Kd.qjh (p := ⟨gb162, 4, none⟩) (Kd.qjh (p := ⟨gb162, 3, none⟩) (Kd.qjh (p := ⟨gb162, 2, none⟩) (Kd.qjh (p := ⟨gb162, 1, none⟩) (Kd.qjh (p := ⟨gb162, 0, none⟩) (Kd.qjs HO_3.out BK162.out (by decide)) (fun _ hk => hk.2) (.string ((ql l0_8 x16_1).f0))) (fun _ hk => hk.2) (.string ((ql l0_8 x16_1).f1))) (fun _ hk => hk.2) (.int .i64 ((ql l0_8 x16_1).f2))) (fun _ hk => hk.2) (.int .i64 ((ql l0_8 x16_1).f3))) (fun _ hk => hk.2) (.string ((ql l0_8 x16_1).f4))) (fun _ hk => hk.2) (.string ((ql l0_8 x16_1).f5))) (fun _ hk => hk.2) (.slice A161_6 ((ql l0_8 x16_1).f6).length c161_6)) (fun _ h_ => h_.1))) hb); have n1_ := qd.mk (qcj (g := gb160) (o := .cells #[.int .i64 a0_0, .string a0_1, .int .i64 a0_2, .int .i64 a0_3, .int .i64 a0_4, .string a0_5, .string a0_6, .int .i64 a0_7, .slice (some ad161) l0_8.length c0_8] 29 (0, 0)) (by (with_reducible repeat (first | refine qp ?_ _ | refine qz ?_ | refine qm ?_ _)); refine qdy ?_ NB160_162.out _; (with_reducible repeat (first | refine qp ?_ _ | refine qz ?_ | refine qm ?_ _)); refine qdy ?_ NB160_162.out _; (with_reducible repeat (first | refine qp ?_ _ | refine qz ?_ | refine qm ?_ _)); refine qdy ?_ NB160_162.out _; (with_reducible repeat (first | refine qp ?_ _ | refine qz ?_ | refine qm ?_ _)); refine qdy ?_ NB160_162.out _; (with_reducible repeat (first | refine qp ?_ _ | refine qz ?_ | refine qm ?_ _)); refine qdy ?_ NB160_162.out _; (with_reducible repeat (first | refine qp ?_ _ | refine qz ?_ | refine qm ?_ _)); refine qdy ?_ NB160_162.out _; (with_reducible repeat (first | refine qp ?_ _ | refine qz ?_ | refine qm ?_ _)); refine qdy ?_ NB160_162.out _; (with_reducible repeat (first | refine qp ?_ _ | refine qz ?_ | refine qm ?_ _)); exact BK160.out) hb); have n2_ := qd.mk (qcj (g := gb162) (o := .cells #[.string ((ql l0_8 x16_1).f0), .string ((ql l0_8 x16_1).f1), .int .i64 ((ql l0_8 x16_1).f2), .int .i64 ((ql l0_8 x16_1).f3), .string ((ql l0_8 x16_1).f4), .string ((ql l0_8 x16_1).f5), .slice A161_6 ((ql l0_8 x16_1).f6).length c161_6] 109 (0, 0)) (by (with_reducible repeat (first | refine qp ?_ _ | refine qz ?_ | refine qm ?_ _)); refine qcr (cs := #[.string ((ql l0_8 x16_1).f0), .string ((ql l0_8 x16_1).f1), .int .i64 ((ql l0_8 x16_1).f2), .int .i64 ((ql l0_8 x16_1).f3), .string ((ql l0_8 x16_1).f4), .string ((ql l0_8 x16_1).f5), .slice none 0 0]) ?_ 6 _ rfl; (with_reducible repeat (first | refine qp ?_ _ | refine qz ?_ | refine qm ?_ _)); refine qcr (cs := #[.string ((ql l0_8 x16_1).f0), .string ((ql l0_8 x16_1).f1), .int .i64 ((ql l0_8 x16_1).f2), .int .i64 ((ql l0_8 x16_1).f3), .string ((ql l0_8 x16_1).f4), .string (⟨#[]⟩ : ByteArray), .slice none 0 0]) ?_ 5 _ rfl; (with_reducible repeat (first | refine qp ?_ _ | refine qz ?_ | refine qm ?_ _)); refine qcr (cs := #[.string ((ql l0_8 x16_1).f0), .string ((ql l0_8 x16_1).f1), .int .i64 ((ql l0_8 x16_1).f2), .int .i64 ((ql l0_8 x16_1).f3), .string (⟨#[]⟩ : ByteArray), .string (⟨#[]⟩ : ByteArray), .slice none 0 0]) ?_ 4 _ rfl; (with_reducible repeat (first | refine qp ?_ _ | refine qz ?_ | refine qm ?_ _)); refine qcr (cs := #[.string ((ql l0_8 x16_1).f0), .string ((ql l0_8 x16_1).f1), .int .i64 ((ql l0_8 x16_1).f2), .int .i64 0, .string (⟨#[]⟩ : ByteArray), .string (⟨#[]⟩ : ByteArray), .slice none 0 0]) ?_ 3 _ rfl; (with_reducible repeat (first | refine qp ?_ _ | refine qz ?_ | refine qm ?_ _)); refine qcr (cs := #[.string ((ql l0_8 x16_1).f0), .string ((ql l0_8 x16_1).f1), .int .i64 0, .int .i64 0, .string (⟨#[]⟩ : ByteArray), .string (⟨#[]⟩ : ByteArray), .slice none 0 0]) ?_ 2 _ rfl; (with_reducible repeat (first | refine qp ?_ _ | refine qz ?_ | refine qm ?_ _)); refine qcr (cs := #[.string ((ql l0_8 x16_1).f0), .string (⟨#[]⟩ : ByteArray), .int .i64 0, .int .i64 0, .string (⟨#[]⟩ : ByteArray), .string (⟨#[]⟩ : ByteArray), .slice none 0 0]) ?_ 1 _ rfl; (with_reducible repeat (first | refine qp ?_ _ | refine qz ?_ | refine qm ?_ _)); refine qcr (cs := #[.string (⟨#[]⟩ : ByteArray), .string (⟨#[]⟩ : ByteArray), .int .i64 0, .int .i64 0, .string (⟨#[]⟩ : ByteArray), .string (⟨#[]⟩ : ByteArray), .slice none 0 0]) ?_ 0 _ rfl; (with_reducible repeat (first | refine qp ?_ _ | refine qz ?_ | refine qm ?_ _)); exact BK162.out) hb); have n3_ := qd.mk (qw (bwx_) hb); clear HO_3; clear BK160; clear BK162; clear HB; have HO_3 := n0_; have BK160 := n1_; have BK162 := n2_; have HB := n3_; clear n0_ n1_ n2_ n3_; (try clear hb); (try clear hb2); (try clear hk); (try clear hi); obtain ⟨cz13_0, cz13_1, cz13_2, cz13_3, cz13_4, cz13_5, cz13_6, cz13_7, cz13_8⟩ := bc9_ (w := w12) BK160.out; obtain ⟨fz13_0, fz13_1, fz13_2, fz13_3, fz13_4, fz13_5, fz13_6, fz13_7, fz13_8⟩ := bf9_ BK160.out; obtain ⟨cz14_0, cz14_1, cz14_2, cz14_3, cz14_4, cz14_5, cz14_6⟩ := bc7_ (w := w12) BK162.out; obtain ⟨fz14_0, fz14_1, fz14_2, fz14_3, fz14_4, fz14_5, fz14_6⟩ := bf7_ BK162.out) | ((with_reducible refine qbx (N := 8) rfl ?_); refine qbu ?hg (N := 8) ?hd (cs := #[.string (⟨#[]⟩ : ByteArray), .string (⟨#[]⟩ : ByteArray), .string (⟨#[]⟩ : ByteArray), .string (⟨#[]⟩ : ByteArray), .string (⟨#[]⟩ : ByteArray)]) (t := 40) ?hr ?_; (case hd => rfl); (case hg => rfl); (case hr => first | (go_simp; done) | (go_simp; rfl)); intro gb165 hg w15 hbox hb; have n0_ := qd.mk (Kd.qdw (by (with_reducible repeat (first | apply Kd.R_alloc | apply Kd.qbj | apply Kd.qbl)); exact HO_3.out) hb); have n1_ := qd.mk (bb_ BK160 hb); have n2_ := qd.mk (bb_ BK162 hb); have n3_ := qd.mk (qw (bwx_) hb); have n4_ := qd.mk (hbox); have n5_ := qd.mk (gw_ (w := w) hg); have n6_ := qd.mk (gw_ (w := w) hg); have n7_ := qd.mk ((by rw [hg]; exact Nat.ne_of_lt (bl_ BK160) : gb160 ≠ gb165)); have n8_ := qd.mk ((by rw [hg]; exact Nat.ne_of_gt (bl_ BK160) : gb165 ≠ gb160)); have n9_ := qd.mk ((by rw [hg]; exact Nat.ne_of_lt (bl_ BK162) : gb162 ≠ gb165)); have n10_ := qd.mk ((by rw [hg]; exact Nat.ne_of_gt (bl_ BK162) : gb165 ≠ gb162)); clear HO_3; clear BK160; clear BK162; clear HB; have HO_3 := n0_; have BK160 := n1_; have BK162 := n2_; have HB := n3_; have BK165 := n4_; have GW165 := n5_; have GE165 := n6_; have NB160_165 := n7_; have NB165_160 := n8_; have NB162_165 := n9_; have NB165_162 := n10_; clear n0_ n1_ n2_ n3_ n4_ n5_ n6_ n7_ n8_ n9_ n10_; clear hb hbox hg; have hnb16 := NB165_160.out; have hnc16 := NB160_165.out; have hnb17 := NB165_162.out; have hnc17 := NB162_165.out; obtain ⟨cz18_0, cz18_1, cz18_2, cz18_3, cz18_4⟩ := bc5_ (w := w15) BK165.out; obtain ⟨fz18_0, fz18_1, fz18_2, fz18_3, fz18_4⟩ := bf5_ BK165.out; obtain ⟨cz19_0, cz19_1, cz19_2, cz19_3, cz19_4, cz19_5, cz19_6⟩ := bc7_ (w := w15) BK162.out; obtain ⟨fz19_0, fz19_1, fz19_2, fz19_3, fz19_4, fz19_5, fz19_6⟩ := bf7_ BK162.out) | ((with_reducible refine qdf (b := .append) (xs := #[.tmp 36, .tmp 43]) rfl ?_); at_builtin; refine Kd.qet k112 (w0 := w) w.heap.size rfl (.tmp 36) (.tmp 43) 32 112 (.agg #[(.string ⟨#[]⟩), (.string ⟨#[]⟩), (.string ⟨#[]⟩), (.string ⟨#[]⟩), (.string ⟨#[]⟩), (.int .i64 0), (.int .i64 0)]) 96 rfl Tryd.underlying32 qfk rfl (by decide) (by omega) u3 x3_1 (⟨(⟨a0_1, (ql l0_8 x16_1).f0, (ql l0_8 x16_1).f1, (ql l0_8 x16_1).f4, t163⟩ : S40), (ql l0_8 x16_1).f2, (ql l0_8 x16_1).f3⟩ : S112) [.string a0_1, .string ((ql l0_8 x16_1).f0), .string ((ql l0_8 x16_1).f1), .string ((ql l0_8 x16_1).f4), .string t163, .int .i64 ((ql l0_8 x16_1).f2), .int .i64 ((ql l0_8 x16_1).f3)] (fun _ => True) (fun _ => False) rfl (by first | (go_simp; done) | (go_simp; rfl)) ?aP (fun _ hk => hk.elim) ?aF ?aO ?aB ?aS ?aL ?_; (case aP => exact qfw _ _ _ (⟨(⟨a0_1, (ql l0_8 x16_1).f0, (ql l0_8 x16_1).f1, (ql l0_8 x16_1).f4, t163⟩ : S40), (ql l0_8 x16_1).f2, (ql l0_8 x16_1).f3⟩ : S112)); (case aB => exact (bwx_)); (case aF => exact (fun _ _ => trivial)); (case aO => exact (by (with_reducible repeat (first | apply Kd.R_alloc | apply Kd.qbj | apply Kd.qbl)); exact Kd.qdt (Kd.qjh (p := ⟨gb165, 4, none⟩) (Kd.qjh (p := ⟨gb165, 3, none⟩) (Kd.qjh (p := ⟨gb165, 2, none⟩) (Kd.qjh (p := ⟨gb165, 1, none⟩) (Kd.qjh (p := ⟨gb165, 0, none⟩) (Kd.qjs HO_3.out BK165.out (by decide)) (fun _ hk => hk.2) (.string a0_1)) (fun _ hk => hk.2) (.string ((ql l0_8 x16_1).f0))) (fun _ hk => hk.2) (.string ((ql l0_8 x16_1).f1))) (fun _ hk => hk.2) (.string ((ql l0_8 x16_1).f4))) (fun _ hk => hk.2) (.string t163)) (fun _ hk => trivial))); (case aS => exact (qcm (bwx_))); (case aL => have := LMc8.out; omega); intro v167 w20 ho hb hg hat; rw [← Ny166.out] at ho; have n0_ := qd.mk (qer (g := gb160) (o := .cells #[.int .i64 a0_0, .string a0_1, .int .i64 a0_2, .int .i64 a0_3, .int .i64 a0_4, .string a0_5, .string a0_6, .int .i64 a0_7, .slice (some ad161) l0_8.length c0_8] 29 (0, 0)) (by (with_reducible repeat (first | refine qp ?_ _ | refine qz ?_ | refine qm ?_ _)); refine qdy ?_ NB160_165.out _; (with_reducible repeat (first | refine qp ?_ _ | refine qz ?_ | refine qm ?_ _)); refine qdy ?_ NB160_165.out _; (with_reducible repeat (first | refine qp ?_ _ | refine qz ?_ | refine qm ?_ _)); refine qdy ?_ NB160_165.out _; (with_reducible repeat (first | refine qp ?_ _ | refine qz ?_ | refine qm ?_ _)); refine qdy ?_ NB160_165.out _; (with_reducible repeat (first | refine qp ?_ _ | refine qz ?_ | refine qm ?_ _)); refine qdy ?_ NB160_165.out _; (with_reducible repeat (first | refine qp ?_ _ | refine qz ?_ | refine qm ?_ _)); exact BK160.out) hg (Kd.R_ne HO_3.out BK160.out (by decide))); have n1_ := qd.mk (qer (g := gb162) (o := .cells #[.string ((ql l0_8 x16_1).f0), .string ((ql l0_8 x16_1).f1), .int .i64 ((ql l0_8 x16_1).f2), .int .i64 ((ql l0_8 x16_1).f3), .string ((ql l0_8 x16_1).f4), .string ((ql l0_8 x16_1).f5), .slice A161_6 ((ql l0_8 x16_1).f6).length c161_6] 109 (0, 0)) (by (with_reducible repeat (first | refine qp ?_ _ | refine qz ?_ | refine qm ?_ _)); refine qdy ?_ NB162_165.out _; (with_reducible repeat (first | refine qp ?_ _ | refine qz ?_ | refine qm ?_ _)); refine qdy ?_ NB162_165.out _; (with_reducible repeat (first | refine qp ?_ _ | refine qz ?_ | refine qm ?_ _)); refine qdy ?_ NB162_165.out _; (with_reducible repeat (first | refine qp ?_ _ | refine qz ?_ | refine qm ?_ _)); refine qdy ?_ NB162_165.out _; (with_reducible repeat (first | refine qp ?_ _ | refine qz ?_ | refine qm ?_ _)); refine qdy ?_ NB162_165.out _; (with_reducible repeat (first | refine qp ?_ _ | refine qz ?_ | refine qm ?_ _)); exact BK162.out) hg (Kd.R_ne HO_3.out BK162.out (by decide))); have n2_ := qd.mk (qer (g := gb165) (o := .cells #[.string a0_1, .string ((ql l0_8 x16_1).f0), .string ((ql l0_8 x16_1).f1), .string ((ql l0_8 x16_1).f4), .string t163] 40 (0, 0)) (by (with_reducible repeat (first | refine qp ?_ _ | refine qz ?_ | refine qm ?_ _)); refine qcr (cs := #[.string a0_1, .string ((ql l0_8 x16_1).f0), .string ((ql l0_8 x16_1).f1), .string ((ql l0_8 x16_1).f4), .string (⟨#[]⟩ : ByteArray)]) ?_ 4 _ rfl; (with_reducible repeat (first | refine qp ?_ _ | refine qz ?_ | refine qm ?_ _)); refine qcr (cs := #[.string a0_1, .string ((ql l0_8 x16_1).f0), .string ((ql l0_8 x16_1).f1), .string (⟨#[]⟩ : ByteArray), .string (⟨#[]⟩ : ByteArray)]) ?_ 3 _ rfl; (with_reducible repeat (first | refine qp ?_ _ | refine qz ?_ | refine qm ?_ _)); refine qcr (cs := #[.string a0_1, .string ((ql l0_8 x16_1).f0), .string (⟨#[]⟩ : ByteArray), .string (⟨#[]⟩ : ByteArray), .string (⟨#[]⟩ : ByteArray)]) ?_ 2 _ rfl; (with_reducible repeat (first | refine qp ?_ _ | refine qz ?_ | refine qm ?_ _)); refine qcr (cs := #[.string a0_1, .string (⟨#[]⟩ : ByteArray), .string (⟨#[]⟩ : ByteArray), .string (⟨#[]⟩ : ByteArray), .string (⟨#[]⟩ : ByteArray)]) ?_ 1 _ rfl; (with_reducible repeat (first | refine qp ?_ _ | refine qz ?_ | refine qm ?_ _)); refine qcr (cs := #[.string (⟨#[]⟩ : ByteArray), .string (⟨#[]⟩ : ByteArray), .string (⟨#[]⟩ : ByteArray), .string (⟨#[]⟩ : ByteArray), .string (⟨#[]⟩ : ByteArray)]) ?_ 0 _ rfl; (with_reducible repeat (first | refine qp ?_ _ | refine qz ?_ | refine qm ?_ _)); exact BK165.out) hg (Kd.R_ne HO_3.out BK165.out (by decide))); have n3_ := qd.mk (hb); have n4_ := qd.mk (ho); clear BK160; clear BK162; clear BK165; clear HB; clear HO_3; have BK160 := n0_; have BK162 := n1_; have BK165 := n2_; have HB := n3_; have HO168 := n4_; clear n0_ n1_ n2_ n3_ n4_; clear ho hb hg hat))
  go_roundg k1
  case measure => have := HK1.out; omega
  case rel => exact ⟨(y166), (wrap64 (x16_1 + 1)), sm_, H', ⟨by have := HK1.out; omega⟩, ⟨by (with_reducible repeat (first | apply Kd.R_alloc | apply Kd.qbj | apply Kd.qbl)); exact HO168.out⟩, ⟨by (with_reducible repeat (first | refine qp ?_ _ | refine qz ?_ | refine qm ?_ _)); exact BK160.out⟩, ⟨bwx_⟩⟩
def qdn.f (a0 : Int) : Option (Bool) := if a0 ≥ 97 then (if a0 ≤ 122 then (some true) else (if a0 ≥ 65 then (if a0 ≤ 90 then (some true) else (some (a0 == 95))) else (some (a0 == 95)))) else (if a0 ≥ 65 then (if a0 ≤ 90 then (some true) else (some (a0 == 95))) else (some (a0 == 95)))
set_option maxRecDepth 100000 in
theorem qdn.calls (a0 : Int) (r : Bool) (w : World) (h : qdn.f a0 = some r) :
  Calls Tryd.prog 151 #[.int .u8 a0] w fun e w' => e = .returned (.bool r) ∧ qcs w w' := by
 have H : (if a0 ≥ 97 then (if a0 ≤ 122 then (some true) else (if a0 ≥ 65 then (if a0 ≤ 90 then (some true) else (some (a0 == 95))) else (some (a0 == 95)))) else (if a0 ≥ 65 then (if a0 ≤ 90 then (some true) else (some (a0 == 95))) else (some (a0 == 95)))) = some r := h
 clear h
 by_cases c2 : a0 ≥ 97
 ·rw [if_pos c2] at H
  have c2b0 : decide (97 ≤ a0) = true := decide_eq_true c2
  clear c2
  by_cases c3 : a0 ≤ 122
  ·rw [if_pos c3] at H
   have c3b0 : decide (a0 ≤ 122) = true := decide_eq_true c3
   clear c3
   obtain rfl := Option.some.inj H
   go_enter Tryd.func151, Tryd.ntmps151
   go_wp2
   go_ret
   exact ⟨sm_, dn_⟩
  rw [if_neg c3] at H
  have c3b0 : decide (a0 ≤ 122) = false := decide_eq_false c3
  clear c3
  by_cases c4 : a0 ≥ 65
  rotate_left
  ·rw [if_neg c4] at H
   have c4b0 : decide (65 ≤ a0) = false := decide_eq_false c4
   clear c4
   obtain rfl := Option.some.inj H
   go_enter Tryd.func151, Tryd.ntmps151
   go_wp2
   go_ret
   exact ⟨sm_, dn_⟩
  rw [if_pos c4] at H
  have c4b0 : decide (65 ≤ a0) = true := decide_eq_true c4
  clear c4
  by_cases c5 : a0 ≤ 90
  ·rw [if_pos c5] at H
   have c5b0 : decide (a0 ≤ 90) = true := decide_eq_true c5
   clear c5
   obtain rfl := Option.some.inj H
   go_enter Tryd.func151, Tryd.ntmps151
   go_wp2
   go_ret
   exact ⟨sm_, dn_⟩
  rw [if_neg c5] at H
  have c5b0 : decide (a0 ≤ 90) = false := decide_eq_false c5
  clear c5
  obtain rfl := Option.some.inj H
  go_enter Tryd.func151, Tryd.ntmps151
  go_wp2
  go_ret
  exact ⟨sm_, dn_⟩
 ·rw [if_neg c2] at H
  have c2b0 : decide (97 ≤ a0) = false := decide_eq_false c2
  clear c2
  by_cases c6 : a0 ≥ 65
  ·rw [if_pos c6] at H
   have c6b0 : decide (65 ≤ a0) = true := decide_eq_true c6
   clear c6
   by_cases c7 : a0 ≤ 90
   ·rw [if_pos c7] at H
    have c7b0 : decide (a0 ≤ 90) = true := decide_eq_true c7
    clear c7
    obtain rfl := Option.some.inj H
    go_enter Tryd.func151, Tryd.ntmps151
    go_wp2
    go_ret
    exact ⟨sm_, dn_⟩
   rw [if_neg c7] at H
   have c7b0 : decide (a0 ≤ 90) = false := decide_eq_false c7
   clear c7
   obtain rfl := Option.some.inj H
   go_enter Tryd.func151, Tryd.ntmps151
   go_wp2
   go_ret
   exact ⟨sm_, dn_⟩
  ·rw [if_neg c6] at H
   have c6b0 : decide (65 ≤ a0) = false := decide_eq_false c6
   clear c6
   obtain rfl := Option.some.inj H
   go_enter Tryd.func151, Tryd.ntmps151
   go_wp2
   go_ret
   exact ⟨sm_, dn_⟩
def qdq.f (a0 : Int) : Option (Bool) := if a0 ≥ 48 then (some (decide (a0 ≤ 57))) else (some false)
set_option maxRecDepth 100000 in
theorem qdq.calls (a0 : Int) (r : Bool) (w : World) (h : qdq.f a0 = some r) :
  Calls Tryd.prog 152 #[.int .u8 a0] w fun e w' => e = .returned (.bool r) ∧ qcs w w' := by
 have H : (if a0 ≥ 48 then (some (decide (a0 ≤ 57))) else (some false)) = some r := h
 clear h
 by_cases c2 : a0 ≥ 48
 ·rw [if_pos c2] at H
  have c2b0 : decide (48 ≤ a0) = true := decide_eq_true c2
  clear c2
  obtain rfl := Option.some.inj H
  go_enter Tryd.func152, Tryd.ntmps152
  go_wp2
  go_ret
  exact ⟨sm_, dn_⟩
 ·rw [if_neg c2] at H
  have c2b0 : decide (48 ≤ a0) = false := decide_eq_false c2
  clear c2
  obtain rfl := Option.some.inj H
  go_enter Tryd.func152, Tryd.ntmps152
  go_wp2
  go_ret
  exact ⟨sm_, dn_⟩
def qbh.l0 : Nat → ByteArray → Int → Option (Bool)
 | 0, _, _ => none
 | k + 1, x0, x3 => if x3 < (x0.size : Int) then (if 0 ≤ x3 then ((qdn.f (bt x0 x3)).bind fun t178 => (if t178 = true then (qbh.l0 k x0 (wrap64 (x3 + 1))) else ((qdq.f (bt x0 x3)).bind fun t179 => (if t179 = true then (qbh.l0 k x0 (wrap64 (x3 + 1))) else (some false))))) else (none)) else (if (x0.size : Int) ≥ 1 then (some (decide ((x0.size : Int) ≤ 12))) else (some false))
def qbh.f (k : Nat) (a0 : ByteArray) : Option (Bool) := qbh.l0 k a0 0
set_option maxRecDepth 100000 in
theorem qbh.calls (k : Nat) (a0 : ByteArray) (r : Bool) (w : World) (h : qbh.f k a0 = some r) :
  Calls Tryd.prog 113 #[.string a0] w fun e w' => e = .returned (.bool r) ∧ qcs w w' := by
 have H : (qbh.l0 k a0 0) = some r := h
 clear h
 have H' := qd.mk H
 clear H
 go_enter Tryd.func113, Tryd.ntmps113
 go_wp2
 go_loopg [3] k (fun kq v3 w' => ∃ (x3_1 : Int), v3 = .int .i64 x3_1 ∧ qd (qbh.l0 kq a0 x3_1 = some r) ∧ qd (kq ≤ k) ∧ qcs w w')
 case atStart => exact ⟨(0), sm_, H', ⟨Nat.le_refl _⟩, dn_⟩
 case round =>
  clear H'
  try clear c1
  obtain ⟨x3_1, rfl, HA, HK1, ⟨m1, rfl⟩⟩ := hrel
  cases gk with
  | zero => exact absurd HA.out (by simp [qbh.l0])
  | succ k1 =>
   have H := HA.out
   clear HA
   simp only [qbh.l0] at H
   by_cases c2 : x3_1 < (a0.size : Int)
   ·rw [if_pos c2] at H
    have c2b0 : decide (x3_1 < (a0.size : Int)) = true := decide_eq_true c2
    clear c2
    by_cases c3 : 0 ≤ x3_1
    rotate_left
    ·rw [if_neg c3] at H
     exact absurd H (by simp)
    rw [if_pos c3] at H
    have c3b0 : decide (0 ≤ x3_1) = true := decide_eq_true c3
    clear c3
    replace H := Option.bind_eq_some_iff.mp H
    obtain ⟨t178, A50, H⟩ := H
    try dsimp only at H
    have A5 := qd.mk A50
    clear A50
    by_cases c6 : t178 = true
    ·subst c6
     have H1 : (qbh.l0 k1 a0 (wrap64 (x3_1 + 1))) = some r := by rw [if_pos rfl] at H; exact H
     clear H
     have H := H1
     clear H1
     have H' := qd.mk H
     clear H
     have p4 : 0 ≤ (x3_1 : Int) := odt_
     have q4 : x3_1 < (a0.size : Int) := odt_
     have hx4 := qiy a0 x3_1
     replace p4 := eq_true p4
     replace q4 := eq_true q4
     go_wp2_with (first | ((with_reducible refine qbf (f := 151) rfl ?_); refine qcp (some 13) rfl rfl Tryd.func151 (by kernel_rfl) rfl #[.int .u8 (bt a0 x3_1)] rfl ml_ ?_; (with_reducible refine (qdn.calls (bt a0 x3_1) true _ A5.out).mono ?_); rintro e w' ⟨rfl, ⟨nd, rfl⟩⟩; refine ⟨_, rfl, ?_⟩))
     go_roundg k1
     case measure => have := HK1.out; omega
     case rel => exact ⟨(wrap64 (x3_1 + 1)), sm_, H', ⟨by have := HK1.out; omega⟩, dn_⟩
    replace c6 := Bool.eq_false_iff.mpr c6
    subst c6
    have H1 : ((qdq.f (bt a0 x3_1)).bind fun t179 => (if t179 = true then (qbh.l0 k1 a0 (wrap64 (x3_1 + 1))) else (some false))) = some r := by rw [if_neg (show ¬ (false = true) by decide)] at H; exact H
    clear H
    have H := H1
    clear H1
    replace H := Option.bind_eq_some_iff.mp H
    obtain ⟨t179, A80, H⟩ := H
    try dsimp only at H
    have A8 := qd.mk A80
    clear A80
    by_cases c9 : t179 = true
    ·subst c9
     have H1 : (qbh.l0 k1 a0 (wrap64 (x3_1 + 1))) = some r := by rw [if_pos rfl] at H; exact H
     clear H
     have H := H1
     clear H1
     have H' := qd.mk H
     clear H
     have p4 : 0 ≤ (x3_1 : Int) := odt_
     have q4 : x3_1 < (a0.size : Int) := odt_
     have hx4 := qiy a0 x3_1
     replace p4 := eq_true p4
     replace q4 := eq_true q4
     go_wp2_with (first | ((with_reducible refine qbf (f := 151) rfl ?_); refine qcp (some 13) rfl rfl Tryd.func151 (by kernel_rfl) rfl #[.int .u8 (bt a0 x3_1)] rfl ml_ ?_; (with_reducible refine (qdn.calls (bt a0 x3_1) false _ A5.out).mono ?_); rintro e w' ⟨rfl, ⟨nd, rfl⟩⟩; refine ⟨_, rfl, ?_⟩; have p7 : 0 ≤ (x3_1 : Int) := odt_; have q7 : x3_1 < (a0.size : Int) := odt_; have hx7 := qiy a0 x3_1; replace p7 := eq_true p7; replace q7 := eq_true q7) | (go_at_call 152; (with_reducible refine (qdq.calls (bt a0 x3_1) true _ A8.out).mono ?_); rintro e w' ⟨rfl, ⟨nd, rfl⟩⟩))
     go_roundg k1
     case measure => have := HK1.out; omega
     case rel => exact ⟨(wrap64 (x3_1 + 1)), sm_, H', ⟨by have := HK1.out; omega⟩, dn_⟩
    replace c9 := Bool.eq_false_iff.mpr c9
    subst c9
    have H1 : (some false) = some r := by rw [if_neg (show ¬ (false = true) by decide)] at H; exact H
    clear H
    have H := H1
    clear H1
    obtain rfl := Option.some.inj H
    have p4 : 0 ≤ (x3_1 : Int) := odt_
    have q4 : x3_1 < (a0.size : Int) := odt_
    have hx4 := qiy a0 x3_1
    replace p4 := eq_true p4
    replace q4 := eq_true q4
    go_wp2_with (first | ((with_reducible refine qbf (f := 151) rfl ?_); refine qcp (some 13) rfl rfl Tryd.func151 (by kernel_rfl) rfl #[.int .u8 (bt a0 x3_1)] rfl ml_ ?_; (with_reducible refine (qdn.calls (bt a0 x3_1) false _ A5.out).mono ?_); rintro e w' ⟨rfl, ⟨nd, rfl⟩⟩; refine ⟨_, rfl, ?_⟩; have p7 : 0 ≤ (x3_1 : Int) := odt_; have q7 : x3_1 < (a0.size : Int) := odt_; have hx7 := qiy a0 x3_1; replace p7 := eq_true p7; replace q7 := eq_true q7) | (go_at_call 152; (with_reducible refine (qdq.calls (bt a0 x3_1) false _ A8.out).mono ?_); rintro e w' ⟨rfl, ⟨nd, rfl⟩⟩))
    go_ret
    exact ⟨sm_, dn_⟩
   ·rw [if_neg c2] at H
    have c2b0 : decide (x3_1 < (a0.size : Int)) = false := decide_eq_false c2
    clear c2
    by_cases c10 : (a0.size : Int) ≥ 1
    ·rw [if_pos c10] at H
     have c10b0 : decide (1 ≤ (a0.size : Int)) = true := decide_eq_true c10
     have c10b1 : decide (1 ≤ a0.size) = true := decide_eq_true (by omega)
     clear c10
     obtain rfl := Option.some.inj H
     go_wp2
     go_ret
     exact ⟨sm_, dn_⟩
    ·rw [if_neg c10] at H
     have c10b0 : decide (1 ≤ (a0.size : Int)) = false := decide_eq_false c10
     have c10b1 : decide (1 ≤ a0.size) = false := decide_eq_false (by omega)
     clear c10
     obtain rfl := Option.some.inj H
     go_wp2
     go_ret
     exact ⟨sm_, dn_⟩
def qda.f (a0 : Int) : Option (Bool) := if a0 ≥ 0 then (some (decide (a0 ≤ 109572))) else (some false)
set_option maxRecDepth 100000 in
theorem qda.calls (a0 : Int) (r : Bool) (w : World) (h : qda.f a0 = some r) :
  Calls Tryd.prog 138 #[.int .i64 a0] w fun e w' => e = .returned (.bool r) ∧ qcs w w' := by
 have H : (if a0 ≥ 0 then (some (decide (a0 ≤ 109572))) else (some false)) = some r := h
 clear h
 by_cases c2 : a0 ≥ 0
 ·rw [if_pos c2] at H
  have c2b0 : decide (0 ≤ a0) = true := decide_eq_true c2
  clear c2
  obtain rfl := Option.some.inj H
  go_enter Tryd.func138, Tryd.ntmps138
  go_wp2
  go_ret
  exact ⟨sm_, dn_⟩
 ·rw [if_neg c2] at H
  have c2b0 : decide (0 ≤ a0) = false := decide_eq_false c2
  clear c2
  obtain rfl := Option.some.inj H
  go_enter Tryd.func138, Tryd.ntmps138
  go_wp2
  go_ret
  exact ⟨sm_, dn_⟩
def qbz.l0 : Nat → ByteArray → Int → Option (Bool)
 | 0, _, _ => none
 | k + 1, x0, x3 => if x3 < (x0.size : Int) then (if 0 ≤ x3 then (if (bt x0 x3) < 32 then (some false) else (if (bt x0 x3) > 126 then (some false) else (qbz.l0 k x0 (wrap64 (x3 + 1))))) else (none)) else (some (decide ((x0.size : Int) ≤ 60)))
def qbz.f (k : Nat) (a0 : ByteArray) : Option (Bool) := qbz.l0 k a0 0
set_option maxRecDepth 100000 in
theorem qbz.calls (k : Nat) (a0 : ByteArray) (r : Bool) (w : World) (h : qbz.f k a0 = some r) :
  Calls Tryd.prog 139 #[.string a0] w fun e w' => e = .returned (.bool r) ∧ qcs w w' := by
 have H : (qbz.l0 k a0 0) = some r := h
 clear h
 have H' := qd.mk H
 clear H
 go_enter Tryd.func139, Tryd.ntmps139
 go_wp2
 go_loopg [3] k (fun kq v3 w' => ∃ (x3_1 : Int), v3 = .int .i64 x3_1 ∧ qd (qbz.l0 kq a0 x3_1 = some r) ∧ qd (kq ≤ k) ∧ qcs w w')
 case atStart => exact ⟨(0), sm_, H', ⟨Nat.le_refl _⟩, dn_⟩
 case round =>
  clear H'
  try clear c1
  obtain ⟨x3_1, rfl, HA, HK1, ⟨m1, rfl⟩⟩ := hrel
  cases gk with
  | zero => exact absurd HA.out (by simp [qbz.l0])
  | succ k1 =>
   have H := HA.out
   clear HA
   simp only [qbz.l0] at H
   by_cases c2 : x3_1 < (a0.size : Int)
   ·rw [if_pos c2] at H
    have c2b0 : decide (x3_1 < (a0.size : Int)) = true := decide_eq_true c2
    clear c2
    by_cases c3 : 0 ≤ x3_1
    rotate_left
    ·rw [if_neg c3] at H
     exact absurd H (by simp)
    rw [if_pos c3] at H
    have c3b0 : decide (0 ≤ x3_1) = true := decide_eq_true c3
    clear c3
    by_cases c5 : (bt a0 x3_1) < 32
    ·rw [if_pos c5] at H
     have c5b0 : decide ((bt a0 x3_1) < 32) = true := decide_eq_true c5
     clear c5
     obtain rfl := Option.some.inj H
     have p4 : 0 ≤ (x3_1 : Int) := odt_
     have q4 : x3_1 < (a0.size : Int) := odt_
     have hx4 := qiy a0 x3_1
     replace p4 := eq_true p4
     replace q4 := eq_true q4
     go_wp2
     go_ret
     exact ⟨sm_, dn_⟩
    rw [if_neg c5] at H
    have c5b0 : decide ((bt a0 x3_1) < 32) = false := decide_eq_false c5
    clear c5
    by_cases c7 : (bt a0 x3_1) > 126
    ·rw [if_pos c7] at H
     have c7b0 : decide (126 < (bt a0 x3_1)) = true := decide_eq_true c7
     clear c7
     obtain rfl := Option.some.inj H
     have p4 : 0 ≤ (x3_1 : Int) := odt_
     have q4 : x3_1 < (a0.size : Int) := odt_
     have hx4 := qiy a0 x3_1
     replace p4 := eq_true p4
     replace q4 := eq_true q4
     have p6 : 0 ≤ (x3_1 : Int) := odt_
     have q6 : x3_1 < (a0.size : Int) := odt_
     have hx6 := qiy a0 x3_1
     replace p6 := eq_true p6
     replace q6 := eq_true q6
     go_wp2
     go_ret
     exact ⟨sm_, dn_⟩
    rw [if_neg c7] at H
    have c7b0 : decide (126 < (bt a0 x3_1)) = false := decide_eq_false c7
    clear c7
    have H' := qd.mk H
    clear H
    have p4 : 0 ≤ (x3_1 : Int) := odt_
    have q4 : x3_1 < (a0.size : Int) := odt_
    have hx4 := qiy a0 x3_1
    replace p4 := eq_true p4
    replace q4 := eq_true q4
    have p6 : 0 ≤ (x3_1 : Int) := odt_
    have q6 : x3_1 < (a0.size : Int) := odt_
    have hx6 := qiy a0 x3_1
    replace p6 := eq_true p6
    replace q6 := eq_true q6
    go_wp2
    go_roundg k1
    case measure => have := HK1.out; omega
    case rel => exact ⟨(wrap64 (x3_1 + 1)), sm_, H', ⟨by have := HK1.out; omega⟩, dn_⟩
   ·rw [if_neg c2] at H
    have c2b0 : decide (x3_1 < (a0.size : Int)) = false := decide_eq_false c2
    clear c2
    obtain rfl := Option.some.inj H
    go_wp2
    go_ret
    exact ⟨sm_, dn_⟩
mutual
def qy.j0 : Nat → Bool → Int → ByteArray → Int → Int → Int → ByteArray → ByteArray → Int → List (S109) → Option (Int)
 | 0, _, _, _, _, _, _, _, _, _, _ => none
 | k + 1, x3, x181000, x181001, x181002, x181003, x181004, x181005, x181006, x181007, x181008 => if x3 = true then (some 3) else ((qbh.f k x181001).bind fun t181 => (if t181 = true then ((qbh.f k x181006).bind fun t182 => (qy.j1 k (!t182) x181000 x181001 x181002 x181003 x181004 x181005 x181006 x181007 x181008)) else (qy.j1 k true x181000 x181001 x181002 x181003 x181004 x181005 x181006 x181007 x181008)))
def qy.j1 : Nat → Bool → Int → ByteArray → Int → Int → Int → ByteArray → ByteArray → Int → List (S109) → Option (Int)
 | 0, _, _, _, _, _, _, _, _, _, _ => none
 | k + 1, x22, x181000, x181001, x181002, x181003, x181004, x181005, x181006, x181007, x181008 => if x22 = true then (some 7) else ((qda.f x181002).bind fun t183 => (if t183 = true then ((qda.f x181003).bind fun t184 => (qy.j2 k (!t184) x181000 x181001 x181002 x181003 x181004 x181005 x181006 x181007 x181008)) else (qy.j2 k true x181000 x181001 x181002 x181003 x181004 x181005 x181006 x181007 x181008)))
def qy.j2 : Nat → Bool → Int → ByteArray → Int → Int → Int → ByteArray → ByteArray → Int → List (S109) → Option (Int)
 | 0, _, _, _, _, _, _, _, _, _, _ => none
 | k + 1, x33, x181000, x181001, x181002, x181003, x181004, x181005, x181006, x181007, x181008 => if x33 = true then (some 11) else (if x181004 < 1 then (qy.j3 k true x181000 x181001 x181002 x181003 x181004 x181005 x181006 x181007 x181008) else (qy.j3 k (decide (x181004 > 7)) x181000 x181001 x181002 x181003 x181004 x181005 x181006 x181007 x181008))
def qy.j3 : Nat → Bool → Int → ByteArray → Int → Int → Int → ByteArray → ByteArray → Int → List (S109) → Option (Int)
 | 0, _, _, _, _, _, _, _, _, _, _ => none
 | k + 1, x44, x181000, x181001, x181002, x181003, x181004, x181005, x181006, x181007, x181008 => if x44 = true then (some 10) else ((qbz.f k x181005).bind fun t185 => (if t185 = true then (if (x181008.length : Int) < 2 then (some 2) else (if (x181008.length : Int) > 100 then (some 9) else (some 0))) else (some 5)))
end
def qy.f (k : Nat) (a0_0 : Int) (a0_1 : ByteArray) (a0_2 : Int) (a0_3 : Int) (a0_4 : Int) (a0_5 : ByteArray) (a0_6 : ByteArray) (a0_7 : Int) (l0_8 : List (S109)) : Option (Int) := if a0_0 < 0 then (qy.j0 k true a0_0 a0_1 a0_2 a0_3 a0_4 a0_5 a0_6 a0_7 l0_8) else (if a0_0 > 4000 then (qy.j0 k true a0_0 a0_1 a0_2 a0_3 a0_4 a0_5 a0_6 a0_7 l0_8) else (if a0_7 < 0 then (qy.j0 k true a0_0 a0_1 a0_2 a0_3 a0_4 a0_5 a0_6 a0_7 l0_8) else (qy.j0 k (decide (a0_7 > 4000)) a0_0 a0_1 a0_2 a0_3 a0_4 a0_5 a0_6 a0_7 l0_8)))
set_option maxRecDepth 100000 in
theorem qy.calls (k : Nat) (a0_0 : Int) (a0_1 : ByteArray) (a0_2 : Int) (a0_3 : Int) (a0_4 : Int) (a0_5 : ByteArray) (a0_6 : ByteArray) (a0_7 : Int) (A0_8 : Option Addr) (c0_8 : Nat) (l0_8 : List (S109)) (r : Int) (w : World) (hr0_8 : Kd.C k109 w A0_8 l0_8.length l0_8) (hc0_8 : l0_8.length ≤ c0_8) (h : qy.f k a0_0 a0_1 a0_2 a0_3 a0_4 a0_5 a0_6 a0_7 l0_8 = some r) :
  Calls Tryd.prog 100 #[.agg #[.int .i64 a0_0, .string a0_1, .int .i64 a0_2, .int .i64 a0_3, .int .i64 a0_4, .string a0_5, .string a0_6, .int .i64 a0_7, .slice A0_8 l0_8.length c0_8]] w fun e w' => e = .returned (.int .i64 r) ∧ Below w.heap.size w w' := by
 have hu29 := Tryd.underlying29
 have HR0_8 := qd.mk hr0_8
 have HC0_8 := qd.mk hc0_8
 clear hr0_8 hc0_8
 have HB := qd.mk (Below.refl w.heap.size w)
 have H : (if a0_0 < 0 then (qy.j0 k true a0_0 a0_1 a0_2 a0_3 a0_4 a0_5 a0_6 a0_7 l0_8) else (if a0_0 > 4000 then (qy.j0 k true a0_0 a0_1 a0_2 a0_3 a0_4 a0_5 a0_6 a0_7 l0_8) else (if a0_7 < 0 then (qy.j0 k true a0_0 a0_1 a0_2 a0_3 a0_4 a0_5 a0_6 a0_7 l0_8) else (qy.j0 k (decide (a0_7 > 4000)) a0_0 a0_1 a0_2 a0_3 a0_4 a0_5 a0_6 a0_7 l0_8)))) = some r := h
 clear h
 have HC2 := qd.mk H
 clear H
 go_enter Tryd.func100, Tryd.ntmps100
 go_upto_region 1 with (first | ((with_reducible refine qbx (N := 1) rfl ?_); refine qbu ?hg (N := 1) ?hd (cs := #[.int .i64 a0_0, .string a0_1, .int .i64 a0_2, .int .i64 a0_3, .int .i64 a0_4, .string a0_5, .string a0_6, .int .i64 a0_7, .slice A0_8 l0_8.length c0_8]) (t := 29) ?hr ?_; (case hd => rfl); (case hg => rfl); (case hr => first | (go_simp; done) | (go_simp; rfl)); intro gb180 hg w3 hbox hb; have n0_ := qd.mk (qw (bw_) hb); have n1_ := qd.mk (hbox); have n2_ := qd.mk (gw_ (w := w) hg); have n3_ := qd.mk (gw_ (w := w) hg); clear HB; have HB := n0_; have BK180 := n1_; have GW180 := n2_; have GE180 := n3_; clear n0_ n1_ n2_ n3_; clear hb hbox hg))
 (try simp only [Act.put, List.setIfInBounds_toArray, List.set_cons_zero, List.set_cons_succ])
 go_cut [3] (fun v3 wc => ∃ (kq : Nat) (x3_1 : Bool), v3 = .bool x3_1 ∧ qd (qy.j0 kq x3_1 a0_0 a0_1 a0_2 a0_3 a0_4 a0_5 a0_6 a0_7 l0_8 = some r) ∧ qd (kq ≤ k) ∧ qd (wc.heap[gb180]? = some (.cells #[.int .i64 a0_0, .string a0_1, .int .i64 a0_2, .int .i64 a0_3, .int .i64 a0_4, .string a0_5, .string a0_6, .int .i64 a0_7, (.slice A0_8 l0_8.length c0_8)] 29 (0, 0))) ∧ qd (Below w.heap.size w wc))
 case first =>
  have H := HC2.out
  clear HC2
  by_cases c4 : a0_0 < 0
  ·rw [if_pos c4] at H
   have c4b0 : decide (a0_0 < 0) = true := decide_eq_true c4
   clear c4
   (first | rw [c4b0] | (simp only [qeh, qen]; rw [c4b0]) | skip)
   have H' := qd.mk H
   clear H
   obtain ⟨cz5_0, cz5_1, cz5_2, cz5_3, cz5_4, cz5_5, cz5_6, cz5_7, cz5_8⟩ := bc9_ (w := w3) BK180.out
   obtain ⟨fz5_0, fz5_1, fz5_2, fz5_3, fz5_4, fz5_5, fz5_6, fz5_7, fz5_8⟩ := bf9_ BK180.out
   go_wp2
   go_meet
   case rel => exact ⟨_, (true), sm_, H', ⟨by first | omega | exact Nat.le_refl _⟩, ⟨by (with_reducible repeat (first | refine qp ?_ _ | refine qz ?_ | refine qm ?_ _)); exact BK180.out⟩, ⟨bwx_⟩⟩
  rw [if_neg c4] at H
  have c4b0 : decide (a0_0 < 0) = false := decide_eq_false c4
  clear c4
  (first | rw [c4b0] | (simp only [qeh, qen]; rw [c4b0]) | skip)
  by_cases c6 : a0_0 > 4000
  ·rw [if_pos c6] at H
   have c6b0 : decide (4000 < a0_0) = true := decide_eq_true c6
   clear c6
   have H' := qd.mk H
   clear H
   obtain ⟨cz7_0, cz7_1, cz7_2, cz7_3, cz7_4, cz7_5, cz7_6, cz7_7, cz7_8⟩ := bc9_ (w := w3) BK180.out
   obtain ⟨fz7_0, fz7_1, fz7_2, fz7_3, fz7_4, fz7_5, fz7_6, fz7_7, fz7_8⟩ := bf9_ BK180.out
   go_wp2
   go_meet
   case rel => exact ⟨_, (true), sm_, H', ⟨by first | omega | exact Nat.le_refl _⟩, ⟨by (with_reducible repeat (first | refine qp ?_ _ | refine qz ?_ | refine qm ?_ _)); exact BK180.out⟩, ⟨bwx_⟩⟩
  rw [if_neg c6] at H
  have c6b0 : decide (4000 < a0_0) = false := decide_eq_false c6
  clear c6
  by_cases c8 : a0_7 < 0
  ·rw [if_pos c8] at H
   have c8b0 : decide (a0_7 < 0) = true := decide_eq_true c8
   clear c8
   have H' := qd.mk H
   clear H
   obtain ⟨cz9_0, cz9_1, cz9_2, cz9_3, cz9_4, cz9_5, cz9_6, cz9_7, cz9_8⟩ := bc9_ (w := w3) BK180.out
   obtain ⟨fz9_0, fz9_1, fz9_2, fz9_3, fz9_4, fz9_5, fz9_6, fz9_7, fz9_8⟩ := bf9_ BK180.out
   go_wp2
   go_meet
   case rel => exact ⟨_, (true), sm_, H', ⟨by first | omega | exact Nat.le_refl _⟩, ⟨by (with_reducible repeat (first | refine qp ?_ _ | refine qz ?_ | refine qm ?_ _)); exact BK180.out⟩, ⟨bwx_⟩⟩
  rw [if_neg c8] at H
  have c8b0 : decide (a0_7 < 0) = false := decide_eq_false c8
  clear c8
  have H' := qd.mk H
  clear H
  obtain ⟨cz10_0, cz10_1, cz10_2, cz10_3, cz10_4, cz10_5, cz10_6, cz10_7, cz10_8⟩ := bc9_ (w := w3) BK180.out
  obtain ⟨fz10_0, fz10_1, fz10_2, fz10_3, fz10_4, fz10_5, fz10_6, fz10_7, fz10_8⟩ := bf9_ BK180.out
  go_wp2
  go_meet
  case rel => exact ⟨_, (decide (a0_7 > 4000)), sm_, H', ⟨by first | omega | exact Nat.le_refl _⟩, ⟨by (with_reducible repeat (first | refine qp ?_ _ | refine qz ?_ | refine qm ?_ _)); exact BK180.out⟩, ⟨bwx_⟩⟩
 case rest =>
  clear HC2
  try clear c1
  try clear p2
  try clear c4
  try clear c4b0
  try clear c6
  try clear c6b0
  try clear c8
  try clear c8b0
  try clear c10
  try clear cz10_0 cz10_1 cz10_2 cz10_3 cz10_4 cz10_5 cz10_6 cz10_7 cz10_8
  try clear cz5_0 cz5_1 cz5_2 cz5_3 cz5_4 cz5_5 cz5_6 cz5_7 cz5_8
  try clear cz7_0 cz7_1 cz7_2 cz7_3 cz7_4 cz7_5 cz7_6 cz7_7 cz7_8
  try clear cz9_0 cz9_1 cz9_2 cz9_3 cz9_4 cz9_5 cz9_6 cz9_7 cz9_8
  try clear fz10_0 fz10_1 fz10_2 fz10_3 fz10_4 fz10_5 fz10_6 fz10_7 fz10_8
  try clear fz5_0 fz5_1 fz5_2 fz5_3 fz5_4 fz5_5 fz5_6 fz5_7 fz5_8
  try clear fz7_0 fz7_1 fz7_2 fz7_3 fz7_4 fz7_5 fz7_6 fz7_7 fz7_8
  try clear fz9_0 fz9_1 fz9_2 fz9_3 fz9_4 fz9_5 fz9_6 fz9_7 fz9_8
  obtain ⟨kq, x3_1, rfl, HA, HJ1, BK180, HB⟩ := hcut
  cases kq with
  | zero => exact absurd HA.out (by simp [qy.j0])
  | succ kj1 =>
   have H := HA.out
   clear HA
   simp only [qy.j0] at H
   by_cases c11 : x3_1 = true
   ·subst c11
    have H1 : (some 3) = some r := by rw [if_pos rfl] at H; exact H
    clear H
    have H := H1
    clear H1
    obtain rfl := Option.some.inj H
    go_wp2
    go_ret
    exact ⟨ew_, bwx_⟩
   ·replace c11 := Bool.eq_false_iff.mpr c11
    subst c11
    have H1 : ((qbh.f kj1 a0_1).bind fun t181 => (if t181 = true then ((qbh.f kj1 a0_6).bind fun t182 => (qy.j1 kj1 (!t182) a0_0 a0_1 a0_2 a0_3 a0_4 a0_5 a0_6 a0_7 l0_8)) else (qy.j1 kj1 true a0_0 a0_1 a0_2 a0_3 a0_4 a0_5 a0_6 a0_7 l0_8))) = some r := by rw [if_neg (show ¬ (false = true) by decide)] at H; exact H
    clear H
    have H := H1
    clear H1
    have HC12 := qd.mk H
    clear H
    go_upto_region 3 with (fail)
    go_cut [22] (fun v22 wc => ∃ (kq : Nat) (x22_11 : Bool), v22 = .bool x22_11 ∧ qd (qy.j1 kq x22_11 a0_0 a0_1 a0_2 a0_3 a0_4 a0_5 a0_6 a0_7 l0_8 = some r) ∧ qd (kq ≤ kj1) ∧ qd (wc.heap[gb180]? = some (.cells #[.int .i64 a0_0, .string a0_1, .int .i64 a0_2, .int .i64 a0_3, .int .i64 a0_4, .string a0_5, .string a0_6, .int .i64 a0_7, (.slice A0_8 l0_8.length c0_8)] 29 (0, 0))) ∧ qd (Below w.heap.size w wc))
    case first =>
     have H := HC12.out
     clear HC12
     replace H := Option.bind_eq_some_iff.mp H
     obtain ⟨t181, A130, H⟩ := H
     try dsimp only at H
     have A13 := qd.mk A130
     clear A130
     by_cases c14 : t181 = true
     rotate_left
     ·replace c14 := Bool.eq_false_iff.mpr c14
      subst c14
      have H1 : (qy.j1 kj1 true a0_0 a0_1 a0_2 a0_3 a0_4 a0_5 a0_6 a0_7 l0_8) = some r := by rw [if_neg (show ¬ (false = true) by decide)] at H; exact H
      clear H
      have H := H1
      clear H1
      have H' := qd.mk H
      clear H
      obtain ⟨cz17_0, cz17_1, cz17_2, cz17_3, cz17_4, cz17_5, cz17_6, cz17_7, cz17_8⟩ := bc9_ (w := wc) BK180.out
      obtain ⟨fz17_0, fz17_1, fz17_2, fz17_3, fz17_4, fz17_5, fz17_6, fz17_7, fz17_8⟩ := bf9_ BK180.out
      go_wp2_with (first | ((with_reducible refine qbf (f := 113) rfl ?_); refine qcp (some 25) rfl rfl Tryd.func113 (by kernel_rfl) rfl #[.string a0_1] rfl ml_ ?_; (with_reducible refine (qbh.calls kj1 a0_1 false _ A13.out).mono ?_); rintro e w' ⟨rfl, ⟨nd, rfl⟩⟩; refine ⟨_, rfl, ?_⟩))
      go_meet
      case rel => exact ⟨_, (true), sm_, H', ⟨by have := HJ1.out; first | omega | exact Nat.le_refl _⟩, ⟨by (with_reducible repeat (first | refine qp ?_ _ | refine qz ?_ | refine qm ?_ _)); exact BK180.out⟩, ⟨bwx_⟩⟩
     subst c14
     have H1 : ((qbh.f kj1 a0_6).bind fun t182 => (qy.j1 kj1 (!t182) a0_0 a0_1 a0_2 a0_3 a0_4 a0_5 a0_6 a0_7 l0_8)) = some r := by rw [if_pos rfl] at H; exact H
     clear H
     have H := H1
     clear H1
     replace H := Option.bind_eq_some_iff.mp H
     obtain ⟨t182, A150, H⟩ := H
     replace H : (qy.j1 kj1 (!t182) a0_0 a0_1 a0_2 a0_3 a0_4 a0_5 a0_6 a0_7 l0_8) = some r := H
     have A15 := qd.mk A150
     clear A150
     have H' := qd.mk H
     clear H
     obtain ⟨cz16_0, cz16_1, cz16_2, cz16_3, cz16_4, cz16_5, cz16_6, cz16_7, cz16_8⟩ := bc9_ (w := wc) BK180.out
     obtain ⟨fz16_0, fz16_1, fz16_2, fz16_3, fz16_4, fz16_5, fz16_6, fz16_7, fz16_8⟩ := bf9_ BK180.out
     go_wp2_with (first | ((with_reducible refine qbf (f := 113) rfl ?_); refine qcp (some 25) rfl rfl Tryd.func113 (by kernel_rfl) rfl #[.string a0_1] rfl ml_ ?_; (with_reducible refine (qbh.calls kj1 a0_1 true _ A13.out).mono ?_); rintro e w' ⟨rfl, ⟨nd, rfl⟩⟩; refine ⟨_, rfl, ?_⟩) | (go_at_call 113; (with_reducible refine (qbh.calls kj1 a0_6 t182 _ A15.out).mono ?_); rintro e w' ⟨rfl, ⟨nd, rfl⟩⟩))
     go_meet
     case rel => exact ⟨_, (!t182), sm_, H', ⟨by have := HJ1.out; first | omega | exact Nat.le_refl _⟩, ⟨by (with_reducible repeat (first | refine qp ?_ _ | refine qz ?_ | refine qm ?_ _)); exact BK180.out⟩, ⟨bwx_⟩⟩
    case rest =>
     clear HC12
     try clear c1
     try clear p2
     try clear c4
     try clear c4b0
     try clear c6
     try clear c6b0
     try clear c8
     try clear c8b0
     try clear c10
     try clear c11
     try clear c14
     try clear cz10_0 cz10_1 cz10_2 cz10_3 cz10_4 cz10_5 cz10_6 cz10_7 cz10_8
     try clear cz16_0 cz16_1 cz16_2 cz16_3 cz16_4 cz16_5 cz16_6 cz16_7 cz16_8
     try clear cz17_0 cz17_1 cz17_2 cz17_3 cz17_4 cz17_5 cz17_6 cz17_7 cz17_8
     try clear cz5_0 cz5_1 cz5_2 cz5_3 cz5_4 cz5_5 cz5_6 cz5_7 cz5_8
     try clear cz7_0 cz7_1 cz7_2 cz7_3 cz7_4 cz7_5 cz7_6 cz7_7 cz7_8
     try clear cz9_0 cz9_1 cz9_2 cz9_3 cz9_4 cz9_5 cz9_6 cz9_7 cz9_8
     try clear fz10_0 fz10_1 fz10_2 fz10_3 fz10_4 fz10_5 fz10_6 fz10_7 fz10_8
     try clear fz16_0 fz16_1 fz16_2 fz16_3 fz16_4 fz16_5 fz16_6 fz16_7 fz16_8
     try clear fz17_0 fz17_1 fz17_2 fz17_3 fz17_4 fz17_5 fz17_6 fz17_7 fz17_8
     try clear fz5_0 fz5_1 fz5_2 fz5_3 fz5_4 fz5_5 fz5_6 fz5_7 fz5_8
     try clear fz7_0 fz7_1 fz7_2 fz7_3 fz7_4 fz7_5 fz7_6 fz7_7 fz7_8
     try clear fz9_0 fz9_1 fz9_2 fz9_3 fz9_4 fz9_5 fz9_6 fz9_7 fz9_8
     try clear p2
     obtain ⟨kq, x22_11, rfl, HA, HJ11, BK180, HB⟩ := hcut
     cases kq with
     | zero => exact absurd HA.out (by simp [qy.j1])
     | succ kj11 =>
      have H := HA.out
      clear HA
      simp only [qy.j1] at H
      by_cases c18 : x22_11 = true
      ·subst c18
       have H1 : (some 7) = some r := by rw [if_pos rfl] at H; exact H
       clear H
       have H := H1
       clear H1
       obtain rfl := Option.some.inj H
       go_wp2
       go_ret
       exact ⟨ew_, bwx_⟩
      ·replace c18 := Bool.eq_false_iff.mpr c18
       subst c18
       have H1 : ((qda.f a0_2).bind fun t183 => (if t183 = true then ((qda.f a0_3).bind fun t184 => (qy.j2 kj11 (!t184) a0_0 a0_1 a0_2 a0_3 a0_4 a0_5 a0_6 a0_7 l0_8)) else (qy.j2 kj11 true a0_0 a0_1 a0_2 a0_3 a0_4 a0_5 a0_6 a0_7 l0_8))) = some r := by rw [if_neg (show ¬ (false = true) by decide)] at H; exact H
       clear H
       have H := H1
       clear H1
       have HC19 := qd.mk H
       clear H
       go_upto_region 5 with (fail)
       go_cut [33] (fun v33 wc => ∃ (kq : Nat) (x33_18 : Bool), v33 = .bool x33_18 ∧ qd (qy.j2 kq x33_18 a0_0 a0_1 a0_2 a0_3 a0_4 a0_5 a0_6 a0_7 l0_8 = some r) ∧ qd (kq ≤ kj11) ∧ qd (wc.heap[gb180]? = some (.cells #[.int .i64 a0_0, .string a0_1, .int .i64 a0_2, .int .i64 a0_3, .int .i64 a0_4, .string a0_5, .string a0_6, .int .i64 a0_7, (.slice A0_8 l0_8.length c0_8)] 29 (0, 0))) ∧ qd (Below w.heap.size w wc))
       case first =>
        have H := HC19.out
        clear HC19
        replace H := Option.bind_eq_some_iff.mp H
        obtain ⟨t183, A200, H⟩ := H
        try dsimp only at H
        have A20 := qd.mk A200
        clear A200
        by_cases c21 : t183 = true
        rotate_left
        ·replace c21 := Bool.eq_false_iff.mpr c21
         subst c21
         have H1 : (qy.j2 kj11 true a0_0 a0_1 a0_2 a0_3 a0_4 a0_5 a0_6 a0_7 l0_8) = some r := by rw [if_neg (show ¬ (false = true) by decide)] at H; exact H
         clear H
         have H := H1
         clear H1
         have H' := qd.mk H
         clear H
         obtain ⟨cz24_0, cz24_1, cz24_2, cz24_3, cz24_4, cz24_5, cz24_6, cz24_7, cz24_8⟩ := bc9_ (w := wc) BK180.out
         obtain ⟨fz24_0, fz24_1, fz24_2, fz24_3, fz24_4, fz24_5, fz24_6, fz24_7, fz24_8⟩ := bf9_ BK180.out
         go_wp2_with (first | ((with_reducible refine qbf (f := 138) rfl ?_); refine qcp (some 36) rfl rfl Tryd.func138 (by kernel_rfl) rfl #[.int .i64 a0_2] rfl ml_ ?_; (with_reducible refine (qda.calls a0_2 false _ A20.out).mono ?_); rintro e w' ⟨rfl, ⟨nd, rfl⟩⟩; refine ⟨_, rfl, ?_⟩))
         go_meet
         case rel => exact ⟨_, (true), sm_, H', ⟨by have := HJ1.out; have := HJ11.out; first | omega | exact Nat.le_refl _⟩, ⟨by (with_reducible repeat (first | refine qp ?_ _ | refine qz ?_ | refine qm ?_ _)); exact BK180.out⟩, ⟨bwx_⟩⟩
        subst c21
        have H1 : ((qda.f a0_3).bind fun t184 => (qy.j2 kj11 (!t184) a0_0 a0_1 a0_2 a0_3 a0_4 a0_5 a0_6 a0_7 l0_8)) = some r := by rw [if_pos rfl] at H; exact H
        clear H
        have H := H1
        clear H1
        replace H := Option.bind_eq_some_iff.mp H
        obtain ⟨t184, A220, H⟩ := H
        try dsimp only at H
        have A22 := qd.mk A220
        clear A220
        have H' := qd.mk H
        clear H
        obtain ⟨cz23_0, cz23_1, cz23_2, cz23_3, cz23_4, cz23_5, cz23_6, cz23_7, cz23_8⟩ := bc9_ (w := wc) BK180.out
        obtain ⟨fz23_0, fz23_1, fz23_2, fz23_3, fz23_4, fz23_5, fz23_6, fz23_7, fz23_8⟩ := bf9_ BK180.out
        go_wp2_with (first | ((with_reducible refine qbf (f := 138) rfl ?_); refine qcp (some 36) rfl rfl Tryd.func138 (by kernel_rfl) rfl #[.int .i64 a0_2] rfl ml_ ?_; (with_reducible refine (qda.calls a0_2 true _ A20.out).mono ?_); rintro e w' ⟨rfl, ⟨nd, rfl⟩⟩; refine ⟨_, rfl, ?_⟩) | (go_at_call 138; (with_reducible refine (qda.calls a0_3 t184 _ A22.out).mono ?_); rintro e w' ⟨rfl, ⟨nd, rfl⟩⟩))
        go_meet
        case rel => exact ⟨_, (!t184), sm_, H', ⟨by have := HJ1.out; have := HJ11.out; first | omega | exact Nat.le_refl _⟩, ⟨by (with_reducible repeat (first | refine qp ?_ _ | refine qz ?_ | refine qm ?_ _)); exact BK180.out⟩, ⟨bwx_⟩⟩
       case rest =>
        clear HC19
        try clear c1
        try clear c2
        try clear p2
        try clear c4
        try clear c4b0
        try clear c6
        try clear c6b0
        try clear c8
        try clear c8b0
        try clear c10
        try clear c11
        try clear c13
        try clear c14
        try clear c18
        try clear c21
        try clear cz10_0 cz10_1 cz10_2 cz10_3 cz10_4 cz10_5 cz10_6 cz10_7 cz10_8
        try clear cz16_0 cz16_1 cz16_2 cz16_3 cz16_4 cz16_5 cz16_6 cz16_7 cz16_8
        try clear cz17_0 cz17_1 cz17_2 cz17_3 cz17_4 cz17_5 cz17_6 cz17_7 cz17_8
        try clear cz23_0 cz23_1 cz23_2 cz23_3 cz23_4 cz23_5 cz23_6 cz23_7 cz23_8
        try clear cz24_0 cz24_1 cz24_2 cz24_3 cz24_4 cz24_5 cz24_6 cz24_7 cz24_8
        try clear cz5_0 cz5_1 cz5_2 cz5_3 cz5_4 cz5_5 cz5_6 cz5_7 cz5_8
        try clear cz7_0 cz7_1 cz7_2 cz7_3 cz7_4 cz7_5 cz7_6 cz7_7 cz7_8
        try clear cz9_0 cz9_1 cz9_2 cz9_3 cz9_4 cz9_5 cz9_6 cz9_7 cz9_8
        try clear fz10_0 fz10_1 fz10_2 fz10_3 fz10_4 fz10_5 fz10_6 fz10_7 fz10_8
        try clear fz16_0 fz16_1 fz16_2 fz16_3 fz16_4 fz16_5 fz16_6 fz16_7 fz16_8
        try clear fz17_0 fz17_1 fz17_2 fz17_3 fz17_4 fz17_5 fz17_6 fz17_7 fz17_8
        try clear fz23_0 fz23_1 fz23_2 fz23_3 fz23_4 fz23_5 fz23_6 fz23_7 fz23_8
        try clear fz24_0 fz24_1 fz24_2 fz24_3 fz24_4 fz24_5 fz24_6 fz24_7 fz24_8
        try clear fz5_0 fz5_1 fz5_2 fz5_3 fz5_4 fz5_5 fz5_6 fz5_7 fz5_8
        try clear fz7_0 fz7_1 fz7_2 fz7_3 fz7_4 fz7_5 fz7_6 fz7_7 fz7_8
        try clear fz9_0 fz9_1 fz9_2 fz9_3 fz9_4 fz9_5 fz9_6 fz9_7 fz9_8
        try clear p2
        obtain ⟨kq, x33_18, rfl, HA, HJ18, BK180, HB⟩ := hcut
        cases kq with
        | zero => exact absurd HA.out (by simp [qy.j2])
        | succ kj18 =>
         have H := HA.out
         clear HA
         simp only [qy.j2] at H
         by_cases c25 : x33_18 = true
         ·subst c25
          have H1 : (some 11) = some r := by rw [if_pos rfl] at H; exact H
          clear H
          have H := H1
          clear H1
          obtain rfl := Option.some.inj H
          go_wp2
          go_ret
          exact ⟨ew_, bwx_⟩
         ·replace c25 := Bool.eq_false_iff.mpr c25
          subst c25
          have H1 : (if a0_4 < 1 then (qy.j3 kj18 true a0_0 a0_1 a0_2 a0_3 a0_4 a0_5 a0_6 a0_7 l0_8) else (qy.j3 kj18 (decide (a0_4 > 7)) a0_0 a0_1 a0_2 a0_3 a0_4 a0_5 a0_6 a0_7 l0_8)) = some r := by rw [if_neg (show ¬ (false = true) by decide)] at H; exact H
          clear H
          have H := H1
          clear H1
          have HC26 := qd.mk H
          clear H
          go_upto_region 7 with (fail)
          go_cut [44] (fun v44 wc => ∃ (kq : Nat) (x44_25 : Bool), v44 = .bool x44_25 ∧ qd (qy.j3 kq x44_25 a0_0 a0_1 a0_2 a0_3 a0_4 a0_5 a0_6 a0_7 l0_8 = some r) ∧ qd (kq ≤ kj18) ∧ qd (wc.heap[gb180]? = some (.cells #[.int .i64 a0_0, .string a0_1, .int .i64 a0_2, .int .i64 a0_3, .int .i64 a0_4, .string a0_5, .string a0_6, .int .i64 a0_7, (.slice A0_8 l0_8.length c0_8)] 29 (0, 0))) ∧ qd (Below w.heap.size w wc))
          case first =>
           have H := HC26.out
           clear HC26
           by_cases c27 : a0_4 < 1
           ·rw [if_pos c27] at H
            have c27b0 : decide (a0_4 < 1) = true := decide_eq_true c27
            clear c27
            (first | rw [c27b0] | (simp only [qeh, qen]; rw [c27b0]) | skip)
            have H' := qd.mk H
            clear H
            obtain ⟨cz28_0, cz28_1, cz28_2, cz28_3, cz28_4, cz28_5, cz28_6, cz28_7, cz28_8⟩ := bc9_ (w := wc) BK180.out
            obtain ⟨fz28_0, fz28_1, fz28_2, fz28_3, fz28_4, fz28_5, fz28_6, fz28_7, fz28_8⟩ := bf9_ BK180.out
            go_wp2
            go_meet
            case rel => exact ⟨_, (true), sm_, H', ⟨by have := HJ1.out; have := HJ11.out; have := HJ18.out; first | omega | exact Nat.le_refl _⟩, ⟨by (with_reducible repeat (first | refine qp ?_ _ | refine qz ?_ | refine qm ?_ _)); exact BK180.out⟩, ⟨bwx_⟩⟩
           rw [if_neg c27] at H
           have c27b0 : decide (a0_4 < 1) = false := decide_eq_false c27
           clear c27
           (first | rw [c27b0] | (simp only [qeh, qen]; rw [c27b0]) | skip)
           have H' := qd.mk H
           clear H
           obtain ⟨cz29_0, cz29_1, cz29_2, cz29_3, cz29_4, cz29_5, cz29_6, cz29_7, cz29_8⟩ := bc9_ (w := wc) BK180.out
           obtain ⟨fz29_0, fz29_1, fz29_2, fz29_3, fz29_4, fz29_5, fz29_6, fz29_7, fz29_8⟩ := bf9_ BK180.out
           go_wp2
           go_meet
           case rel => exact ⟨_, (decide (a0_4 > 7)), sm_, H', ⟨by have := HJ1.out; have := HJ11.out; have := HJ18.out; first | omega | exact Nat.le_refl _⟩, ⟨by (with_reducible repeat (first | refine qp ?_ _ | refine qz ?_ | refine qm ?_ _)); exact BK180.out⟩, ⟨bwx_⟩⟩
          case rest =>
           clear HC26
           try clear c1
           try clear c2
           try clear p2
           try clear c4
           try clear c4b0
           try clear c6
           try clear c6b0
           try clear c8
           try clear c8b0
           try clear c10
           try clear c11
           try clear c13
           try clear c14
           try clear c18
           try clear c21
           try clear c25
           try clear c27
           try clear c27b0
           try clear cz10_0 cz10_1 cz10_2 cz10_3 cz10_4 cz10_5 cz10_6 cz10_7 cz10_8
           try clear cz16_0 cz16_1 cz16_2 cz16_3 cz16_4 cz16_5 cz16_6 cz16_7 cz16_8
           try clear cz17_0 cz17_1 cz17_2 cz17_3 cz17_4 cz17_5 cz17_6 cz17_7 cz17_8
           try clear cz23_0 cz23_1 cz23_2 cz23_3 cz23_4 cz23_5 cz23_6 cz23_7 cz23_8
           try clear cz24_0 cz24_1 cz24_2 cz24_3 cz24_4 cz24_5 cz24_6 cz24_7 cz24_8
           try clear cz28_0 cz28_1 cz28_2 cz28_3 cz28_4 cz28_5 cz28_6 cz28_7 cz28_8
           try clear cz29_0 cz29_1 cz29_2 cz29_3 cz29_4 cz29_5 cz29_6 cz29_7 cz29_8
           try clear cz5_0 cz5_1 cz5_2 cz5_3 cz5_4 cz5_5 cz5_6 cz5_7 cz5_8
           try clear cz7_0 cz7_1 cz7_2 cz7_3 cz7_4 cz7_5 cz7_6 cz7_7 cz7_8
           try clear cz9_0 cz9_1 cz9_2 cz9_3 cz9_4 cz9_5 cz9_6 cz9_7 cz9_8
           try clear fz10_0 fz10_1 fz10_2 fz10_3 fz10_4 fz10_5 fz10_6 fz10_7 fz10_8
           try clear fz16_0 fz16_1 fz16_2 fz16_3 fz16_4 fz16_5 fz16_6 fz16_7 fz16_8
           try clear fz17_0 fz17_1 fz17_2 fz17_3 fz17_4 fz17_5 fz17_6 fz17_7 fz17_8
           try clear fz23_0 fz23_1 fz23_2 fz23_3 fz23_4 fz23_5 fz23_6 fz23_7 fz23_8
           try clear fz24_0 fz24_1 fz24_2 fz24_3 fz24_4 fz24_5 fz24_6 fz24_7 fz24_8
           try clear fz28_0 fz28_1 fz28_2 fz28_3 fz28_4 fz28_5 fz28_6 fz28_7 fz28_8
           try clear fz29_0 fz29_1 fz29_2 fz29_3 fz29_4 fz29_5 fz29_6 fz29_7 fz29_8
           try clear fz5_0 fz5_1 fz5_2 fz5_3 fz5_4 fz5_5 fz5_6 fz5_7 fz5_8
           try clear fz7_0 fz7_1 fz7_2 fz7_3 fz7_4 fz7_5 fz7_6 fz7_7 fz7_8
           try clear fz9_0 fz9_1 fz9_2 fz9_3 fz9_4 fz9_5 fz9_6 fz9_7 fz9_8
           try clear p2
           obtain ⟨kq, x44_25, rfl, HA, HJ25, BK180, HB⟩ := hcut
           cases kq with
           | zero => exact absurd HA.out (by simp [qy.j3])
           | succ kj25 =>
            have H := HA.out
            clear HA
            simp only [qy.j3] at H
            by_cases c30 : x44_25 = true
            ·subst c30
             have H1 : (some 10) = some r := by rw [if_pos rfl] at H; exact H
             clear H
             have H := H1
             clear H1
             obtain rfl := Option.some.inj H
             go_wp2
             go_ret
             exact ⟨ew_, bwx_⟩
            ·replace c30 := Bool.eq_false_iff.mpr c30
             subst c30
             have H1 : ((qbz.f kj25 a0_5).bind fun t185 => (if t185 = true then (if (l0_8.length : Int) < 2 then (some 2) else (if (l0_8.length : Int) > 100 then (some 9) else (some 0))) else (some 5))) = some r := by rw [if_neg (show ¬ (false = true) by decide)] at H; exact H
             clear H
             have H := H1
             clear H1
             replace H := Option.bind_eq_some_iff.mp H
             obtain ⟨t185, A310, H⟩ := H
             try dsimp only at H
             have A31 := qd.mk A310
             clear A310
             by_cases c32 : t185 = true
             ·subst c32
              have H1 : (if (l0_8.length : Int) < 2 then (some 2) else (if (l0_8.length : Int) > 100 then (some 9) else (some 0))) = some r := by rw [if_pos rfl] at H; exact H
              clear H
              have H := H1
              clear H1
              by_cases c33 : (l0_8.length : Int) < 2
              ·rw [if_pos c33] at H
               have c33b0 : decide ((l0_8.length : Int) < 2) = true := decide_eq_true c33
               have c33b1 : decide (l0_8.length < 2) = true := decide_eq_true (by omega)
               clear c33
               obtain rfl := Option.some.inj H
               obtain ⟨cz34_0, cz34_1, cz34_2, cz34_3, cz34_4, cz34_5, cz34_6, cz34_7, cz34_8⟩ := bc9_ (w := wc) BK180.out
               obtain ⟨fz34_0, fz34_1, fz34_2, fz34_3, fz34_4, fz34_5, fz34_6, fz34_7, fz34_8⟩ := bf9_ BK180.out
               go_wp2_with (first | ((with_reducible refine qbf (f := 139) rfl ?_); refine qcp (some 56) rfl rfl Tryd.func139 (by kernel_rfl) rfl #[.string a0_5] rfl ml_ ?_; (with_reducible refine (qbz.calls kj25 a0_5 true _ A31.out).mono ?_); rintro e w' ⟨rfl, ⟨nd, rfl⟩⟩; refine ⟨_, rfl, ?_⟩))
               go_ret
               exact ⟨ew_, bwx_⟩
              rw [if_neg c33] at H
              have c33b0 : decide ((l0_8.length : Int) < 2) = false := decide_eq_false c33
              have c33b1 : decide (l0_8.length < 2) = false := decide_eq_false (by omega)
              clear c33
              by_cases c35 : (l0_8.length : Int) > 100
              ·rw [if_pos c35] at H
               have c35b0 : decide (100 < (l0_8.length : Int)) = true := decide_eq_true c35
               have c35b1 : decide (100 < l0_8.length) = true := decide_eq_true (by omega)
               clear c35
               obtain rfl := Option.some.inj H
               obtain ⟨cz36_0, cz36_1, cz36_2, cz36_3, cz36_4, cz36_5, cz36_6, cz36_7, cz36_8⟩ := bc9_ (w := wc) BK180.out
               obtain ⟨fz36_0, fz36_1, fz36_2, fz36_3, fz36_4, fz36_5, fz36_6, fz36_7, fz36_8⟩ := bf9_ BK180.out
               go_wp2_with (first | ((with_reducible refine qbf (f := 139) rfl ?_); refine qcp (some 56) rfl rfl Tryd.func139 (by kernel_rfl) rfl #[.string a0_5] rfl ml_ ?_; (with_reducible refine (qbz.calls kj25 a0_5 true _ A31.out).mono ?_); rintro e w' ⟨rfl, ⟨nd, rfl⟩⟩; refine ⟨_, rfl, ?_⟩))
               go_ret
               exact ⟨ew_, bwx_⟩
              rw [if_neg c35] at H
              have c35b0 : decide (100 < (l0_8.length : Int)) = false := decide_eq_false c35
              have c35b1 : decide (100 < l0_8.length) = false := decide_eq_false (by omega)
              clear c35
              obtain rfl := Option.some.inj H
              obtain ⟨cz37_0, cz37_1, cz37_2, cz37_3, cz37_4, cz37_5, cz37_6, cz37_7, cz37_8⟩ := bc9_ (w := wc) BK180.out
              obtain ⟨fz37_0, fz37_1, fz37_2, fz37_3, fz37_4, fz37_5, fz37_6, fz37_7, fz37_8⟩ := bf9_ BK180.out
              go_wp2_with (first | ((with_reducible refine qbf (f := 139) rfl ?_); refine qcp (some 56) rfl rfl Tryd.func139 (by kernel_rfl) rfl #[.string a0_5] rfl ml_ ?_; (with_reducible refine (qbz.calls kj25 a0_5 true _ A31.out).mono ?_); rintro e w' ⟨rfl, ⟨nd, rfl⟩⟩; refine ⟨_, rfl, ?_⟩))
              go_ret
              exact ⟨ew_, bwx_⟩
             ·replace c32 := Bool.eq_false_iff.mpr c32
              subst c32
              have H1 : (some 5) = some r := by rw [if_neg (show ¬ (false = true) by decide)] at H; exact H
              clear H
              have H := H1
              clear H1
              obtain rfl := Option.some.inj H
              obtain ⟨cz38_0, cz38_1, cz38_2, cz38_3, cz38_4, cz38_5, cz38_6, cz38_7, cz38_8⟩ := bc9_ (w := wc) BK180.out
              obtain ⟨fz38_0, fz38_1, fz38_2, fz38_3, fz38_4, fz38_5, fz38_6, fz38_7, fz38_8⟩ := bf9_ BK180.out
              go_wp2_with (first | ((with_reducible refine qbf (f := 139) rfl ?_); refine qcp (some 56) rfl rfl Tryd.func139 (by kernel_rfl) rfl #[.string a0_5] rfl ml_ ?_; (with_reducible refine (qbz.calls kj25 a0_5 false _ A31.out).mono ?_); rintro e w' ⟨rfl, ⟨nd, rfl⟩⟩; refine ⟨_, rfl, ?_⟩))
              go_ret
              exact ⟨ew_, bwx_⟩
def qcg.l0 : Nat → ByteArray → Int → Option (Bool)
 | 0, _, _ => none
 | k + 1, x0, x3 => if x3 < 3 then (if 0 ≤ x3 then (if x3 < (x0.size : Int) then (if (bt x0 x3) < 65 then (some false) else (if (bt x0 x3) > 90 then (some false) else (qcg.l0 k x0 (wrap64 (x3 + 1))))) else (none)) else (none)) else (some true)
def qcg.f (k : Nat) (a0 : ByteArray) : Option (Bool) := if (a0.size : Int) = 3 then (qcg.l0 k a0 0) else (some false)
set_option maxRecDepth 100000 in
theorem qcg.calls (k : Nat) (a0 : ByteArray) (r : Bool) (w : World) (h : qcg.f k a0 = some r) :
  Calls Tryd.prog 114 #[.string a0] w fun e w' => e = .returned (.bool r) ∧ qcs w w' := by
 have H : (if (a0.size : Int) = 3 then (qcg.l0 k a0 0) else (some false)) = some r := h
 clear h
 by_cases c2 : (a0.size : Int) = 3
 ·rw [if_pos c2] at H
  have c2b0 : ((a0.size : Int) == 3) = true := beq_iff_eq.mpr c2
  have c2b1 : ((a0.size : Int) != 3) = false := bne_eq_false_iff_eq.mpr c2
  clear c2
  have H' := qd.mk H
  clear H
  go_enter Tryd.func114, Tryd.ntmps114
  go_wp2
  go_loopg [3] k (fun kq v3 w' => ∃ (x3_1 : Int), v3 = .int .i64 x3_1 ∧ qd (qcg.l0 kq a0 x3_1 = some r) ∧ qd (kq ≤ k) ∧ qcs w w')
  case atStart => exact ⟨(0), sm_, H', ⟨Nat.le_refl _⟩, dn_⟩
  clear H'
  try clear c1
  try clear c2
  try clear c2b0
  try clear c2b1
  try clear p2
  obtain ⟨x3_1, rfl, HA, HK1, ⟨m1, rfl⟩⟩ := hrel
  cases gk with
  | zero => exact absurd HA.out (by simp [qcg.l0])
  | succ k1 =>
   have H := HA.out
   clear HA
   simp only [qcg.l0] at H
   by_cases c3 : x3_1 < 3
   rotate_left
   ·rw [if_neg c3] at H
    have c3b0 : decide (x3_1 < 3) = false := decide_eq_false c3
    clear c3
    obtain rfl := Option.some.inj H
    go_wp2
    go_ret
    exact ⟨sm_, dn_⟩
   rw [if_pos c3] at H
   have c3b0 : decide (x3_1 < 3) = true := decide_eq_true c3
   clear c3
   by_cases c4 : 0 ≤ x3_1
   rotate_left
   ·rw [if_neg c4] at H
    exact absurd H (by simp)
   rw [if_pos c4] at H
   have c4b0 : decide (0 ≤ x3_1) = true := decide_eq_true c4
   clear c4
   by_cases c5 : x3_1 < (a0.size : Int)
   rotate_left
   ·rw [if_neg c5] at H
    exact absurd H (by simp)
   rw [if_pos c5] at H
   have c5b0 : decide (x3_1 < (a0.size : Int)) = true := decide_eq_true c5
   clear c5
   by_cases c7 : (bt a0 x3_1) < 65
   ·rw [if_pos c7] at H
    have c7b0 : decide ((bt a0 x3_1) < 65) = true := decide_eq_true c7
    clear c7
    obtain rfl := Option.some.inj H
    have p6 : 0 ≤ (x3_1 : Int) := odt_
    have q6 : x3_1 < (a0.size : Int) := odt_
    have hx6 := qiy a0 x3_1
    replace p6 := eq_true p6
    replace q6 := eq_true q6
    go_wp2
    go_ret
    exact ⟨sm_, dn_⟩
   rw [if_neg c7] at H
   have c7b0 : decide ((bt a0 x3_1) < 65) = false := decide_eq_false c7
   clear c7
   by_cases c9 : (bt a0 x3_1) > 90
   ·rw [if_pos c9] at H
    have c9b0 : decide (90 < (bt a0 x3_1)) = true := decide_eq_true c9
    clear c9
    obtain rfl := Option.some.inj H
    have p6 : 0 ≤ (x3_1 : Int) := odt_
    have q6 : x3_1 < (a0.size : Int) := odt_
    have hx6 := qiy a0 x3_1
    replace p6 := eq_true p6
    replace q6 := eq_true q6
    have p8 : 0 ≤ (x3_1 : Int) := odt_
    have q8 : x3_1 < (a0.size : Int) := odt_
    have hx8 := qiy a0 x3_1
    replace p8 := eq_true p8
    replace q8 := eq_true q8
    go_wp2
    go_ret
    exact ⟨sm_, dn_⟩
   rw [if_neg c9] at H
   have c9b0 : decide (90 < (bt a0 x3_1)) = false := decide_eq_false c9
   clear c9
   have H' := qd.mk H
   clear H
   have p6 : 0 ≤ (x3_1 : Int) := odt_
   have q6 : x3_1 < (a0.size : Int) := odt_
   have hx6 := qiy a0 x3_1
   replace p6 := eq_true p6
   replace q6 := eq_true q6
   have p8 : 0 ≤ (x3_1 : Int) := odt_
   have q8 : x3_1 < (a0.size : Int) := odt_
   have hx8 := qiy a0 x3_1
   replace p8 := eq_true p8
   replace q8 := eq_true q8
   go_wp2
   go_roundg k1
   case measure => have := HK1.out; omega
   case rel => exact ⟨(wrap64 (x3_1 + 1)), sm_, H', ⟨by have := HK1.out; omega⟩, dn_⟩
 ·rw [if_neg c2] at H
  have c2b0 : ((a0.size : Int) == 3) = false := beq_eq_false_iff_ne.mpr c2
  have c2b1 : ((a0.size : Int) != 3) = true := bne_iff_ne.mpr c2
  obtain rfl := Option.some.inj H
  go_enter Tryd.func114, Tryd.ntmps114
  go_wp2
  go_ret
  exact ⟨sm_, dn_⟩
def qci.f (k : Nat) (a0 : ByteArray) : Option (Bool) := if a0.toList = ([] : List UInt8) then (some true) else ((qbh.f k a0).bind fun t186 => (some t186))
set_option maxRecDepth 100000 in
theorem qci.calls (k : Nat) (a0 : ByteArray) (r : Bool) (w : World) (h : qci.f k a0 = some r) :
  Calls Tryd.prog 140 #[.string a0] w fun e w' => e = .returned (.bool r) ∧ qcs w w' := by
 have H : (if a0.toList = ([] : List UInt8) then (some true) else ((qbh.f k a0).bind fun t186 => (some t186))) = some r := h
 clear h
 by_cases c2 : a0.toList = ([] : List UInt8)
 ·rw [if_pos c2] at H
  have c2b0 : (a0.toList == ([] : List UInt8)) = true := beq_iff_eq.mpr c2
  have c2b1 : (a0.toList != ([] : List UInt8)) = false := bne_eq_false_iff_eq.mpr c2
  clear c2
  obtain rfl := Option.some.inj H
  go_enter Tryd.func140, Tryd.ntmps140
  go_wp2
  go_ret
  exact ⟨sm_, dn_⟩
 ·rw [if_neg c2] at H
  have c2b0 : (a0.toList == ([] : List UInt8)) = false := beq_eq_false_iff_ne.mpr c2
  have c2b1 : (a0.toList != ([] : List UInt8)) = true := bne_iff_ne.mpr c2
  replace H := Option.bind_eq_some_iff.mp H
  obtain ⟨t186, A30, H⟩ := H
  replace H : (some t186) = some r := H
  have A3 := qd.mk A30
  clear A30
  obtain rfl := Option.some.inj H
  go_enter Tryd.func140, Tryd.ntmps140
  go_wp2_with (first | (go_at_call 113; (with_reducible refine (qbh.calls k a0 t186 _ A3.out).mono ?_); rintro e w' ⟨rfl, ⟨nd, rfl⟩⟩))
  go_ret
  exact ⟨sm_, dn_⟩
def qco.f (a0 : Int) (a1 : Int) : Option (Bool) := if a0 ≥ (wrap64 (-a1)) then (some (decide (a0 ≤ a1))) else (some false)
set_option maxRecDepth 100000 in
theorem qco.calls (a0 : Int) (a1 : Int) (r : Bool) (w : World) (h : qco.f a0 a1 = some r) :
  Calls Tryd.prog 141 #[.int .i64 a0, .int .i64 a1] w fun e w' => e = .returned (.bool r) ∧ qcs w w' := by
 have H : (if a0 ≥ (wrap64 (-a1)) then (some (decide (a0 ≤ a1))) else (some false)) = some r := h
 clear h
 by_cases c3 : a0 ≥ (wrap64 (-a1))
 ·rw [if_pos c3] at H
  have c3b0 : decide ((wrap64 (-a1)) ≤ a0) = true := decide_eq_true c3
  clear c3
  obtain rfl := Option.some.inj H
  go_enter Tryd.func141, Tryd.ntmps141
  go_wp2
  go_ret
  exact ⟨sm_, dn_⟩
 ·rw [if_neg c3] at H
  have c3b0 : decide ((wrap64 (-a1)) ≤ a0) = false := decide_eq_false c3
  clear c3
  obtain rfl := Option.some.inj H
  go_enter Tryd.func141, Tryd.ntmps141
  go_wp2
  go_ret
  exact ⟨sm_, dn_⟩
def qdi.f (k : Nat) (a0_0 : ByteArray) (a0_1 : ByteArray) : Option (Bool) := (qbh.f k a0_0).bind fun t188 => (if t188 = true then ((qbh.f k a0_1).bind fun t189 => (some t189)) else (some false))
set_option maxRecDepth 100000 in
theorem qdi.calls (k : Nat) (a0_0 : ByteArray) (a0_1 : ByteArray) (r : Bool) (w : World) (h : qdi.f k a0_0 a0_1 = some r) :
  Calls Tryd.prog 173 #[.agg #[.string a0_0, .string a0_1]] w fun e w' => e = .returned (.bool r) ∧ Below w.heap.size w w' := by
 have hu213 := Tryd.underlying213
 have HB := qd.mk (Below.refl w.heap.size w)
 have H : ((qbh.f k a0_0).bind fun t188 => (if t188 = true then ((qbh.f k a0_1).bind fun t189 => (some t189)) else (some false))) = some r := h
 clear h
 replace H := Option.bind_eq_some_iff.mp H
 obtain ⟨t188, A20, H⟩ := H
 try dsimp only at H
 have A2 := qd.mk A20
 clear A20
 by_cases c3 : t188 = true
 ·subst c3
  have H1 : ((qbh.f k a0_1).bind fun t189 => (some t189)) = some r := by rw [if_pos rfl] at H; exact H
  clear H
  have H := H1
  clear H1
  replace H := Option.bind_eq_some_iff.mp H
  obtain ⟨t189, A40, H⟩ := H
  replace H : (some t189) = some r := H
  have A4 := qd.mk A40
  clear A40
  obtain rfl := Option.some.inj H
  go_enter Tryd.func173, Tryd.ntmps173
  go_wp2_with (first | ((with_reducible refine qbx (N := 1) rfl ?_); refine qbu ?hg (N := 1) ?hd (cs := #[.string a0_0, .string a0_1]) (t := 213) ?hr ?_; (case hd => rfl); (case hg => rfl); (case hr => first | (go_simp; done) | (go_simp; rfl)); intro gb187 hg w5 hbox hb; have n0_ := qd.mk (qw (bw_) hb); have n1_ := qd.mk (hbox); have n2_ := qd.mk (gw_ (w := w) hg); have n3_ := qd.mk (gw_ (w := w) hg); clear HB; have HB := n0_; have BK187 := n1_; have GW187 := n2_; have GE187 := n3_; clear n0_ n1_ n2_ n3_; clear hb hbox hg; obtain ⟨cz6_0, cz6_1⟩ := bc2_ (w := w5) BK187.out; obtain ⟨fz6_0, fz6_1⟩ := bf2_ BK187.out) | ((with_reducible refine qbf (f := 113) rfl ?_); refine qcp (some 5) rfl rfl Tryd.func113 (by kernel_rfl) rfl #[.string a0_0] rfl ml_ ?_; (with_reducible refine (qbh.calls k a0_0 true _ A2.out).mono ?_); rintro e w' ⟨rfl, ⟨nd, rfl⟩⟩; refine ⟨_, rfl, ?_⟩) | (go_at_call 113; (with_reducible refine (qbh.calls k a0_1 t189 _ A4.out).mono ?_); rintro e w' ⟨rfl, ⟨nd, rfl⟩⟩))
  go_ret
  exact ⟨ew_, bwx_⟩
 ·replace c3 := Bool.eq_false_iff.mpr c3
  subst c3
  have H1 : (some false) = some r := by rw [if_neg (show ¬ (false = true) by decide)] at H; exact H
  clear H
  have H := H1
  clear H1
  obtain rfl := Option.some.inj H
  go_enter Tryd.func173, Tryd.ntmps173
  go_wp2_with (first | ((with_reducible refine qbx (N := 1) rfl ?_); refine qbu ?hg (N := 1) ?hd (cs := #[.string a0_0, .string a0_1]) (t := 213) ?hr ?_; (case hd => rfl); (case hg => rfl); (case hr => first | (go_simp; done) | (go_simp; rfl)); intro gb187 hg w7 hbox hb; have n0_ := qd.mk (qw (bw_) hb); have n1_ := qd.mk (hbox); have n2_ := qd.mk (gw_ (w := w) hg); have n3_ := qd.mk (gw_ (w := w) hg); clear HB; have HB := n0_; have BK187 := n1_; have GW187 := n2_; have GE187 := n3_; clear n0_ n1_ n2_ n3_; clear hb hbox hg; obtain ⟨cz8_0, cz8_1⟩ := bc2_ (w := w7) BK187.out; obtain ⟨fz8_0, fz8_1⟩ := bf2_ BK187.out) | ((with_reducible refine qbf (f := 113) rfl ?_); refine qcp (some 5) rfl rfl Tryd.func113 (by kernel_rfl) rfl #[.string a0_0] rfl ml_ ?_; (with_reducible refine (qbh.calls k a0_0 false _ A2.out).mono ?_); rintro e w' ⟨rfl, ⟨nd, rfl⟩⟩; refine ⟨_, rfl, ?_⟩))
  go_ret
  exact ⟨ew_, bwx_⟩
end
end Go.Proofs.YtppcjoaghlecmaaDoor.P
