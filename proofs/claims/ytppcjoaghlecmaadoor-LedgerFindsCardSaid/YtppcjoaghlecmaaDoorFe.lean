/- Texts of mine and of the print, joined: HandPuz, HandPst, HandSel, HandSld, HandItr, HandFlt, HandSht, HandFnd, SpecC, HandLve, Px22, Px23, SpecLv, HandLiv, Px5, SpecLa, HandPosts, SpecLs, Px4, Px25, SpecSm, HandShs, HandLedgerNil, HandLedgerDivides, SpecEt, Px53, SpecP, HandLedgerCells. -/
import Derived.Test.YtppcjoaghlecmaaDoorFd
import Derived.RangeFuncBox
import Derived.RangeFuncNested
import Derived.RangeFuncLeaves
import Derived.Shelf.Abstract
import Derived.WalkKit
import Derived.OwnWalkIn
import Derived.TacticsInMore
import Derived.LoopNIn
import Derived.LoopIn
import Derived.Maps.AppendAt
import Derived.Test.YtppcjoaghlecmaaDoorFc
import Derived.Test.YtppcjoaghlecmaaDoorFa
import Derived.Test.YtppcjoaghlecmaaDoorFb
import Derived.Deep.RegionHeld3
namespace Go.Proofs.YtppcjoaghlecmaaDoor.P
open Go.RowKit Go.Sort Go.Proofs.YtppcjoaghlecmaaDoorW.PrintWords Go.Proofs.YtppcjoaghlecmaaDoorW.PrintLast Go.Proofs.YtppcjoaghlecmaaDoorW.PrintMore Go.Maps Go.ChangeShapes Go.WideShapes Go.WideMaps
set_option linter.unusedVariables false
set_option linter.unusedSimpArgs false
set_option maxHeartbeats 4000000 in
set_option maxRecDepth 100000 in
theorem post_put0 {base p m : Nat} {E : List S29} (x : S29) (A : Option Addr) (c : Nat) (w : World) (hL : LedE w base p m E) (hC : Kd.C k109 w A x.f8.length x.f8) (hc : x.f8.length ≤ c) (hT : Tab w) (hf : FitE x) (hchk : (chkE x).2 = 0) (hlen : E.length ≤ 100000) (ho : x.f0 = (E.length : Int) + 1) (h00 : E.length = 0) :
  Calls Tryd.prog 20 #[.pointer (some ⟨p, 0, none⟩), enV x A c] w fun e w' => e = .returned (.int .i64 0) ∧ LedE w' base p m (E ++ [x]) ∧ But (fun k => k = m) w w' := by
 obtain ⟨k, hk⟩ := (chk_ev x hf).rounds
 rw [(chk_two hchk).2.2.2] at hk
 have HC := Aside0.mk hC
 have HT := Aside0.mk hT
 have HK := Aside0.mk hk
 have HLC := Aside0.mk hc
 have HB1 := Aside0.mk (below_alloc (Below.refl w.heap.size w) (.cells #[.int .i64 x.f0, .string x.f1, .int .i64 x.f2, .int .i64 x.f3, .int .i64 x.f4, .string x.f5, .string x.f6, .int .i64 x.f7, .slice A x.f8.length c] 29))
 have HBX := Aside0.mk (blk_new w (.cells #[.int .i64 x.f0, .string x.f1, .int .i64 x.f2, .int .i64 x.f3, .int .i64 x.f4, .string x.f5, .string x.f6, .int .i64 x.f7, .slice A x.f8.length c] 29))
 obtain ⟨L, hLed, hE, hraw⟩ := hL
 have hLn : E.length = L.length := by rw [← hE, List.length_map]
 rw [hLn] at ho hlen h00
 have HLED := Aside0.mk (hLed.below HB1.out)
 have HHL := Aside0.mk hlen
 have HI := Aside0.mk (show i64ok (L.length : Int) from by unfold i64ok; omega)
 have hl100 := (head_len (chk_two hchk).1).2.1
 have HO := Aside0.mk ho
 have H00 := Aside0.mk h00
 have HD := Aside0.mk hE
 have HRW := Aside0.mk hraw
 have d1 : (x.f0 != (L.length : Int) + 1) = false := by simpa using ho
 have d2 : decide ((0 : Int) < (L.length : Int)) = false := decide_eq_false (by omega)
 have d2' : decide (0 < L.length) = false := decide_eq_false (by omega)
 have d4 : decide ((4000 : Int) ≤ (L.length : Int)) = false := decide_eq_false (by omega)
 have d4' : decide (4000 ≤ L.length) = false := decide_eq_false (by omega)
 clear hC hT hk hc hLed hE hraw hchk hLn hlen ho h00
 have hp := (blk_cell HLED.out.blk 0).trans rfl
 have hw1 : wrap64 ((L.length : Int) + 1) = (L.length : Int) + 1 := by have := HHL.out; unfold wrap64; omega
 go_enter Tryd.func20, Tryd.ntmps20
 go_upto_region 7 with (first | (go_at_call 47; refine (entry_Check.calls k x.f0 x.f1 x.f2 x.f3 x.f4 x.f5 x.f6 x.f7 A c x.f8 (-1) 0 _ (Kd.C_below HC.out HB1.out) HLC.out HK.out (HT.out.below HB1.out)).mono ?_; rintro e w2 ⟨rfl, hb⟩; have HLED2 := Aside0.mk (HLED.out.below hb); have hln := HLED2.out.len 3; have hp2 : w2.cell? ⟨p, 0, none⟩ = some (.map (some m)) := (blk_cell HLED2.out.blk 0).trans rfl; have hb2 := blk_below HBX.out hb; have HBX2 := Aside0.mk hb2; have a0 : w2.cell? ⟨w.heap.size, 0, none⟩ = some (.int .i64 x.f0) := (blk_cell hb2 0).trans rfl; have a2 : w2.cell? ⟨w.heap.size, 2, none⟩ = some (.int .i64 x.f2) := (blk_cell hb2 2).trans rfl; clear hb2 hp))
 have HB2 := Aside0.mk (below_then HB1.out HB1.out.size hb)
 clear hb
 go_big_quiet (fail)
 go_upto_region 11 with (fail)
 refine with_world (P := fun x => Code.wp _ _ _ _ x) _ ?_
 intro w3 hw3
 have HLED3 := Aside0.mk (show Led w3 base p m L from hw3 ▸ HLED2.out.below (pw_below_drewN (Below.refl _ w2) nq))
 have HB3 := Aside0.mk (show Below w.heap.size w w3 from hw3 ▸ pw_below_drewN HB2.out nq)
 obtain ⟨g0, hg0⟩ : ∃ g0, w.heap.size = g0 := ⟨_, rfl⟩
 have HG0 := Aside0.mk hg0
 have hbx3 : w3.heap[g0]? = some (.cells #[.int .i64 x.f0, .string x.f1, .int .i64 x.f2, .int .i64 x.f3, .int .i64 x.f4, .string x.f5, .string x.f6, .int .i64 x.f7, .slice A x.f8.length c] 29 (0, 0)) := by
  rw [hw3, ← hg0]
  exact blk_drewN HBX2.out nq
 try rw [hg0]
 have HBX3 := Aside0.mk hbx3
 have HQS := Aside0.mk (cells_kept hbx3)
 obtain ⟨r0, r1, r2, r3, r4, r5, r6, r7, r8⟩ := HQS.out w3 (Below.refl _ _)
 have HRC := Aside0.mk (raw_kept (w := w) x A c hl100 HC.out HLC.out HB3.out)
 clear hw3 hg0 hbx3 a0 a2 hp2
 obtain ⟨q0, q1, q2, q3, q4, q5, q6, q7, q8⟩ := HQS.out ((w3.alloc (.cells #[.int .i64 0, .string ⟨#[]⟩, .int .i64 0, .int .i64 0, .int .i64 0, .string ⟨#[]⟩, .string ⟨#[]⟩, .int .i64 0, .slice none 0 0, .slice none 0 0] 118)).drew) (below_drew (below_alloc (Below.refl _ _) _))
 go_cut [8, 48, 49, 50, 51] (fun v8 _ _ _ _ wc => ∃ (g : Nat) (A5 : Option Addr) (c5 : Nat), v8 = .pointer (some ⟨g, 0, none⟩) ∧ Aside0 (Kp118 w3 wc g #[.int .i64 x.f0, .string x.f1, .int .i64 x.f2, .int .i64 x.f3, .int .i64 x.f4, .string x.f5, .string x.f6, .int .i64 x.f7, .slice A x.f8.length c, .slice A5 (rawL x).length c5] (.slice A5 (rawL x).length c5) (rawL x)))
 case first =>
  go_region_law (first | (go_simp; go_at_call 51; (with_reducible refine (HRC.out _ ?hbl).mono ?_); (case hbl => repeat (first | (with_reducible exact Below.refl _ _) | apply below_drew | refine below_alloc ?_ _)); rintro e_ w5 ⟨v5, rfl, hr5, hb5, hb6⟩; obtain ⟨A5, c5, rfl⟩ := Kd.R_slice hr5; have HR5 := Aside0.mk hr5; have HB5 := Aside0.mk hb5; have HB6 := Aside0.mk hb6; obtain ⟨s0, s1, s2, s3, s4, s5, s6, s7, s8⟩ := HQS.out w5 hb5; obtain ⟨t0, t1, t2, t3, t4, t5, t6, t7, t8⟩ := HQS.out (w5.alloc (.cells #[.int .i64 0, .string ⟨#[]⟩, .int .i64 0, .int .i64 0, .int .i64 0, .string ⟨#[]⟩, .string ⟨#[]⟩, .int .i64 0, .slice none 0 0, .slice none 0 0] 118)) (below_alloc hb5 _); try (have hbz : w5.heap[w3.heap.size]? = some (.cells #[.int .i64 0, .string ⟨#[]⟩, .int .i64 0, .int .i64 0, .int .i64 0, .string ⟨#[]⟩, .string ⟨#[]⟩, .int .i64 0, .slice none 0 0, .slice none 0 0] 118 (0, 0)) := blk_below (by first | exact blk_new _ _ | exact blk_drew (blk_new _ _)) hb6; have z0 : w5.cell? ⟨w3.heap.size, 0, none⟩ = some (.int .i64 0) := (blk_cell hbz 0).trans rfl; have f0 := blk_frozen hbz 0; have z1 : w5.cell? ⟨w3.heap.size, 1, none⟩ = some (.string ⟨#[]⟩) := (blk_cell hbz 1).trans rfl; have f1 := blk_frozen hbz 1; have z2 : w5.cell? ⟨w3.heap.size, 2, none⟩ = some (.int .i64 0) := (blk_cell hbz 2).trans rfl; have f2 := blk_frozen hbz 2; have z3 : w5.cell? ⟨w3.heap.size, 3, none⟩ = some (.int .i64 0) := (blk_cell hbz 3).trans rfl; have f3 := blk_frozen hbz 3; have z4 : w5.cell? ⟨w3.heap.size, 4, none⟩ = some (.int .i64 0) := (blk_cell hbz 4).trans rfl; have f4 := blk_frozen hbz 4; have z5 : w5.cell? ⟨w3.heap.size, 5, none⟩ = some (.string ⟨#[]⟩) := (blk_cell hbz 5).trans rfl; have f5 := blk_frozen hbz 5; have z6 : w5.cell? ⟨w3.heap.size, 6, none⟩ = some (.string ⟨#[]⟩) := (blk_cell hbz 6).trans rfl; have f6 := blk_frozen hbz 6; have z7 : w5.cell? ⟨w3.heap.size, 7, none⟩ = some (.int .i64 0) := (blk_cell hbz 7).trans rfl; have f7 := blk_frozen hbz 7; have z8 : w5.cell? ⟨w3.heap.size, 8, none⟩ = some (.slice none 0 0) := (blk_cell hbz 8).trans rfl; have f8 := blk_frozen hbz 8; have z9 : w5.cell? ⟨w3.heap.size, 9, none⟩ = some (.slice none 0 0) := (blk_cell hbz 9).trans rfl; have f9 := blk_frozen hbz 9; have HBZ := Aside0.mk hbz; clear hbz); clear hr5 hb5 hb6))
  all_goals
   go_wp2_with fail
   go_meet
  all_goals
   case rel =>
    first
    | (with_reducible exact ⟨w3.heap.size, A5, c5, rfl, ⟨kp_ten HBZ.out HR5.out HB5.out (Nat.le_refl _)⟩⟩)
    | exact ⟨w5.heap.size, A5, c5, rfl, ⟨kp_new HR5.out HB5.out⟩⟩
 case rest =>
  obtain ⟨g, A5, c5, rfl, HKP⟩ := hcut
  have c8 : wc.cell? ⟨g, 8, none⟩ = some (.slice A x.f8.length c) := (blk_cell HKP.out.blk 8).trans rfl
  have f8 := blk_frozen HKP.out.blk 8
  go_upto_region 13 with (fail)
  refine with_world (P := fun x => Code.wp _ _ _ _ x) _ ?_
  intro w6 hw6
  have HK6 := Aside0.mk (show Kp118 w3 w6 g #[.int .i64 x.f0, .string x.f1, .int .i64 x.f2, .int .i64 x.f3, .int .i64 x.f4, .string x.f5, .string x.f6, .int .i64 x.f7, .slice none 0 0, .slice A5 (rawL x).length c5] (.slice A5 (rawL x).length c5) (rawL x) from hw6 ▸ HKP.out.set 8 _ rfl)
  clear hw6 HKP c8 f8
  have hrow : Kd.R k112 112 w6 base (fun _ => True) (.slice A5 (rawL x).length c5) (rawL x) := Kd.R_lower HK6.out.row (by have := HLED3.out.ltm; have := HLED3.out.lowm; omega)
  have HLED6 := Aside0.mk ((HLED3.out.below HK6.out.bel).below (below_drew (Below.refl _ w6)))
  obtain ⟨w7, hup, hLed7, hg7⟩ := HLED6.out.put (c := ⟨x, rawL x, .slice A5 (rawL x).length c5⟩) (by have := HHL.out; omega) (Kd.R_below hrow (below_drew (Below.refl _ w6)))
  have HL7 := Aside0.mk hLed7
  have HG7 := Aside0.mk hg7
  clear hLed7 hg7 hrow
  unfold pstV at hup
  rw [← HO.out] at hup
  obtain ⟨q0, q1, q2, q3, q4, q5, q6, q7, q8⟩ := HQS.out w6 HK6.out.bel
  clear q1 q2 q3 q4 q5 q6 q7 q8
  have e0 : w6.cell? ⟨g, 0, none⟩ = some (.int .i64 x.f0) := (blk_cell HK6.out.blk 0).trans rfl
  have e1 : w6.cell? ⟨g, 1, none⟩ = some (.string x.f1) := (blk_cell HK6.out.blk 1).trans rfl
  have e2 : w6.cell? ⟨g, 2, none⟩ = some (.int .i64 x.f2) := (blk_cell HK6.out.blk 2).trans rfl
  have e3 : w6.cell? ⟨g, 3, none⟩ = some (.int .i64 x.f3) := (blk_cell HK6.out.blk 3).trans rfl
  have e4 : w6.cell? ⟨g, 4, none⟩ = some (.int .i64 x.f4) := (blk_cell HK6.out.blk 4).trans rfl
  have e5 : w6.cell? ⟨g, 5, none⟩ = some (.string x.f5) := (blk_cell HK6.out.blk 5).trans rfl
  have e6 : w6.cell? ⟨g, 6, none⟩ = some (.string x.f6) := (blk_cell HK6.out.blk 6).trans rfl
  have e7 : w6.cell? ⟨g, 7, none⟩ = some (.int .i64 x.f7) := (blk_cell HK6.out.blk 7).trans rfl
  have e8 : w6.cell? ⟨g, 8, none⟩ = some (.slice none 0 0) := (blk_cell HK6.out.blk 8).trans rfl
  have e9 : w6.cell? ⟨g, 9, none⟩ = some (.slice A5 (rawL x).length c5) := (blk_cell HK6.out.blk 9).trans rfl
  have ep : w6.cell? ⟨p, 0, none⟩ = some (.map (some m)) := (blk_cell HLED6.out.blk 0).trans rfl
  go_still_tail 7, (by kernel_rfl)
  change wpList _ _ _ _ _ w6.drew
  go_wp2
  go_ret
  refine ⟨rfl, ⟨_, HL7.out, ?_, fun d' hd' => ?_⟩, ?_⟩
  ·rw [List.map_append, HD.out]
   rfl
  ·rcases List.mem_append.1 hd' with hd' | hd'
   ·exact HRW.out d' hd'
   ·rw [List.mem_singleton] at hd'
    subst hd'
    rfl
  ·have hb6 : Below w.heap.size w w6.drew := below_drew (below_then HB3.out HB3.out.size HK6.out.bel)
   exact (But.of_below hb6 _).trans (But.of_grown HG7.out (fun k hk => (Option.some.inj hk).symm))
def PostR (w : World) (base p m : Nat) (E : List S29) (x : S29) (e : Ending) (w' : World) : Prop := e = .returned (.int .i64 (postC E x)) ∧ LedE w' base p m (postE E x) ∧ But (fun k => k = m) w w'
theorem PostR.same {w w' : World} {base p m : Nat} {E : List S29} {x : S29} {e : Ending} {r : Int} (hL : LedE w base p m E) (hr : postC E x = r) (h0 : r ≠ 0) (he : e = .returned (.int .i64 r)) (hb : Below w.heap.size w w') : PostR w base p m E x e w' := by
 refine ⟨by rw [hr]; exact he, ?_, But.of_below hb _⟩
 unfold postE
 rw [if_neg (by rw [hr]; exact h0)]
 exact hL.below hb
theorem PostR.more {w w' : World} {base p m : Nat} {E : List S29} {x : S29} {e : Ending} (hr : postC E x = 0) (he : e = .returned (.int .i64 0)) (hL : LedE w' base p m (E ++ [x])) (hb : But (fun k => k = m) w w') : PostR w base p m E x e w' := by
 refine ⟨by rw [hr]; exact he, ?_, hb⟩
 unfold postE
 rw [if_pos hr]
 exact hL
theorem post_calls {base p m : Nat} {E : List S29} (x : S29) (A : Option Addr) (c : Nat) (w : World) (hL : LedE w base p m E) (hC : Kd.C k109 w A x.f8.length x.f8) (hc : x.f8.length ≤ c) (hT : Tab w) (hf : FitE x) (hlen : E.length ≤ 100000) :
  Calls Tryd.prog 20 #[.pointer (some ⟨p, 0, none⟩), enV x A c] w fun e w' => PostR w base p m E x e w' := by
 by_cases h1 : (chkE x).2 = 0
 rotate_left
 ·have hpc : postC E x = (chkE x).2 := by
   unfold postC
   rw [if_pos h1]
  refine (post_bad x A c w hC hc hT hf h1).mono ?_
  rintro e w' ⟨he, hb⟩
  exact PostR.same hL hpc h1 he hb
 by_cases h2 : x.f0 = (E.length : Int) + 1
 rotate_left
 ·have hpc : postC E x = 17 := by
   unfold postC
   rw [if_neg (by omega), if_pos (.inl h2)]
  refine (post_order x A c w hL hC hc hT hf h1 hlen h2).mono ?_
  rintro e w' ⟨he, hb⟩
  exact PostR.same hL hpc (by decide) he hb
 cases hy : E.getLast? with
 | none =>
  have h00 : E.length = 0 := by
   rw [List.getLast?_eq_none_iff] at hy
   rw [hy]; rfl
  have hpc : postC E x = 0 := by
   unfold postC ahead
   rw [hy, if_neg (by omega), if_neg (by simp [h2]), if_neg (by omega)]
  refine (post_put0 x A c w hL hC hc hT hf h1 hlen h2 h00).mono ?_
  rintro e w' ⟨he, h3, h4⟩
  exact PostR.more hpc he h3 h4
 | some y =>
  by_cases h3 : x.f2 < y.f2
  ·have hpc : postC E x = 17 := by
    unfold postC ahead
    rw [hy, if_neg (by omega), if_pos (.inr (by simp [h3]))]
   refine (post_order2 x y A c w hL hC hc hT hf h1 hlen h2 hy h3).mono ?_
   rintro e w' ⟨he, hb⟩
   exact PostR.same hL hpc (by decide) he hb
  by_cases h4 : 4000 ≤ E.length
  ·have hpc : postC E x = 9 := by
    unfold postC ahead
    rw [hy, if_neg (by omega), if_neg (by simp [h2, h3]), if_pos h4]
   refine (post_many x y A c w hL hC hc hT hf h1 hlen h2 hy h3 h4).mono ?_
   rintro e w' ⟨he, hb⟩
   exact PostR.same hL hpc (by decide) he hb
  have hpc : postC E x = 0 := by
   unfold postC ahead
   rw [hy, if_neg (by omega), if_neg (by simp [h2, h3]), if_neg (by omega)]
  refine (post_putn x y A c w hL hC hc hT hf h1 hlen h2 hy h3 h4).mono ?_
  rintro e w' ⟨he, h5, h6⟩
  exact PostR.more hpc he h5 h6
end Go.Proofs.YtppcjoaghlecmaaDoor.P
namespace Go.Proofs.YtppcjoaghlecmaaDoor.P
open Go.RowKit Go.Sort Go.Proofs.YtppcjoaghlecmaaDoorW.PrintWords Go.Proofs.YtppcjoaghlecmaaDoorW.PrintLast Go.Proofs.YtppcjoaghlecmaaDoorW.PrintMore Go.Maps Go.ChangeShapes Go.WideShapes Go.WideMaps Go.Shelf
set_option linter.unusedVariables false
set_option linter.unusedSimpArgs false
structure Qy where
 e : ByteArray
 a : Int
 z : Int
 b : Int
def qyV (q : Qy) : Value := .agg #[.string q.e, .int .i64 q.a, .int .i64 q.z, .int .i64 q.b]
def qyO (q : Qy) : Obj := .cells #[.string q.e, .int .i64 q.a, .int .i64 q.z, .int .i64 q.b] 24 (0, 0)
def selB (q : Qy) (x : S29) : Bool := (q.e.toList == [] || q.e.toList == x.f1.toList) && decide (q.a ≤ x.f3) && decide (x.f3 ≤ q.z) && decide (x.f2 ≤ q.b)
attribute [local go_sem] Oper.semAt_some
set_option maxHeartbeats 1000000 in
theorem selector_in (F : Fence) (n : Nat) (h56 : F.fn 56) (hro : F.round = none) (q : Qy) (w : World) :
  CallsIn F n Tryd.prog 56 #[qyV q] w fun e w' => e = .returned (.func (.func 106) #[] #[.pointer (some ⟨w.heap.size, 0, none⟩)]) ∧ w' = w.alloc (qyO q) := by
 unfold qyV qyO
 refine callsIn_of_wp Tryd.func56 rfl h56 ?_ hro
 simp only [Tryd.ntmps56, List.size_toArray, List.length_cons, List.length_nil, Nat.reduceAdd, Nat.reduceSub, Array.replicate_succ, Array.replicate_zero, List.push_toArray, List.append_toArray, List.nil_append, List.cons_append]
 gi_wp2
 go_ret
 exact ⟨rfl, rfl⟩
set_option maxHeartbeats 4000000 in
theorem selects_in (F : Fence) (n : Nat) (h106 : F.fn 106) (hro : F.round = none) (q : Qy) (x : S29) (l : Value) (g : Nat) (w : World) (hg : w.heap[g]? = some (qyO q)) :
  CallsIn F n Tryd.prog 106 #[hdV x l, .pointer (some ⟨g, 0, none⟩)] w fun e w' => e = .returned (.bool (selB q x)) ∧ w' = w.alloc (.cells #[.int .i64 x.f0, .string x.f1, .int .i64 x.f2, .int .i64 x.f3, .int .i64 x.f4, .string x.f5, .string x.f6, .int .i64 x.f7, l] 29) := by
 unfold hdV
 unfold qyO at hg
 have hg1 := blk_alloc hg (.cells #[.int .i64 x.f0, .string x.f1, .int .i64 x.f2, .int .i64 x.f3, .int .i64 x.f4, .string x.f5, .string x.f6, .int .i64 x.f7, l] 29)
 have c0 := (blk_cell hg1 0).trans rfl
 have c1 := (blk_cell hg1 1).trans rfl
 have c2 := (blk_cell hg1 2).trans rfl
 have c3 := (blk_cell hg1 3).trans rfl
 clear hg hg1
 unfold selB
 refine callsIn_of_wp Tryd.func106 rfl h106 ?_ hro
 simp only [Tryd.ntmps106, List.size_toArray, List.length_cons, List.length_nil, Nat.reduceAdd, Nat.reduceSub, Array.replicate_succ, Array.replicate_zero, List.push_toArray, List.append_toArray, List.nil_append, List.cons_append]
 cases e1 : (q.e.toList == []) <;> cases e2 : (q.e.toList == x.f1.toList) <;> cases e3 : decide (q.a ≤ x.f3) <;> cases e4 : decide (x.f3 ≤ q.z) <;> cases e5 : decide (x.f2 ≤ q.b)
 all_goals (gi_wp2)
 all_goals (go_ret; exact ⟨rfl, rfl⟩)
theorem llen_in_nil (F : Fence) (n : Nat) (h23 : F.fn 23) (hro : F.round = none) (w : World) : CallsIn F n Tryd.prog 23 #[.pointer none] w fun e w' => e = .returned (.int .i64 0) ∧ w' = w := by
 refine callsIn_of_wp Tryd.func23 rfl h23 ?_ hro
 simp only [Tryd.ntmps23, List.size_toArray, List.length_cons, List.length_nil, Nat.reduceAdd, Nat.reduceSub, Array.replicate_succ, Array.replicate_zero, List.push_toArray, List.append_toArray, List.nil_append, List.cons_append]
 gi_wp2
 go_ret
 exact ⟨rfl, rfl⟩
theorem llen_in (F : Fence) (n : Nat) (h23 : F.fn 23) (hro : F.round = none) {w : World} {base p m : Nat} {L : List Pst} (h : Led w base p m L) : CallsIn F n Tryd.prog 23 #[.pointer (some ⟨p, 0, none⟩)] w fun e w' => e = .returned (.int .i64 L.length) ∧ w' = w := by
 have hl := h.len 3
 have hc := (blk_cell h.blk 0).trans rfl
 refine callsIn_of_wp Tryd.func23 rfl h23 ?_ hro
 simp only [Tryd.ntmps23, List.size_toArray, List.length_cons, List.length_nil, Nat.reduceAdd, Nat.reduceSub, Array.replicate_succ, Array.replicate_zero, List.push_toArray, List.append_toArray, List.nil_append, List.cons_append]
 gi_wp2
 go_ret
 exact ⟨rfl, rfl⟩
end Go.Proofs.YtppcjoaghlecmaaDoor.P
namespace Go.Proofs.YtppcjoaghlecmaaDoor.P
open Go.RowKit Go.Sort Go.Proofs.YtppcjoaghlecmaaDoorW.PrintWords Go.Proofs.YtppcjoaghlecmaaDoorW.PrintLast Go.Proofs.YtppcjoaghlecmaaDoorW.PrintMore Go.Maps Go.ChangeShapes Go.WideShapes Go.WideMaps Go.Shelf
set_option linter.unusedVariables false
set_option linter.unusedSimpArgs false
theorem run_store_fn (P : Program) (w : World) (a : Addr) (m : Mode) (f : Fn) (x y : Array Value) : (store a (.func f x y) m).run P w = stored P w a (.func f x y) m := run_store P w a _ m rfl
attribute [local go_sem] Oper.semAt_some run_store_fn
set_option maxHeartbeats 1000000 in
theorem selected_in (F : Fence) (n : Nat) (h50 : F.fn 50) (h56 : F.fn 56) (hro : F.round = none) (hn : 1 ≤ n) (v : Option Addr) (q : Qy) (w : World) :
  CallsIn F n Tryd.prog 50 #[.pointer v, qyV q] w fun e w' => e = .returned (.func (.func 97) #[] #[.pointer (some ⟨w.heap.size, 0, none⟩), .pointer (some ⟨w.heap.size + 3, 0, none⟩)]) ∧
   w'.heap[w.heap.size]? = some (.cells #[.pointer v] 30 (0, 0)) ∧ w'.heap[w.heap.size + 2]? = some (qyO q) ∧ w'.heap[w.heap.size + 3]? = some (.cells #[.func (.func 106) #[] #[.pointer (some ⟨w.heap.size + 2, 0, none⟩)]] 49 (0, 0)) ∧
   Below w.heap.size w w' ∧ w'.heap.size = w.heap.size + 4 := by
 have hs := selector_in F (n - 1) h56 hro q
 unfold qyV at hs ⊢
 refine callsIn_of_wp Tryd.func50 rfl h50 ?_ hro
 simp only [Tryd.ntmps50, List.size_toArray, List.length_cons, List.length_nil, Nat.reduceAdd, Nat.reduceSub, Array.replicate_succ, Array.replicate_zero, List.push_toArray, List.append_toArray, List.nil_append, List.cons_append]
 gi_wp2_with (gi_at_call 56; refine (hs _).mono ?_; rintro e w3 ⟨rfl, hw3⟩; have HK := Aside0.mk hw3; clear hw3)
 go_ret
 have hw3 := HK.out
 have hz : w3.heap.size = w.heap.size + 3 := by rw [hw3]; simp
 have b0 : w3.heap[w.heap.size]? = some (.cells #[.pointer v] 30 (0, 0)) := by
  rw [hw3]
  exact blk_alloc (blk_alloc (blk_new w (.cells #[.pointer v] 30)) _) _
 have b2 : w3.heap[w.heap.size + 2]? = some (qyO q) := by
  have e : (((w.alloc (.cells #[.pointer v] 30)).alloc (qyO q))).heap.size = w.heap.size + 2 := by simp
  rw [hw3, ← e]
  exact blk_new _ _
 have hB : Below w.heap.size w w3 := by
  rw [hw3]
  exact below_alloc (below_alloc (below_alloc (Below.refl _ _) _) _) _
 refine ⟨by simp [hz], ?_, ?_, ?_, ?_, ?_⟩
 ·exact blk_alloc b0 _
 ·exact blk_alloc b2 _
 ·rw [← hz]
  exact blk_new _ _
 ·exact below_alloc hB _
 ·rw [World.size_alloc, hz]
end Go.Proofs.YtppcjoaghlecmaaDoor.P
namespace Go.Proofs.YtppcjoaghlecmaaDoor.P
open Go.RowKit Go.Sort Go.Proofs.YtppcjoaghlecmaaDoorW.PrintWords Go.Proofs.YtppcjoaghlecmaaDoorW.PrintLast Go.Proofs.YtppcjoaghlecmaaDoorW.PrintMore Go.Maps Go.ChangeShapes Go.WideShapes Go.WideMaps Go.Shelf
set_option linter.unusedVariables false
set_option linter.unusedSimpArgs false
attribute [local go_sem] Oper.semAt_some run_store_fn
def LedO (w : World) (base : Nat) (g : Option Addr) (L : List Pst) : Prop := (g = none ∧ L = []) ∨ ∃ p m, g = some ⟨p, 0, none⟩ ∧ Led w base p m L
theorem LedO.below {w w' : World} {base : Nat} {g : Option Addr} {L : List Pst} (h : LedO w base g L) (hb : Below w.heap.size w w') : LedO w' base g L := by
 rcases h with h | ⟨p, m, e, h⟩
 ·exact .inl h
 ·exact .inr ⟨p, m, e, h.below hb⟩
theorem LedO.len {w : World} {base : Nat} {g : Option Addr} {L : List Pst} (h : LedO w base g L) (F : Fence) (n : Nat) (h23 : F.fn 23) (hro : F.round = none) : CallsIn F n Tryd.prog 23 #[.pointer g] w fun e w' => e = .returned (.int .i64 L.length) ∧ w' = w := by
 rcases h with ⟨rfl, rfl⟩ | ⟨p, m, rfl, h⟩
 ·exact llen_in_nil F n h23 hro w
 ·exact llen_in F n h23 hro h
def KpSel (n₀ Bg Bf Bq : Nat) (W W' : World) : Prop := Below n₀ W W' ∧ W'.heap[Bg]? = W.heap[Bg]? ∧ W'.heap[Bf]? = W.heap[Bf]? ∧ W'.heap[Bq]? = W.heap[Bq]?
theorem KpSel.refl (n₀ Bg Bf Bq : Nat) (W : World) : KpSel n₀ Bg Bf Bq W W := ⟨Below.refl _ _, rfl, rfl, rfl⟩
theorem KpSel.t {n₀ Bg Bf Bq : Nat} {A B C : World} (h : KpSel n₀ Bg Bf Bq A B) (k : KpSel n₀ Bg Bf Bq B C) : KpSel n₀ Bg Bf Bq A C := ⟨h.1.trans k.1, k.2.1.trans h.2.1, k.2.2.1.trans h.2.2.1, k.2.2.2.trans h.2.2.2⟩
def keepSel (q : Qy) (c : Pst) : Bool := selB q c.h
def pstO (c : Pst) : Obj := .cells #[.int .i64 c.h.f0, .string c.h.f1, .int .i64 c.h.f2, .int .i64 c.h.f3, .int .i64 c.h.f4, .string c.h.f5, .string c.h.f6, .int .i64 c.h.f7, .slice none 0 0, c.v] 118 (0, 0)
set_option maxRecDepth 100000 in
set_option maxHeartbeats 4000000 in
theorem sel_iter_in (F : Fence) (n : Nat) (h97 : F.fn 97) (h23 : F.fn 23) (h106 : F.fn 106) (hro : F.round = none) (hn : 2 ≤ n) (l Bg Bf Bq base : Nat) (q : Qy) (g : Option Addr) {α : Type} (val : α → Pst) (T : List α) (L : List Pst) (hT : T.map val = L) (hlen : L.length ≤ 1000000) (w : World) (hL : LedO w base g L) (J Jx : List α → World → Prop)
  (hY : ∀ pre x W, J pre W → pre.length < L.length → YieldAt F (n - 1) Tryd.prog l #[pstV (val x).h (val x).v] W fun e W' =>
   (e = .returned (.bool true) ∧ J (pre ++ [x]) W' ∧ KpSel w.heap.size Bg Bf Bq W W') ∨ (e = .returned (.bool false) ∧ Jx (pre ++ [x]) W'))
  (W : World) (hJ : AbidesFrom W.heap.size J) (hB : Below w.heap.size w W) (hlg : Bg < W.heap.size) (hlf : Bf < W.heap.size) (hlq : Bq < W.heap.size)
  (hBg : Boxed W Bg 30 (.pointer g)) (hBf : Boxed W Bf 49 (.func (.func 106) #[] #[.pointer (some ⟨Bq, 0, none⟩)])) (hBq : W.heap[Bq]? = some (qyO q)) (h0 : J [] W) :
  CallsIn F n Tryd.prog 97 #[.func (.yield l) #[] #[], .pointer (some ⟨Bg, 0, none⟩), .pointer (some ⟨Bf, 0, none⟩)] W fun e W' => (∃ v, e = .returned v) ∧
   ((∃ ys, ys = T.filter (fun x => keepSel q (val x)) ∧ J ys W') ∨ (∃ pre, True ∧ Jx pre W')) := by
 have h1 : 1 ≤ n := by omega
 have hTl : T.length = L.length := by rw [← hT, List.length_map]
 refine callsIn_of_wp Tryd.func97 rfl h97 ?_ hro
 simp only [Tryd.ntmps97, List.size_toArray, List.length_cons, List.length_nil, Nat.reduceAdd, Nat.reduceSub, Array.replicate_succ, Array.replicate_zero, List.push_toArray, List.append_toArray, List.nil_append, List.cons_append]
 gi_wp2
 gi_loopw [4] (fun i wr => ∃ k : Nat, k ≤ L.length ∧ i = .int .i64 ((k : Int) + 1) ∧ J ((T.take k).filter (fun x => keepSel q (val x))) wr ∧ AbidesFrom W.heap.size J ∧ KpSel w.heap.size Bg Bf Bq W wr)
  (fun i _ => L.length + 1 - (intOf i).toNat)
 case atStart => exact ⟨0, Nat.zero_le _, rfl, by simpa using h0, hJ, KpSel.refl _ _ _ _ _⟩
 case round =>
  obtain ⟨k, hk, rfl, hJs, hJA, hK⟩ := hrel
  have bG : Boxed wr Bg 30 (.pointer g) := hK.2.1.trans hBg
  have cG := bG.cell
  have hLw := hL.below (hB.trans hK.1)
  have hln := hLw.len F (n - 1) h23 hro
  by_cases hlt : k < L.length
  rotate_left
  ·obtain rfl : k = L.length := by omega
   have d1 : decide ((L.length : Int) + 1 ≤ (L.length : Int)) = false := decide_eq_false (by omega)
   gi_wp2_with (gi_at_call 23; refine hln.mono ?_; rintro e w' ⟨rfl, rfl⟩)
   go_end0
   exact ⟨⟨_, rfl⟩, .inl ⟨_, rfl, by rw [← hTl, List.take_length] at hJs; exact hJs⟩⟩
  obtain ⟨x0, hx0⟩ : ∃ x0, T[k]? = some x0 := ⟨_, List.getElem?_eq_getElem (by omega)⟩
  obtain ⟨c, hcx⟩ : ∃ c, val x0 = c := ⟨_, rfl⟩
  have hc : L[k]? = some c := by rw [← hT, List.getElem?_map, hx0, ← hcx]; rfl
  rcases hL with ⟨_, hnil⟩ | ⟨p, m, rfl, hled⟩
  ·rw [hnil] at hlt; exact absurd hlt (by simp)
  have hw := hled.below (hB.trans hK.1)
  obtain ⟨A, cp, hv⟩ := Kd.R_slice (hw.row c (List.mem_of_getElem? hc))
  have hlk := hw.look (j := (k : Int) + 1) (by unfold i64ok; omega)
  rw [valL_at hc, hv] at hlk
  unfold pstV at hlk
  have cP := (blk_cell hw.blk 0).trans rfl
  have d1 : decide ((k : Int) + 1 ≤ (L.length : Int)) = true := decide_eq_true (by omega)
  have d2 : decide (k + 1 ≤ L.length) = true := decide_eq_true (by omega)
  have d3 : decide (k < L.length) = true := decide_eq_true hlt
  have bF : Boxed wr Bf 49 (.func (.func 106) #[] #[.pointer (some ⟨Bq, 0, none⟩)]) := hK.2.2.1.trans hBf
  have bQ : wr.heap[Bq]? = some (qyO q) := hK.2.2.2.trans hBq
  have hpo : pstO c = .cells #[.int .i64 c.h.f0, .string c.h.f1, .int .i64 c.h.f2, .int .i64 c.h.f3, .int .i64 c.h.f4, .string c.h.f5, .string c.h.f6, .int .i64 c.h.f7, .slice none 0 0, .slice A c.C.length cp] 118 (0, 0) := by unfold pstO; rw [hv]
  obtain ⟨Wa, hWa⟩ : ∃ Wa, wr.alloc (.cells #[.int .i64 c.h.f0, .string c.h.f1, .int .i64 c.h.f2, .int .i64 c.h.f3, .int .i64 c.h.f4, .string c.h.f5, .string c.h.f6, .int .i64 c.h.f7, .slice none 0 0, .slice A c.C.length cp] 118) = Wa := ⟨_, rfl⟩
  have hg : wr.grownBy Wa none := by rw [← hWa]; exact World.grownBy_alloc wr _ none
  have bFa : Boxed Wa Bf 49 (.func (.func 106) #[] #[.pointer (some ⟨Bq, 0, none⟩)]) := by rw [← hWa]; exact bF.alloc _
  have bQa : Wa.heap[Bq]? = some (qyO q) := by rw [← hWa]; exact blk_alloc bQ _
  have bTa : Wa.heap[wr.heap.size]? = some (.cells #[.int .i64 c.h.f0, .string c.h.f1, .int .i64 c.h.f2, .int .i64 c.h.f3, .int .i64 c.h.f4, .string c.h.f5, .string c.h.f6, .int .i64 c.h.f7, .slice none 0 0, .slice A c.C.length cp] 118 (0, 0)) := by rw [← hWa]; exact World.alloc_heap_new wr _
  have cF := bFa.cell
  have hs := selects_in F (n - 1) h106 hro q c.h (.slice none 0 0) Bq Wa bQa
  unfold hdV at hs
  obtain ⟨Wb, hWb⟩ : ∃ Wb, Wa.alloc (.cells #[.int .i64 c.h.f0, .string c.h.f1, .int .i64 c.h.f2, .int .i64 c.h.f3, .int .i64 c.h.f4, .string c.h.f5, .string c.h.f6, .int .i64 c.h.f7, .slice none 0 0] 29) = Wb := ⟨_, rfl⟩
  rw [hWb] at hs
  have hgb : Wa.grownBy Wb none := by rw [← hWb]; exact World.grownBy_alloc Wa _ none
  have bTb : Wb.heap[wr.heap.size]? = some (.cells #[.int .i64 c.h.f0, .string c.h.f1, .int .i64 c.h.f2, .int .i64 c.h.f3, .int .i64 c.h.f4, .string c.h.f5, .string c.h.f6, .int .i64 c.h.f7, .slice none 0 0, .slice A c.C.length cp] 118 (0, 0)) := by rw [← hWb]; exact blk_alloc bTa _
  have a0 := (blk_cell bTa 0).trans rfl
  have a1 := (blk_cell bTa 1).trans rfl
  have a2 := (blk_cell bTa 2).trans rfl
  have a3 := (blk_cell bTa 3).trans rfl
  have a4 := (blk_cell bTa 4).trans rfl
  have a5 := (blk_cell bTa 5).trans rfl
  have a6 := (blk_cell bTa 6).trans rfl
  have a7 := (blk_cell bTa 7).trans rfl
  have a8 := (blk_cell bTa 8).trans rfl
  have b0 := (blk_cell bTb 0).trans rfl
  have b1 := (blk_cell bTb 1).trans rfl
  have b2 := (blk_cell bTb 2).trans rfl
  have b3 := (blk_cell bTb 3).trans rfl
  have b4 := (blk_cell bTb 4).trans rfl
  have b5 := (blk_cell bTb 5).trans rfl
  have b6 := (blk_cell bTb 6).trans rfl
  have b7 := (blk_cell bTb 7).trans rfl
  have b8 := (blk_cell bTb 8).trans rfl
  have b9 := (blk_cell bTb 9).trans rfl
  have hJb : J ((T.take k).filter (fun x => keepSel q (val x))) Wb := hJA _ _ _ none (hJA _ _ _ none hJs hg (fun r e => by cases e)) hgb (fun r e => by cases e)
  have hsz : wr.heap.size < Wa.heap.size := by rw [← hWa]; simp
  have hKb : KpSel w.heap.size Bg Bf Bq wr Wb :=
   ⟨((Below.refl w.heap.size wr).grown hg (by have := (hB.trans hK.1).size; omega) (fun k e => by cases e)).grown hgb (by have := (hB.trans hK.1).size; omega) (fun k e => by cases e),
    (hgb.block Bg (by have := bG.lt; omega) (by simp)).trans (hg.block Bg bG.lt (by simp)), (hgb.block Bf (by have := bF.lt; omega) (by simp)).trans (hg.block Bf bF.lt (by simp)), (hgb.block Bq (by have := blk_lt bQ; omega) (by simp)).trans (hg.block Bq (blk_lt bQ) (by simp))⟩
  have hlf : ((T.take k).filter (fun x => keepSel q (val x))).length < L.length := by
   have := List.length_filter_le (fun x => keepSel q (val x)) (T.take k)
   rw [List.length_take] at this
   omega
  have htk : T.take (k + 1) = T.take k ++ [x0] := by
   rw [List.take_add_one, hx0]; rfl
  cases hq : selB q c.h
  ·have hf : (T.take (k + 1)).filter (fun x => keepSel q (val x)) = (T.take k).filter (fun x => keepSel q (val x)) := by
    rw [htk, List.filter_append]; simp [keepSel, hcx, hq]
   rw [hq] at hs
   clear bTa bTb hgb hg bF bQ bFa bQa hw hpo
   gi_wp2_with (first | (gi_at_call 23; refine hln.mono ?_; rintro e w' ⟨rfl, rfl⟩) | (gi_at_call 106; refine hs.mono ?_; rintro e w' ⟨rfl, rfl⟩))
   refine ⟨fun f hf' => (by cases hf'), ?_⟩
   gi_wp2
   go_roundw
   case rel => exact ⟨k + 1, by omega, by simp, by rw [hf]; exact hJb, hJA, hK.t hKb⟩
   case measure => simp [intOf]; omega
  ·have hf : (T.take (k + 1)).filter (fun x => keepSel q (val x)) = (T.take k).filter (fun x => keepSel q (val x)) ++ [x0] := by
    rw [htk, List.filter_append]; simp [keepSel, hcx, hq]
   rw [hq] at hs
   obtain ⟨fn, tmps, assign, body, hy, hR⟩ := hY _ x0 _ hJb hlf
   rw [hcx] at hy
   unfold pstV at hy
   rw [hv] at hy
   clear bTa bTb hgb hg bF bQ bFa bQa hw hpo
   gi_wp2_with (first | (gi_at_call 23; refine hln.mono ?_; rintro e w' ⟨rfl, rfl⟩) | (gi_at_call 106; refine hs.mono ?_; rintro e w' ⟨rfl, rfl⟩))
   refine hR.mono ?_
   rintro e W3 (⟨rfl, hJ3, hk3⟩ | ⟨rfl, hJx3⟩)
   ·gi_wp2
    go_roundw
    case rel => exact ⟨k + 1, by omega, by simp, by rw [hf]; exact hJ3, hJA, (hK.t hKb).t hk3⟩
    case measure => simp [intOf]; omega
   ·gi_wp2
    refine bodyPost_ret (results_none rfl _ _ _) rfl ?_
    exact ⟨⟨_, rfl⟩, .inr ⟨_, trivial, hJx3⟩⟩
theorem sel_stops (F : Fence) (n : Nat) (h97 : F.fn 97) (h23 : F.fn 23) (h106 : F.fn 106) (hro : F.round = none) (hn : 2 ≤ n) (Bg Bf Bq base : Nat) (q : Qy) (g : Option Addr) {α : Type} (val : α → Pst) (T : List α) (L : List Pst) (hT : T.map val = L) (hlen : L.length ≤ 1000000) (w0 : World) (hL : LedO w0 base g L) (w : World) (hB : Below w0.heap.size w0 w)
  (hBg : Boxed w Bg 30 (.pointer g)) (hBf : Boxed w Bf 49 (.func (.func 106) #[] #[.pointer (some ⟨Bq, 0, none⟩)])) (hBq : w.heap[Bq]? = some (qyO q)) :
  SeqStopsK F n Tryd.prog 97 #[.pointer (some ⟨Bg, 0, none⟩), .pointer (some ⟨Bf, 0, none⟩)] (fun x : α => #[pstV (val x).h (val x).v]) (KpSel w0.heap.size Bg Bf Bq) (fun ys => ys = T.filter (fun x => keepSel q (val x))) (fun _ => True) L.length w := fun l J Jx W hW hJ _ hY h0 => by
 have hBg' : Boxed W Bg 30 (.pointer g) := (hW.block Bg hBg.lt).trans hBg
 have hBf' : Boxed W Bf 49 (.func (.func 106) #[] #[.pointer (some ⟨Bq, 0, none⟩)]) := (hW.block Bf hBf.lt).trans hBf
 have hBq' : W.heap[Bq]? = some (qyO q) := (hW.block Bq (blk_lt hBq)).trans hBq
 exact sel_iter_in F n h97 h23 h106 hro hn l Bg Bf Bq base q g val T L hT hlen w0 hL J Jx hY W hJ (hB.trans (hW.mono hB.size)) hBg'.lt hBf'.lt (blk_lt hBq') hBg' hBf' hBq' h0
end Go.Proofs.YtppcjoaghlecmaaDoor.P
namespace Go.Proofs.YtppcjoaghlecmaaDoor.P
open Go.RowKit Go.Sort Go.Proofs.YtppcjoaghlecmaaDoorW.PrintWords Go.Proofs.YtppcjoaghlecmaaDoorW.PrintLast Go.Proofs.YtppcjoaghlecmaaDoorW.PrintMore
set_option linter.unusedVariables false
set_option linter.unusedSimpArgs false
def cellC (x : S112) : List Value := [.string x.f0.f0, .string x.f0.f1, .string x.f0.f2, .string x.f0.f3, .string x.f0.f4, .int .i64 x.f1, .int .i64 x.f2]
def flatC : List S112 → List Value
 | [] => []
 | x :: r => cellC x ++ flatC r
theorem flatC_len (l : List S112) : (flatC l).length = l.length * 7 := by
 induction l with
 | nil => rfl
 | cons x r ih => simp only [flatC, List.length_append, List.length_cons, ih]; simp [cellC]; omega
theorem flatC_app (a b : List S112) : flatC (a ++ b) = flatC a ++ flatC b := by
 induction a with
 | nil => rfl
 | cons x r ih => simp [flatC, ih]
theorem flatC_one (l : List S112) : ∀ u ∈ flatC l, u.oneCell' = true := by
 induction l with
 | nil => simp [flatC]
 | cons x r ih =>
  intro u hu
  simp only [flatC, List.mem_append] at hu
  rcases hu with hu | hu
  ·simp only [cellC, List.mem_cons, List.not_mem_nil, or_false] at hu
   rcases hu with rfl | rfl | rfl | rfl | rfl | rfl | rfl <;> rfl
  ·exact ih u hu
theorem flatC_drop : ∀ (l : List S112) (j : Nat), (flatC l).drop (j * 7) = flatC (l.drop j)
 | l, 0 => by simp
 | [], j + 1 => by simp [flatC]
 | x :: r, j + 1 => by
  rw [List.drop_succ_cons, ← flatC_drop r j]
  simp only [flatC]
  rw [List.drop_append, show (cellC x).length = 7 from rfl, List.drop_eq_nil_of_le (by simp [cellC]; omega), show (j + 1) * 7 - 7 = j * 7 from by omega]
  simp
theorem reps_flatC (w : World) (base : Nat) (ok : Nat → Prop) (l : List S112) : Reps (k112.M w base ok) 7 l (flatC l) := by
 refine ⟨flatC_len l, fun j p hj => ?_⟩
 have hlt : j < l.length := (List.getElem?_eq_some_iff.1 hj).1
 have hp : l[j] = p := (List.getElem?_eq_some_iff.1 hj).2
 rw [← Nat.mul_comm 7 j, Nat.mul_comm 7 j, flatC_drop, List.drop_eq_getElem_cons hlt, hp]
 simp only [flatC]
 rw [List.take_append, show (cellC p).length = 7 from rfl, List.take_of_length_le (by simp [cellC])]
 simp
 exact k112_mkM w base ok p
theorem R_flatC {w : World} {base n : Nat} {v : Value} {l : List S112} (hn : l.length = n) (h : w.ownsRow base 112 7 v n (flatC l)) : Kd.R k112 112 w base (fun _ => True) v l := by
 subst hn
 exact ⟨fun _ _ => trivial, flatC l, h, reps_flatC w base _ l⟩
theorem flatC_get : ∀ (l : List S112) (i t : Nat) (h : i < l.length), t < 7 → (flatC l)[i * 7 + t]? = (cellC l[i])[t]?
 | [], i, t, h, _ => by simp at h
 | x :: r, 0, t, h, ht => by
  simp only [flatC]
  rw [List.getElem?_append_left (by simp [cellC]; omega)]
  simp
 | x :: r, i + 1, t, h, ht => by
  simp only [flatC]
  rw [List.getElem?_append_right (by simp [cellC]; omega), show (i + 1) * 7 + t - (cellC x).length = i * 7 + t from by simp [cellC]; omega, flatC_get r i t (by simpa using h) ht]
  simp
theorem flat_src {w : World} {A : Option Addr} {l : List S112} (h : Kd.C k112 w A l.length l) : l = [] ∨ ∃ ad, A = some ad ∧ ∀ j u, (flatC l)[j]? = some u → w.cell? (ad.add j) = some u := by
 by_cases e : l = []
 ·exact .inl e
 have h0 : 0 < l.length := List.length_pos_iff.2 e
 obtain ⟨ad, c, hA, _⟩ := Kd.C_get h z112 0 (by omega) (by omega)
 refine .inr ⟨ad, hA, fun j u hj => ?_⟩
 have hj2 : j < l.length * 7 := by
  rw [← flatC_len]
  exact (List.getElem?_eq_some_iff.1 hj).1
 have hi : j / 7 < l.length := by omega
 obtain ⟨ad2, c2, hA2, _, hK, hc⟩ := Kd.C_get h z112 ((j / 7 : Nat) : Int) (by omega) (by omega)
 rw [hA] at hA2
 obtain rfl := Option.some.inj hA2
 have hc' : ∀ t u, c2[t]? = some u → w.cell? (ad.add (((j / 7 : Nat) : Int).toNat * 7 + t)) = some u := hc
 obtain rfl := k112_open hK
 have hg := flatC_get l (j / 7) (j % 7) hi (by omega)
 rw [show j / 7 * 7 + j % 7 = j from by omega, hj] at hg
 have hx : l.getD ((j / 7 : Nat) : Int).toNat z112 = l[j / 7] := by rw [Int.toNat_natCast, List.getD_eq_getElem?_getD, List.getElem?_eq_getElem hi]; rfl
 have := hc' (j % 7) u (by rw [hx]; exact hg.symm)
 rw [Int.toNat_natCast, show j / 7 * 7 + j % 7 = j from by omega] at this
 exact this
end Go.Proofs.YtppcjoaghlecmaaDoor.P
namespace Go.Proofs.YtppcjoaghlecmaaDoor.P
open Go.RowKit Go.Sort Go.Proofs.YtppcjoaghlecmaaDoorW.PrintWords Go.Proofs.YtppcjoaghlecmaaDoorW.PrintLast Go.Proofs.YtppcjoaghlecmaaDoorW.PrintMore Go.Maps Go.ChangeShapes Go.WideShapes Go.WideMaps Go.Shelf
set_option linter.unusedVariables false
set_option linter.unusedSimpArgs false
attribute [local go_sem] Oper.semAt_some run_store_fn
theorem ownFrom_blk {β : Type} (B k : Nat) (cs : Array Value) (t : TypeId) : OwnFrom B (fun (_ : β) W => W.heap[k]? = some (.cells cs t (0, 0))) := by
 rintro _ W W' row h hg hr
 refine (hg.block k (Array.getElem?_eq_some_iff.1 h).1 ?_).trans h
 intro e
 obtain ⟨_, o, ho, hc⟩ := hr k e.symm
 rw [h] at ho; cases ho; cases hc
def AxS (ts : Nat → Array Value → Prop) (x : Pst) (a' : Act) (W : World) : Prop := ∃ B, ts B a'.tmps ∧ a'.defers = [] ∧ W.heap[B]? = some (pstO x)
theorem ownFrom_axS (ts : Nat → Array Value → Prop) (B : Nat) (x : Pst) (a' : Act) : OwnFrom B (fun (_ : Unit) W => AxS ts x a' W) := by
 rintro _ W W' row ⟨b, h1, h2, h3⟩ hg hr
 refine ⟨b, h1, h2, (hg.block b (Array.getElem?_eq_some_iff.1 h3).1 ?_).trans h3⟩
 intro e
 obtain ⟨_, o, ho, hc⟩ := hr b e.symm
 rw [h3] at ho; cases ho; cases hc
theorem appended0 {W w1 : World} {n₀ B : Nat} {t e : TypeId} {size : Nat} {v v' : Value} {k m : Nat} {xs ys : List Value}
  (hv : Boxed W B t v) (hte : t ≠ e) (hrow : W.ownsRow n₀ e size v k xs) (hn₀ : n₀ ≤ W.heap.size) (hB : n₀ ≤ B)
  (hown' : w1.ownsRow n₀ e size v' m ys) (hgrow : W.grownBy w1 v.ownBlock) :
  Boxed w1 B t v ∧ Boxed (w1.setCell ⟨B, 0, none⟩ v') B t v' ∧ (w1.setCell ⟨B, 0, none⟩ v').ownsRow n₀ e size v' m ys ∧ KeepsOthers W (w1.setCell ⟨B, 0, none⟩ v') ∧ Below n₀ W (w1.setCell ⟨B, 0, none⟩ v') := by
 have hv1 : Boxed w1 B t v := hv.kept hgrow (hv.not_row hte hrow)
 refine ⟨hv1, hv1.set v', hown'.kept (grownBy_setCell' w1 B v') (.inr (hv1.not_row hte hown').symm), ?_, ?_⟩
 ·refine (KeepsOthers.of_grownBy hgrow fun j o ej hj => ?_).trans (KeepsOthers.setCell _ _ _)
  rcases hrow.2 with ⟨rfl, _⟩ | ⟨g, cap, cur, rfl, _, hgb, _⟩
  ·simp [Value.ownBlock] at ej
  ·obtain rfl : g = j := by simpa [Value.ownBlock] using ej
   rw [hgb] at hj; cases hj; rfl
 ·refine ((Below.refl n₀ W).grown hgrow hn₀ fun j ej => ?_).setCell (p := ⟨B, 0, none⟩) hB v'
  rcases hrow.2 with ⟨rfl, _⟩ | ⟨g, cap, cur, rfl, hb, _, _⟩
  ·simp [Value.ownBlock] at ej
  ·obtain rfl : g = j := by simpa [Value.ownBlock] using ej
   exact hb
def totS {L : List Pst} (pre : List {c // c ∈ L}) : List S112 := (pre.map (fun x => x.1.C)).flatten
theorem totS_app {L : List Pst} (pre : List {c // c ∈ L}) (x : {c // c ∈ L}) : totS (pre ++ [x]) = totS pre ++ x.1.C := by simp [totS]
theorem totS_len {L : List Pst} (hC : ∀ c ∈ L, c.C.length ≤ 1000) : ∀ pre : List {c // c ∈ L}, (totS pre).length ≤ pre.length * 1000
 | [] => by simp [totS]
 | x :: r => by
  have := totS_len hC r
  have h2 := hC x.1 x.2
  simp only [totS, List.map_cons, List.flatten_cons, List.length_append, List.length_cons] at this ⊢
  omega
theorem totS_filter {L : List Pst} (q : Qy) : totS (L.attach.filter (fun x => keepSel q x.1)) = ((L.filter (keepSel q)).map Pst.C).flatten := by
 have h : (L.attach.filter (fun x => keepSel q x.1)).map (fun x => x.1) = L.filter (keepSel q) := by
  have := (List.filter_map (p := keepSel q) (f := fun x : {c // c ∈ L} => x.1) (l := L.attach)).symm
  rw [List.attach_map_subtype_val] at this
  exact this
 unfold totS
 rw [← h, List.map_map]
 rfl
set_option maxRecDepth 100000 in
set_option maxHeartbeats 4000000 in
theorem lsheet_in (g : Option Addr) (q : Qy) (base : Nat) (L : List Pst) (w : World) (hL : LedO w base g L) (h1000 : L.length ≤ 1000) (hC : ∀ c ∈ L, c.C.length ≤ 1000) (hne : ∀ c ∈ L, c.C ≠ []) (all : List S112) (hall : all = ((L.filter (keepSel q)).map Pst.C).flatten) (hok : OkS all) :
  CallsIn Fence.wide 4 Tryd.prog 19 #[.pointer g, qyV q] w fun e w' => ∃ v, e = .returned (.tuple #[v, .int .i64 (ofK all).2]) ∧ Kd.R k112 112 w' w.heap.size (fun _ => True) v (ofK all).1 ∧ Below w.heap.size w w' := by
 obtain ⟨F, hF⟩ : ∃ F, F = Fence.wide := ⟨_, rfl⟩
 rw [← hF]
 have h19 : F.fn 19 := by rw [hF]; trivial
 have h50 : F.fn 50 := by rw [hF]; trivial
 have h56 : F.fn 56 := by rw [hF]; trivial
 have h97 : F.fn 97 := by rw [hF]; trivial
 have h23 : F.fn 23 := by rw [hF]; trivial
 have h106 : F.fn 106 := by rw [hF]; trivial
 have h31 : F.fn 31 := by rw [hF]; trivial
 have hro : F.round = none := by rw [hF]; rfl
 have hof : ∀ (A0 : Option Addr) (c0 : Nat) (W : World), Kd.C k112 W A0 all.length all → all.length ≤ c0 → CallsIn F 3 Tryd.prog 31 #[.slice A0 all.length c0] W fun e w' => ∃ v0_ : Value, e = .returned (.tuple #[v0_, .int .i64 (ofK all).2]) ∧ Kd.R k112 112 w' W.heap.size (fun _ => True) v0_ (ofK all).1 ∧ Below W.heap.size W w' := by
  intro A0 c0 W h1 h2
  rw [hF]
  exact callsIn_wide.2 (sheet_Of.calls A0 c0 all (ofK all).1 (ofK all).2 W h1 h2 (by unfold sheet_Of.f; rw [if_pos hok]))
 clear hF
 have hse := selected_in F 3 h50 h56 hro (by omega) g q
 unfold qyV at hse ⊢
 obtain ⟨i0, hi, hz0, hz1, hz2⟩ := info_parts info112
 refine callsIn_of_wp_marks Tryd.func19 rfl h19 ?_ hro
 simp only [Tryd.ntmps19, List.size_toArray, List.length_cons, List.length_nil, Nat.reduceAdd, Nat.reduceSub, Array.replicate_succ, Array.replicate_zero, List.push_toArray, List.append_toArray, List.nil_append, List.cons_append]
 gi_wp2_with (gi_at_call 50; refine (hse _).mono ?_; rintro e W4 ⟨rfl, k0, k2, k3, kB, ks⟩)
 simp only [World.size_alloc] at k0 k2 k3 kB ks
 have hsl : ∀ c ∈ L, ∃ A cp, c.v = .slice (some A) c.C.length cp ∧ A.block < w.heap.size ∧ ∀ j u, (flatC c.C)[j]? = some u → w.cell? (A.add j) = some u := by
  intro c hc
  rcases hL with ⟨_, rfl⟩ | ⟨p, m, _, hled⟩
  ·cases hc
  obtain ⟨A, cp, hv, _, hr⟩ := Kd.R_reads (hled.row c hc)
  rcases flat_src hr with h | ⟨ad, rfl, h⟩
  ·exact absurd h (hne c hc)
  ·refine ⟨ad, cp, hv, ?_, h⟩
   have h0 : 0 < (flatC c.C).length := by
    rw [flatC_len]
    have := List.length_pos_iff.2 (hne c hc)
    omega
   have := World.block_lt_of_cell? w _ (h 0 _ (List.getElem?_eq_getElem h0))
   rw [add_block] at this
   exact this
 have bN : Boxed W4 (w.heap.size + 1 + 1) 30 (.pointer g) := k0
 have bF : Boxed W4 (w.heap.size + 1 + 1 + 3) 49 (.func (.func 106) #[] #[.pointer (some ⟨w.heap.size + 1 + 1 + 2, 0, none⟩)]) := k3
 have bD : Boxed W4 (w.heap.size + 1) 32 (.slice none 0 0) := (kB.block (w.heap.size + 1) (by omega)).trans (by have := blk_new (w.alloc (qyO q)) (.cells #[.slice none 0 0] 32); rw [World.size_alloc] at this; exact this)
 have hB0 : Below w.heap.size w W4 := ((((Below.refl _ w).alloc (Nat.le_refl _) _).alloc (by simp) _)).trans (kB.mono (by omega))
 refine wpIn_rangeFunc_ownH (α := {c // c ∈ L}) hro (by omega) (gf := 97) (lb := #[.pointer (some ⟨w.heap.size + 1 + 1, 0, none⟩), .pointer (some ⟨w.heap.size + 1 + 1 + 3, 0, none⟩)]) rfl h97 (enters_of Tryd.func97 (by kernel_rfl) rfl)
  (sel_stops F 3 h97 h23 h106 hro (by omega) (w.heap.size + 1 + 1) (w.heap.size + 1 + 1 + 3) (w.heap.size + 1 + 1 + 2) base q g (fun x : {c // c ∈ L} => x.1) L.attach L (List.attach_map_subtype_val L) (by omega) w hL W4 hB0 bN bF k2)
  KpSel.t (fun W b o o' hb h hcl hwk => ⟨belowK_b (w := W4) (by omega) W b o o' hb h hcl hwk, World.putObj_heap_other (by omega), World.putObj_heap_other (by omega), World.putObj_heap_other (by omega)⟩)
  (Below.refl _ _) (fun _ => rfl)
  (fun pre W => (∃ v, Boxed W (w.heap.size + 1) 32 v ∧ W.ownsRow w.heap.size 112 7 v (totS pre).length (flatC (totS pre)) ∧ True) ∧ (((Boxed W (w.heap.size + 1 + 1) 30 (.pointer g) ∧ Boxed W (w.heap.size + 1 + 1 + 3) 49 (.func (.func 106) #[] #[.pointer (some ⟨w.heap.size + 1 + 1 + 2, 0, none⟩)])) ∧ W.heap[w.heap.size + 1 + 1 + 2]? = some (qyO q)) ∧ Below w.heap.size w W))
  (fun _ _ _ => False)
  (OwnFrom.and (Own.from (holdsRow_own w.heap.size (w.heap.size + 1) 32 112 7 (fun pre : List {c // c ∈ L} => (totS pre).length) (fun pre => flatC (totS pre)) (fun _ _ => True)) _) (OwnFrom.and (OwnFrom.and (OwnFrom.and (Own.from (boxed_own _ _ (fun _ => .pointer g)) _) (Own.from (boxed_own _ _ (fun _ => (.func (.func 106) #[] #[.pointer (some ⟨w.heap.size + 1 + 1 + 2, 0, none⟩)]))) _)) (ownFrom_blk _ _ _ _)) (ownFrom_below (Nat.le_refl _) (by omega))))
  (fun _ _ _ _ _ hs _ _ => hs)
  ⟨⟨_, bD, World.ownsRow_nil _ _ _ _, trivial⟩, ⟨⟨bN, bF⟩, k2⟩, hB0⟩
  (fun x => AxS (fun B ts => ∃ u, ts = #[.pointer g, .agg #[.string q.e, .int .i64 q.a, .int .i64 q.z, .int .i64 q.b], undef, .pointer (some ⟨w.heap.size, 0, none⟩), .slice none 0 0, .int .i64 0, .pointer (some ⟨w.heap.size + 1, 0, none⟩), .pointer (some ⟨B, 0, none⟩), .pointer g, .agg #[.string q.e, .int .i64 q.a, .int .i64 q.z, .int .i64 q.b], .func (.func 97) #[] #[.pointer (some ⟨w.heap.size + 1 + 1, 0, none⟩), .pointer (some ⟨w.heap.size + 1 + 1 + 3, 0, none⟩)], u, undef, undef, undef, undef, undef, undef, undef, undef]) x.1)
  (fun x a' => ownFrom_axS _ _ x.1 a') ?assign ?body ?done ?stop
 case assign =>
  rintro b pre ⟨x, hx⟩ W K ⟨⟨v, hv, hrow, _⟩, ⟨⟨bn, bf⟩, bq⟩, hB⟩ hK
  obtain ⟨A, cp, hxv, _, _⟩ := hsl x hx
  simp only [pstV, hxv]
  gi_wp2
  have hpo : pstO x = .cells #[.int .i64 x.h.f0, .string x.h.f1, .int .i64 x.h.f2, .int .i64 x.h.f3, .int .i64 x.h.f4, .string x.h.f5, .string x.h.f6, .int .i64 x.h.f7, .slice none 0 0, .slice (some A) x.C.length cp] 118 (0, 0) := by unfold pstO; rw [hxv]
  have hg := World.grownBy_alloc W (pstO x) none
  rw [hpo] at hg
  have hlq : w.heap.size + 1 + 1 + 2 < W.heap.size := blk_lt bq
  exact hK _ _ ((KeepsOthers.alloc W _).from _) ⟨(Below.refl _ W).alloc hB.size _, hg.block _ bn.lt (by simp), hg.block _ bf.lt (by simp), hg.block _ hlq (by simp)⟩
   ⟨⟨v, hv.alloc _, hrow.alloc _, trivial⟩, ⟨⟨bn.alloc _, bf.alloc _⟩, blk_alloc bq _⟩, hB.alloc hB.size _⟩ ⟨W.heap.size, ⟨_, rfl⟩, rfl, by rw [hpo]; exact World.alloc_heap_new W _⟩
 case body =>
  rintro b pre ⟨x, hx⟩ ⟨tm, df⟩ W hb _ ⟨⟨v, hv, hrow, _⟩, ⟨⟨bn, bf⟩, bq⟩, hB⟩ ⟨B, ⟨u, hts⟩, hdf, hbx⟩ hlt
  obtain rfl : tm = _ := hts
  obtain rfl : df = [] := hdf
  obtain ⟨A, cp, hxv, hAb, hsrc⟩ := hsl x hx
  have hpo : pstO x = .cells #[.int .i64 x.h.f0, .string x.h.f1, .int .i64 x.h.f2, .int .i64 x.h.f3, .int .i64 x.h.f4, .string x.h.f5, .string x.h.f6, .int .i64 x.h.f7, .slice none 0 0, .slice (some A) x.C.length cp] 118 (0, 0) := by unfold pstO; rw [hxv]
  rw [hpo] at hbx
  have c9 := (blk_cell hbx 9).trans rfl
  have hc' := hv.cell
  have htot := totS_len hC pre
  have hxl := hC x hx
  have hW := hB.size
  have hsr : ∀ j u, (flatC x.C)[j]? = some u → W.cell? (A.add j) = some u := fun j u hj => (hB.cell (p := A.add j) (by rw [add_block]; exact hAb)).trans (hsrc j u hj)
  gi_wp2_with (gi_at_builtin; refine wpListIn_append_own _ rfl _ _ 32 rfl w.heap.size 112 i0 (.agg #[.string ⟨#[]⟩, .string ⟨#[]⟩, .string ⟨#[]⟩, .string ⟨#[]⟩, .string ⟨#[]⟩, .int .i64 0, .int .i64 0]) 7 96 Tryd.underlying32 hi hz0 hz1 hz2 rfl (by decide) _ _ _ rfl hrow A x.C.length cp (flatC x.C) rfl (flatC_len _) hsr (flatC_one _) (by unfold maxLen; omega) (by omega) hW ?_; intro v' w1 hown' hgrow _; obtain ⟨A', n', cap', rfl⟩ : ∃ A' n' cap', v' = .slice A' n' cap' := (by rcases hown'.2 with ⟨rfl, _⟩ | ⟨g_, cap_, cur_, rfl, _⟩ <;> exact ⟨_, _, _, rfl⟩); obtain ⟨hv1, hv2, hr2, hk2, hb2⟩ := appended0 hv (by decide) hrow hW (by omega) hown' hgrow; have hc1 := hv1.cell; have hf1 := hv1.frozen; have bn1 := bn.kept hgrow (bn.not_row (by decide) hrow); have bf1 := bf.kept hgrow (bf.not_row (by decide) hrow))
  have bq1 : w1.heap[w.heap.size + 1 + 1 + 2]? = some (qyO q) := by
   refine (hgrow.block _ (blk_lt bq) (fun e => ?_)).trans bq
   rcases hrow.2 with ⟨rfl, _⟩ | ⟨g_, cap_, cur_, rfl, _, hgb, _⟩
   ·cases e
   ·have e2 : g_ = w.heap.size + 1 + 1 + 2 := Option.some.inj (show some g_ = some (w.heap.size + 1 + 1 + 2) from e.symm)
    rw [e2, bq] at hgb
    cases hgb
  have bn2 : Boxed (w1.setCell ⟨w.heap.size + 1, 0, none⟩ (.slice A' n' cap')) (w.heap.size + 1 + 1) 30 (.pointer g) := (Below.heap_setCell w1 ⟨w.heap.size + 1, 0, none⟩ _ (w.heap.size + 1 + 1) (by simp)).trans bn1
  have bf2 : Boxed (w1.setCell ⟨w.heap.size + 1, 0, none⟩ (.slice A' n' cap')) (w.heap.size + 1 + 1 + 3) 49 (.func (.func 106) #[] #[.pointer (some ⟨w.heap.size + 1 + 1 + 2, 0, none⟩)]) := (Below.heap_setCell w1 ⟨w.heap.size + 1, 0, none⟩ _ (w.heap.size + 1 + 1 + 3) (by simp)).trans bf1
  have bq2 : (w1.setCell ⟨w.heap.size + 1, 0, none⟩ (.slice A' n' cap')).heap[w.heap.size + 1 + 1 + 2]? = some (qyO q) := (Below.heap_setCell w1 ⟨w.heap.size + 1, 0, none⟩ _ (w.heap.size + 1 + 1 + 2) (by simp)).trans bq1
  exact ⟨hk2.from _, ⟨hb2, bn2.trans bn.symm, bf2.trans bf.symm, bq2.trans bq.symm⟩, ⟨_, hv2, by rw [totS_app, List.length_append, flatC_app]; exact hr2, trivial⟩, ⟨⟨bn2, bf2⟩, bq2⟩, hB.trans hb2⟩
 case done =>
  rintro D ys W hD rfl ⟨⟨v, hv, hrow, _⟩, _, hB⟩ hK
  rw [totS_filter, ← hall] at hrow
  obtain ⟨A', cap', rfl, hcp, hcr⟩ := Kd.R_reads (R_flatC rfl hrow)
  have hc' := hv.cell
  have hf' := hv.frozen
  have hof' := hof A' cap' W hcr hcp
  clear hof hse hsl hi hz0 hz1 hz2 hall hok hL hC hne k0 k2 k3 bN bF bD
  obtain ⟨R, hR⟩ : ∃ R, ofK all = R := ⟨_, rfl⟩
  rw [hR] at hof'
  have HRR := Aside0.mk hR
  obtain ⟨n, hn⟩ : ∃ n, all.length = n := ⟨_, rfl⟩
  rw [hn] at hof' hc'
  clear hrow hcp hcr hv hR hn
  gi_wp2_with (gi_at_call 31; refine hof'.mono ?_; rintro e W5 ⟨v5, rfl, hR5, hB5⟩)
  have hK' := (hB5.block D (Array.getElem?_eq_some_iff.1 hK).1).trans hK
  refine ⟨by simp, .inl ⟨_, _, rfl, run_takeDeferred hK', ?_⟩⟩
  have hBD := belowK_b (w := w) (Nat.le_refl _) W5 D _ (.deferred none) (by omega) hK' rfl rfl
  refine ⟨.tuple #[v5, .int .i64 R.2], ?_, v5, by rw [HRR.out], ?_, (hB.trans (hB5.mono hB.size)).trans hBD⟩
  ·simp [results, Tryd.f19, go_sem]
  ·rw [HRR.out]
   have h1 : Kd.R k112 112 W5 w.heap.size (fun _ => True) v5 R.1 := by first | exact Kd.R_lower hR5 hB.size | exact Kd.R_lower hB.size hR5
   have h2 := Kd.R_mono (Kd.R_tight rfl h1) (ok' := fun k => v5.ownBlock = some k) (fun k hk => hk.symm)
   refine Kd.R_mono (Kd.R_step h2 (fun k hk hlt => ?_)) (fun _ _ => trivial)
   obtain ⟨cs, hcs⟩ := Kd.R_typed h1 k hk
   refine World.putObj_heap_other (fun e => ?_)
   subst e
   rw [hcs] at hK'
   cases hK'
 case stop =>
  rintro D c pre W _ _ h _
  exact h.elim
end Go.Proofs.YtppcjoaghlecmaaDoor.P
namespace Go.Proofs.YtppcjoaghlecmaaDoor.P
open Go.RowKit Go.Sort Go.Proofs.YtppcjoaghlecmaaDoorW.PrintWords Go.Proofs.YtppcjoaghlecmaaDoorW.PrintLast Go.Proofs.YtppcjoaghlecmaaDoorW.PrintMore Go.Maps Go.ChangeShapes Go.WideShapes Go.WideMaps Go.Shelf
set_option linter.unusedVariables false
set_option linter.unusedSimpArgs false
attribute [local go_sem] Oper.semAt_some run_store_fn
def keV (y : S40) : Value := .agg #[.string y.f0, .string y.f1, .string y.f2, .string y.f3, .string y.f4]
def keO (y : S40) : Obj := .cells #[.string y.f0, .string y.f1, .string y.f2, .string y.f3, .string y.f4] 40 (0, 0)
def hasM (key : S40) (c : Pst) : Bool := c.C.any (fun y => matchK key y.f0)
def nosS {L : List Pst} (key : S40) (pre : List {c // c ∈ L}) : List Int := (pre.filter (fun x => hasM key x.1)).map (fun x => x.1.h.f0)
theorem nosS_len {L : List Pst} (key : S40) (pre : List {c // c ∈ L}) : (nosS key pre).length ≤ pre.length := by
 unfold nosS
 rw [List.length_map]
 exact List.length_filter_le _ _
theorem nosS_yes {L : List Pst} {key : S40} (pre : List {c // c ∈ L}) (x : {c // c ∈ L}) (h : hasM key x.1 = true) : nosS key (pre ++ [x]) = nosS key pre ++ [x.1.h.f0] := by
 unfold nosS
 rw [List.filter_append]; simp [h]
theorem nosS_no {L : List Pst} {key : S40} (pre : List {c // c ∈ L}) (x : {c // c ∈ L}) (h : hasM key x.1 = false) : nosS key (pre ++ [x]) = nosS key pre := by
 unfold nosS
 rw [List.filter_append]; simp [h]
def findK (L : List Pst) (q : Qy) (key : S40) : List Int := ((L.filter (keepSel q)).filter (hasM key)).map (fun c => c.h.f0)
theorem nosS_filter {L : List Pst} (q : Qy) (key : S40) : nosS key (L.attach.filter (fun x => keepSel q x.1)) = findK L q key := by
 have h : (L.attach.filter (fun x => keepSel q x.1)).map (fun x => x.1) = L.filter (keepSel q) := by
  have := (List.filter_map (p := keepSel q) (f := fun x : {c // c ∈ L} => x.1) (l := L.attach)).symm
  rw [List.attach_map_subtype_val] at this
  exact this
 unfold nosS findK
 rw [← h, List.filter_map, List.map_map]
 rfl
theorem keeps_below {W W' : World} (h : Below W.heap.size W W') : KeepsOthers W W' := ⟨h.size, fun k o hk _ => (h.block k (Array.getElem?_eq_some_iff.1 hk).1).trans hk⟩
theorem ne_row {W : World} {n₀ k n : Nat} {v : Value} {xs : List Value} {cs : Array Value} {t e : TypeId} {size : Nat} (hrow : W.ownsRow n₀ e size v n xs) (h : W.heap[k]? = some (.cells cs t (0, 0))) (ht : t ≠ e) : v.ownBlock ≠ some k := by
 intro he
 rcases hrow.2 with ⟨rfl, _⟩ | ⟨g_, cap_, cur_, rfl, _, hgb, _⟩
 ·cases he
 ·have e2 : g_ = k := Option.some.inj (show some g_ = some k from he)
  rw [e2, h] at hgb
  cases hgb
  exact ht rfl
theorem one_new (W : World) (z : Value) (t : TypeId) : ∀ j u, [z][j]? = some u → (W.alloc (.cells #[z] t)).cell? (Addr.add ⟨W.heap.size, 0, none⟩ j) = some u := by
 intro j u h
 have hj : j = 0 := by
  have := (List.getElem?_eq_some_iff.1 h).1
  simpa using this
 subst hj
 obtain rfl : z = u := by simpa using h
 exact (blk_cell (blk_new W (.cells #[z] t)) 0).trans rfl
set_option maxRecDepth 100000 in
set_option maxHeartbeats 4000000 in
theorem lfind_in (g : Option Addr) (q : Qy) (key : S40) (base : Nat) (L : List Pst) (w : World) (hL : LedO w base g L) (h1000 : L.length ≤ 1000) (hC : ∀ c ∈ L, c.C.length ≤ 1000) (hne : ∀ c ∈ L, c.C ≠ []) :
  CallsIn Fence.wide 4 Tryd.prog 24 #[.pointer g, qyV q, keV key] w fun e w' => ∃ v, e = .returned v ∧ Kd.R (Kd.int .i64) 3 w' w.heap.size (fun _ => True) v (findK L q key) ∧ Below w.heap.size w w' := by
 obtain ⟨F, hF⟩ : ∃ F, F = Fence.wide := ⟨_, rfl⟩
 rw [← hF]
 have h24 : F.fn 24 := by rw [hF]; trivial
 have h50 : F.fn 50 := by rw [hF]; trivial
 have h56 : F.fn 56 := by rw [hF]; trivial
 have h97 : F.fn 97 := by rw [hF]; trivial
 have h23 : F.fn 23 := by rw [hF]; trivial
 have h106 : F.fn 106 := by rw [hF]; trivial
 have h52 : F.fn 52 := by rw [hF]; trivial
 have hro : F.round = none := by rw [hF]; rfl
 have hmt : ∀ (n : Nat) (y : S40) (W : World), CallsIn F n Tryd.prog 52 #[.agg #[.string key.f0, .string key.f1, .string key.f2, .string key.f3, .string key.f4], .agg #[.string y.f0, .string y.f1, .string y.f2, .string y.f3, .string y.f4]] W fun e w' => e = .returned (.bool (matchK key y)) ∧ Below W.heap.size W w' := by
  intro n y W
  rw [hF]
  exact callsIn_wide.2 (sheet_Match.calls key.f0 key.f1 key.f2 key.f3 key.f4 y.f0 y.f1 y.f2 y.f3 y.f4 (matchK key y) W rfl)
 clear hF
 have hse := selected_in F 3 h50 h56 hro (by omega) g q
 unfold qyV at hse ⊢
 unfold keV
 obtain ⟨i0, hi, hz0, hz1, hz2⟩ := info_parts info3
 refine callsIn_of_wp_marks Tryd.func24 rfl h24 ?_ hro
 simp only [Tryd.ntmps24, List.size_toArray, List.length_cons, List.length_nil, Nat.reduceAdd, Nat.reduceSub, Array.replicate_succ, Array.replicate_zero, List.push_toArray, List.append_toArray, List.nil_append, List.cons_append]
 gi_wp2_with (gi_at_call 50; refine (hse _).mono ?_; rintro e W4 ⟨rfl, k0, k2, k3, kB, ks⟩)
 simp only [World.size_alloc] at k0 k2 k3 kB ks
 have hsl : ∀ c ∈ L, ∃ A cp, c.v = .slice (some A) c.C.length cp ∧ A.block < w.heap.size ∧ Kd.C k112 w (some A) c.C.length c.C := by
  intro c hc
  rcases hL with ⟨_, rfl⟩ | ⟨p, m, _, hled⟩
  ·cases hc
  obtain ⟨A, cp, hv, _, hr⟩ := Kd.R_reads (hled.row c hc)
  rcases flat_src hr with h | ⟨ad, rfl, h⟩
  ·exact absurd h (hne c hc)
  ·refine ⟨ad, cp, hv, ?_, hr⟩
   have h0 : 0 < (flatC c.C).length := by
    rw [flatC_len]
    have := List.length_pos_iff.2 (hne c hc)
    omega
   have := World.block_lt_of_cell? w _ (h 0 _ (List.getElem?_eq_getElem h0))
   rw [add_block] at this
   exact this
 have bN : Boxed W4 (w.heap.size + 1 + 1 + 1) 30 (.pointer g) := k0
 have bF : Boxed W4 (w.heap.size + 1 + 1 + 1 + 3) 49 (.func (.func 106) #[] #[.pointer (some ⟨w.heap.size + 1 + 1 + 1 + 2, 0, none⟩)]) := k3
 have bD : Boxed W4 (w.heap.size + 1 + 1) 43 (.slice none 0 0) := (kB.block (w.heap.size + 1 + 1) (by omega)).trans (by have := blk_new ((w.alloc (qyO q)).alloc (keO key)) (.cells #[.slice none 0 0] 43); rw [World.size_alloc, World.size_alloc] at this; exact this)
 have bP : W4.heap[w.heap.size + 1]? = some (keO key) := (kB.block (w.heap.size + 1) (by omega)).trans (by have := blk_new (w.alloc (qyO q)) (keO key); rw [World.size_alloc] at this; exact blk_alloc this _)
 have hB0 : Below w.heap.size w W4 := (((((Below.refl _ w).alloc (Nat.le_refl _) _).alloc (by simp) _)).alloc (by simp; omega) _).trans (kB.mono (by omega))
 refine wpIn_rangeFunc_ownH (α := {c // c ∈ L}) hro (by omega) (gf := 97) (lb := #[.pointer (some ⟨w.heap.size + 1 + 1 + 1, 0, none⟩), .pointer (some ⟨w.heap.size + 1 + 1 + 1 + 3, 0, none⟩)]) rfl h97 (enters_of Tryd.func97 (by kernel_rfl) rfl)
  (sel_stops F 3 h97 h23 h106 hro (by omega) (w.heap.size + 1 + 1 + 1) (w.heap.size + 1 + 1 + 1 + 3) (w.heap.size + 1 + 1 + 1 + 2) base q g (fun x : {c // c ∈ L} => x.1) L.attach L (List.attach_map_subtype_val L) (by omega) w hL W4 hB0 bN bF k2)
  KpSel.t (fun W b o o' hb h hcl hwk => ⟨belowK_b (w := W4) (by omega) W b o o' hb h hcl hwk, World.putObj_heap_other (by omega), World.putObj_heap_other (by omega), World.putObj_heap_other (by omega)⟩)
  (Below.refl _ _) (fun _ => rfl)
  (fun pre W => (∃ v, Boxed W (w.heap.size + 1 + 1) 43 v ∧ W.ownsRow w.heap.size 3 1 v (nosS key pre).length (nums .i64 (nosS key pre)) ∧ True) ∧ ((((Boxed W (w.heap.size + 1 + 1 + 1) 30 (.pointer g) ∧ Boxed W (w.heap.size + 1 + 1 + 1 + 3) 49 (.func (.func 106) #[] #[.pointer (some ⟨w.heap.size + 1 + 1 + 1 + 2, 0, none⟩)])) ∧ W.heap[w.heap.size + 1 + 1 + 1 + 2]? = some (qyO q)) ∧ W.heap[w.heap.size + 1]? = some (keO key)) ∧ Below w.heap.size w W))
  (fun _ _ _ => False)
  (OwnFrom.and (Own.from (holdsRow_own w.heap.size (w.heap.size + 1 + 1) 43 3 1 (fun pre : List {c // c ∈ L} => (nosS key pre).length) (fun pre => nums .i64 (nosS key pre)) (fun _ _ => True)) _) (OwnFrom.and (OwnFrom.and (OwnFrom.and (OwnFrom.and (Own.from (boxed_own _ _ (fun _ => .pointer g)) _) (Own.from (boxed_own _ _ (fun _ => (.func (.func 106) #[] #[.pointer (some ⟨w.heap.size + 1 + 1 + 1 + 2, 0, none⟩)]))) _)) (ownFrom_blk _ _ _ _)) (ownFrom_blk _ _ _ _)) (ownFrom_below (Nat.le_refl _) (by omega))))
  (fun _ _ _ _ _ hs _ _ => hs)
  ⟨⟨_, bD, World.ownsRow_nil _ _ _ _, trivial⟩, ⟨⟨⟨bN, bF⟩, k2⟩, bP⟩, hB0⟩
  (fun x => AxS (fun B ts => ∃ u, ts = #[.pointer g, .agg #[.string q.e, .int .i64 q.a, .int .i64 q.z, .int .i64 q.b], .agg #[.string key.f0, .string key.f1, .string key.f2, .string key.f3, .string key.f4], undef, .pointer (some ⟨w.heap.size, 0, none⟩), .pointer (some ⟨w.heap.size + 1, 0, none⟩), .pointer (some ⟨w.heap.size + 1 + 1, 0, none⟩), .pointer (some ⟨B, 0, none⟩), undef, undef, .pointer g, .agg #[.string q.e, .int .i64 q.a, .int .i64 q.z, .int .i64 q.b], .func (.func 97) #[] #[.pointer (some ⟨w.heap.size + 1 + 1 + 1, 0, none⟩), .pointer (some ⟨w.heap.size + 1 + 1 + 1 + 3, 0, none⟩)], u, undef, undef, undef, undef, undef, undef, undef, undef, undef, undef, undef, undef, undef, undef, undef, undef, undef, undef, undef]) x.1)
  (fun x a' => ownFrom_axS _ _ x.1 a') ?assign ?body ?done ?stop
 case assign =>
  rintro b pre ⟨x, hx⟩ W K ⟨⟨v, hv, hrow, _⟩, ⟨⟨⟨bn, bf⟩, bq⟩, bp⟩, hB⟩ hK
  obtain ⟨A, cp, hxv, _, _⟩ := hsl x hx
  simp only [pstV, hxv]
  gi_wp2
  have hpo : pstO x = .cells #[.int .i64 x.h.f0, .string x.h.f1, .int .i64 x.h.f2, .int .i64 x.h.f3, .int .i64 x.h.f4, .string x.h.f5, .string x.h.f6, .int .i64 x.h.f7, .slice none 0 0, .slice (some A) x.C.length cp] 118 (0, 0) := by unfold pstO; rw [hxv]
  have hg := World.grownBy_alloc W (pstO x) none
  rw [hpo] at hg
  have hlq : w.heap.size + 1 + 1 + 1 + 2 < W.heap.size := blk_lt bq
  exact hK _ _ ((KeepsOthers.alloc W _).from _) ⟨(Below.refl _ W).alloc hB.size _, hg.block _ bn.lt (by simp), hg.block _ bf.lt (by simp), hg.block _ hlq (by simp)⟩
   ⟨⟨v, hv.alloc _, hrow.alloc _, trivial⟩, ⟨⟨⟨bn.alloc _, bf.alloc _⟩, blk_alloc bq _⟩, blk_alloc bp _⟩, hB.alloc hB.size _⟩ ⟨W.heap.size, ⟨_, rfl⟩, rfl, by rw [hpo]; exact World.alloc_heap_new W _⟩
 case body =>
  rintro b pre ⟨x, hx⟩ ⟨tm, df⟩ W hb _ ⟨⟨v, hv, hrow, _⟩, ⟨⟨⟨bn, bf⟩, bq⟩, bp⟩, hB⟩ ⟨B, ⟨u, hts⟩, hdf, hbx⟩ hlt
  obtain rfl : tm = _ := hts
  obtain rfl : df = [] := hdf
  obtain ⟨A, cp, hxv, hAb, hsrc⟩ := hsl x hx
  have hpo : pstO x = .cells #[.int .i64 x.h.f0, .string x.h.f1, .int .i64 x.h.f2, .int .i64 x.h.f3, .int .i64 x.h.f4, .string x.h.f5, .string x.h.f6, .int .i64 x.h.f7, .slice none 0 0, .slice (some A) x.C.length cp] 118 (0, 0) := by unfold pstO; rw [hxv]
  rw [hpo] at hbx
  have c9 : W.cell? ⟨B, 9, none⟩ = some (.slice (some A) x.C.length cp) := (blk_cell hbx 9).trans rfl
  have hxl := hC x hx
  gi_wp2
  gi_loopw [17] (fun i wr => ∃ k : Nat, k ≤ x.C.length ∧ i = .int .i64 (k : Int) ∧ Aside0 (∀ j : Nat, j < k → matchK key (rd_T112 x.C (j : Int)).f0 = false) ∧ Aside0 (Below W.heap.size W wr))
   (fun i _ => x.C.length - (intOf i).toNat)
  case atStart => exact ⟨0, Nat.zero_le _, rfl, ⟨fun j hj => absurd hj (Nat.not_lt_zero j)⟩, ⟨Below.refl _ _⟩⟩
  case round =>
   obtain ⟨k, hk, rfl, hno, hW⟩ := hrel
   rename World => wr
   by_cases hlt2 : k < x.C.length
   rotate_left
   ·obtain rfl : k = x.C.length := by omega
    have d1 : decide ((x.C.length : Int) < (x.C.length : Int)) = false := decide_eq_false (by omega)
    have hnom : hasM key x = false := by
     unfold hasM
     rw [List.any_eq_false]
     intro y hy
     obtain ⟨j, hj, rfl⟩ := List.mem_iff_getElem.1 hy
     have : rd_T112 x.C (j : Int) = x.C[j] := by simp [rd_T112, hj]
     rw [← this, hno.out j hj]
     decide
    gi_wp2
    have hWb := hW.out
    exact ⟨(keeps_below hWb).from _, ⟨hWb.mono hB.size, (blk_below bn hWb).trans bn.symm, (blk_below bf hWb).trans bf.symm, (blk_below bq hWb).trans bq.symm⟩, ⟨_, blk_below hv hWb, by rw [nosS_no pre ⟨x, hx⟩ hnom]; exact pw_own_below hrow hWb, trivial⟩, ⟨⟨⟨blk_below bn hWb, blk_below bf hWb⟩, blk_below bq hWb⟩, blk_below bp hWb⟩, hB.trans (hWb.mono hB.size)⟩
   have d1 : decide ((k : Int) < (x.C.length : Int)) = true := decide_eq_true (by omega)
   have d2 : decide (k < x.C.length) = true := decide_eq_true hlt2
   have p0 : (0 : Int) ≤ (k : Int) := by omega
   have p1 : (k : Int) < (x.C.length : Int) := by omega
   obtain ⟨ad, e, q0, q1, q2, q3, q4, q5, q6⟩ := at_T112 (Kd.C_below (Kd.C_below hsrc hB) hW.out) (k : Int) p0 p1
   cases e
   rw [Int.toNat_natCast] at q0 q1 q2 q3 q4 q5 q6
   obtain ⟨y, hy⟩ : ∃ y, rd_T112 x.C (k : Int) = y := ⟨_, rfl⟩
   rw [hy] at q0 q1 q2 q3 q4 q5 q6
   have HY := Aside0.mk hy
   clear hy
   obtain ⟨Wa, hWa⟩ : ∃ Wa, wr.alloc (.cells #[.string y.f0.f0, .string y.f0.f1, .string y.f0.f2, .string y.f0.f3, .string y.f0.f4, .int .i64 y.f1, .int .i64 y.f2] 112) = Wa := ⟨_, rfl⟩
   have hBa : Below W.heap.size W Wa := by rw [← hWa]; exact below_alloc hW.out _
   have hBy : Wa.heap[wr.heap.size]? = some (.cells #[.string y.f0.f0, .string y.f0.f1, .string y.f0.f2, .string y.f0.f3, .string y.f0.f4, .int .i64 y.f1, .int .i64 y.f2] 112 (0, 0)) := by rw [← hWa]; exact blk_new wr _
   have y0 : Wa.cell? ⟨wr.heap.size, 0, none⟩ = some (.string y.f0.f0) := (blk_cell hBy 0).trans rfl
   have y1 : Wa.cell? ⟨wr.heap.size, 1, none⟩ = some (.string y.f0.f1) := (blk_cell hBy 1).trans rfl
   have y2 : Wa.cell? ⟨wr.heap.size, 2, none⟩ = some (.string y.f0.f2) := (blk_cell hBy 2).trans rfl
   have y3 : Wa.cell? ⟨wr.heap.size, 3, none⟩ = some (.string y.f0.f3) := (blk_cell hBy 3).trans rfl
   have y4 : Wa.cell? ⟨wr.heap.size, 4, none⟩ = some (.string y.f0.f4) := (blk_cell hBy 4).trans rfl
   have hBp := blk_below bp hBa
   have t0 : Wa.cell? ⟨w.heap.size + 1, 0, none⟩ = some (.string key.f0) := (blk_cell hBp 0).trans rfl
   have t1 : Wa.cell? ⟨w.heap.size + 1, 1, none⟩ = some (.string key.f1) := (blk_cell hBp 1).trans rfl
   have t2 : Wa.cell? ⟨w.heap.size + 1, 2, none⟩ = some (.string key.f2) := (blk_cell hBp 2).trans rfl
   have t3 : Wa.cell? ⟨w.heap.size + 1, 3, none⟩ = some (.string key.f3) := (blk_cell hBp 3).trans rfl
   have t4 : Wa.cell? ⟨w.heap.size + 1, 4, none⟩ = some (.string key.f4) := (blk_cell hBp 4).trans rfl
   have HBA := Aside0.mk hBa
   clear hBy hBp hBa
   cases hm : matchK key y.f0
   ·have hmy := hmt (4 - 1 - 1 - 1) y.f0 Wa
    rw [hm] at hmy
    have HM := Aside0.mk hm
    clear hm
    gi_wp2_with (gi_at_call 52; refine ((hmt _ y.f0 Wa).inRound b).mono ?_; rw [HM.out]; rintro e w2 ⟨rfl, hb2⟩; have HB2 := Aside0.mk (below_then HBA.out HBA.out.size hb2); clear hb2)
    go_roundw
    case rel => exact ⟨k + 1, by omega, by simp, ⟨fun j hj => by
     by_cases e : j = k
     ·rw [e, HY.out]; exact HM.out
     exact hno.out j (by omega)⟩, HB2⟩
    case measure => simp [intOf]; omega
   ·have HM := Aside0.mk hm
    clear hm
    gi_wp2_with (first | (gi_at_call 52; refine ((hmt _ y.f0 Wa).inRound b).mono ?_; rw [HM.out]; rintro e w2 ⟨rfl, hb2⟩; have HB2 := Aside0.mk (below_then HBA.out HBA.out.size hb2); have hx2 := blk_below hbx HB2.out; have z0 : w2.cell? ⟨B, 0, none⟩ = some (.int .i64 x.h.f0) := (blk_cell hx2 0).trans rfl; have hv2 : Boxed w2 (w.heap.size + 1 + 1) 43 v := blk_below hv HB2.out; have hvc := hv2.cell; have hr2 := (pw_own_below hrow HB2.out).alloc (.cells #[.int .i64 x.h.f0] 3); have hW2 : w.heap.size ≤ (w2.alloc (.cells #[.int .i64 x.h.f0] 3)).heap.size := Nat.le_trans hB.size (Nat.le_trans HB2.out.size (by simp)); have HR2 := Aside0.mk hr2; have HW2 := Aside0.mk hW2; have HV2 := Aside0.mk (hv2.alloc (.cells #[.int .i64 x.h.f0] 3)); clear hx2 hb2 hr2 hW2 hv2) | (gi_at_builtin; refine wpListIn_append_own _ rfl _ _ 43 rfl w.heap.size 3 i0 (.int .i64 0) 1 8 Tryd.underlying43 hi hz0 hz1 hz2 rfl (by decide) _ _ _ rfl HR2.out ⟨w2.heap.size, 0, none⟩ 1 1 [.int .i64 x.h.f0] rfl rfl (one_new w2 _ 3) (by simp [Value.oneCell']) (by have := nosS_len key pre; unfold maxLen; omega) (by have := nosS_len key pre; omega) HW2.out ?_; intro v' w1 hown' hgrow _; obtain ⟨A', n', cap', rfl⟩ : ∃ A' n' cap', v' = .slice A' n' cap' := (by rcases hown'.2 with ⟨rfl, _⟩ | ⟨g_, cap_, cur_, rfl, _⟩ <;> exact ⟨_, _, _, rfl⟩); obtain ⟨hv1, hv3, hr3, hk3, hb3⟩ := appended0 HV2.out (by decide) HR2.out HW2.out (by omega) hown' hgrow; have hc1 := hv1.cell; have hf1 := hv1.frozen; have HG := Aside0.mk hgrow; have HV3 := Aside0.mk hv3; have HR3 := Aside0.mk hr3; have HK3 := Aside0.mk hk3; have HB3 := Aside0.mk hb3; clear hgrow hv3 hr3 hk3 hb3 hown'))
    have hbA : Below W.heap.size W (w2.alloc (.cells #[.int .i64 x.h.f0] 3)) := below_alloc HB2.out _
    have kp : ∀ (k : Nat) (o : Obj) (cs : Array Value) (t : TypeId), o = .cells cs t (0, 0) → t ≠ 3 → k ≠ w.heap.size + 1 + 1 → W.heap[k]? = some o → (w1.setCell ⟨w.heap.size + 1 + 1, 0, none⟩ (.slice A' n' cap')).heap[k]? = some o := by
     intro k o cs t ho ht hk h
     have h1 := blk_below h hbA
     have h1' := h1
     rw [ho] at h1'
     have h2 := (HG.out.block k (blk_lt h1) (fun e => ne_row HR2.out h1' ht e.symm)).trans h1
     exact (Below.heap_setCell w1 ⟨w.heap.size + 1 + 1, 0, none⟩ _ k hk).trans h2
    have bn3 := kp _ _ _ _ rfl (by decide) (by omega) bn
    have bf3 := kp _ _ _ _ rfl (by decide) (by omega) bf
    have bq3 := kp _ _ _ _ (show qyO q = _ from rfl) (by decide) (by omega) bq
    have bp3 := kp _ _ _ _ (show keO key = _ from rfl) (by decide) (by omega) bp
    have hfin : Below w.heap.size W (w1.setCell ⟨w.heap.size + 1 + 1, 0, none⟩ (.slice A' n' cap')) := (hbA.mono hB.size).trans HB3.out
    have hyes : hasM key x = true := by
     unfold hasM
     rw [List.any_eq_true]
     refine ⟨x.C[k], List.getElem_mem _, ?_⟩
     have : rd_T112 x.C (k : Int) = x.C[k] := by simp [rd_T112, hlt2]
     rw [← this, HY.out]
     exact HM.out
    exact ⟨((keeps_below hbA).trans HK3.out).from _, ⟨hfin, bn3.trans bn.symm, bf3.trans bf.symm, bq3.trans bq.symm⟩, ⟨_, HV3.out, by rw [nosS_yes pre ⟨x, hx⟩ hyes, List.length_append]; unfold nums; rw [List.map_append]; exact HR3.out, trivial⟩, ⟨⟨⟨bn3, bf3⟩, bq3⟩, bp3⟩, hB.trans hfin⟩
 case done =>
  rintro D ys W hD rfl ⟨⟨v, hv, hrow, _⟩, _, hB⟩ hK
  rw [nosS_filter] at hrow
  have hc' := hv.cell
  have hf' := hv.frozen
  obtain ⟨A', n', cap', rfl⟩ : ∃ A' n' cap', v = .slice A' n' cap' := by
   rcases hrow.2 with ⟨rfl, _⟩ | ⟨g, cap, cur, rfl, _⟩ <;> exact ⟨_, _, _, rfl⟩
  clear hmt hse hsl hi hz0 hz1 hz2 hL hC hne k0 k2 k3 bN bF bD bP
  gi_wp2
  have hK' := (KeepsOthers.setCell W ⟨w.heap.size + 1 + 1, 0, none⟩ (.slice A' n' cap')).same D _ hK rfl
  refine ⟨by simp, .inl ⟨_, _, rfl, run_takeDeferred hK', ?_⟩⟩
  have hc5 := cell_kept (World.cell?_setCell_same' W ⟨w.heap.size + 1 + 1, 0, none⟩ (.slice A' n' cap') (by rw [hc']; rfl)) (grownBy_putObj' _ D (.deferred none)) (fun r e => by cases e; exact ⟨_, hK', rfl⟩)
  have h5 := hrow.kept (grownBy_setCell' W (w.heap.size + 1 + 1) (.slice A' n' cap')) (.inr (hv.not_row (by decide) hrow).symm)
  have h6 := ownsRow_putObj h5 (.deferred none) hK' rfl
  refine ⟨.slice A' n' cap', ?_, .slice A' n' cap', rfl, Kd.R_of_own h6 (fun _ _ => trivial), (hB.setCell (p := ⟨w.heap.size + 1 + 1, 0, none⟩) (by simp; omega) _).trans (belowK_b (w := w) (Nat.le_refl _) _ D _ _ (by omega) hK' rfl rfl)⟩
  simp [results, Tryd.f24, go_sem, hc5]
 case stop =>
  rintro D c pre W _ _ h _
  exact h.elim
end Go.Proofs.YtppcjoaghlecmaaDoor.P
namespace Go.Proofs.YtppcjoaghlecmaaDoor.P
open Go.RowKit Go.Sort Go.Proofs.YtppcjoaghlecmaaDoorW.PrintWords Go.Proofs.YtppcjoaghlecmaaDoorW.PrintLast
set_option linter.unusedVariables false
set_option linter.unusedSimpArgs false
def psA (P : S40 → Bool) (l : List S112) : Int := (amts (l.filter (fun c => P c.f0))).sum
def psB (P : S40 → Bool) (l : List S112) : Int := (bass (l.filter (fun c => P c.f0))).sum
theorem psA_nil (P : S40 → Bool) : psA P [] = 0 := rfl
theorem psB_nil (P : S40 → Bool) : psB P [] = 0 := rfl
theorem psA_cons (P : S40 → Bool) (c : S112) (r : List S112) : psA P (c :: r) = (if P c.f0 = true then c.f1 else 0) + psA P r := by
 unfold psA
 by_cases h : P c.f0 = true
 ·rw [List.filter_cons_of_pos (by exact h), if_pos h]; rfl
 ·rw [List.filter_cons_of_neg (by exact h), if_neg h, Int.zero_add]
theorem psB_cons (P : S40 → Bool) (c : S112) (r : List S112) : psB P (c :: r) = (if P c.f0 = true then c.f2 else 0) + psB P r := by
 unfold psB
 by_cases h : P c.f0 = true
 ·rw [List.filter_cons_of_pos (by exact h), if_pos h]; rfl
 ·rw [List.filter_cons_of_neg (by exact h), if_neg h, Int.zero_add]
theorem psA_append (P : S40 → Bool) : ∀ (a b : List S112), psA P (a ++ b) = psA P a + psA P b
 | [], b => by rw [List.nil_append, psA_nil, Int.zero_add]
 | c :: a, b => by rw [List.cons_append, psA_cons, psA_cons, psA_append P a b]; omega
theorem psB_append (P : S40 → Bool) : ∀ (a b : List S112), psB P (a ++ b) = psB P a + psB P b
 | [], b => by rw [List.nil_append, psB_nil, Int.zero_add]
 | c :: a, b => by rw [List.cons_append, psB_cons, psB_cons, psB_append P a b]; omega
def isK (k : S40) (x : S40) : Bool := decide (cmpK k x = 0)
theorem isK_iff {k x : S40} : isK k x = true ↔ k = x := by
 unfold isK
 rw [decide_eq_true_iff]
 exact ⟨cmpK_zero, fun h => by rw [h]; exact cmpK_self x⟩
theorem sumA_ps (l : List S112) (k : S40) : sumA l k = psA (isK k) l := rfl
theorem sumB_ps (l : List S112) (k : S40) : sumB l k = psB (isK k) l := rfl
theorem psA_zero {P : S40 → Bool} : ∀ {l : List S112}, (∀ c ∈ l, P c.f0 = false) → psA P l = 0
 | [], _ => rfl
 | c :: r, h => by rw [psA_cons, if_neg (by rw [h c (by simp)]; decide), psA_zero (fun x hx => h x (by simp [hx]))]; rfl
theorem psB_zero {P : S40 → Bool} : ∀ {l : List S112}, (∀ c ∈ l, P c.f0 = false) → psB P l = 0
 | [], _ => rfl
 | c :: r, h => by rw [psB_cons, if_neg (by rw [h c (by simp)]; decide), psB_zero (fun x hx => h x (by simp [hx]))]; rfl
theorem sumA_none {l : List S112} {k : S40} (h : k ∉ keysK l) : sumA l k = 0 := by
 rw [sumA_ps]
 refine psA_zero (fun c hc => ?_)
 rw [Bool.eq_false_iff]
 intro e
 exact h ((mem_keysK k l).2 ⟨c, hc, (isK_iff.1 e).symm⟩)
theorem sumB_none {l : List S112} {k : S40} (h : k ∉ keysK l) : sumB l k = 0 := by
 rw [sumB_ps]
 refine psB_zero (fun c hc => ?_)
 rw [Bool.eq_false_iff]
 intro e
 exact h ((mem_keysK k l).2 ⟨c, hc, (isK_iff.1 e).symm⟩)
def cellOf (l : List S112) (k : S40) : S112 := ⟨k, sumA l k, sumB l k⟩
def nzC (c : S112) : Bool := decide (c.f1 ≠ 0 ∨ c.f2 ≠ 0)
def fitK (l : List S112) (k : S40) : Bool := fitB (sumA l k) && fitB (sumB l k)
theorem cells_1 (l : List S112) : ∀ (ks : List S40) (out : List S112), (cellsK l ks out).1 = ks.all (fitK l)
 | [], out => rfl
 | k :: t, out => by
  unfold cellsK
  rw [List.all_cons]
  rw [show (fitB (sumA l k) && fitB (sumB l k)) = fitK l k from rfl]
  cases h : fitK l k with
  | true => rw [if_pos rfl, Bool.true_and]; exact cells_1 l t _
  | false => rw [if_neg (by decide), Bool.false_and]
theorem cells_2 (l : List S112) : ∀ (ks : List S40) (out : List S112), ks.all (fitK l) = true → (cellsK l ks out).2 = out ++ (ks.map (cellOf l)).filter nzC
 | [], out, _ => by simp [cellsK]
 | k :: t, out, h => by
  rw [List.all_cons, Bool.and_eq_true] at h
  unfold cellsK
  have h1 : (fitB (sumA l k) && fitB (sumB l k)) = true := h.1
  rw [if_pos h1, cells_2 l t _ h.2, List.map_cons]
  by_cases c : sumA l k ≠ 0 ∨ sumB l k ≠ 0
  ·rw [if_pos c, List.filter_cons_of_pos (by exact decide_eq_true c), List.append_assoc]
   rfl
  ·rw [if_neg c, List.filter_cons_of_neg (by unfold nzC; rw [decide_eq_true_iff]; exact c)]
theorem ofK_eq (l : List S112) : ofK l = if (keysK l).all (fitK l) = true then (((keysK l).map (cellOf l)).filter nzC, 0) else ([], 4) := by
 unfold ofK
 rw [cells_1]
 by_cases h : (keysK l).all (fitK l) = true
 ·rw [if_pos h, if_pos h, cells_2 l _ _ h, List.nil_append]
 ·rw [if_neg h, if_neg h]
theorem fit_all (l : List S112) : (keysK l).all (fitK l) = true ↔ ∀ k, fitK l k = true := by
 rw [List.all_eq_true]
 constructor
 ·intro h k
  by_cases hk : k ∈ keysK l
  ·exact h k hk
  ·unfold fitK
   rw [sumA_none hk, sumB_none hk]
   decide
 ·exact fun h k _ => h k
theorem filter_map_keys (l : List S112) (ks : List S40) : (ks.map (cellOf l)).filter nzC = (ks.filter (fun k => nzC (cellOf l k))).map (cellOf l) := by
 rw [List.filter_map]; rfl
theorem ofK_congr {l m : List S112} (h : ∀ k, sumA l k = sumA m k ∧ sumB l k = sumB m k) : ofK l = ofK m := by
 have hf : ∀ k, fitK l k = fitK m k := fun k => by unfold fitK; rw [(h k).1, (h k).2]
 have hc : ∀ k, cellOf l k = cellOf m k := fun k => by unfold cellOf; rw [(h k).1, (h k).2]
 rw [ofK_eq, ofK_eq]
 by_cases ha : (keysK l).all (fitK l) = true
 ·have hb : (keysK m).all (fitK m) = true := (fit_all m).2 (fun k => by rw [← hf]; exact (fit_all l).1 ha k)
  rw [if_pos ha, if_pos hb, filter_map_keys, filter_map_keys]
  have e : (keysK l).filter (fun k => nzC (cellOf l k)) = (keysK m).filter (fun k => nzC (cellOf m k)) := by
   have nz : ∀ (x : List S112) (k : S40), nzC (cellOf x k) = true → k ∈ keysK x := by
    intro x k hk
    by_cases hm : k ∈ keysK x
    ·exact hm
    ·unfold cellOf nzC at hk
     simp only [sumA_none hm, sumB_none hm] at hk
     simp at hk
   refine ss_unique ((ss_keysK l).filter _) ((ss_keysK m).filter _) (fun k => ?_)
   rw [List.mem_filter, List.mem_filter]
   constructor
   ·rintro ⟨_, h2⟩
    have h2 : nzC (cellOf l k) = true := h2
    rw [hc] at h2
    exact ⟨nz m k h2, h2⟩
   ·rintro ⟨_, h2⟩
    have h2 : nzC (cellOf m k) = true := h2
    exact ⟨nz l k (by rw [hc]; exact h2), by show nzC (cellOf l k) = true; rw [hc]; exact h2⟩
  rw [e]
  congr 1
  exact List.map_congr_left (fun k _ => hc k)
 ·have hb : ¬ (keysK m).all (fitK m) = true := fun hb => ha ((fit_all l).2 (fun k => by rw [hf]; exact (fit_all m).1 hb k))
  rw [if_neg ha, if_neg hb]
theorem ofK_code (l : List S112) : (ofK l).2 = 0 ∨ ofK l = ([], 4) := by
 rw [ofK_eq]
 by_cases h : (keysK l).all (fitK l) = true
 ·rw [if_pos h]; exact .inl rfl
 ·rw [if_neg h]; exact .inr rfl
theorem ofK_fit {l : List S112} (h : (ofK l).2 = 0) : ∀ k, fitK l k = true := by
 rw [ofK_eq] at h
 by_cases hf : (keysK l).all (fitK l) = true
 ·exact (fit_all l).1 hf
 ·rw [if_neg hf] at h; cases h
theorem ofK_ok {l : List S112} (h : ∀ k, fitK l k = true) : ofK l = (((keysK l).map (cellOf l)).filter nzC, 0) := by
 rw [ofK_eq, if_pos ((fit_all l).2 h)]
theorem ps_map (P : S40 → Bool) (l : List S112) : ∀ (ks : List S40), psA P (ks.map (cellOf l)) = ((ks.filter P).map (sumA l)).sum ∧ psB P (ks.map (cellOf l)) = ((ks.filter P).map (sumB l)).sum
 | [] => ⟨rfl, rfl⟩
 | k :: t => by
  have ih := ps_map P l t
  rw [List.map_cons, psA_cons, psB_cons, ih.1, ih.2]
  by_cases h : P k = true
  ·rw [List.filter_cons_of_pos h, if_pos (by exact h), if_pos (by exact h)]; exact ⟨rfl, rfl⟩
  ·rw [List.filter_cons_of_neg h, if_neg (by exact h), if_neg (by exact h), Int.zero_add, Int.zero_add]; exact ⟨rfl, rfl⟩
theorem ps_nz (P : S40 → Bool) : ∀ (l : List S112), psA P (l.filter nzC) = psA P l ∧ psB P (l.filter nzC) = psB P l
 | [] => ⟨rfl, rfl⟩
 | c :: r => by
  have ih := ps_nz P r
  by_cases h : nzC c = true
  ·rw [List.filter_cons_of_pos h, psA_cons, psB_cons, psA_cons, psB_cons, ih.1, ih.2]; exact ⟨rfl, rfl⟩
  ·rw [List.filter_cons_of_neg h, psA_cons, psB_cons, ih.1, ih.2]
   unfold nzC at h
   rw [decide_eq_true_iff] at h
   have h1 : c.f1 = 0 := by omega
   have h2 : c.f2 = 0 := by omega
   rw [h1, h2]
   constructor <;> (split <;> omega)
theorem sumz_zero {α : Type} (f : α → Int) : ∀ (l : List α), (∀ x ∈ l, f x = 0) → (l.map f).sum = 0
 | [], _ => rfl
 | a :: l, h => by rw [List.map_cons, List.sum_cons, h a (by simp), sumz_zero f l (fun x hx => h x (by simp [hx]))]; rfl
theorem sum_one (f : S40 → Int) (a : S40) : ∀ (ks : List S40), SS ks → a ∈ ks → (∀ k ∈ ks, k ≠ a → f k = 0) → (ks.map f).sum = f a
 | [], _, h, _ => by simp at h
 | k :: t, hs, h, h0 => by
  have hs' := List.pairwise_cons.1 hs
  rw [List.map_cons, List.sum_cons]
  by_cases e : k = a
  ·subst e
   rw [sumz_zero f t (fun x hx => h0 x (by simp [hx]) (fun e => by
    have := hs'.1 x hx
    rw [e, cmpK_self] at this
    omega))]
   omega
  ·rw [h0 k (by simp) e, Int.zero_add]
   exact sum_one f a t hs'.2 (by rcases List.mem_cons.1 h with h | h; exact absurd h.symm e; exact h) (fun x hx hne => h0 x (by simp [hx]) hne)
theorem sum_addf (f g : S40 → Int) : ∀ (ks : List S40), (ks.map (fun k => f k + g k)).sum = (ks.map f).sum + (ks.map g).sum
 | [] => rfl
 | k :: t => by
  have ih := sum_addf f g t
  simp only [List.map_cons, List.sum_cons]
  omega
theorem sum_keys (P : S40 → Bool) (ks : List S40) (hs : SS ks) : ∀ (l : List S112), (∀ c ∈ l, c.f0 ∈ ks) → ((ks.filter P).map (sumA l)).sum = psA P l ∧ ((ks.filter P).map (sumB l)).sum = psB P l
 | [], _ => ⟨sumz_zero _ _ (fun _ _ => rfl), sumz_zero _ _ (fun _ _ => rfl)⟩
 | c :: r, h => by
  have ih := sum_keys P ks hs r (fun x hx => h x (by simp [hx]))
  have eA : sumA (c :: r) = fun k => (if isK k c.f0 = true then c.f1 else 0) + sumA r k := funext fun k => psA_cons (isK k) c r
  have eB : sumB (c :: r) = fun k => (if isK k c.f0 = true then c.f2 else 0) + sumB r k := funext fun k => psB_cons (isK k) c r
  rw [eA, eB, sum_addf, sum_addf, ih.1, ih.2, psA_cons, psB_cons]
  have hss : SS (ks.filter P) := hs.filter _
  by_cases hp : P c.f0 = true
  ·have hm : c.f0 ∈ ks.filter P := List.mem_filter.2 ⟨h c (by simp), hp⟩
   have hz : ∀ (v : Int), ∀ k ∈ ks.filter P, k ≠ c.f0 → (if isK k c.f0 = true then v else 0) = 0 := fun v k _ hne => if_neg (fun e => hne (isK_iff.1 e))
   rw [sum_one _ c.f0 _ hss hm (hz c.f1), sum_one _ c.f0 _ hss hm (hz c.f2), if_pos hp, if_pos hp, if_pos (isK_iff.2 rfl), if_pos (isK_iff.2 rfl)]
   exact ⟨rfl, rfl⟩
  ·have hz : ∀ (v : Int), ∀ k ∈ ks.filter P, (if isK k c.f0 = true then v else 0) = 0 := fun v k hk => if_neg (fun e => hp (by rw [← isK_iff.1 e]; exact (List.mem_filter.1 hk).2))
   rw [sumz_zero _ _ (hz c.f1), sumz_zero _ _ (hz c.f2), if_neg hp, if_neg hp]
   exact ⟨rfl, rfl⟩
theorem ps_ofK {l : List S112} (h : (ofK l).2 = 0) (P : S40 → Bool) : psA P (ofK l).1 = psA P l ∧ psB P (ofK l).1 = psB P l := by
 rw [ofK_ok (ofK_fit h)]
 have h1 := ps_nz P ((keysK l).map (cellOf l))
 have h2 := ps_map P l (keysK l)
 have h3 := sum_keys P (keysK l) (ss_keysK l) l (fun c hc => (mem_keysK c.f0 l).2 ⟨c, hc, rfl⟩)
 exact ⟨h1.1.trans (h2.1.trans h3.1), h1.2.trans (h2.2.trans h3.2)⟩
def RightL (s : List S112) : Prop := (∀ c ∈ s, badC c = false) ∧ SS (s.map S112.f0)
theorem bad_iff (c : S112) : badC c = false ↔ nzC c = true ∧ fitB c.f1 = true ∧ fitB c.f2 = true := by
 unfold badC nzC
 by_cases h1 : c.f1 = 0 <;> by_cases h2 : c.f2 = 0 <;> cases fitB c.f1 <;> cases fitB c.f2 <;> simp [h1, h2]
theorem right_ofK (l : List S112) : RightL (ofK l).1 := by
 rcases ofK_code l with h | h
 ·have hf := ofK_fit h
  rw [ofK_ok hf]
  refine ⟨fun c hc => ?_, ?_⟩
  ·have h1 := List.mem_filter.1 hc
   obtain ⟨k, hk, rfl⟩ := List.mem_map.1 h1.1
   have h2 := hf k
   unfold fitK at h2
   rw [Bool.and_eq_true] at h2
   exact (bad_iff _).2 ⟨h1.2, h2.1, h2.2⟩
  ·refine List.Pairwise.sublist (List.filter_sublist.map _) ?_
   rw [List.map_map, show (S112.f0 ∘ cellOf l) = id from rfl, List.map_id]
   exact ss_keysK l
 ·rw [h]
  exact ⟨fun c hc => by simp at hc, List.Pairwise.nil⟩
theorem keysK_ss : ∀ (s : List S112), SS (s.map S112.f0) → keysK s = s.map S112.f0 := fun s h =>
 ss_unique (ss_keysK s) h (fun k => by rw [mem_keysK, List.mem_map])
theorem ps_in (s : List S112) (h : SS (s.map S112.f0)) : ∀ c ∈ s, sumA s c.f0 = c.f1 ∧ sumB s c.f0 = c.f2 := by
 induction s with
 | nil => intro c hc; simp at hc
 | cons x r ih =>
  have h' := List.pairwise_cons.1 h
  intro c hc
  have hx : ∀ y ∈ r, cmpK x.f0 y.f0 < 0 := fun y hy => h'.1 y.f0 (List.mem_map.2 ⟨y, hy, rfl⟩)
  rcases List.mem_cons.1 hc with rfl | hc
  ·rw [sumA_ps, sumB_ps, psA_cons, psB_cons, if_pos (isK_iff.2 rfl), if_pos (isK_iff.2 rfl), psA_zero (fun y hy => by unfold isK; exact decide_eq_false (by have := hx y hy; omega)), psB_zero (fun y hy => by unfold isK; exact decide_eq_false (by have := hx y hy; omega))]
   exact ⟨Int.add_zero _, Int.add_zero _⟩
  ·have hn : ¬ isK c.f0 x.f0 = true := fun e => by
    have h1 := hx c hc
    rw [isK_iff.1 e, cmpK_self] at h1
    omega
   rw [sumA_ps, sumB_ps, psA_cons, psB_cons, if_neg hn, if_neg hn, Int.zero_add, Int.zero_add]
   exact ih h'.2 c hc
theorem ofK_right {s : List S112} (h : RightL s) : ofK s = (s, 0) := by
 have hk := keysK_ss s h.2
 have hc : ∀ c ∈ s, cellOf s c.f0 = c := fun c hc => by
  unfold cellOf
  have := ps_in s h.2 c hc
  rw [this.1, this.2]
 have hall : (keysK s).all (fitK s) = true := by
  rw [List.all_eq_true]
  intro k hk
  obtain ⟨c, hc0, rfl⟩ := (mem_keysK k s).1 hk
  have h1 := (bad_iff c).1 (h.1 c hc0)
  have h2 := ps_in s h.2 c hc0
  unfold fitK
  rw [h2.1, h2.2, h1.2.1, h1.2.2]
  rfl
 rw [ofK_eq, if_pos hall, hk, List.map_map]
 have e : s.map (cellOf s ∘ S112.f0) = s := by
  have : s.map (cellOf s ∘ S112.f0) = s.map id := List.map_congr_left (fun c hc0 => hc c hc0)
  rw [this, List.map_id]
 rw [e, List.filter_eq_self.2 (fun c hc0 => ((bad_iff c).1 (h.1 c hc0)).1)]
theorem insK_len (k : S40) : ∀ (ks : List S40), (insK k ks).length ≤ ks.length + 1
 | [] => Nat.le_refl _
 | a :: b => by
  have ih := insK_len k b
  unfold insK
  by_cases h1 : cmpK k a < 0
  ·rw [if_pos h1]; simp
  ·rw [if_neg h1]
   by_cases h2 : cmpK k a = 0
   ·rw [if_pos h2]; simp
   ·rw [if_neg h2]; simp only [List.length_cons]; omega
theorem keysK_le : ∀ (l : List S112), (keysK l).length ≤ l.length
 | [] => Nat.le_refl _
 | c :: r => by
  have := insK_len c.f0 (keysK r)
  have := keysK_le r
  unfold keysK
  simp only [List.length_cons]
  omega
theorem ofK_le (l : List S112) : (ofK l).1.length ≤ l.length := by
 rcases ofK_code l with h | h
 ·rw [ofK_ok (ofK_fit h)]
  refine Nat.le_trans (List.length_filter_le _ _) ?_
  rw [List.length_map]
  exact keysK_le l
 ·rw [h]; exact Nat.zero_le _
theorem ofK_len {l : List S112} (h : OkS l) : (ofK l).1.length ≤ 1000000 := Nat.le_trans (ofK_le l) h.1
theorem okS_right {s : List S112} (h : RightL s) (hl : s.length ≤ 1000000) : OkS s :=
 ⟨hl, fun x hx => ⟨fit_i64 ((bad_iff x).1 (h.1 x hx)).2.1, fit_i64 ((bad_iff x).1 (h.1 x hx)).2.2⟩⟩
theorem okS_ofK {l : List S112} (h : OkS l) : OkS (ofK l).1 := okS_right (right_ofK l) (ofK_len h)
end Go.Proofs.YtppcjoaghlecmaaDoor.P
namespace Go.Proofs.YtppcjoaghlecmaaDoor.P
open Go.RowKit Go.Sort Go.Proofs.YtppcjoaghlecmaaDoorW.PrintWords Go.Proofs.YtppcjoaghlecmaaDoorW.PrintLast Go.Proofs.YtppcjoaghlecmaaDoorW.PrintMore Go.Maps Go.ChangeShapes Go.WideShapes Go.WideMaps Go.Shelf
set_option linter.unusedVariables false
set_option linter.unusedSimpArgs false
def GoodE (E : List S29) : Prop := ∀ x ∈ E, (chkE x).2 = 0
theorem GoodE.nil : GoodE [] := fun x hx => by cases hx
theorem GoodE.post {E : List S29} (h : GoodE E) (x : S29) : GoodE (postE E x) := by
 unfold postE
 by_cases hc : postC E x = 0
 rotate_left
 ·rw [if_neg hc]
  exact h
 rw [if_pos hc]
 intro y hy
 rcases List.mem_append.1 hy with hy | hy
 ·exact h y hy
 ·rw [List.mem_singleton] at hy
  subst hy
  unfold postC at hc
  by_cases h0 : (chkE y).2 = 0
  ·exact h0
  rw [if_pos h0] at hc
  exact hc
theorem postE_len (E : List S29) (x : S29) : (postE E x).length ≤ E.length + 1 := by
 unfold postE
 split
 ·simp
 ·omega
def selC (E : List S29) (q : Qy) : List S112 := ((E.filter (selB q)).map rawL).flatten
def sheetE (E : List S29) (q : Qy) : List S112 × Int := ofK (selC E q)
def findE (E : List S29) (q : Qy) (key : S40) : List Int := ((E.filter (selB q)).filter (fun x => (rawL x).any (fun y => matchK key y.f0))).map S29.f0
theorem raw_len (x : S29) : (rawL x).length = x.f8.length := by unfold rawL; rw [List.length_map]
theorem good_raw {x : S29} (h : (chkE x).2 = 0) : rawL x ≠ [] ∧ (rawL x).length ≤ 100 ∧ ∀ c ∈ rawL x, i64ok c.f1 ∧ i64ok c.f2 := by
 obtain ⟨h1, h2, _⟩ := chk_two h
 have hl := head_len h1
 have hr := raw_len x
 refine ⟨fun e => ?_, by omega, fun c hc => ?_⟩
 ·rw [e] at hr
  simp at hr
  omega
 ·unfold rawL at hc
  obtain ⟨y, hy, rfl⟩ := List.mem_map.1 hc
  have := line_bnd (h2 y hy)
  unfold i64ok
  show (_ ∧ y.f2 ≤ _) ∧ _ ∧ y.f3 ≤ _
  constructor <;> constructor <;> (try show _ ≤ y.f2) <;> (try show _ ≤ y.f3) <;> omega
theorem flat_len {α β : Type} (f : α → List β) (n : Nat) : ∀ (l : List α), (∀ x ∈ l, (f x).length ≤ n) → ((l.map f).flatten).length ≤ l.length * n
 | [], _ => by simp
 | x :: r, h => by
  have h1 := h x (by simp)
  have h2 := flat_len f n r (fun y hy => h y (by simp [hy]))
  simp only [List.map_cons, List.flatten_cons, List.length_append, List.length_cons, Nat.succ_mul]
  omega
theorem okS_sel {E : List S29} (hg : GoodE E) (hl : E.length ≤ 1000) (q : Qy) : OkS (selC E q) := by
 have hf : (E.filter (selB q)).length ≤ E.length := List.length_filter_le _ _
 refine ⟨?_, fun c hc => ?_⟩
 ·have := flat_len rawL 100 (E.filter (selB q)) (fun x hx => (good_raw (hg x (List.mem_filter.1 hx).1)).2.1)
  unfold selC
  omega
 ·unfold selC at hc
  obtain ⟨l, hl2, hc⟩ := List.mem_flatten.1 hc
  obtain ⟨x, hx, rfl⟩ := List.mem_map.1 hl2
  exact (good_raw (hg x (List.mem_filter.1 hx).1)).2.2 c hc
theorem sel_bridge {L : List Pst} (h : ∀ c ∈ L, c.C = rawL c.h) (q : Qy) : ((L.filter (keepSel q)).map Pst.C).flatten = selC (L.map Pst.h) q := by
 unfold selC
 rw [List.filter_map, List.map_map]
 congr 1
 refine List.map_congr_left (fun c hc => ?_)
 exact h c (List.mem_filter.1 hc).1
theorem find_bridge {L : List Pst} (h : ∀ c ∈ L, c.C = rawL c.h) (q : Qy) (key : S40) : findK L q key = findE (L.map Pst.h) q key := by
 unfold findK findE
 rw [List.filter_map, List.filter_map, List.map_map]
 have : List.filter (hasM key) (L.filter (keepSel q)) = List.filter ((fun x => (rawL x).any (fun y => matchK key y.f0)) ∘ Pst.h) (L.filter (selB q ∘ Pst.h)) := by
  refine List.filter_congr (fun c hc => ?_)
  unfold hasM
  rw [h c (List.mem_filter.1 hc).1]
  rfl
 rw [this]
 rfl
structure LiveE (w0 w : World) (p m : Nat) (E : List S29) : Prop where
 led : LedE w w0.heap.size p m E
 bel : Below w0.heap.size w0 w
theorem LiveE.below {w0 w w' : World} {p m : Nat} {E : List S29} (h : LiveE w0 w p m E) (hb : Below w.heap.size w w') : LiveE w0 w' p m E := ⟨h.led.below hb, below_then h.bel h.bel.size hb⟩
theorem LiveE.made (w : World) : Calls Tryd.prog 22 #[] w fun e w' => ∃ p m, e = .returned (.pointer (some ⟨p, 0, none⟩)) ∧ LiveE w w' p m [] := by
 refine (lnew_calls w).mono ?_
 rintro e w' ⟨p, m, rfl, h1, h2⟩
 exact ⟨p, m, rfl, ⟨[], h1, rfl, fun c hc => by cases hc⟩, h2⟩
theorem LiveE.tab {w0 w : World} {p m : Nat} {E : List S29} (h : LiveE w0 w p m E) (hT : Tab w0) : Tab w := hT.below h.bel
theorem LiveE.post {w0 w : World} {p m : Nat} {E : List S29} (h : LiveE w0 w p m E) (hT : Tab w0) (x : S29) (A : Option Addr) (c : Nat) (hC : Kd.C k109 w A x.f8.length x.f8) (hc : x.f8.length ≤ c) (hf : FitE x) (hlen : E.length ≤ 100000) :
  Calls Tryd.prog 20 #[.pointer (some ⟨p, 0, none⟩), enV x A c] w fun e w' => e = .returned (.int .i64 (postC E x)) ∧ LiveE w0 w' p m (postE E x) ∧ But (fun k => k = m) w w' := by
 refine (post_calls x A c w h.led hC hc (h.tab hT) hf hlen).mono ?_
 rintro e w' ⟨he, h1, h2⟩
 exact ⟨he, ⟨h1, But.below h.bel h2 h.bel.size (fun k hk => by have := h.led.lowm; omega)⟩, h2⟩
theorem LiveE.sheet {w0 w : World} {p m : Nat} {E : List S29} (h : LiveE w0 w p m E) (hg : GoodE E) (hl : E.length ≤ 1000) (q : Qy) :
  Calls Tryd.prog 19 #[.pointer (some ⟨p, 0, none⟩), qyV q] w fun e w' => ∃ v, e = .returned (.tuple #[v, .int .i64 (sheetE E q).2]) ∧ Kd.R k112 112 w' w.heap.size (fun _ => True) v (sheetE E q).1 ∧ Below w.heap.size w w' ∧ LiveE w0 w' p m E := by
 obtain ⟨L, hL, rfl, hC⟩ := h.led
 have hgd : ∀ c ∈ L, (chkE c.h).2 = 0 := fun c hc => hg c.h (List.mem_map.2 ⟨c, hc, rfl⟩)
 rw [List.length_map] at hl
 refine (callsIn_wide.1 (lsheet_in (some ⟨p, 0, none⟩) q _ L w (.inr ⟨p, m, rfl, hL⟩) hl (fun c hc => by rw [hC c hc]; have := (good_raw (hgd c hc)).2.1; omega) (fun c hc => by rw [hC c hc]; exact (good_raw (hgd c hc)).1) _ rfl (by rw [sel_bridge hC]; exact okS_sel hg (by rw [List.length_map]; exact hl) q))).mono ?_
 rw [sel_bridge hC]
 rintro e w' ⟨v, he, hr, hb⟩
 exact ⟨v, he, hr, hb, h.below hb⟩
theorem LiveE.find {w0 w : World} {p m : Nat} {E : List S29} (h : LiveE w0 w p m E) (hg : GoodE E) (hl : E.length ≤ 1000) (q : Qy) (key : S40) :
  Calls Tryd.prog 24 #[.pointer (some ⟨p, 0, none⟩), qyV q, keV key] w fun e w' => ∃ v, e = .returned v ∧ Kd.R (Kd.int .i64) 3 w' w.heap.size (fun _ => True) v (findE E q key) ∧ Below w.heap.size w w' ∧ LiveE w0 w' p m E := by
 obtain ⟨L, hL, rfl, hC⟩ := h.led
 have hgd : ∀ c ∈ L, (chkE c.h).2 = 0 := fun c hc => hg c.h (List.mem_map.2 ⟨c, hc, rfl⟩)
 rw [List.length_map] at hl
 refine (callsIn_wide.1 (lfind_in (some ⟨p, 0, none⟩) q key _ L w (.inr ⟨p, m, rfl, hL⟩) hl (fun c hc => by rw [hC c hc]; have := (good_raw (hgd c hc)).2.1; omega) (fun c hc => by rw [hC c hc]; exact (good_raw (hgd c hc)).1))).mono ?_
 rw [find_bridge hC]
 rintro e w' ⟨v, he, hr, hb⟩
 exact ⟨v, he, hr, hb, h.below hb⟩
theorem LiveE.len {w0 w : World} {p m : Nat} {E : List S29} (h : LiveE w0 w p m E) : Calls Tryd.prog 23 #[.pointer (some ⟨p, 0, none⟩)] w fun e w' => e = .returned (.int .i64 E.length) ∧ Below w.heap.size w w' := by
 obtain ⟨L, hL, rfl, hC⟩ := h.led
 rw [List.length_map]
 exact llen_calls hL
end Go.Proofs.YtppcjoaghlecmaaDoor.P
namespace Go.Proofs.YtppcjoaghlecmaaDoor.P
open Go.RowKit Go.Proofs.YtppcjoaghlecmaaDoorW.PrintWords Go.Proofs.YtppcjoaghlecmaaDoorW.PrintLast Go.Proofs.YtppcjoaghlecmaaDoorW.PrintMore
attribute [local go_sem] max2_int min2_int max_two min_two max_three min_three max_four min_four
set_option linter.unusedVariables false
set_option linter.unusedSimpArgs false
def accountinglaw20_move.f (a0 : Int) (a1 : Int) (a2 : Int) (a3 : ByteArray) (a4 : Int) : Option (Int × ByteArray × Int × Int × Int × ByteArray × ByteArray × Int × (List (S109))) := some (a0, (⟨#[97]⟩ : ByteArray), a1, a2, 1, (⟨#[]⟩ : ByteArray), (⟨#[117]⟩ : ByteArray), 0, (([(⟨a3, (⟨#[69, 85, 82]⟩ : ByteArray), a4, a4, (⟨#[]⟩ : ByteArray), (⟨#[]⟩ : ByteArray), ([] : List (S213))⟩ : S109), (⟨(⟨#[52, 48]⟩ : ByteArray), (⟨#[69, 85, 82]⟩ : ByteArray), wrap64 (-a4), wrap64 (-a4), (⟨#[]⟩ : ByteArray), (⟨#[]⟩ : ByteArray), ([] : List (S213))⟩ : S109)] : List (S109))))
set_option maxHeartbeats 8000000 in
set_option maxRecDepth 100000 in
theorem accountinglaw20_move.calls (a0 : Int) (a1 : Int) (a2 : Int) (a3 : ByteArray) (a4 : Int) (r1 : Int) (r2 : ByteArray) (r3 : Int) (r4 : Int) (r5 : Int) (r6 : ByteArray) (r7 : ByteArray) (r8 : Int) (r9 : List (S109)) (w : World) (h : accountinglaw20_move.f a0 a1 a2 a3 a4 = some (r1, r2, r3, r4, r5, r6, r7, r8, r9)) :
  Calls Tryd.prog 48 #[.int .i64 a0, .int .i64 a1, .int .i64 a2, .string a3, .int .i64 a4] w fun e w' => ∃ v8_ : Value, e = .returned (.agg #[.int .i64 r1, .string r2, .int .i64 r3, .int .i64 r4, .int .i64 r5, .string r6, .string r7, .int .i64 r8, v8_]) ∧ Kd.S k109 109 w' w.heap.size (fun _ => True) v8_ r9 ∧ Below w.heap.size w w' := by
 have hu29 := Tryd.underlying29
 have hu109 := Tryd.underlying109
 have HB := Aside0.mk (Below.refl w.heap.size w)
 have H : (some (a0, (⟨#[97]⟩ : ByteArray), a1, a2, 1, (⟨#[]⟩ : ByteArray), (⟨#[117]⟩ : ByteArray), 0, (([(⟨a3, (⟨#[69, 85, 82]⟩ : ByteArray), a4, a4, (⟨#[]⟩ : ByteArray), (⟨#[]⟩ : ByteArray), ([] : List (S213))⟩ : S109), (⟨(⟨#[52, 48]⟩ : ByteArray), (⟨#[69, 85, 82]⟩ : ByteArray), wrap64 (-a4), wrap64 (-a4), (⟨#[]⟩ : ByteArray), (⟨#[]⟩ : ByteArray), ([] : List (S213))⟩ : S109)] : List (S109))))) = some (r1, r2, r3, r4, r5, r6, r7, r8, r9) := h
 clear h
 obtain ⟨y161, hy161⟩ : ∃ y_ : List (S109), y_ = (([(⟨a3, (⟨#[69, 85, 82]⟩ : ByteArray), a4, a4, (⟨#[]⟩ : ByteArray), (⟨#[]⟩ : ByteArray), ([] : List (S213))⟩ : S109), (⟨(⟨#[52, 48]⟩ : ByteArray), (⟨#[69, 85, 82]⟩ : ByteArray), wrap64 (-a4), wrap64 (-a4), (⟨#[]⟩ : ByteArray), (⟨#[]⟩ : ByteArray), ([] : List (S213))⟩ : S109)] : List (S109))) := ⟨_, rfl⟩
 replace H : (some (a0, (⟨#[97]⟩ : ByteArray), a1, a2, 1, (⟨#[]⟩ : ByteArray), (⟨#[117]⟩ : ByteArray), 0, y161)) = some (r1, r2, r3, r4, r5, r6, r7, r8, r9) := by first | (rw [hy161]; with_reducible exact H) | (have H2_ := (Option.bind_some _ _).symm.trans H; rw [hy161]; with_reducible exact H2_) | (have H2_ := (Option.bind_some _ _).symm.trans H; with_reducible exact H2_) | with_reducible exact H | (rw [hy161]; exact H) | exact H
 have Ny161 := Aside0.mk hy161
 clear hy161
 simp only [Option.some.injEq, Prod.mk.injEq] at H
 obtain ⟨rfl, rfl, rfl, rfl, rfl, rfl, rfl, rfl, rfl⟩ := H
 go_enter Tryd.func48, Tryd.ntmps48
 go_wp2_with (first | ((with_reducible refine gate_dst (N := 10) rfl ?_); refine box_event ?hg (N := 10) ?hd (cs := #[.int .i64 0, .string (⟨#[]⟩ : ByteArray), .int .i64 0, .int .i64 0, .int .i64 0, .string (⟨#[]⟩ : ByteArray), .string (⟨#[]⟩ : ByteArray), .int .i64 0, .slice none 0 0]) (t := 29) ?hr ?_; (case hd => rfl); (case hg => rfl); (case hr => first | (go_simp; done) | (go_simp; rfl)); intro gb160 hg w6 hbox hb; have n0_ := Aside0.mk (below_step (bw_) hb); have n1_ := Aside0.mk (hbox); have n2_ := Aside0.mk (gw_ (w := w) hg); have n3_ := Aside0.mk (gw_ (w := w) hg); clear HB; have HB := n0_; have BK160 := n1_; have GW160 := n2_; have GE160 := n3_; clear n0_ n1_ n2_ n3_; clear hb hbox hg) | ((with_reducible refine gate_dst (N := 23) rfl ?_); refine Kd.S_lit k109 _ 109 ?hg (N := 23) ?hd (xs := ([(⟨a3, (⟨#[69, 85, 82]⟩ : ByteArray), a4, a4, (⟨#[]⟩ : ByteArray), (⟨#[]⟩ : ByteArray), ([] : List (S213))⟩ : S109), (⟨(⟨#[52, 48]⟩ : ByteArray), (⟨#[69, 85, 82]⟩ : ByteArray), wrap64 (-a4), wrap64 (-a4), (⟨#[]⟩ : ByteArray), (⟨#[]⟩ : ByteArray), ([] : List (S213))⟩ : S109)] : List (S109))) (inner := [.string a3, .string (⟨#[69, 85, 82]⟩ : ByteArray), .int .i64 a4, .int .i64 a4, .string (⟨#[]⟩ : ByteArray), .string (⟨#[]⟩ : ByteArray), .slice none 0 0, .string (⟨#[52, 48]⟩ : ByteArray), .string (⟨#[69, 85, 82]⟩ : ByteArray), .int .i64 (wrap64 (-a4)), .int .i64 (wrap64 (-a4)), .string (⟨#[]⟩ : ByteArray), .string (⟨#[]⟩ : ByteArray), .slice none 0 0]) (ok := fun _ => True) (okp := fun _ => True) ?hr ?hp (fun _ hk => hk) trivial (Below.refl _ _) (Nat.le_refl _) (by simp) ?_; (case hd => rfl); (case hg => rfl); (case hr => first | (go_simp; done) | (go_simp; rfl)); (case hp => exact (Reps.c7 (show Kd.M k109 _ _ _ (⟨a3, (⟨#[69, 85, 82]⟩ : ByteArray), a4, a4, (⟨#[]⟩ : ByteArray), (⟨#[]⟩ : ByteArray), ([] : List (S213))⟩ : S109) [.string a3, .string (⟨#[69, 85, 82]⟩ : ByteArray), .int .i64 a4, .int .i64 a4, .string (⟨#[]⟩ : ByteArray), .string (⟨#[]⟩ : ByteArray), .slice none 0 0] from (k109_mkM _ _ _ (⟨a3, (⟨#[69, 85, 82]⟩ : ByteArray), a4, a4, (⟨#[]⟩ : ByteArray), (⟨#[]⟩ : ByteArray), ([] : List (S213))⟩ : S109) (Kd.R_nil _ _ _ _ _))) (Reps.c7 (show Kd.M k109 _ _ _ (⟨(⟨#[52, 48]⟩ : ByteArray), (⟨#[69, 85, 82]⟩ : ByteArray), wrap64 (-a4), wrap64 (-a4), (⟨#[]⟩ : ByteArray), (⟨#[]⟩ : ByteArray), ([] : List (S213))⟩ : S109) [.string (⟨#[52, 48]⟩ : ByteArray), .string (⟨#[69, 85, 82]⟩ : ByteArray), .int .i64 (wrap64 (-a4)), .int .i64 (wrap64 (-a4)), .string (⟨#[]⟩ : ByteArray), .string (⟨#[]⟩ : ByteArray), .slice none 0 0] from (k109_mkM _ _ _ (⟨(⟨#[52, 48]⟩ : ByteArray), (⟨#[69, 85, 82]⟩ : ByteArray), wrap64 (-a4), wrap64 (-a4), (⟨#[]⟩ : ByteArray), (⟨#[]⟩ : ByteArray), ([] : List (S213))⟩ : S109) (Kd.R_nil _ _ _ _ _))) (Reps.none _ _)))); intro v162 w7 ho8 hb hg_ hnew_; clear hg_ hnew_; (first | rw [← Ny161.out] at ho8 | (simp only [Int.reduceToNat] at ho8; rw [← Ny161.out] at ho8)); have n0_ := Aside0.mk (Kd.S_lower ho8 (below_size (bwx_))); have n1_ := Aside0.mk (bb_ BK160 hb); have n2_ := Aside0.mk (below_step (bwx_) hb); clear BK160; clear HB; have HO163 := n0_; have BK160 := n1_; have HB := n2_; clear n0_ n1_ n2_; clear hb ho8; obtain ⟨Ao9, co9, eo9⟩ := Kd.S_slice HO163.out; subst eo9; obtain ⟨hcz10_0, hcz10_1, hcz10_2, hcz10_3, hcz10_4, hcz10_5, hcz10_6, hcz10_7, hcz10_8⟩ := bc9_ (w := w7) BK160.out; obtain ⟨hfz10_0, hfz10_1, hfz10_2, hfz10_3, hfz10_4, hfz10_5, hfz10_6, hfz10_7, hfz10_8⟩ := bf9_ BK160.out))
 refine bodyPost_ret (results_cell_row rfl _ _ gb160 29 #[.int .i64 a0, .string (⟨#[97]⟩ : ByteArray), .int .i64 a1, .int .i64 a2, .int .i64 1, .string (⟨#[]⟩ : ByteArray), .string (⟨#[117]⟩ : ByteArray), .int .i64 0, .slice Ao9 y161.length co9] (0, 0) _ rfl (by (with_reducible repeat (first | refine blk_drewN ?_ _ | refine blk_drew ?_ | refine blk_alloc ?_ _)); refine blk_put (cs := #[.int .i64 a0, .string (⟨#[97]⟩ : ByteArray), .int .i64 a1, .int .i64 a2, .int .i64 1, .string (⟨#[]⟩ : ByteArray), .string (⟨#[117]⟩ : ByteArray), .int .i64 0, .slice none 0 0]) ?_ 8 _ rfl; (with_reducible repeat (first | refine blk_drewN ?_ _ | refine blk_drew ?_ | refine blk_alloc ?_ _)); refine blk_put (cs := #[.int .i64 a0, .string (⟨#[97]⟩ : ByteArray), .int .i64 a1, .int .i64 a2, .int .i64 1, .string (⟨#[]⟩ : ByteArray), .string (⟨#[117]⟩ : ByteArray), .int .i64 0, .slice none 0 0]) ?_ 7 _ rfl; (with_reducible repeat (first | refine blk_drewN ?_ _ | refine blk_drew ?_ | refine blk_alloc ?_ _)); refine blk_put (cs := #[.int .i64 a0, .string (⟨#[97]⟩ : ByteArray), .int .i64 a1, .int .i64 a2, .int .i64 1, .string (⟨#[]⟩ : ByteArray), .string (⟨#[]⟩ : ByteArray), .int .i64 0, .slice none 0 0]) ?_ 6 _ rfl; (with_reducible repeat (first | refine blk_drewN ?_ _ | refine blk_drew ?_ | refine blk_alloc ?_ _)); refine blk_put (cs := #[.int .i64 a0, .string (⟨#[97]⟩ : ByteArray), .int .i64 a1, .int .i64 a2, .int .i64 1, .string (⟨#[]⟩ : ByteArray), .string (⟨#[]⟩ : ByteArray), .int .i64 0, .slice none 0 0]) ?_ 5 _ rfl; (with_reducible repeat (first | refine blk_drewN ?_ _ | refine blk_drew ?_ | refine blk_alloc ?_ _)); refine blk_put (cs := #[.int .i64 a0, .string (⟨#[97]⟩ : ByteArray), .int .i64 a1, .int .i64 a2, .int .i64 0, .string (⟨#[]⟩ : ByteArray), .string (⟨#[]⟩ : ByteArray), .int .i64 0, .slice none 0 0]) ?_ 4 _ rfl; (with_reducible repeat (first | refine blk_drewN ?_ _ | refine blk_drew ?_ | refine blk_alloc ?_ _)); refine blk_put (cs := #[.int .i64 a0, .string (⟨#[97]⟩ : ByteArray), .int .i64 a1, .int .i64 0, .int .i64 0, .string (⟨#[]⟩ : ByteArray), .string (⟨#[]⟩ : ByteArray), .int .i64 0, .slice none 0 0]) ?_ 3 _ rfl; (with_reducible repeat (first | refine blk_drewN ?_ _ | refine blk_drew ?_ | refine blk_alloc ?_ _)); refine blk_put (cs := #[.int .i64 a0, .string (⟨#[97]⟩ : ByteArray), .int .i64 0, .int .i64 0, .int .i64 0, .string (⟨#[]⟩ : ByteArray), .string (⟨#[]⟩ : ByteArray), .int .i64 0, .slice none 0 0]) ?_ 2 _ rfl; (with_reducible repeat (first | refine blk_drewN ?_ _ | refine blk_drew ?_ | refine blk_alloc ?_ _)); refine blk_put (cs := #[.int .i64 a0, .string (⟨#[]⟩ : ByteArray), .int .i64 0, .int .i64 0, .int .i64 0, .string (⟨#[]⟩ : ByteArray), .string (⟨#[]⟩ : ByteArray), .int .i64 0, .slice none 0 0]) ?_ 1 _ rfl; (with_reducible repeat (first | refine blk_drewN ?_ _ | refine blk_drew ?_ | refine blk_alloc ?_ _)); refine blk_put (cs := #[.int .i64 0, .string (⟨#[]⟩ : ByteArray), .int .i64 0, .int .i64 0, .int .i64 0, .string (⟨#[]⟩ : ByteArray), .string (⟨#[]⟩ : ByteArray), .int .i64 0, .slice none 0 0]) ?_ 0 _ rfl; (with_reducible repeat (first | refine blk_drewN ?_ _ | refine blk_drew ?_ | refine blk_alloc ?_ _)); exact BK160.out) Tryd.underlying29 rfl (by kernel_rfl)) rfl ?_
 exact ⟨_, ew_, by (with_reducible repeat (first | apply Kd.S_alloc | apply Kd.S_drewN | apply Kd.S_drew)); exact Kd.S_mono (Kd.S_far (p := ⟨gb160, 8, none⟩) (Kd.S_far (p := ⟨gb160, 7, none⟩) (Kd.S_far (p := ⟨gb160, 6, none⟩) (Kd.S_far (p := ⟨gb160, 5, none⟩) (Kd.S_far (p := ⟨gb160, 4, none⟩) (Kd.S_far (p := ⟨gb160, 3, none⟩) (Kd.S_far (p := ⟨gb160, 2, none⟩) (Kd.S_far (p := ⟨gb160, 1, none⟩) (Kd.S_far (p := ⟨gb160, 0, none⟩) (Kd.S_types HO163.out BK160.out (by decide)) (fun _ hk => hk.2) (.int .i64 a0)) (fun _ hk => hk.2) (.string (⟨#[97]⟩ : ByteArray))) (fun _ hk => hk.2) (.int .i64 a1)) (fun _ hk => hk.2) (.int .i64 a2)) (fun _ hk => hk.2) (.int .i64 1)) (fun _ hk => hk.2) (.string (⟨#[]⟩ : ByteArray))) (fun _ hk => hk.2) (.string (⟨#[117]⟩ : ByteArray))) (fun _ hk => hk.2) (.int .i64 0)) (fun _ hk => hk.2) (.slice Ao9 y161.length co9)) (fun _ hk => trivial), bwx_⟩
def accountingref20_Same.l0 : Nat → List Int → List Int → Int → Option (Bool)
 | 0, _, _, _ => none
 | k + 1, x0, x1, x5 => if x5 < (x0.length : Int) then (if 0 ≤ x5 then (if x5 < (x1.length : Int) then (if (rd x0 x5) = (rd x1 x5) then (accountingref20_Same.l0 k x0 x1 (wrap64 (x5 + 1))) else (some false)) else (none)) else (none)) else (some true)
def accountingref20_Same.f (k : Nat) (l0 : List Int) (l1 : List Int) : Option (Bool) := if (l0.length : Int) = (l1.length : Int) then (accountingref20_Same.l0 k l0 l1 0) else (some false)
set_option maxHeartbeats 8000000 in
set_option maxRecDepth 100000 in
theorem accountingref20_Same.calls (k : Nat) (A0 : Option Addr) (c0 : Nat) (l0 : List Int) (A1 : Option Addr) (c1 : Nat) (l1 : List Int) (r : Bool) (w : World) (hr0 : Kd.C (Kd.int .i64) w A0 l0.length l0) (hc0 : l0.length ≤ c0) (hr1 : Kd.C (Kd.int .i64) w A1 l1.length l1) (hc1 : l1.length ≤ c1) (h : accountingref20_Same.f k l0 l1 = some r) :
  Calls Tryd.prog 49 #[.slice A0 l0.length c0, .slice A1 l1.length c1] w fun e w' => e = .returned (.bool r) ∧ Drawn0 w w' := by
 have HR0 := Aside0.mk hr0
 have HC0 := Aside0.mk hc0
 clear hr0 hc0
 have HR1 := Aside0.mk hr1
 have HC1 := Aside0.mk hc1
 clear hr1 hc1
 have H : (if (l0.length : Int) = (l1.length : Int) then (accountingref20_Same.l0 k l0 l1 0) else (some false)) = some r := h
 clear h
 by_cases c3 : (l0.length : Int) = (l1.length : Int)
 ·rw [if_pos c3] at H
  have c3b0 : ((l0.length : Int) == (l1.length : Int)) = true := beq_iff_eq.mpr c3
  have c3b1 : ((l0.length : Int) != (l1.length : Int)) = false := bne_eq_false_iff_eq.mpr c3
  have c3b2 : (l0.length == l1.length) = true := by first | simpa using c3 | (simp at c3 ⊢; omega)
  clear c3
  have H' := Aside0.mk H
  clear H
  go_enter Tryd.func49, Tryd.ntmps49
  go_wp2
  repeat (go_quiet (fail); try go_wp2)
  go_loopg [5] k (fun kq v5 w' => ∃ (x5_1 : Int), v5 = .int .i64 x5_1 ∧ Aside0 (accountingref20_Same.l0 kq l0 l1 x5_1 = some r) ∧ Aside0 (kq ≤ k) ∧ Drawn0 w w')
  case atStart => exact ⟨(0), sm_, H', ⟨Nat.le_refl _⟩, by repeat (first | exact Drawn0.refl _ | apply Drawn0.step)⟩
  case round =>
   clear H'
   try clear c1
   try clear p2
   try clear c3
   try clear c3b0
   try clear c3b1
   try clear c3b2
   obtain ⟨x5_1, rfl, HA, HK1, ⟨m1, rfl⟩⟩ := hrel
   cases gk with
   | zero => exact absurd HA.out (by simp [accountingref20_Same.l0])
   | succ k1 =>
    have H := HA.out
    clear HA
    simp only [accountingref20_Same.l0] at H
    by_cases c4 : x5_1 < (l0.length : Int)
    rotate_left
    ·rw [if_neg c4] at H
     have c4b0 : decide (x5_1 < (l0.length : Int)) = false := decide_eq_false c4
     clear c4
     obtain rfl := Option.some.inj H
     go_wp2
     repeat (go_quiet (fail); try go_wp2)
     go_ret
     exact ⟨by first | rfl | (simp; done) | (simp [*]; done), by repeat (first | exact Drawn0.refl _ | apply Drawn0.step)⟩
    rw [if_pos c4] at H
    have c4b0 : decide (x5_1 < (l0.length : Int)) = true := decide_eq_true c4
    clear c4
    by_cases c5 : 0 ≤ x5_1
    rotate_left
    ·rw [if_neg c5] at H
     exact absurd H (by simp)
    rw [if_pos c5] at H
    have c5b0 : decide (0 ≤ x5_1) = true := decide_eq_true c5
    clear c5
    by_cases c6 : x5_1 < (l1.length : Int)
    rotate_left
    ·rw [if_neg c6] at H
     exact absurd H (by simp)
    rw [if_pos c6] at H
    have c6b0 : decide (x5_1 < (l1.length : Int)) = true := decide_eq_true c6
    clear c6
    by_cases c7 : (rd l0 x5_1) = (rd l1 x5_1)
    ·rw [if_pos c7] at H
     have c7b0 : ((rd l0 x5_1) == (rd l1 x5_1)) = true := beq_iff_eq.mpr c7
     have c7b1 : ((rd l0 x5_1) != (rd l1 x5_1)) = false := bne_eq_false_iff_eq.mpr c7
     clear c7
     have H' := Aside0.mk H
     clear H
     have p164 : 0 ≤ (x5_1 : Int) := odt_
     have q164 : x5_1 < (l0.length : Int) := odt_
     obtain ⟨ad164, e164, hx164_0⟩ := Kd.at_int HR0.out x5_1 p164 q164
     cases e164
     replace p164 := eq_true p164
     replace q164 := eq_true q164
     have p165 : 0 ≤ (x5_1 : Int) := odt_
     have q165 : x5_1 < (l1.length : Int) := odt_
     obtain ⟨ad165, e165, hx165_0⟩ := Kd.at_int HR1.out x5_1 p165 q165
     cases e165
     replace p165 := eq_true p165
     replace q165 := eq_true q165
     go_wp2
     repeat (go_quiet (fail); try go_wp2)
     go_roundg k1
     case measure => have := HK1.out; omega
     case rel => exact ⟨(wrap64 (x5_1 + 1)), sm_, H', ⟨by have := HK1.out; omega⟩, by repeat (first | exact Drawn0.refl _ | apply Drawn0.step)⟩
    rw [if_neg c7] at H
    have c7b0 : ((rd l0 x5_1) == (rd l1 x5_1)) = false := beq_eq_false_iff_ne.mpr c7
    have c7b1 : ((rd l0 x5_1) != (rd l1 x5_1)) = true := bne_iff_ne.mpr c7
    obtain rfl := Option.some.inj H
    have p164 : 0 ≤ (x5_1 : Int) := odt_
    have q164 : x5_1 < (l0.length : Int) := odt_
    obtain ⟨ad164, e164, hx164_0⟩ := Kd.at_int HR0.out x5_1 p164 q164
    cases e164
    replace p164 := eq_true p164
    replace q164 := eq_true q164
    have p165 : 0 ≤ (x5_1 : Int) := odt_
    have q165 : x5_1 < (l1.length : Int) := odt_
    obtain ⟨ad165, e165, hx165_0⟩ := Kd.at_int HR1.out x5_1 p165 q165
    cases e165
    replace p165 := eq_true p165
    replace q165 := eq_true q165
    go_wp2
    repeat (go_quiet (fail); try go_wp2)
    go_ret
    exact ⟨by first | rfl | (simp; done) | (simp [*]; done), by repeat (first | exact Drawn0.refl _ | apply Drawn0.step)⟩
 ·rw [if_neg c3] at H
  have c3b0 : ((l0.length : Int) == (l1.length : Int)) = false := beq_eq_false_iff_ne.mpr c3
  have c3b1 : ((l0.length : Int) != (l1.length : Int)) = true := bne_iff_ne.mpr c3
  have c3b2 : (l0.length == l1.length) = false := by first | simpa using c3 | (simp at c3 ⊢; omega)
  obtain rfl := Option.some.inj H
  go_enter Tryd.func49, Tryd.ntmps49
  go_wp2
  repeat (go_quiet (fail); try go_wp2)
  go_ret
  exact ⟨by first | rfl | (simp; done) | (simp [*]; done), by repeat (first | exact Drawn0.refl _ | apply Drawn0.step)⟩
end Go.Proofs.YtppcjoaghlecmaaDoor.P
namespace Go.Proofs.YtppcjoaghlecmaaDoor.P
open Go.RowKit Go.Proofs.YtppcjoaghlecmaaDoorW.PrintWords Go.Proofs.YtppcjoaghlecmaaDoorW.PrintLast Go.Proofs.YtppcjoaghlecmaaDoorW.PrintMore
set_option linter.unusedVariables false
set_option linter.unusedSimpArgs false
def bA : ByteArray := ⟨#[97]⟩
def eur : ByteArray := ⟨#[69, 85, 82]⟩
def b10 : ByteArray := ⟨#[49, 48]⟩
def b40 : ByteArray := ⟨#[52, 48]⟩
def nilB : ByteArray := ⟨#[]⟩
def mv (no book value amount : Int) : S29 := ⟨no, bA, book, value, 1, nilB, ⟨#[117]⟩, 0, [⟨b10, eur, amount, amount, nilB, nilB, []⟩, ⟨b40, eur, -amount, -amount, nilB, nilB, []⟩]⟩
def m1 := mv 1 100 90 5
def m2 := mv 2 110 80 7
def m3 := mv 3 109 109 1
def m4 := mv 4 110 110 1
theorem p1 : postC [] m1 = 0 := by decide +kernel
theorem p2 : postC [m1] m2 = 0 := by decide +kernel
theorem p3 : postC [m1, m2] m3 = 17 := by decide +kernel
theorem p4 : postC [m1, m2] m4 = 17 := by decide +kernel
def c1 (a : Int) : S112 := ⟨⟨bA, b10, eur, nilB, nilB⟩, a, a⟩
def c4 (a : Int) : S112 := ⟨⟨bA, b40, eur, nilB, nilB⟩, a, a⟩
theorem sh1 : sheetE [m1, m2] ⟨nilB, 0, 90, 100⟩ = ([c1 5, c4 (-5)], 0) := by kernel_rfl
theorem sh2 : sheetE [m1, m2] ⟨bA, 0, 85, 110⟩ = ([c1 7, c4 (-7)], 0) := by kernel_rfl
theorem sh3 : sheetE [m1, m2] ⟨⟨#[98]⟩, 0, 200, 200⟩ = ([], 0) := by kernel_rfl
theorem fd1 : findE [m1, m2] ⟨nilB, 0, 200, 200⟩ ⟨nilB, b10, nilB, nilB, nilB⟩ = [1, 2] := by kernel_rfl
theorem fd2 : findE [m1, m2] ⟨nilB, 85, 200, 200⟩ ⟨nilB, b40, nilB, nilB, nilB⟩ = [1] := by kernel_rfl
theorem sm1 : accountingref20_Same.f 10 [1, 2] [1, 2] = some true := by kernel_rfl
theorem sm2 : accountingref20_Same.f 10 [1] [1] = some true := by kernel_rfl
end Go.Proofs.YtppcjoaghlecmaaDoor.P
namespace Go.Proofs.YtppcjoaghlecmaaDoor.P
open Go.RowKit Go.Sort Go.Proofs.YtppcjoaghlecmaaDoorW.PrintWords Go.Proofs.YtppcjoaghlecmaaDoorW.PrintLast Go.Proofs.YtppcjoaghlecmaaDoorW.PrintMore Go.Maps Go.ChangeShapes Go.WideShapes Go.WideMaps Go.Shelf
set_option linter.unusedVariables false
set_option linter.unusedSimpArgs false
theorem move_is (no book value amt : Int) (hw : wrap64 (-amt) = -amt) (w : World) : Calls Tryd.prog 48 #[.int .i64 no, .int .i64 book, .int .i64 value, .string ⟨#[49, 48]⟩, .int .i64 amt] w fun e w' => ∃ A c, e = .returned (enV (mv no book value amt) A c) ∧ Kd.C k109 w' A (mv no book value amt).f8.length (mv no book value amt).f8 ∧ (mv no book value amt).f8.length ≤ c ∧ Below w.heap.size w w' := by
 have hf : accountinglaw20_move.f no book value b10 amt = some (no, bA, book, value, 1, nilB, ⟨#[117]⟩, 0, (mv no book value amt).f8) := by
  unfold accountinglaw20_move.f
  rw [hw]
  rfl
 refine (accountinglaw20_move.calls _ _ _ _ _ _ _ _ _ _ _ _ _ _ w hf).mono ?_
 rintro e w' ⟨v, rfl, hS, hb⟩
 obtain ⟨A, c, rfl, hc, hC⟩ := Kd.S_reads hS
 exact ⟨A, c, rfl, hC, hc, hb⟩
theorem mv_fit (no book value amt : Int) : FitE (mv no book value amt) := by
 intro y hy
 simp only [mv, List.mem_cons, List.not_mem_nil, or_false] at hy
 rcases hy with rfl | rfl <;> (show (3 : Nat) ≤ maxLen; decide)
theorem post_is {w0 w : World} {p m : Nat} {E E' : List S29} {r : Int} (x : S29) (hr : postC E x = r) (hE : postE E x = E') (h : LiveE w0 w p m E) (hT : Tab w0) (A : Option Addr) (c : Nat) (hC : Kd.C k109 w A x.f8.length x.f8) (hc : x.f8.length ≤ c) (hf : FitE x) (hlen : E.length ≤ 100000) :
  Calls Tryd.prog 20 #[.pointer (some ⟨p, 0, none⟩), enV x A c] w fun e w' => e = .returned (.int .i64 r) ∧ LiveE w0 w' p m E' := by
 refine (h.post hT x A c hC hc hf hlen).mono ?_
 rintro e w' ⟨he, h1, _⟩
 rw [hr] at he
 rw [hE] at h1
 exact ⟨he, h1⟩
theorem sheet_is {w0 w : World} {p m : Nat} {E : List S29} {s : List S112} (q : Qy) (hs : sheetE E q = (s, 0)) (h : LiveE w0 w p m E) (hg : GoodE E) (hl : E.length ≤ 1000) :
  Calls Tryd.prog 19 #[.pointer (some ⟨p, 0, none⟩), qyV q] w fun e w' => ∃ A c, e = .returned (.tuple #[.slice A s.length c, .int .i64 0]) ∧ Kd.C k112 w' A s.length s ∧ Below w.heap.size w w' ∧ LiveE w0 w' p m E := by
 refine (h.sheet hg hl q).mono ?_
 rw [hs]
 rintro e w' ⟨v, rfl, hr, hb, h2⟩
 obtain ⟨A, c, rfl, hc, hC⟩ := Kd.R_reads hr
 exact ⟨A, c, rfl, hC, hb, h2⟩
theorem find_is {w0 w : World} {p m : Nat} {E : List S29} {s : List Int} (q : Qy) (key : S40) (hs : findE E q key = s) (h : LiveE w0 w p m E) (hg : GoodE E) (hl : E.length ≤ 1000) :
  Calls Tryd.prog 24 #[.pointer (some ⟨p, 0, none⟩), qyV q, keV key] w fun e w' => ∃ A c, e = .returned (.slice A s.length c) ∧ s.length ≤ c ∧ Kd.C (Kd.int .i64) w' A s.length s ∧ Below w.heap.size w w' ∧ LiveE w0 w' p m E := by
 refine (h.find hg hl q key).mono ?_
 rw [hs]
 rintro e w' ⟨v, rfl, hr, hb, h2⟩
 obtain ⟨A, c, rfl, hc, hC⟩ := Kd.R_reads hr
 exact ⟨A, c, rfl, hc, hC, hb, h2⟩
theorem good2 : GoodE [m1, m2] := by
 intro x hx
 simp only [List.mem_cons, List.not_mem_nil, or_false] at hx
 rcases hx with rfl | rfl
 ·exact (by decide +kernel : (chkE m1).2 = 0)
 ·exact (by decide +kernel : (chkE m2).2 = 0)
theorem e1 : postE [] m1 = [m1] := by unfold postE; rw [if_pos p1]; rfl
theorem e2 : postE [m1] m2 = [m1, m2] := by unfold postE; rw [if_pos p2]; rfl
theorem e3 : postE [m1, m2] m3 = [m1, m2] := by unfold postE; rw [p3]; rfl
theorem e4 : postE [m1, m2] m4 = [m1, m2] := by unfold postE; rw [p4]; rfl
theorem lit_C (W : World) (xs : List Int) (hm : xs.length ≤ 1000 := by decide) : Kd.C (Kd.int .i64) (W.alloc (.cells (nums .i64 xs).toArray 3)) (some ⟨W.heap.size, 0, none⟩) xs.length xs :=
 (Kd.R_reads' (Kd.R_of_own (ok := fun _ => True) (own_lit W W.heap.size 3 .i64 xs (Nat.le_refl _) (by omega)) (fun _ _ => trivial))).2.2
set_option maxHeartbeats 8000000 in
set_option maxRecDepth 100000 in
theorem lives_calls (w0 : World) (hT : Tab w0) : Calls Tryd.prog 17 #[] w0 fun e w' => e = .returned (.bool true) ∧ Below w0.heap.size w0 w' := by
 have HT := Aside0.mk hT
 clear hT
 go_enter Tryd.func17, Tryd.ntmps17
 go_upto_region 2 with (go_at_call 22; refine (LiveE.made _).mono ?_; rintro e w1 ⟨p, m, rfl, h1⟩; have HL1 := Aside0.mk h1; clear h1)
 go_upto_region 3 with (first | (go_at_call 48; refine (move_is 1 100 90 5 (by unfold wrap64; omega) _).mono ?_; rintro e w2 ⟨A2, k2, rfl, hC2, hc2, hb2⟩; have HL2 := Aside0.mk (HL1.out.below hb2); have HC2 := Aside0.mk hC2; have Hc2 := Aside0.mk hc2; clear hC2 hc2 hb2) | (go_at_call 20; refine (post_is m1 p1 e1 HL2.out HT.out A2 k2 HC2.out Hc2.out (mv_fit _ _ _ _) (by simp)).mono ?_; rintro e w3 ⟨rfl, h3⟩; have HL3 := Aside0.mk h3; clear h3 HL1 HL2 HC2 Hc2))
 go_upto_region 4 with (first | (go_at_call 48; refine (move_is 2 110 80 7 (by unfold wrap64; omega) _).mono ?_; rintro e w4 ⟨A4, k4, rfl, hC2, hc2, hb2⟩; have HL4 := Aside0.mk (HL3.out.below hb2); have HC2 := Aside0.mk hC2; have Hc2 := Aside0.mk hc2; clear hC2 hc2 hb2) | (go_at_call 20; refine (post_is m2 p2 e2 HL4.out HT.out A4 k4 HC2.out Hc2.out (mv_fit _ _ _ _) (by simp)).mono ?_; rintro e w5 ⟨rfl, h3⟩; have HL5 := Aside0.mk h3; clear h3 HL3 HL4 HC2 Hc2))
 go_upto_region 5 with (first | (go_at_call 48; refine (move_is 3 109 109 1 (by unfold wrap64; omega) _).mono ?_; rintro e w6 ⟨A6, k6, rfl, hC2, hc2, hb2⟩; have HL6 := Aside0.mk (HL5.out.below hb2); have HC2 := Aside0.mk hC2; have Hc2 := Aside0.mk hc2; clear hC2 hc2 hb2) | (go_at_call 20; refine (post_is m3 p3 e3 HL6.out HT.out A6 k6 HC2.out Hc2.out (mv_fit _ _ _ _) (by simp)).mono ?_; rintro e w7 ⟨rfl, h3⟩; have HL7 := Aside0.mk h3; clear h3 HL5 HL6 HC2 Hc2))
 go_upto_region 6 with (first | (go_at_call 48; refine (move_is 4 110 110 1 (by unfold wrap64; omega) _).mono ?_; rintro e w8 ⟨A8, k8, rfl, hC2, hc2, hb2⟩; have HL8 := Aside0.mk (HL7.out.below hb2); have HC2 := Aside0.mk hC2; have Hc2 := Aside0.mk hc2; clear hC2 hc2 hb2) | (go_at_call 20; refine (post_is m4 p4 e4 HL8.out HT.out A8 k8 HC2.out Hc2.out (mv_fit _ _ _ _) (by simp)).mono ?_; rintro e w9 ⟨rfl, h3⟩; have HL9 := Aside0.mk h3; clear h3 HL7 HL8 HC2 Hc2))
 go_upto_region 7 with (go_at_call 19; refine (sheet_is ⟨nilB, 0, 90, 100⟩ sh1 HL9.out good2 (by simp)).mono ?_; rintro e wa ⟨Aa, ca, rfl, hC, hb, h2⟩; have HLa := Aside0.mk h2; have HCa := Aside0.mk hC; clear hC hb h2 HL9)
 go_upto_region 8 with (go_at_call 19; refine (sheet_is ⟨bA, 0, 85, 110⟩ sh2 HLa.out good2 (by simp)).mono ?_; rintro e wb ⟨Ab, cb, rfl, hC, hb, h2⟩; have HLb := Aside0.mk h2; have HCb := Aside0.mk hC; have HCa' := Aside0.mk (Kd.C_below HCa.out hb); clear hC hb h2 HLa HCa)
 go_upto_region 9 with (go_at_call 19; refine (sheet_is ⟨⟨#[98]⟩, 0, 200, 200⟩ sh3 HLb.out good2 (by simp)).mono ?_; rintro e wc ⟨Ac, cc, rfl, hC, hb, h2⟩; have HLc := Aside0.mk h2; have HCa := Aside0.mk (Kd.C_below HCa'.out hb); have HCb' := Aside0.mk (Kd.C_below HCb.out hb); clear hC hb h2 HLb HCa' HCb)
 go_upto_region 11 with (go_at_call 23; refine HLc.out.len.mono ?_; rintro e wd ⟨rfl, hb⟩; have HLd := Aside0.mk (HLc.out.below hb); have HCb := Aside0.mk (Kd.C_below HCb'.out hb); have HCa2 := Aside0.mk (Kd.C_below HCa.out hb); clear hb HLc HCb' HCa)
 go_upto_region 12 with (go_at_call 24; refine (find_is ⟨nilB, 0, 200, 200⟩ ⟨nilB, b10, nilB, nilB, nilB⟩ fd1 HLd.out good2 (by simp)).mono ?_; rintro e we ⟨An, cn, rfl, hcn, hC, hb, h2⟩; have HLe := Aside0.mk h2; have HCn := Aside0.mk hC; have Hcn := Aside0.mk hcn; have HCb2 := Aside0.mk (Kd.C_below HCb.out hb); have HCa3 := Aside0.mk (Kd.C_below HCa2.out hb); clear hC hb h2 hcn HLd HCb HCa2)
 go_upto_region 13 with (go_at_call 24; refine (find_is ⟨nilB, 85, 200, 200⟩ ⟨nilB, b40, nilB, nilB, nilB⟩ fd2 HLe.out good2 (by simp)).mono ?_; rintro e wf ⟨Am, cm, rfl, hcm, hC, hb, h2⟩; have HLf := Aside0.mk h2; have HCm := Aside0.mk hC; have Hcm := Aside0.mk hcm; have HCn2 := Aside0.mk (Kd.C_below HCn.out hb); have HCb3 := Aside0.mk (Kd.C_below HCb2.out hb); have HCa4 := Aside0.mk (Kd.C_below HCa3.out hb); clear hC hb h2 hcm HLe HCn HCb2 HCa3)
 obtain ⟨ada, ea, a0, a1, a2, a3, a4, a5, a6⟩ := at_T112 HCa4.out 0 (by omega) (by simp)
 obtain ⟨ada', ea', x0, x1, x2, x3, x4, x5, x6⟩ := at_T112 HCa4.out 1 (by omega) (by simp)
 obtain ⟨adb, eb, b0, b1, b2, b3, b4, b5, b6⟩ := at_T112 HCb3.out 0 (by omega) (by simp)
 cases ea
 cases ea'
 cases eb
 have ad0 : ∀ (d : Addr) (n : Nat), (d.add n).block = d.block ∧ (d.add n).off = d.off + n := fun d n => by unfold Addr.add; split <;> simp_all
 have a1' : wf.cell? ⟨ada.block, ada.off + 1, none⟩ = some (.string ⟨#[49, 48]⟩) := by
  rw [(ad0 _ _).1, (ad0 _ _).2] at a1
  exact a1
 have a6' : wf.cell? ⟨ada.block, ada.off + 6, none⟩ = some (.int .i64 5) := by
  rw [(ad0 _ _).1, (ad0 _ _).2] at a6
  exact a6
 have x6' : wf.cell? ⟨ada.block, ada.off + 7 + 6, none⟩ = some (.int .i64 (-5)) := by
  rw [(ad0 _ _).1, (ad0 _ _).2] at x6
  exact x6
 have b6' : wf.cell? ⟨adb.block, adb.off + 6, none⟩ = some (.int .i64 7) := by
  rw [(ad0 _ _).1, (ad0 _ _).2] at b6
  exact b6
 clear ad0
 clear a0 a1 a2 a3 a4 a5 a6 x0 x1 x2 x3 x4 x5 x6 b0 b1 b2 b3 b4 b5 b6
 have HBL := Aside0.mk HLf.out.bel
 have HS1 := Aside0.mk (show Calls Tryd.prog 49 #[.slice An 2 cn, .slice (some ⟨wf.heap.size, 0, none⟩) 2 2] (wf.alloc (.cells #[.int .i64 1, .int .i64 2] 3)) (fun e w' => e = .returned (.bool true) ∧ Drawn0 (wf.alloc (.cells #[.int .i64 1, .int .i64 2] 3)) w') from
  accountingref20_Same.calls 10 An cn [1, 2] (some ⟨wf.heap.size, 0, none⟩) 2 [1, 2] true _ (Kd.C_alloc HCn2.out _) Hcn.out (lit_C wf [1, 2]) (by simp) sm1)
 have HS2 := Aside0.mk (fun (W : World) (hW : Below wf.heap.size wf W) => show Calls Tryd.prog 49 #[.slice Am 1 cm, .slice (some ⟨W.heap.size, 0, none⟩) 1 1] (W.alloc (.cells #[.int .i64 1] 3)) (fun e w' => e = .returned (.bool true) ∧ Drawn0 (W.alloc (.cells #[.int .i64 1] 3)) w') from
  accountingref20_Same.calls 10 Am cm [1] (some ⟨W.heap.size, 0, none⟩) 1 [1] true _ (Kd.C_alloc (Kd.C_below HCm.out hW) _) Hcm.out (lit_C W [1]) (by simp) sm2)
 have HBF := Aside0.mk (below_alloc (Below.refl wf.heap.size wf) (.cells #[.int .i64 1, .int .i64 2] 3))
 clear HCn2 Hcn HCm Hcm HCa4 HCb3 HLf HT
 go_wp2_with (first
  | (go_at_call 49; (with_reducible refine HS1.out.mono ?_); rintro e wg ⟨rfl, hd⟩; have HDg := Aside0.mk (below_then HBF.out HBF.out.size hd.below); clear hd)
  | (go_at_call 49; (with_reducible refine (HS2.out _ HDg.out).mono ?_); rintro e wh ⟨rfl, hd⟩; have HDh := Aside0.mk hd.below; clear hd))
 go_ret
 refine ⟨rfl, ?_⟩
 have h1 : Below w0.heap.size w0 wg := below_then HBL.out HBL.out.size HDg.out
 exact below_then (below_alloc h1 _) (below_alloc h1 _).size HDh.out
end Go.Proofs.YtppcjoaghlecmaaDoor.P
namespace Go.Proofs.YtppcjoaghlecmaaDoor.P
open Go.RowKit Go.Proofs.YtppcjoaghlecmaaDoorW.PrintWords Go.Proofs.YtppcjoaghlecmaaDoorW.PrintLast Go.Proofs.YtppcjoaghlecmaaDoorW.PrintMore
attribute [local go_sem] max2_int min2_int max_two min_two max_three min_three max_four min_four
set_option linter.unusedVariables false
set_option linter.unusedSimpArgs false
mutual
def accountinglaw20_large.l0 : Nat → List (S29) → Int → Int → Option (Bool)
 | 0, _, _, _ => none
 | k + 1, x0, x3, x4 => if x4 < (x0.length : Int) then (if 0 ≤ x4 then (if (wrap64 (x3 + (((rd_T29 x0 x4).f8).length : Int))) > 400 then (accountinglaw20_large.j1 k x0 (wrap64 (x3 + (((rd_T29 x0 x4).f8).length : Int))) x4 true) else (accountinglaw20_large.j1 k x0 (wrap64 (x3 + (((rd_T29 x0 x4).f8).length : Int))) x4 (decide ((wrap64 ((wrap64 ((((rd_T29 x0 x4).f1).size : Int) + (((rd_T29 x0 x4).f5).size : Int))) + (((rd_T29 x0 x4).f6).size : Int))) > 400)))) else (none)) else (some false)
def accountinglaw20_large.j1 : Nat → List (S29) → Int → Int → Bool → Option (Bool)
 | 0, _, _, _, _ => none
 | k + 1, x0, x3, x4, x48 => if x48 = true then (some true) else (accountinglaw20_large.l1 k x0 x3 x4 0)
def accountinglaw20_large.l1 : Nat → List (S29) → Int → Int → Int → Option (Bool)
 | 0, _, _, _, _ => none
 | k + 1, x0, x3, x4, x5 => if 0 ≤ x4 then (if x4 < (x0.length : Int) then (if x5 < (((rd_T29 x0 x4).f8).length : Int) then (if 0 ≤ x5 then (if (((rd_T109 ((rd_T29 x0 x4).f8) x5).f6).length : Int) > 20 then (some true) else (if (wrap64 ((wrap64 ((wrap64 ((((rd_T109 ((rd_T29 x0 x4).f8) x5).f0).size : Int) + (((rd_T109 ((rd_T29 x0 x4).f8) x5).f1).size : Int))) + (((rd_T109 ((rd_T29 x0 x4).f8) x5).f4).size : Int))) + (((rd_T109 ((rd_T29 x0 x4).f8) x5).f5).size : Int))) > 400 then (some true) else (accountinglaw20_large.l1 k x0 x3 x4 (wrap64 (x5 + 1))))) else (none)) else (accountinglaw20_large.l0 k x0 x3 (wrap64 (x4 + 1)))) else (none)) else (none)
end
def accountinglaw20_large.f (k : Nat) (l0 : List (S29)) : Option (Bool) := if (l0.length : Int) > 40 then (some true) else (accountinglaw20_large.l0 k l0 0 0)
set_option maxHeartbeats 8000000 in
set_option maxRecDepth 100000 in
theorem accountinglaw20_large.calls (k : Nat) (A0 : Option Addr) (c0 : Nat) (l0 : List (S29)) (r : Bool) (w : World) (hr0 : Kd.C k29 w A0 l0.length l0) (hc0 : l0.length ≤ c0) (h : accountinglaw20_large.f k l0 = some r) :
  Calls Tryd.prog 16 #[.slice A0 l0.length c0] w fun e w' => e = .returned (.bool r) ∧ Below w.heap.size w w' := by
 have hu109 := Tryd.underlying109
 have HR0 := Aside0.mk hr0
 have HC0 := Aside0.mk hc0
 clear hr0 hc0
 have HB := Aside0.mk (Below.refl w.heap.size w)
 have H : (if (l0.length : Int) > 40 then (some true) else (accountinglaw20_large.l0 k l0 0 0)) = some r := h
 clear h
 by_cases c2 : (l0.length : Int) > 40
 ·rw [if_pos c2] at H
  have c2b0 : decide (40 < (l0.length : Int)) = true := decide_eq_true c2
  have c2b1 : decide (40 < l0.length) = true := decide_eq_true (by omega)
  clear c2
  obtain rfl := Option.some.inj H
  go_enter Tryd.func16, Tryd.ntmps16
  go_wp2
  repeat (go_quiet (fail); try go_wp2)
  go_ret
  exact ⟨ew_, bw_⟩
 ·rw [if_neg c2] at H
  have c2b0 : decide (40 < (l0.length : Int)) = false := decide_eq_false c2
  have c2b1 : decide (40 < l0.length) = false := decide_eq_false (by omega)
  clear c2
  have H' := Aside0.mk H
  clear H
  go_enter Tryd.func16, Tryd.ntmps16
  go_wp2
  repeat (go_quiet (fail); try go_wp2)
  go_loopg [3, 4] k (fun kq v3 v4 w' => ∃ (x3_1 : Int) (x4_1 : Int), v3 = .int .i64 x3_1 ∧ v4 = .int .i64 x4_1 ∧ Aside0 (accountinglaw20_large.l0 kq l0 x3_1 x4_1 = some r) ∧ Aside0 (kq ≤ k) ∧ Aside0 (Below w.heap.size w w'))
  case atStart => exact ⟨(0), (0), sm_, sm_, H', ⟨Nat.le_refl _⟩, ⟨bw_⟩⟩
  case round =>
   clear H'
   try clear c1
   try clear c2
   try clear c2b0
   try clear c2b1
   try clear p2
   obtain ⟨x3_1, x4_1, rfl, rfl, HA, HK1, HB⟩ := hrel
   cases gk with
   | zero => exact absurd HA.out (by simp [accountinglaw20_large.l0])
   | succ k1 =>
    have H := HA.out
    clear HA
    simp only [accountinglaw20_large.l0] at H
    by_cases c3 : x4_1 < (l0.length : Int)
    ·rw [if_pos c3] at H
     have c3b0 : decide (x4_1 < (l0.length : Int)) = true := decide_eq_true c3
     clear c3
     by_cases c4 : 0 ≤ x4_1
     rotate_left
     ·rw [if_neg c4] at H
      exact absurd H (by simp)
     rw [if_pos c4] at H
     have c4b0 : decide (0 ≤ x4_1) = true := decide_eq_true c4
     clear c4
     have HC5 := Aside0.mk H
     clear H
     have p101 : 0 ≤ (x4_1 : Int) := odt_
     have q101 : x4_1 < (l0.length : Int) := odt_
     obtain ⟨ad101, A101_8, c101_8, e101, hx101_0, hx101_1, hx101_2, hx101_3, hx101_4, hx101_5, hx101_6, hx101_7, hx101_8, hl101_8, hi101_8⟩ := at_T29 HR0.out x4_1 p101 q101
     cases e101
     replace hx101_0 := bcl_ HB hx101_0
     replace hx101_1 := bcl_ HB hx101_1
     replace hx101_2 := bcl_ HB hx101_2
     replace hx101_3 := bcl_ HB hx101_3
     replace hx101_4 := bcl_ HB hx101_4
     replace hx101_5 := bcl_ HB hx101_5
     replace hx101_6 := bcl_ HB hx101_6
     replace hx101_7 := bcl_ HB hx101_7
     replace hx101_8 := bcl_ HB hx101_8
     have HR101_8 := Aside0.mk hi101_8
     have HC101_8 := Aside0.mk hl101_8
     clear hi101_8 hl101_8
     replace p101 := eq_true p101
     replace q101 := eq_true q101
     go_upto_region 8 with (fail)
     repeat (go_quiet (fail); go_upto_region 8 with (fail))
     go_cut [48] (fun v48 wc => ∃ (kq : Nat) (x48_4 : Bool), v48 = .bool x48_4 ∧ Aside0 (accountinglaw20_large.j1 kq l0 (wrap64 (x3_1 + (((rd_T29 l0 x4_1).f8).length : Int))) x4_1 x48_4 = some r) ∧ Aside0 (kq ≤ k1) ∧ Aside0 (Below w.heap.size w wc))
     case first =>
      have H := HC5.out
      clear HC5
      by_cases c6 : (wrap64 (x3_1 + (((rd_T29 l0 x4_1).f8).length : Int))) > 400
      ·rw [if_pos c6] at H
       have c6b0 : decide (400 < (wrap64 (x3_1 + (((rd_T29 l0 x4_1).f8).length : Int)))) = true := decide_eq_true c6
       clear c6
       (first | rw [c6b0] | (simp only [i64_w, i32_w]; rw [c6b0]) | skip)
       have H' := Aside0.mk H
       clear H
       go_wp2
       repeat (go_quiet (fail); try go_wp2)
       go_meet
       case rel => exact ⟨_, (true), sm_, H', ⟨by have := HK1.out; first | omega | exact Nat.le_refl _⟩, ⟨bw_⟩⟩
      rw [if_neg c6] at H
      have c6b0 : decide (400 < (wrap64 (x3_1 + (((rd_T29 l0 x4_1).f8).length : Int)))) = false := decide_eq_false c6
      clear c6
      (first | rw [c6b0] | (simp only [i64_w, i32_w]; rw [c6b0]) | skip)
      have H' := Aside0.mk H
      clear H
      have p102 : 0 ≤ (x4_1 : Int) := odt_
      have q102 : x4_1 < (l0.length : Int) := odt_
      obtain ⟨ad102, A102_8, c102_8, e102, hx102_0, hx102_1, hx102_2, hx102_3, hx102_4, hx102_5, hx102_6, hx102_7, hx102_8, hl102_8, hi102_8⟩ := at_T29 HR0.out x4_1 p102 q102
      obtain rfl : ad101 = ad102 := (by injection e102)
      replace hx102_0 := bcl_ HB hx102_0
      replace hx102_1 := bcl_ HB hx102_1
      replace hx102_2 := bcl_ HB hx102_2
      replace hx102_3 := bcl_ HB hx102_3
      replace hx102_4 := bcl_ HB hx102_4
      replace hx102_5 := bcl_ HB hx102_5
      replace hx102_6 := bcl_ HB hx102_6
      replace hx102_7 := bcl_ HB hx102_7
      replace hx102_8 := bcl_ HB hx102_8
      have HR102_8 := Aside0.mk hi102_8
      have HC102_8 := Aside0.mk hl102_8
      clear hi102_8 hl102_8
      replace p102 := eq_true p102
      replace q102 := eq_true q102
      have p103 : 0 ≤ (x4_1 : Int) := odt_
      have q103 : x4_1 < (l0.length : Int) := odt_
      obtain ⟨ad103, A103_8, c103_8, e103, hx103_0, hx103_1, hx103_2, hx103_3, hx103_4, hx103_5, hx103_6, hx103_7, hx103_8, hl103_8, hi103_8⟩ := at_T29 HR0.out x4_1 p103 q103
      obtain rfl : ad101 = ad103 := (by injection e103)
      replace hx103_0 := bcl_ HB hx103_0
      replace hx103_1 := bcl_ HB hx103_1
      replace hx103_2 := bcl_ HB hx103_2
      replace hx103_3 := bcl_ HB hx103_3
      replace hx103_4 := bcl_ HB hx103_4
      replace hx103_5 := bcl_ HB hx103_5
      replace hx103_6 := bcl_ HB hx103_6
      replace hx103_7 := bcl_ HB hx103_7
      replace hx103_8 := bcl_ HB hx103_8
      have HR103_8 := Aside0.mk hi103_8
      have HC103_8 := Aside0.mk hl103_8
      clear hi103_8 hl103_8
      replace p103 := eq_true p103
      replace q103 := eq_true q103
      have ea_ := Option.some.inj (hx102_8.symm.trans hx103_8)
      injection ea_ with ea_ en_ ec_
      subst ea_
      subst ec_
      clear en_
      have p104 : 0 ≤ (x4_1 : Int) := odt_
      have q104 : x4_1 < (l0.length : Int) := odt_
      obtain ⟨ad104, A104_8, c104_8, e104, hx104_0, hx104_1, hx104_2, hx104_3, hx104_4, hx104_5, hx104_6, hx104_7, hx104_8, hl104_8, hi104_8⟩ := at_T29 HR0.out x4_1 p104 q104
      obtain rfl : ad101 = ad104 := (by injection e104)
      replace hx104_0 := bcl_ HB hx104_0
      replace hx104_1 := bcl_ HB hx104_1
      replace hx104_2 := bcl_ HB hx104_2
      replace hx104_3 := bcl_ HB hx104_3
      replace hx104_4 := bcl_ HB hx104_4
      replace hx104_5 := bcl_ HB hx104_5
      replace hx104_6 := bcl_ HB hx104_6
      replace hx104_7 := bcl_ HB hx104_7
      replace hx104_8 := bcl_ HB hx104_8
      have HR104_8 := Aside0.mk hi104_8
      have HC104_8 := Aside0.mk hl104_8
      clear hi104_8 hl104_8
      replace p104 := eq_true p104
      replace q104 := eq_true q104
      have ea_ := Option.some.inj (hx102_8.symm.trans hx104_8)
      injection ea_ with ea_ en_ ec_
      subst ea_
      subst ec_
      clear en_
      go_wp2
      repeat (go_quiet (fail); try go_wp2)
      go_meet
      case rel => exact ⟨_, (decide ((wrap64 ((wrap64 ((((rd_T29 l0 x4_1).f1).size : Int) + (((rd_T29 l0 x4_1).f5).size : Int))) + (((rd_T29 l0 x4_1).f6).size : Int))) > 400)), sm_, H', ⟨by have := HK1.out; first | omega | exact Nat.le_refl _⟩, ⟨bw_⟩⟩
     case rest =>
      clear HC5
      try clear c1
      try clear p1
      try clear q1
      try clear hx1
      try clear c2
      try clear c2b0
      try clear c2b1
      try clear p2
      try clear c3
      try clear c3b0
      try clear c4
      try clear c4b0
      try clear c6
      try clear c6b0
      try clear p6
      try clear hx101_0
      try clear hx101_1
      try clear hx101_2
      try clear hx101_3
      try clear hx101_4
      try clear hx101_5
      try clear hx101_6
      try clear hx101_7
      try clear hx101_8
      try clear hx102_0
      try clear hx102_1
      try clear hx102_2
      try clear hx102_3
      try clear hx102_4
      try clear hx102_5
      try clear hx102_6
      try clear hx102_7
      try clear hx102_8
      try clear hx103_0
      try clear hx103_1
      try clear hx103_2
      try clear hx103_3
      try clear hx103_4
      try clear hx103_5
      try clear hx103_6
      try clear hx103_7
      try clear hx103_8
      try clear hx104_0
      try clear hx104_1
      try clear hx104_2
      try clear hx104_3
      try clear hx104_4
      try clear hx104_5
      try clear hx104_6
      try clear hx104_7
      try clear hx104_8
      try clear p101
      try clear p102
      try clear p103
      try clear p104
      try clear p2
      try clear q101
      try clear q102
      try clear q103
      try clear q104
      obtain ⟨kq, x48_4, rfl, HA, HJ4, HB⟩ := hcut
      cases kq with
      | zero => exact absurd HA.out (by simp [accountinglaw20_large.j1])
      | succ kj4 =>
       have H := HA.out
       clear HA
       simp only [accountinglaw20_large.j1] at H
       by_cases c7 : x48_4 = true
       ·subst c7
        have H1 : (some true) = some r := by rw [if_pos rfl] at H; exact H
        clear H
        have H := H1
        clear H1
        obtain rfl := Option.some.inj H
        go_wp2
        repeat (go_quiet (fail); try go_wp2)
        go_ret
        exact ⟨ew_, bw_⟩
       replace c7 := Bool.eq_false_iff.mpr c7
       subst c7
       have H1 : (accountinglaw20_large.l1 kj4 l0 (wrap64 (x3_1 + (((rd_T29 l0 x4_1).f8).length : Int))) x4_1 0) = some r := by rw [if_neg (show ¬ (false = true) by decide)] at H; exact H
       clear H
       have H := H1
       clear H1
       have H' := Aside0.mk H
       clear H
       go_wp2
       repeat (go_quiet (fail); try go_wp2)
       go_loopg [5] kj4 (fun kq v5 w' => ∃ (x5_3 : Int), v5 = .int .i64 x5_3 ∧ Aside0 (accountinglaw20_large.l1 kq l0 (wrap64 (x3_1 + (((rd_T29 l0 x4_1).f8).length : Int))) x4_1 x5_3 = some r) ∧ Aside0 (kq ≤ kj4) ∧ Aside0 (Below w.heap.size w w'))
       case atStart => exact ⟨(0), sm_, H', ⟨Nat.le_refl _⟩, ⟨bw_⟩⟩
       case round =>
        clear H'
        try clear c1
        try clear p1
        try clear q1
        try clear hx1
        try clear c2
        try clear c2b0
        try clear c2b1
        try clear p2
        try clear c3
        try clear c3b0
        try clear c4
        try clear c4b0
        try clear c6
        try clear c6b0
        try clear p6
        try clear c7
        try clear hx101_0
        try clear hx101_1
        try clear hx101_2
        try clear hx101_3
        try clear hx101_4
        try clear hx101_5
        try clear hx101_6
        try clear hx101_7
        try clear hx101_8
        try clear hx102_0
        try clear hx102_1
        try clear hx102_2
        try clear hx102_3
        try clear hx102_4
        try clear hx102_5
        try clear hx102_6
        try clear hx102_7
        try clear hx102_8
        try clear hx103_0
        try clear hx103_1
        try clear hx103_2
        try clear hx103_3
        try clear hx103_4
        try clear hx103_5
        try clear hx103_6
        try clear hx103_7
        try clear hx103_8
        try clear hx104_0
        try clear hx104_1
        try clear hx104_2
        try clear hx104_3
        try clear hx104_4
        try clear hx104_5
        try clear hx104_6
        try clear hx104_7
        try clear hx104_8
        try clear p1
        try clear p101
        try clear p102
        try clear p103
        try clear p104
        try clear p2
        try clear p6
        try clear q1
        try clear q101
        try clear q102
        try clear q103
        try clear q104
        obtain ⟨x5_3, rfl, HA, HK3, HB⟩ := hrel
        cases gk with
        | zero => exact absurd HA.out (by simp [accountinglaw20_large.l1])
        | succ k3 =>
         have H := HA.out
         clear HA
         simp only [accountinglaw20_large.l1] at H
         by_cases c8 : 0 ≤ x4_1
         rotate_left
         ·rw [if_neg c8] at H
          exact absurd H (by simp)
         rw [if_pos c8] at H
         have c8b0 : decide (0 ≤ x4_1) = true := decide_eq_true c8
         clear c8
         by_cases c9 : x4_1 < (l0.length : Int)
         rotate_left
         ·rw [if_neg c9] at H
          exact absurd H (by simp)
         rw [if_pos c9] at H
         have c9b0 : decide (x4_1 < (l0.length : Int)) = true := decide_eq_true c9
         clear c9
         by_cases c10 : x5_3 < (((rd_T29 l0 x4_1).f8).length : Int)
         rotate_left
         ·rw [if_neg c10] at H
          have c10b0 : decide (x5_3 < (((rd_T29 l0 x4_1).f8).length : Int)) = false := decide_eq_false c10
          clear c10
          have H' := Aside0.mk H
          clear H
          have p105 : 0 ≤ (x4_1 : Int) := odt_
          have q105 : x4_1 < (l0.length : Int) := odt_
          obtain ⟨ad105, A105_8, c105_8, e105, hx105_0, hx105_1, hx105_2, hx105_3, hx105_4, hx105_5, hx105_6, hx105_7, hx105_8, hl105_8, hi105_8⟩ := at_T29 HR0.out x4_1 p105 q105
          obtain rfl : ad101 = ad105 := (by injection e105)
          replace hx105_0 := bcl_ HB hx105_0
          replace hx105_1 := bcl_ HB hx105_1
          replace hx105_2 := bcl_ HB hx105_2
          replace hx105_3 := bcl_ HB hx105_3
          replace hx105_4 := bcl_ HB hx105_4
          replace hx105_5 := bcl_ HB hx105_5
          replace hx105_6 := bcl_ HB hx105_6
          replace hx105_7 := bcl_ HB hx105_7
          replace hx105_8 := bcl_ HB hx105_8
          have HR105_8 := Aside0.mk hi105_8
          have HC105_8 := Aside0.mk hl105_8
          clear hi105_8 hl105_8
          replace p105 := eq_true p105
          replace q105 := eq_true q105
          go_wp2
          repeat (go_quiet (fail); try go_wp2)
          go_roundg k3
          case measure => have := HK1.out; have := HJ4.out; have := HK3.out; omega
          case rel => exact ⟨((wrap64 (x3_1 + (((rd_T29 l0 x4_1).f8).length : Int)))), (wrap64 (x4_1 + 1)), sm_, sm_, H', ⟨by have := HK1.out; have := HJ4.out; have := HK3.out; omega⟩, ⟨bw_⟩⟩
         rw [if_pos c10] at H
         have c10b0 : decide (x5_3 < (((rd_T29 l0 x4_1).f8).length : Int)) = true := decide_eq_true c10
         clear c10
         by_cases c11 : 0 ≤ x5_3
         rotate_left
         ·rw [if_neg c11] at H
          exact absurd H (by simp)
         rw [if_pos c11] at H
         have c11b0 : decide (0 ≤ x5_3) = true := decide_eq_true c11
         clear c11
         by_cases c12 : (((rd_T109 ((rd_T29 l0 x4_1).f8) x5_3).f6).length : Int) > 20
         ·rw [if_pos c12] at H
          have c12b0 : decide (20 < (((rd_T109 ((rd_T29 l0 x4_1).f8) x5_3).f6).length : Int)) = true := decide_eq_true c12
          have c12b1 : decide (20 < ((rd_T109 ((rd_T29 l0 x4_1).f8) x5_3).f6).length) = true := decide_eq_true (by omega)
          clear c12
          obtain rfl := Option.some.inj H
          have p105 : 0 ≤ (x4_1 : Int) := odt_
          have q105 : x4_1 < (l0.length : Int) := odt_
          obtain ⟨ad105, A105_8, c105_8, e105, hx105_0, hx105_1, hx105_2, hx105_3, hx105_4, hx105_5, hx105_6, hx105_7, hx105_8, hl105_8, hi105_8⟩ := at_T29 HR0.out x4_1 p105 q105
          obtain rfl : ad101 = ad105 := (by injection e105)
          replace hx105_0 := bcl_ HB hx105_0
          replace hx105_1 := bcl_ HB hx105_1
          replace hx105_2 := bcl_ HB hx105_2
          replace hx105_3 := bcl_ HB hx105_3
          replace hx105_4 := bcl_ HB hx105_4
          replace hx105_5 := bcl_ HB hx105_5
          replace hx105_6 := bcl_ HB hx105_6
          replace hx105_7 := bcl_ HB hx105_7
          replace hx105_8 := bcl_ HB hx105_8
          have HR105_8 := Aside0.mk hi105_8
          have HC105_8 := Aside0.mk hl105_8
          clear hi105_8 hl105_8
          replace p105 := eq_true p105
          replace q105 := eq_true q105
          have p106 : 0 ≤ (x4_1 : Int) := odt_
          have q106 : x4_1 < (l0.length : Int) := odt_
          obtain ⟨ad106, A106_8, c106_8, e106, hx106_0, hx106_1, hx106_2, hx106_3, hx106_4, hx106_5, hx106_6, hx106_7, hx106_8, hl106_8, hi106_8⟩ := at_T29 HR0.out x4_1 p106 q106
          obtain rfl : ad101 = ad106 := (by injection e106)
          replace hx106_0 := bcl_ HB hx106_0
          replace hx106_1 := bcl_ HB hx106_1
          replace hx106_2 := bcl_ HB hx106_2
          replace hx106_3 := bcl_ HB hx106_3
          replace hx106_4 := bcl_ HB hx106_4
          replace hx106_5 := bcl_ HB hx106_5
          replace hx106_6 := bcl_ HB hx106_6
          replace hx106_7 := bcl_ HB hx106_7
          replace hx106_8 := bcl_ HB hx106_8
          have HR106_8 := Aside0.mk hi106_8
          have HC106_8 := Aside0.mk hl106_8
          clear hi106_8 hl106_8
          replace p106 := eq_true p106
          replace q106 := eq_true q106
          have ea_ := Option.some.inj (hx105_8.symm.trans hx106_8)
          injection ea_ with ea_ en_ ec_
          subst ea_
          subst ec_
          clear en_
          have p107 : 0 ≤ (x5_3 : Int) := odt_
          have q107 : x5_3 < (((rd_T29 l0 x4_1).f8).length : Int) := odt_
          obtain ⟨ad107, A107_6, c107_6, e107, hx107_0, hx107_1, hx107_2, hx107_3, hx107_4, hx107_5, hx107_6, hl107_6, hi107_6⟩ := at_T109 HR106_8.out x5_3 p107 q107
          cases e107
          replace hx107_0 := bcl_ HB hx107_0
          replace hx107_1 := bcl_ HB hx107_1
          replace hx107_2 := bcl_ HB hx107_2
          replace hx107_3 := bcl_ HB hx107_3
          replace hx107_4 := bcl_ HB hx107_4
          replace hx107_5 := bcl_ HB hx107_5
          replace hx107_6 := bcl_ HB hx107_6
          have HR107_6 := Aside0.mk hi107_6
          have HC107_6 := Aside0.mk hl107_6
          clear hi107_6 hl107_6
          replace p107 := eq_true p107
          replace q107 := eq_true q107
          go_wp2_with (first | ((with_reducible refine gate_dst (N := 6) rfl ?_); (try (refine gate_guard (by rfl) ?_; dsimp only)); refine box_event ?hg (N := 6) ?hd (cs := #[.string (⟨#[]⟩ : ByteArray), .string (⟨#[]⟩ : ByteArray), .int .i64 0, .int .i64 0, .string (⟨#[]⟩ : ByteArray), .string (⟨#[]⟩ : ByteArray), .slice none 0 0]) (t := 109) ?hr ?_; (case hd => rfl); (case hg => rfl); (case hr => first | (go_simp; done) | (go_simp; rfl)); intro gb108 hg w13 hbox hb; have n0_ := Aside0.mk (below_step (bw_) hb); have n1_ := Aside0.mk (hbox); have n2_ := Aside0.mk (gw_ (w := w) hg); have n3_ := Aside0.mk (gw_ (w := w) hg); clear HB; have HB := n0_; have BK108 := n1_; have GW108 := n2_; have GE108 := n3_; clear n0_ n1_ n2_ n3_; clear hb hbox hg; obtain ⟨hcz14_0, hcz14_1, hcz14_2, hcz14_3, hcz14_4, hcz14_5, hcz14_6⟩ := bc7_ (w := w13) BK108.out; obtain ⟨hfz14_0, hfz14_1, hfz14_2, hfz14_3, hfz14_4, hfz14_5, hfz14_6⟩ := bf7_ BK108.out))
          repeat (go_quiet (first | ((with_reducible refine gate_dst (N := 6) rfl ?_); (try (refine gate_guard (by rfl) ?_; dsimp only)); refine box_event ?hg (N := 6) ?hd (cs := #[.string (⟨#[]⟩ : ByteArray), .string (⟨#[]⟩ : ByteArray), .int .i64 0, .int .i64 0, .string (⟨#[]⟩ : ByteArray), .string (⟨#[]⟩ : ByteArray), .slice none 0 0]) (t := 109) ?hr ?_; (case hd => rfl); (case hg => rfl); (case hr => first | (go_simp; done) | (go_simp; rfl)); intro gb108 hg w13 hbox hb; have n0_ := Aside0.mk (below_step (bw_) hb); have n1_ := Aside0.mk (hbox); have n2_ := Aside0.mk (gw_ (w := w) hg); have n3_ := Aside0.mk (gw_ (w := w) hg); clear HB; have HB := n0_; have BK108 := n1_; have GW108 := n2_; have GE108 := n3_; clear n0_ n1_ n2_ n3_; clear hb hbox hg; obtain ⟨hcz14_0, hcz14_1, hcz14_2, hcz14_3, hcz14_4, hcz14_5, hcz14_6⟩ := bc7_ (w := w13) BK108.out; obtain ⟨hfz14_0, hfz14_1, hfz14_2, hfz14_3, hfz14_4, hfz14_5, hfz14_6⟩ := bf7_ BK108.out)); try go_wp2_with (first | ((with_reducible refine gate_dst (N := 6) rfl ?_); (try (refine gate_guard (by rfl) ?_; dsimp only)); refine box_event ?hg (N := 6) ?hd (cs := #[.string (⟨#[]⟩ : ByteArray), .string (⟨#[]⟩ : ByteArray), .int .i64 0, .int .i64 0, .string (⟨#[]⟩ : ByteArray), .string (⟨#[]⟩ : ByteArray), .slice none 0 0]) (t := 109) ?hr ?_; (case hd => rfl); (case hg => rfl); (case hr => first | (go_simp; done) | (go_simp; rfl)); intro gb108 hg w13 hbox hb; have n0_ := Aside0.mk (below_step (bw_) hb); have n1_ := Aside0.mk (hbox); have n2_ := Aside0.mk (gw_ (w := w) hg); have n3_ := Aside0.mk (gw_ (w := w) hg); clear HB; have HB := n0_; have BK108 := n1_; have GW108 := n2_; have GE108 := n3_; clear n0_ n1_ n2_ n3_; clear hb hbox hg; obtain ⟨hcz14_0, hcz14_1, hcz14_2, hcz14_3, hcz14_4, hcz14_5, hcz14_6⟩ := bc7_ (w := w13) BK108.out; obtain ⟨hfz14_0, hfz14_1, hfz14_2, hfz14_3, hfz14_4, hfz14_5, hfz14_6⟩ := bf7_ BK108.out)))
          go_ret
          exact ⟨ew_, bwx_⟩
         rw [if_neg c12] at H
         have c12b0 : decide (20 < (((rd_T109 ((rd_T29 l0 x4_1).f8) x5_3).f6).length : Int)) = false := decide_eq_false c12
         have c12b1 : decide (20 < ((rd_T109 ((rd_T29 l0 x4_1).f8) x5_3).f6).length) = false := decide_eq_false (by omega)
         clear c12
         by_cases c15 : (wrap64 ((wrap64 ((wrap64 ((((rd_T109 ((rd_T29 l0 x4_1).f8) x5_3).f0).size : Int) + (((rd_T109 ((rd_T29 l0 x4_1).f8) x5_3).f1).size : Int))) + (((rd_T109 ((rd_T29 l0 x4_1).f8) x5_3).f4).size : Int))) + (((rd_T109 ((rd_T29 l0 x4_1).f8) x5_3).f5).size : Int))) > 400
         ·rw [if_pos c15] at H
          have c15b0 : decide (400 < (wrap64 ((wrap64 ((wrap64 ((((rd_T109 ((rd_T29 l0 x4_1).f8) x5_3).f0).size : Int) + (((rd_T109 ((rd_T29 l0 x4_1).f8) x5_3).f1).size : Int))) + (((rd_T109 ((rd_T29 l0 x4_1).f8) x5_3).f4).size : Int))) + (((rd_T109 ((rd_T29 l0 x4_1).f8) x5_3).f5).size : Int)))) = true := decide_eq_true c15
          clear c15
          obtain rfl := Option.some.inj H
          have p105 : 0 ≤ (x4_1 : Int) := odt_
          have q105 : x4_1 < (l0.length : Int) := odt_
          obtain ⟨ad105, A105_8, c105_8, e105, hx105_0, hx105_1, hx105_2, hx105_3, hx105_4, hx105_5, hx105_6, hx105_7, hx105_8, hl105_8, hi105_8⟩ := at_T29 HR0.out x4_1 p105 q105
          obtain rfl : ad101 = ad105 := (by injection e105)
          replace hx105_0 := bcl_ HB hx105_0
          replace hx105_1 := bcl_ HB hx105_1
          replace hx105_2 := bcl_ HB hx105_2
          replace hx105_3 := bcl_ HB hx105_3
          replace hx105_4 := bcl_ HB hx105_4
          replace hx105_5 := bcl_ HB hx105_5
          replace hx105_6 := bcl_ HB hx105_6
          replace hx105_7 := bcl_ HB hx105_7
          replace hx105_8 := bcl_ HB hx105_8
          have HR105_8 := Aside0.mk hi105_8
          have HC105_8 := Aside0.mk hl105_8
          clear hi105_8 hl105_8
          replace p105 := eq_true p105
          replace q105 := eq_true q105
          have p106 : 0 ≤ (x4_1 : Int) := odt_
          have q106 : x4_1 < (l0.length : Int) := odt_
          obtain ⟨ad106, A106_8, c106_8, e106, hx106_0, hx106_1, hx106_2, hx106_3, hx106_4, hx106_5, hx106_6, hx106_7, hx106_8, hl106_8, hi106_8⟩ := at_T29 HR0.out x4_1 p106 q106
          obtain rfl : ad101 = ad106 := (by injection e106)
          replace hx106_0 := bcl_ HB hx106_0
          replace hx106_1 := bcl_ HB hx106_1
          replace hx106_2 := bcl_ HB hx106_2
          replace hx106_3 := bcl_ HB hx106_3
          replace hx106_4 := bcl_ HB hx106_4
          replace hx106_5 := bcl_ HB hx106_5
          replace hx106_6 := bcl_ HB hx106_6
          replace hx106_7 := bcl_ HB hx106_7
          replace hx106_8 := bcl_ HB hx106_8
          have HR106_8 := Aside0.mk hi106_8
          have HC106_8 := Aside0.mk hl106_8
          clear hi106_8 hl106_8
          replace p106 := eq_true p106
          replace q106 := eq_true q106
          have ea_ := Option.some.inj (hx105_8.symm.trans hx106_8)
          injection ea_ with ea_ en_ ec_
          subst ea_
          subst ec_
          clear en_
          have p107 : 0 ≤ (x5_3 : Int) := odt_
          have q107 : x5_3 < (((rd_T29 l0 x4_1).f8).length : Int) := odt_
          obtain ⟨ad107, A107_6, c107_6, e107, hx107_0, hx107_1, hx107_2, hx107_3, hx107_4, hx107_5, hx107_6, hl107_6, hi107_6⟩ := at_T109 HR106_8.out x5_3 p107 q107
          cases e107
          replace hx107_0 := bcl_ HB hx107_0
          replace hx107_1 := bcl_ HB hx107_1
          replace hx107_2 := bcl_ HB hx107_2
          replace hx107_3 := bcl_ HB hx107_3
          replace hx107_4 := bcl_ HB hx107_4
          replace hx107_5 := bcl_ HB hx107_5
          replace hx107_6 := bcl_ HB hx107_6
          have HR107_6 := Aside0.mk hi107_6
          have HC107_6 := Aside0.mk hl107_6
          clear hi107_6 hl107_6
          replace p107 := eq_true p107
          replace q107 := eq_true q107
          go_wp2_with (first | ((with_reducible refine gate_dst (N := 6) rfl ?_); (try (refine gate_guard (by rfl) ?_; dsimp only)); refine box_event ?hg (N := 6) ?hd (cs := #[.string (⟨#[]⟩ : ByteArray), .string (⟨#[]⟩ : ByteArray), .int .i64 0, .int .i64 0, .string (⟨#[]⟩ : ByteArray), .string (⟨#[]⟩ : ByteArray), .slice none 0 0]) (t := 109) ?hr ?_; (case hd => rfl); (case hg => rfl); (case hr => first | (go_simp; done) | (go_simp; rfl)); intro gb108 hg w16 hbox hb; have n0_ := Aside0.mk (below_step (bw_) hb); have n1_ := Aside0.mk (hbox); have n2_ := Aside0.mk (gw_ (w := w) hg); have n3_ := Aside0.mk (gw_ (w := w) hg); clear HB; have HB := n0_; have BK108 := n1_; have GW108 := n2_; have GE108 := n3_; clear n0_ n1_ n2_ n3_; clear hb hbox hg; obtain ⟨hcz17_0, hcz17_1, hcz17_2, hcz17_3, hcz17_4, hcz17_5, hcz17_6⟩ := bc7_ (w := w16) BK108.out; obtain ⟨hfz17_0, hfz17_1, hfz17_2, hfz17_3, hfz17_4, hfz17_5, hfz17_6⟩ := bf7_ BK108.out))
          repeat (go_quiet (first | ((with_reducible refine gate_dst (N := 6) rfl ?_); (try (refine gate_guard (by rfl) ?_; dsimp only)); refine box_event ?hg (N := 6) ?hd (cs := #[.string (⟨#[]⟩ : ByteArray), .string (⟨#[]⟩ : ByteArray), .int .i64 0, .int .i64 0, .string (⟨#[]⟩ : ByteArray), .string (⟨#[]⟩ : ByteArray), .slice none 0 0]) (t := 109) ?hr ?_; (case hd => rfl); (case hg => rfl); (case hr => first | (go_simp; done) | (go_simp; rfl)); intro gb108 hg w16 hbox hb; have n0_ := Aside0.mk (below_step (bw_) hb); have n1_ := Aside0.mk (hbox); have n2_ := Aside0.mk (gw_ (w := w) hg); have n3_ := Aside0.mk (gw_ (w := w) hg); clear HB; have HB := n0_; have BK108 := n1_; have GW108 := n2_; have GE108 := n3_; clear n0_ n1_ n2_ n3_; clear hb hbox hg; obtain ⟨hcz17_0, hcz17_1, hcz17_2, hcz17_3, hcz17_4, hcz17_5, hcz17_6⟩ := bc7_ (w := w16) BK108.out; obtain ⟨hfz17_0, hfz17_1, hfz17_2, hfz17_3, hfz17_4, hfz17_5, hfz17_6⟩ := bf7_ BK108.out)); try go_wp2_with (first | ((with_reducible refine gate_dst (N := 6) rfl ?_); (try (refine gate_guard (by rfl) ?_; dsimp only)); refine box_event ?hg (N := 6) ?hd (cs := #[.string (⟨#[]⟩ : ByteArray), .string (⟨#[]⟩ : ByteArray), .int .i64 0, .int .i64 0, .string (⟨#[]⟩ : ByteArray), .string (⟨#[]⟩ : ByteArray), .slice none 0 0]) (t := 109) ?hr ?_; (case hd => rfl); (case hg => rfl); (case hr => first | (go_simp; done) | (go_simp; rfl)); intro gb108 hg w16 hbox hb; have n0_ := Aside0.mk (below_step (bw_) hb); have n1_ := Aside0.mk (hbox); have n2_ := Aside0.mk (gw_ (w := w) hg); have n3_ := Aside0.mk (gw_ (w := w) hg); clear HB; have HB := n0_; have BK108 := n1_; have GW108 := n2_; have GE108 := n3_; clear n0_ n1_ n2_ n3_; clear hb hbox hg; obtain ⟨hcz17_0, hcz17_1, hcz17_2, hcz17_3, hcz17_4, hcz17_5, hcz17_6⟩ := bc7_ (w := w16) BK108.out; obtain ⟨hfz17_0, hfz17_1, hfz17_2, hfz17_3, hfz17_4, hfz17_5, hfz17_6⟩ := bf7_ BK108.out)))
          go_ret
          exact ⟨ew_, bwx_⟩
         rw [if_neg c15] at H
         have c15b0 : decide (400 < (wrap64 ((wrap64 ((wrap64 ((((rd_T109 ((rd_T29 l0 x4_1).f8) x5_3).f0).size : Int) + (((rd_T109 ((rd_T29 l0 x4_1).f8) x5_3).f1).size : Int))) + (((rd_T109 ((rd_T29 l0 x4_1).f8) x5_3).f4).size : Int))) + (((rd_T109 ((rd_T29 l0 x4_1).f8) x5_3).f5).size : Int)))) = false := decide_eq_false c15
         clear c15
         have H' := Aside0.mk H
         clear H
         have p105 : 0 ≤ (x4_1 : Int) := odt_
         have q105 : x4_1 < (l0.length : Int) := odt_
         obtain ⟨ad105, A105_8, c105_8, e105, hx105_0, hx105_1, hx105_2, hx105_3, hx105_4, hx105_5, hx105_6, hx105_7, hx105_8, hl105_8, hi105_8⟩ := at_T29 HR0.out x4_1 p105 q105
         obtain rfl : ad101 = ad105 := (by injection e105)
         replace hx105_0 := bcl_ HB hx105_0
         replace hx105_1 := bcl_ HB hx105_1
         replace hx105_2 := bcl_ HB hx105_2
         replace hx105_3 := bcl_ HB hx105_3
         replace hx105_4 := bcl_ HB hx105_4
         replace hx105_5 := bcl_ HB hx105_5
         replace hx105_6 := bcl_ HB hx105_6
         replace hx105_7 := bcl_ HB hx105_7
         replace hx105_8 := bcl_ HB hx105_8
         have HR105_8 := Aside0.mk hi105_8
         have HC105_8 := Aside0.mk hl105_8
         clear hi105_8 hl105_8
         replace p105 := eq_true p105
         replace q105 := eq_true q105
         have p106 : 0 ≤ (x4_1 : Int) := odt_
         have q106 : x4_1 < (l0.length : Int) := odt_
         obtain ⟨ad106, A106_8, c106_8, e106, hx106_0, hx106_1, hx106_2, hx106_3, hx106_4, hx106_5, hx106_6, hx106_7, hx106_8, hl106_8, hi106_8⟩ := at_T29 HR0.out x4_1 p106 q106
         obtain rfl : ad101 = ad106 := (by injection e106)
         replace hx106_0 := bcl_ HB hx106_0
         replace hx106_1 := bcl_ HB hx106_1
         replace hx106_2 := bcl_ HB hx106_2
         replace hx106_3 := bcl_ HB hx106_3
         replace hx106_4 := bcl_ HB hx106_4
         replace hx106_5 := bcl_ HB hx106_5
         replace hx106_6 := bcl_ HB hx106_6
         replace hx106_7 := bcl_ HB hx106_7
         replace hx106_8 := bcl_ HB hx106_8
         have HR106_8 := Aside0.mk hi106_8
         have HC106_8 := Aside0.mk hl106_8
         clear hi106_8 hl106_8
         replace p106 := eq_true p106
         replace q106 := eq_true q106
         have ea_ := Option.some.inj (hx105_8.symm.trans hx106_8)
         injection ea_ with ea_ en_ ec_
         subst ea_
         subst ec_
         clear en_
         have p107 : 0 ≤ (x5_3 : Int) := odt_
         have q107 : x5_3 < (((rd_T29 l0 x4_1).f8).length : Int) := odt_
         obtain ⟨ad107, A107_6, c107_6, e107, hx107_0, hx107_1, hx107_2, hx107_3, hx107_4, hx107_5, hx107_6, hl107_6, hi107_6⟩ := at_T109 HR106_8.out x5_3 p107 q107
         cases e107
         replace hx107_0 := bcl_ HB hx107_0
         replace hx107_1 := bcl_ HB hx107_1
         replace hx107_2 := bcl_ HB hx107_2
         replace hx107_3 := bcl_ HB hx107_3
         replace hx107_4 := bcl_ HB hx107_4
         replace hx107_5 := bcl_ HB hx107_5
         replace hx107_6 := bcl_ HB hx107_6
         have HR107_6 := Aside0.mk hi107_6
         have HC107_6 := Aside0.mk hl107_6
         clear hi107_6 hl107_6
         replace p107 := eq_true p107
         replace q107 := eq_true q107
         go_wp2_with (first | ((with_reducible refine gate_dst (N := 6) rfl ?_); (try (refine gate_guard (by rfl) ?_; dsimp only)); refine box_event ?hg (N := 6) ?hd (cs := #[.string (⟨#[]⟩ : ByteArray), .string (⟨#[]⟩ : ByteArray), .int .i64 0, .int .i64 0, .string (⟨#[]⟩ : ByteArray), .string (⟨#[]⟩ : ByteArray), .slice none 0 0]) (t := 109) ?hr ?_; (case hd => rfl); (case hg => rfl); (case hr => first | (go_simp; done) | (go_simp; rfl)); intro gb108 hg w18 hbox hb; have n0_ := Aside0.mk (below_step (bw_) hb); have n1_ := Aside0.mk (hbox); have n2_ := Aside0.mk (gw_ (w := w) hg); have n3_ := Aside0.mk (gw_ (w := w) hg); clear HB; have HB := n0_; have BK108 := n1_; have GW108 := n2_; have GE108 := n3_; clear n0_ n1_ n2_ n3_; clear hb hbox hg; obtain ⟨hcz19_0, hcz19_1, hcz19_2, hcz19_3, hcz19_4, hcz19_5, hcz19_6⟩ := bc7_ (w := w18) BK108.out; obtain ⟨hfz19_0, hfz19_1, hfz19_2, hfz19_3, hfz19_4, hfz19_5, hfz19_6⟩ := bf7_ BK108.out))
         repeat (go_quiet (first | ((with_reducible refine gate_dst (N := 6) rfl ?_); (try (refine gate_guard (by rfl) ?_; dsimp only)); refine box_event ?hg (N := 6) ?hd (cs := #[.string (⟨#[]⟩ : ByteArray), .string (⟨#[]⟩ : ByteArray), .int .i64 0, .int .i64 0, .string (⟨#[]⟩ : ByteArray), .string (⟨#[]⟩ : ByteArray), .slice none 0 0]) (t := 109) ?hr ?_; (case hd => rfl); (case hg => rfl); (case hr => first | (go_simp; done) | (go_simp; rfl)); intro gb108 hg w18 hbox hb; have n0_ := Aside0.mk (below_step (bw_) hb); have n1_ := Aside0.mk (hbox); have n2_ := Aside0.mk (gw_ (w := w) hg); have n3_ := Aside0.mk (gw_ (w := w) hg); clear HB; have HB := n0_; have BK108 := n1_; have GW108 := n2_; have GE108 := n3_; clear n0_ n1_ n2_ n3_; clear hb hbox hg; obtain ⟨hcz19_0, hcz19_1, hcz19_2, hcz19_3, hcz19_4, hcz19_5, hcz19_6⟩ := bc7_ (w := w18) BK108.out; obtain ⟨hfz19_0, hfz19_1, hfz19_2, hfz19_3, hfz19_4, hfz19_5, hfz19_6⟩ := bf7_ BK108.out)); try go_wp2_with (first | ((with_reducible refine gate_dst (N := 6) rfl ?_); (try (refine gate_guard (by rfl) ?_; dsimp only)); refine box_event ?hg (N := 6) ?hd (cs := #[.string (⟨#[]⟩ : ByteArray), .string (⟨#[]⟩ : ByteArray), .int .i64 0, .int .i64 0, .string (⟨#[]⟩ : ByteArray), .string (⟨#[]⟩ : ByteArray), .slice none 0 0]) (t := 109) ?hr ?_; (case hd => rfl); (case hg => rfl); (case hr => first | (go_simp; done) | (go_simp; rfl)); intro gb108 hg w18 hbox hb; have n0_ := Aside0.mk (below_step (bw_) hb); have n1_ := Aside0.mk (hbox); have n2_ := Aside0.mk (gw_ (w := w) hg); have n3_ := Aside0.mk (gw_ (w := w) hg); clear HB; have HB := n0_; have BK108 := n1_; have GW108 := n2_; have GE108 := n3_; clear n0_ n1_ n2_ n3_; clear hb hbox hg; obtain ⟨hcz19_0, hcz19_1, hcz19_2, hcz19_3, hcz19_4, hcz19_5, hcz19_6⟩ := bc7_ (w := w18) BK108.out; obtain ⟨hfz19_0, hfz19_1, hfz19_2, hfz19_3, hfz19_4, hfz19_5, hfz19_6⟩ := bf7_ BK108.out)))
         go_roundg k3
         case measure => have := HK1.out; have := HJ4.out; have := HK3.out; omega
         case rel => exact ⟨(wrap64 (x5_3 + 1)), sm_, H', ⟨by have := HK1.out; have := HJ4.out; have := HK3.out; omega⟩, ⟨bwx_⟩⟩
    ·rw [if_neg c3] at H
     have c3b0 : decide (x4_1 < (l0.length : Int)) = false := decide_eq_false c3
     clear c3
     obtain rfl := Option.some.inj H
     go_wp2
     repeat (go_quiet (fail); try go_wp2)
     go_ret
     exact ⟨ew_, bw_⟩
end Go.Proofs.YtppcjoaghlecmaaDoor.P
namespace Go.Proofs.YtppcjoaghlecmaaDoor.P
open Go.RowKit Go.Proofs.YtppcjoaghlecmaaDoorW.PrintWords Go.Proofs.YtppcjoaghlecmaaDoorW.PrintLast Go.Proofs.YtppcjoaghlecmaaDoorW.PrintMore Go.Proofs.YtppcjoaghlecmaaDoor.Op
set_option linter.unusedVariables false
set_option linter.unusedSimpArgs false
def okLn (y : S109) : Prop := y.f0.size ≤ 140737488351232 ∧ y.f1.size ≤ 140737488351232 ∧ y.f4.size ≤ 140737488351232 ∧ y.f5.size ≤ 140737488351232 ∧ y.f6.length ≤ 140737488351232 ∧ ∀ t ∈ y.f6, t.f0.size ≤ 140737488351232 ∧ t.f1.size ≤ 140737488351232
def okEn (x : S29) : Prop := x.f1.size ≤ 140737488351232 ∧ x.f5.size ≤ 140737488351232 ∧ x.f6.size ≤ 140737488351232 ∧ x.f8.length ≤ 140737488351232 ∧ ∀ y ∈ x.f8, okLn y
instance (y : S109) : Decidable (okLn y) := by unfold okLn; exact inferInstance
instance (x : S29) : Decidable (okEn x) := by unfold okEn; exact inferInstance
theorem reach_eq : reachBytes = 140737488351232 := by decide
theorem fit_okLn {y : S109} (h : fit109 y) : okLn y := by
 obtain ⟨h0, h1, _, _, h4, h5, h6, h7⟩ := h
 unfold okLn
 rw [← reach_eq]
 exact ⟨h0, h1, h4, h5, h6, fun t ht => ⟨(h7 t ht).1, (h7 t ht).2⟩⟩
theorem fit_ok {x : S29} (h : fit29 x) : okEn x := by
 obtain ⟨_, h1, _, _, _, h5, h6, _, h8, h9⟩ := h
 unfold okEn
 rw [← reach_eq]
 exact ⟨h1, h5, h6, h8, fun y hy => fit_okLn (h9 y hy)⟩
def lnB (y : S109) : Bool := decide (20 < y.f6.length) || decide (400 < y.f0.size + y.f1.size + y.f4.size + y.f5.size)
def lgs : Nat → List S29 → Bool
 | _, [] => false
 | n, x :: r => (decide (400 < n + x.f8.length) || decide (400 < x.f1.size + x.f5.size + x.f6.size)) || (x.f8.any lnB || lgs (n + x.f8.length) r)
def largeB (l : List S29) : Bool := decide (40 < l.length) || lgs 0 l
theorem rd29 {l : List S29} {i : Nat} (h : i < l.length) : rd_T29 l (i : Int) = l[i] := by
 simp [rd_T29, h]
theorem ln_f (y : S109) (h : okLn y) : (if ((y.f6.length : Int) > 20) then (some true : Option Bool) else (if (wrap64 ((wrap64 ((wrap64 ((y.f0.size : Int) + (y.f1.size : Int))) + (y.f4.size : Int))) + (y.f5.size : Int))) > 400 then some true else none)) = if lnB y = true then some true else none := by
 obtain ⟨h0, h1, h4, h5, h6, _⟩ := h
 rw [w64t (x := (y.f0.size : Int) + (y.f1.size : Int)) (by omega) (by omega), w64t (x := (y.f0.size : Int) + (y.f1.size : Int) + (y.f4.size : Int)) (by omega) (by omega), w64t (by omega) (by omega)]
 unfold lnB
 by_cases c1 : 20 < y.f6.length
 ·rw [if_pos (show (y.f6.length : Int) > 20 by omega), decide_eq_true c1, Bool.true_or]; rfl
 ·rw [if_neg (show ¬ (y.f6.length : Int) > 20 by omega), decide_eq_false c1, Bool.false_or]
  by_cases c2 : 400 < y.f0.size + y.f1.size + y.f4.size + y.f5.size
  ·rw [if_pos (show (y.f0.size : Int) + (y.f1.size : Int) + (y.f4.size : Int) + (y.f5.size : Int) > 400 by omega), decide_eq_true c2]; rfl
  ·rw [if_neg (show ¬ (y.f0.size : Int) + (y.f1.size : Int) + (y.f4.size : Int) + (y.f5.size : Int) > 400 by omega), decide_eq_false c2]; rfl
theorem large_l1 (l : List S29) (hl : l.length ≤ 40) (hf : ∀ x ∈ l, okEn x) (i : Nat) (hi : i < l.length) (z : Int) (r : Bool) (hr : Ev (fun k => accountinglaw20_large.l0 k l z ((i + 1 : Nat) : Int)) r) : ∀ (n j : Nat), (l[i]).f8.length - j = n → j ≤ (l[i]).f8.length → Ev (fun k => accountinglaw20_large.l1 k l z (i : Int) (j : Int)) (((l[i]).f8.drop j).any lnB || r) := by
 have hx := hf _ (List.getElem_mem hi)
 have hlen := hx.2.2.2.1
 intro n
 induction n with
 | zero =>
  intro j hn hj
  obtain rfl : j = (l[i]).f8.length := by omega
  refine Ev.step (fun k => accountinglaw20_large.l1.eq_2 _ _ _ _ k) ?_
  have hw : wrap64 ((i : Int) + 1) = ((i + 1 : Nat) : Int) := by rw [w64t (by omega) (by omega)]; omega
  simp only [if_pos (show (0 : Int) ≤ (i : Int) by omega), if_pos (show (i : Int) < (l.length : Int) by omega), rd29 hi, if_neg (show ¬ (((l[i]).f8.length : Int) < ((l[i]).f8.length : Int)) by omega), hw, List.drop_length, List.any_nil, Bool.false_or]
  exact hr
 | succ n ih =>
  intro j hn hj
  have hjl : j < (l[i]).f8.length := by omega
  have hy := hx.2.2.2.2 _ (List.getElem_mem hjl)
  refine Ev.step (fun k => accountinglaw20_large.l1.eq_2 _ _ _ _ k) ?_
  have hw : wrap64 ((j : Int) + 1) = ((j + 1 : Nat) : Int) := by rw [w64t (by omega) (by omega)]; omega
  simp only [if_pos (show (0 : Int) ≤ (i : Int) by omega), if_pos (show (i : Int) < (l.length : Int) by omega), rd29 hi, if_pos (show ((j : Int) < ((l[i]).f8.length : Int)) by omega), if_pos (show (0 : Int) ≤ (j : Int) by omega), rd109 hjl, hw]
  rw [List.drop_eq_getElem_cons hjl, List.any_cons]
  have hL := ln_f _ hy
  have hi' := ih (j + 1) (by omega) (by omega)
  generalize (l[i]).f8[j] = y at hL
  by_cases c1 : (y.f6.length : Int) > 20
  ·simp only [if_pos c1]
   rw [if_pos c1] at hL
   have : lnB y = true := by
    by_cases c : lnB y = true
    ·exact c
    ·rw [if_neg c] at hL; cases hL
   rw [this, Bool.true_or, Bool.true_or]
   exact Ev.now _
  ·simp only [if_neg c1]
   rw [if_neg c1] at hL
   by_cases c2 : wrap64 (wrap64 (wrap64 ((y.f0.size : Int) + (y.f1.size : Int)) + (y.f4.size : Int)) + (y.f5.size : Int)) > 400
   ·simp only [if_pos c2]
    rw [if_pos c2] at hL
    have : lnB y = true := by
     by_cases c : lnB y = true
     ·exact c
     ·rw [if_neg c] at hL; cases hL
    rw [this, Bool.true_or, Bool.true_or]
    exact Ev.now _
   ·simp only [if_neg c2]
    rw [if_neg c2] at hL
    have : lnB y = false := by
     by_cases c : lnB y = true
     ·rw [if_pos c] at hL; cases hL
     ·simpa using c
    rw [this, Bool.false_or]
    exact hi'
theorem large_l0 (l : List S29) (hl : l.length ≤ 40) (hf : ∀ x ∈ l, okEn x) : ∀ (n i z : Nat), l.length - i = n → i ≤ l.length → z ≤ 400 → Ev (fun k => accountinglaw20_large.l0 k l (z : Int) (i : Int)) (lgs z (l.drop i)) := by
 intro n
 induction n with
 | zero =>
  intro i z hn hi hz
  obtain rfl : i = l.length := by omega
  refine Ev.step (fun k => accountinglaw20_large.l0.eq_2 _ _ _ k) ?_
  simp only [if_neg (show ¬ ((l.length : Int) < (l.length : Int)) by omega), List.drop_length, lgs]
  exact Ev.now _
 | succ n ih =>
  intro i z hn hi hz
  have hil : i < l.length := by omega
  have hx := hf _ (List.getElem_mem hil)
  obtain ⟨h1, h5, h6, hlen, _⟩ := hx
  refine Ev.step (fun k => accountinglaw20_large.l0.eq_2 _ _ _ k) ?_
  simp only [if_pos (show ((i : Int) < (l.length : Int)) by omega), if_pos (show (0 : Int) ≤ (i : Int) by omega), rd29 hil]
  rw [w64t (x := (z : Int) + ((l[i]).f8.length : Int)) (by omega) (by omega)]
  rw [w64t (x := ((l[i]).f1.size : Int) + ((l[i]).f5.size : Int)) (by omega) (by omega), w64t (x := ((l[i]).f1.size : Int) + ((l[i]).f5.size : Int) + ((l[i]).f6.size : Int)) (by omega) (by omega)]
  rw [show (z : Int) + ((l[i]).f8.length : Int) = ((z + (l[i]).f8.length : Nat) : Int) by omega]
  rw [List.drop_eq_getElem_cons hil]
  unfold lgs
  have bad : ∀ (z' : Int), Ev (fun k => accountinglaw20_large.j1 k l z' (i : Int) true) true := fun z' => by
   refine Ev.step (fun k => accountinglaw20_large.j1.eq_2 _ _ _ _ k) ?_
   simp only [if_true]
   exact Ev.now _
  by_cases c1 : 400 < z + (l[i]).f8.length
  ·simp only [if_pos (show ((z + (l[i]).f8.length : Nat) : Int) > 400 by omega)]
   rw [decide_eq_true c1, Bool.true_or, Bool.true_or]
   exact bad _
  ·simp only [if_neg (show ¬ ((z + (l[i]).f8.length : Nat) : Int) > 400 by omega)]
   rw [decide_eq_false c1, Bool.false_or]
   by_cases c2 : 400 < (l[i]).f1.size + (l[i]).f5.size + (l[i]).f6.size
   ·rw [decide_eq_true c2, Bool.true_or, decide_eq_true (show ((l[i]).f1.size : Int) + ((l[i]).f5.size : Int) + ((l[i]).f6.size : Int) > 400 by omega)]
    exact bad _
   ·rw [decide_eq_false c2, Bool.false_or, decide_eq_false (show ¬ ((l[i]).f1.size : Int) + ((l[i]).f5.size : Int) + ((l[i]).f6.size : Int) > 400 by omega)]
    refine Ev.step (fun k => accountinglaw20_large.j1.eq_2 _ _ _ _ k) ?_
    simp only [Bool.false_eq_true, if_false]
    have := large_l1 l hl hf i hil ((z + (l[i]).f8.length : Nat) : Int) _ (ih (i + 1) (z + (l[i]).f8.length) (by omega) (by omega) (by omega)) _ 0 rfl (Nat.zero_le _)
    rw [List.drop_zero] at this
    exact this
theorem large_ev (l : List S29) (hf : ∀ x ∈ l, okEn x) : Ev (fun k => accountinglaw20_large.f k l) (largeB l) := by
 unfold accountinglaw20_large.f largeB
 by_cases h : 40 < l.length
 ·simp only [if_pos (show (l.length : Int) > 40 by omega), decide_eq_true h, Bool.true_or]
  exact Ev.now _
 ·simp only [if_neg (show ¬ (l.length : Int) > 40 by omega), decide_eq_false h, Bool.false_or]
  exact large_l0 l (by omega) hf _ 0 0 rfl (Nat.zero_le _) (by omega)
theorem lgs_tot : ∀ (l : List S29) (n : Nat), n ≤ 400 → lgs n l = false → n + (l.map (fun x => x.f8.length)).sum ≤ 400
 | [], n, h, _ => by simpa using h
 | x :: r, n, h, hl => by
  unfold lgs at hl
  simp only [Bool.or_eq_false_iff, decide_eq_false_iff_not] at hl
  have := lgs_tot r (n + x.f8.length) (by omega) hl.2.2
  simp only [List.map_cons, List.sum_cons]
  omega
theorem lgs_tags : ∀ (l : List S29) (n : Nat), lgs n l = false → ∀ x ∈ l, ∀ y ∈ x.f8, y.f6.length ≤ 20
 | [], _, _, x, hx, _, _ => by cases hx
 | z :: r, n, hl, x, hx, y, hy => by
  unfold lgs at hl
  simp only [Bool.or_eq_false_iff] at hl
  rcases List.mem_cons.1 hx with rfl | hx
  ·have h := List.any_eq_false.1 hl.2.1 y hy
   unfold lnB at h
   simp only [Bool.or_eq_true, decide_eq_true_eq, not_or] at h
   omega
  ·exact lgs_tags r _ hl.2.2 x hx y hy
theorem large_no {l : List S29} (h : largeB l = false) : l.length ≤ 40 ∧ (l.map (fun x => x.f8.length)).sum ≤ 400 ∧ ∀ x ∈ l, ∀ y ∈ x.f8, y.f6.length ≤ 20 := by
 unfold largeB at h
 simp only [Bool.or_eq_false_iff, decide_eq_false_iff_not] at h
 have h2 := lgs_tot l 0 (by omega) h.2
 exact ⟨by omega, by omega, lgs_tags l 0 h.2⟩
theorem fit_E {x : S29} (h : okEn x) : FitE x := fun y hy => by
 have := (h.2.2.2.2 y hy).2.1
 unfold maxLen
 omega
theorem fit_short {x : S29} (h : okEn x) : ShortEn x := by
 obtain ⟨h1, h5, h6, h8, h9⟩ := h
 refine ⟨by omega, by omega, by omega, fun y hy => ?_⟩
 obtain ⟨g0, g1, g4, g5, gl, gt⟩ := h9 y hy
 refine ⟨by omega, by omega, by omega, by omega, by omega, fun i hi => ?_⟩
 rw [rd213 hi]
 have := gt _ (List.getElem_mem hi)
 omega
end Go.Proofs.YtppcjoaghlecmaaDoor.P
namespace Go.Proofs.YtppcjoaghlecmaaDoor.P
open Go.RowKit Go.Sort Go.Proofs.YtppcjoaghlecmaaDoorW.PrintWords Go.Proofs.YtppcjoaghlecmaaDoorW.PrintLast Go.Proofs.YtppcjoaghlecmaaDoorW.PrintMore Go.Maps Go.ChangeShapes Go.WideShapes Go.WideMaps Go.Shelf
set_option linter.unusedVariables false
set_option linter.unusedSimpArgs false
def playE (l : List S29) : List S29 := l.foldl postE []
theorem play_take {l : List S29} {i : Nat} (h : i < l.length) : playE (l.take (i + 1)) = postE (playE (l.take i)) l[i] := by
 unfold playE
 rw [List.take_add_one, List.getElem?_eq_getElem h, List.foldl_append]
 rfl
theorem play_good (l : List S29) : GoodE (playE l) := by
 have : ∀ (l E : List S29), GoodE E → GoodE (l.foldl postE E) := by
  intro l
  induction l with
  | nil => exact fun E h => h
  | cons x r ih => exact fun E h => ih _ (h.post x)
 exact this l [] GoodE.nil
theorem play_len (l : List S29) : (playE l).length ≤ l.length := by
 have : ∀ (l E : List S29), (l.foldl postE E).length ≤ E.length + l.length := by
  intro l
  induction l with
  | nil => intro E; simp
  | cons x r ih =>
   intro E
   have h1 := ih (postE E x)
   have h2 := postE_len E x
   simp only [List.foldl_cons, List.length_cons]
   omega
 have := this l []
 simpa [playE] using this
theorem large_is (A : Option Addr) (c : Nat) (l : List S29) (b : Bool) (w : World) (h : Kd.C k29 w A l.length l) (hc : l.length ≤ c) (hok : ∀ x ∈ l, okEn x) (hb : largeB l = b) : Calls Tryd.prog 16 #[.slice A l.length c] w fun e w' => e = .returned (.bool b) ∧ Below w.heap.size w w' := by
 obtain ⟨k, hk⟩ := (large_ev l hok).rounds
 rw [hb] at hk
 exact accountinglaw20_large.calls k A c l b w h hc hk
set_option maxHeartbeats 4000000 in
set_option maxRecDepth 100000 in
theorem posts_calls (A : Option Addr) (c : Nat) (l : List S29) (w : World) (h : Kd.C k29 w A l.length l) (hc : l.length ≤ c) (hl : l.length ≤ 1000) (hf : ∀ x ∈ l, FitE x) (hT : Tab w) :
  Calls Tryd.prog 18 #[.slice A l.length c] w fun e w' => ∃ p m, e = .returned (.pointer (some ⟨p, 0, none⟩)) ∧ LiveE w w' p m (playE l) := by
 have HC := Aside0.mk h
 have HT := Aside0.mk hT
 have HF := Aside0.mk hf
 have HLL := Aside0.mk hl
 clear h hT hf
 go_enter Tryd.func18, Tryd.ntmps18
 go_upto_region 2 with (go_at_call 22; refine (LiveE.made _).mono ?_; rintro e w1 ⟨p, m, rfl, h1⟩; have HL1 := Aside0.mk h1; clear h1)
 go_wp2
 go_loopw [4] (fun v4 wr => ∃ i : Nat, i ≤ l.length ∧ v4 = .int .i64 i ∧ Aside0 (LiveE w wr p m (playE (l.take i)))) (fun v4 _ => l.length - (intOf v4).toNat)
 case atStart => exact ⟨0, Nat.zero_le _, rfl, ⟨by rw [List.take_zero]; exact HL1.out⟩⟩
 case round =>
  clear HL1
  obtain ⟨i, hi, rfl, HLV⟩ := hrel
  rename World => wo
  by_cases hlt : i < l.length
  rotate_left
  ·obtain rfl : i = l.length := by omega
   have d1 : decide ((l.length : Int) < (l.length : Int)) = false := decide_eq_false (by omega)
   go_wp2
   go_ret
   have := HLV.out
   rw [List.take_length] at this
   exact ⟨p, m, rfl, this⟩
  have d1 : decide ((i : Int) < (l.length : Int)) = true := decide_eq_true (by omega)
  have d2 : decide (i < l.length) = true := decide_eq_true hlt
  have p0 : (0 : Int) ≤ (i : Int) := by omega
  have p1 : (i : Int) < (l.length : Int) := by omega
  obtain ⟨ad, A8, c8, e, q0, q1, q2, q3, q4, q5, q6, q7, q8, l8, g8⟩ := at_T29 (Kd.C_below HC.out HLV.out.bel) (i : Int) p0 p1
  cases e
  rw [Int.toNat_natCast] at q0 q1 q2 q3 q4 q5 q6 q7 q8
  obtain ⟨x, hx⟩ : ∃ x, rd_T29 l (i : Int) = x := ⟨_, rfl⟩
  have hxi : l[i] = x := by rw [← hx]; simp [rd_T29, hlt]
  rw [hx] at q0 q1 q2 q3 q4 q5 q6 q7 q8 l8 g8
  have HXI := Aside0.mk hxi
  have HG8 := Aside0.mk g8
  have HL8 := Aside0.mk l8
  have HXF := Aside0.mk (HF.out x (by rw [← hxi]; exact List.getElem_mem _))
  clear hx hxi g8 l8
  go_wp2_with (go_at_call 20; refine (HLV.out.post HT.out x A8 c8 HG8.out HL8.out HXF.out (by have := play_len (l.take i); rw [List.length_take] at this; have := HLL.out; omega)).mono ?_; rintro e w2 ⟨rfl, h2, _⟩; have HL2 := Aside0.mk h2; clear h2)
  go_roundw
  case rel => exact ⟨i + 1, by omega, by go_num, ⟨by rw [play_take hlt, HXI.out]; exact HL2.out⟩⟩
  case measure => simp [intOf]; omega
end Go.Proofs.YtppcjoaghlecmaaDoor.P
namespace Go.Proofs.YtppcjoaghlecmaaDoor.P
open Go.RowKit Go.Proofs.YtppcjoaghlecmaaDoorW.PrintWords Go.Proofs.YtppcjoaghlecmaaDoorW.PrintLast Go.Proofs.YtppcjoaghlecmaaDoorW.PrintMore
set_option linter.unusedVariables false
set_option linter.unusedSimpArgs false
def lnsE (E : List S29) : Nat := (E.map (fun x => x.f8.length)).sum
theorem lns_app (a b : List S29) : lnsE (a ++ b) = lnsE a + lnsE b := by simp [lnsE]
theorem postE_lns (E : List S29) (x : S29) : lnsE (postE E x) ≤ lnsE E + x.f8.length := by
 unfold postE
 split
 ·rw [lns_app]; simp [lnsE]
 ·omega
theorem foldE_lns : ∀ (l E : List S29), lnsE (l.foldl postE E) ≤ lnsE E + lnsE l
 | [], E => by simp [lnsE]
 | x :: r, E => by
  have h1 := foldE_lns r (postE E x)
  have h2 := postE_lns E x
  have h3 : lnsE (x :: r) = x.f8.length + lnsE r := by simp [lnsE]
  simp only [List.foldl_cons]
  omega
theorem play_lns (l : List S29) : lnsE (playE l) ≤ lnsE l := by
 have := foldE_lns l []
 simpa [playE, lnsE] using this
theorem selC_cons (x : S29) (r : List S29) (q : Qy) : selC (x :: r) q = (if selB q x = true then rawL x else []) ++ selC r q := by
 unfold selC
 by_cases h : selB q x = true
 ·rw [if_pos h]; simp [h]
 ·rw [if_neg h]; simp [h]
theorem selC_len (q : Qy) : ∀ (E : List S29), (selC E q).length ≤ lnsE E
 | [] => by simp [selC]
 | x :: r => by
  have h1 := selC_len q r
  have h2 := raw_len x
  have h3 : lnsE (x :: r) = x.f8.length + lnsE r := by simp [lnsE]
  rw [selC_cons, List.length_append]
  split
  ·omega
  ·simp; omega
def InB (l : List S112) : Prop := ∀ c ∈ l, (-1000000000000 ≤ c.f1 ∧ c.f1 ≤ 1000000000000) ∧ -1000000000000 ≤ c.f2 ∧ c.f2 ≤ 1000000000000
theorem raw_in {x : S29} (h : (chkE x).2 = 0) : InB (rawL x) := fun c hc => by
 unfold rawL at hc
 obtain ⟨y, hy, rfl⟩ := List.mem_map.1 hc
 exact line_bnd ((chk_two h).2.1 y hy)
theorem selC_in {E : List S29} (hg : GoodE E) (q : Qy) : InB (selC E q) := fun c hc => by
 unfold selC at hc
 obtain ⟨l, hl, hc⟩ := List.mem_flatten.1 hc
 obtain ⟨x, hx, rfl⟩ := List.mem_map.1 hl
 exact raw_in (hg x (List.mem_filter.1 hx).1) c hc
theorem ps_bnd (P : S40 → Bool) {l : List S112} (h : InB l) : (-(1000000000000 * (l.length : Int)) ≤ psA P l ∧ psA P l ≤ 1000000000000 * (l.length : Int)) ∧ -(1000000000000 * (l.length : Int)) ≤ psB P l ∧ psB P l ≤ 1000000000000 * (l.length : Int) := by
 have hle : (l.filter (fun c => P c.f0)).length ≤ l.length := List.length_filter_le _ _
 have h1 := sum_small (amts (l.filter (fun c => P c.f0))) (fun x hx => by
  obtain ⟨c, hc, rfl⟩ := List.mem_map.1 hx
  exact (h c (List.mem_filter.1 hc).1).1)
 have h2 := sum_small (bass (l.filter (fun c => P c.f0))) (fun x hx => by
  obtain ⟨c, hc, rfl⟩ := List.mem_map.1 hx
  exact (h c (List.mem_filter.1 hc).1).2)
 unfold amts at h1
 unfold bass at h2
 rw [List.length_map] at h1 h2
 unfold psA psB amts bass
 omega
theorem in_fit {l : List S112} (h : InB l) (hl : l.length ≤ 1000) (k : S40) : fitK l k = true := by
 have := ps_bnd (isK k) h
 unfold fitK fitB
 rw [sumA_ps, sumB_ps]
 simp only [Bool.and_eq_true, decide_eq_true_eq]
 omega
theorem in_ok {l : List S112} (h : InB l) (hl : l.length ≤ 1000) : (ofK l).2 = 0 := by
 rw [ofK_ok (in_fit h hl)]
theorem sheet_ok {E : List S29} (hg : GoodE E) (hn : lnsE E ≤ 400) (q : Qy) : (sheetE E q).2 = 0 := in_ok (selC_in hg q) (by have := selC_len q E; omega)
theorem sheet_len {E : List S29} (hg : GoodE E) (hl : E.length ≤ 1000) (q : Qy) : (sheetE E q).1.length ≤ 1000000 := ofK_len (okS_sel hg hl q)
theorem ps_sheet {E : List S29} (hg : GoodE E) (hn : lnsE E ≤ 400) (q : Qy) (P : S40 → Bool) : psA P (sheetE E q).1 = psA P (selC E q) ∧ psB P (sheetE E q).1 = psB P (selC E q) := ps_ofK (sheet_ok hg hn q) P
end Go.Proofs.YtppcjoaghlecmaaDoor.P
namespace Go.Proofs.YtppcjoaghlecmaaDoor.P
open Go.RowKit Go.Proofs.YtppcjoaghlecmaaDoorW.PrintWords Go.Proofs.YtppcjoaghlecmaaDoorW.PrintLast Go.Proofs.YtppcjoaghlecmaaDoorW.PrintMore
attribute [local go_sem] max2_int min2_int max_two min_two max_three min_three max_four min_four
set_option linter.unusedVariables false
set_option linter.unusedSimpArgs false
theorem eqA112 (d : Nat) (w : World) (x0 y0 : ByteArray) (x1 y1 : ByteArray) (x2 y2 : ByteArray) (x3 y3 : ByteArray) (x4 y4 : ByteArray) (x5 y5 : Int) (x6 y6 : Int) :
  (Op.equalIn (d + 3) 112 (.agg #[.string x0, .string x1, .string x2, .string x3, .string x4, .int .i64 x5, .int .i64 x6]) (.agg #[.string y0, .string y1, .string y2, .string y3, .string y4, .int .i64 y5, .int .i64 y6])).run Tryd.prog w = .ok ((x0.toList == y0.toList && (x1.toList == y1.toList && (x2.toList == y2.toList && (x3.toList == y3.toList && (x4.toList == y4.toList))))) && (x5 == y5 && (x6 == y6))) w := by
 refine eqA_of Tryd.underlying112 (by kernel_rfl) ?_
 refine eqf_cons (by rfl) (by go_simp) (by go_simp) (eqA40 (d + 0) w _ _ _ _ _ _ _ _ _ _) ?_
 refine eqf_cons (by rfl) (by go_simp; rfl) (by go_simp; rfl) (by go_simp) ?_
 exact eqf_last (by rfl) (by go_simp; rfl) (by go_simp; rfl) (by go_simp)
attribute [local go_sem high] eqA112
def accountingref19_Same.l0 : Nat → List (S112) → List (S112) → Int → Option (Bool)
 | 0, _, _, _ => none
 | k + 1, x0, x1, x5 => if x5 < (x0.length : Int) then (if 0 ≤ x5 then (if x5 < (x1.length : Int) then (if ((!((((rd_T112 x0 x5).f0.f0).toList) == (((rd_T112 x1 x5).f0.f0).toList)) || (!((((rd_T112 x0 x5).f0.f1).toList) == (((rd_T112 x1 x5).f0.f1).toList)) || (!((((rd_T112 x0 x5).f0.f2).toList) == (((rd_T112 x1 x5).f0.f2).toList)) || (!((((rd_T112 x0 x5).f0.f3).toList) == (((rd_T112 x1 x5).f0.f3).toList)) || (!((((rd_T112 x0 x5).f0.f4).toList) == (((rd_T112 x1 x5).f0.f4).toList))))))) || (!(((rd_T112 x0 x5).f1) == ((rd_T112 x1 x5).f1)) || (!(((rd_T112 x0 x5).f2) == ((rd_T112 x1 x5).f2))))) = true then (some false) else (accountingref19_Same.l0 k x0 x1 (wrap64 (x5 + 1)))) else (none)) else (none)) else (some true)
def accountingref19_Same.f (k : Nat) (l0 : List (S112)) (l1 : List (S112)) : Option (Bool) := if (l0.length : Int) = (l1.length : Int) then (accountingref19_Same.l0 k l0 l1 0) else (some false)
set_option maxHeartbeats 8000000 in
set_option maxRecDepth 100000 in
theorem accountingref19_Same.calls (k : Nat) (A0 : Option Addr) (c0 : Nat) (l0 : List (S112)) (A1 : Option Addr) (c1 : Nat) (l1 : List (S112)) (r : Bool) (w : World) (hr0 : Kd.C k112 w A0 l0.length l0) (hc0 : l0.length ≤ c0) (hr1 : Kd.C k112 w A1 l1.length l1) (hc1 : l1.length ≤ c1) (h : accountingref19_Same.f k l0 l1 = some r) :
  Calls Tryd.prog 21 #[.slice A0 l0.length c0, .slice A1 l1.length c1] w fun e w' => e = .returned (.bool r) ∧ Drawn0 w w' := by
 have hu112 := Tryd.underlying112
 have HR0 := Aside0.mk hr0
 have HC0 := Aside0.mk hc0
 clear hr0 hc0
 have HR1 := Aside0.mk hr1
 have HC1 := Aside0.mk hc1
 clear hr1 hc1
 have H : (if (l0.length : Int) = (l1.length : Int) then (accountingref19_Same.l0 k l0 l1 0) else (some false)) = some r := h
 clear h
 by_cases c3 : (l0.length : Int) = (l1.length : Int)
 ·rw [if_pos c3] at H
  have c3b0 : ((l0.length : Int) == (l1.length : Int)) = true := beq_iff_eq.mpr c3
  have c3b1 : ((l0.length : Int) != (l1.length : Int)) = false := bne_eq_false_iff_eq.mpr c3
  have c3b2 : (l0.length == l1.length) = true := by first | simpa using c3 | (simp at c3 ⊢; omega)
  clear c3
  have H' := Aside0.mk H
  clear H
  go_enter Tryd.func21, Tryd.ntmps21
  go_wp2
  repeat (go_quiet (fail); try go_wp2)
  go_loopg [5] k (fun kq v5 w' => ∃ (x5_1 : Int), v5 = .int .i64 x5_1 ∧ Aside0 (accountingref19_Same.l0 kq l0 l1 x5_1 = some r) ∧ Aside0 (kq ≤ k) ∧ Drawn0 w w')
  case atStart => exact ⟨(0), sm_, H', ⟨Nat.le_refl _⟩, by repeat (first | exact Drawn0.refl _ | apply Drawn0.step)⟩
  case round =>
   clear H'
   try clear c1
   try clear c2
   try clear p2
   try clear c3
   try clear c3b0
   try clear c3b1
   try clear c3b2
   obtain ⟨x5_1, rfl, HA, HK1, ⟨m1, rfl⟩⟩ := hrel
   cases gk with
   | zero => exact absurd HA.out (by simp [accountingref19_Same.l0])
   | succ k1 =>
    have H := HA.out
    clear HA
    simp only [accountingref19_Same.l0] at H
    by_cases c4 : x5_1 < (l0.length : Int)
    rotate_left
    ·rw [if_neg c4] at H
     have c4b0 : decide (x5_1 < (l0.length : Int)) = false := decide_eq_false c4
     clear c4
     obtain rfl := Option.some.inj H
     go_wp2
     repeat (go_quiet (fail); try go_wp2)
     go_ret
     exact ⟨by first | rfl | (simp; done) | (simp [*]; done), by repeat (first | exact Drawn0.refl _ | apply Drawn0.step)⟩
    rw [if_pos c4] at H
    have c4b0 : decide (x5_1 < (l0.length : Int)) = true := decide_eq_true c4
    clear c4
    by_cases c5 : 0 ≤ x5_1
    rotate_left
    ·rw [if_neg c5] at H
     exact absurd H (by simp)
    rw [if_pos c5] at H
    have c5b0 : decide (0 ≤ x5_1) = true := decide_eq_true c5
    clear c5
    by_cases c6 : x5_1 < (l1.length : Int)
    rotate_left
    ·rw [if_neg c6] at H
     exact absurd H (by simp)
    rw [if_pos c6] at H
    have c6b0 : decide (x5_1 < (l1.length : Int)) = true := decide_eq_true c6
    clear c6
    by_cases c7 : ((!((((rd_T112 l0 x5_1).f0.f0).toList) == (((rd_T112 l1 x5_1).f0.f0).toList)) || (!((((rd_T112 l0 x5_1).f0.f1).toList) == (((rd_T112 l1 x5_1).f0.f1).toList)) || (!((((rd_T112 l0 x5_1).f0.f2).toList) == (((rd_T112 l1 x5_1).f0.f2).toList)) || (!((((rd_T112 l0 x5_1).f0.f3).toList) == (((rd_T112 l1 x5_1).f0.f3).toList)) || (!((((rd_T112 l0 x5_1).f0.f4).toList) == (((rd_T112 l1 x5_1).f0.f4).toList))))))) || (!(((rd_T112 l0 x5_1).f1) == ((rd_T112 l1 x5_1).f1)) || (!(((rd_T112 l0 x5_1).f2) == ((rd_T112 l1 x5_1).f2))))) = true
    ·rw [if_pos c7] at H
     have c7b0 : ((!((((rd_T112 l0 x5_1).f0.f0).toList) == (((rd_T112 l1 x5_1).f0.f0).toList)) || (!((((rd_T112 l0 x5_1).f0.f1).toList) == (((rd_T112 l1 x5_1).f0.f1).toList)) || (!((((rd_T112 l0 x5_1).f0.f2).toList) == (((rd_T112 l1 x5_1).f0.f2).toList)) || (!((((rd_T112 l0 x5_1).f0.f3).toList) == (((rd_T112 l1 x5_1).f0.f3).toList)) || (!((((rd_T112 l0 x5_1).f0.f4).toList) == (((rd_T112 l1 x5_1).f0.f4).toList))))))) || (!(((rd_T112 l0 x5_1).f1) == ((rd_T112 l1 x5_1).f1)) || (!(((rd_T112 l0 x5_1).f2) == ((rd_T112 l1 x5_1).f2))))) = true := c7
     clear c7
     obtain rfl := Option.some.inj H
     have p166 : 0 ≤ (x5_1 : Int) := odt_
     have q166 : x5_1 < (l0.length : Int) := odt_
     obtain ⟨ad166, e166, hx166_0, hx166_1, hx166_2, hx166_3, hx166_4, hx166_5, hx166_6⟩ := at_T112 HR0.out x5_1 p166 q166
     cases e166
     replace p166 := eq_true p166
     replace q166 := eq_true q166
     have p167 : 0 ≤ (x5_1 : Int) := odt_
     have q167 : x5_1 < (l1.length : Int) := odt_
     obtain ⟨ad167, e167, hx167_0, hx167_1, hx167_2, hx167_3, hx167_4, hx167_5, hx167_6⟩ := at_T112 HR1.out x5_1 p167 q167
     cases e167
     replace p167 := eq_true p167
     replace q167 := eq_true q167
     go_wp2
     repeat (go_quiet (fail); try go_wp2)
     go_ret
     exact ⟨by first | rfl | (simp; done) | (simp [*]; done), by repeat (first | exact Drawn0.refl _ | apply Drawn0.step)⟩
    rw [if_neg c7] at H
    have c7b0 : ((!((((rd_T112 l0 x5_1).f0.f0).toList) == (((rd_T112 l1 x5_1).f0.f0).toList)) || (!((((rd_T112 l0 x5_1).f0.f1).toList) == (((rd_T112 l1 x5_1).f0.f1).toList)) || (!((((rd_T112 l0 x5_1).f0.f2).toList) == (((rd_T112 l1 x5_1).f0.f2).toList)) || (!((((rd_T112 l0 x5_1).f0.f3).toList) == (((rd_T112 l1 x5_1).f0.f3).toList)) || (!((((rd_T112 l0 x5_1).f0.f4).toList) == (((rd_T112 l1 x5_1).f0.f4).toList))))))) || (!(((rd_T112 l0 x5_1).f1) == ((rd_T112 l1 x5_1).f1)) || (!(((rd_T112 l0 x5_1).f2) == ((rd_T112 l1 x5_1).f2))))) = false := by simpa using c7
    clear c7
    have H' := Aside0.mk H
    clear H
    have p166 : 0 ≤ (x5_1 : Int) := odt_
    have q166 : x5_1 < (l0.length : Int) := odt_
    obtain ⟨ad166, e166, hx166_0, hx166_1, hx166_2, hx166_3, hx166_4, hx166_5, hx166_6⟩ := at_T112 HR0.out x5_1 p166 q166
    cases e166
    replace p166 := eq_true p166
    replace q166 := eq_true q166
    have p167 : 0 ≤ (x5_1 : Int) := odt_
    have q167 : x5_1 < (l1.length : Int) := odt_
    obtain ⟨ad167, e167, hx167_0, hx167_1, hx167_2, hx167_3, hx167_4, hx167_5, hx167_6⟩ := at_T112 HR1.out x5_1 p167 q167
    cases e167
    replace p167 := eq_true p167
    replace q167 := eq_true q167
    go_wp2
    repeat (go_quiet (fail); try go_wp2)
    go_roundg k1
    case measure => have := HK1.out; omega
    case rel => exact ⟨(wrap64 (x5_1 + 1)), sm_, H', ⟨by have := HK1.out; omega⟩, by repeat (first | exact Drawn0.refl _ | apply Drawn0.step)⟩
 ·rw [if_neg c3] at H
  have c3b0 : ((l0.length : Int) == (l1.length : Int)) = false := beq_eq_false_iff_ne.mpr c3
  have c3b1 : ((l0.length : Int) != (l1.length : Int)) = true := bne_iff_ne.mpr c3
  have c3b2 : (l0.length == l1.length) = false := by first | simpa using c3 | (simp at c3 ⊢; omega)
  obtain rfl := Option.some.inj H
  go_enter Tryd.func21, Tryd.ntmps21
  go_wp2
  repeat (go_quiet (fail); try go_wp2)
  go_ret
  exact ⟨by first | rfl | (simp; done) | (simp [*]; done), by repeat (first | exact Drawn0.refl _ | apply Drawn0.step)⟩
end Go.Proofs.YtppcjoaghlecmaaDoor.P
namespace Go.Proofs.YtppcjoaghlecmaaDoor.P
open Go.RowKit Go.Sort Go.Proofs.YtppcjoaghlecmaaDoorW.PrintWords Go.Proofs.YtppcjoaghlecmaaDoorW.PrintLast Go.Proofs.YtppcjoaghlecmaaDoor.Op
set_option linter.unusedVariables false
set_option linter.unusedSimpArgs false
theorem same_l0 (l : List S112) (hl : l.length ≤ 1000000) : ∀ (n i : Nat), l.length - i = n → i ≤ l.length → Ev (fun k => accountingref19_Same.l0 k l l (i : Int)) true := by
 intro n
 induction n with
 | zero =>
  intro i hn hi
  refine Ev.step (fun k => accountingref19_Same.l0.eq_2 _ _ _ k) ?_
  simp only [if_neg (show ¬ ((i : Int) < (l.length : Int)) by omega)]
  exact Ev.now _
 | succ n ih =>
  intro i hn hi
  have hil : i < l.length := by omega
  have hw : wrap64 ((i : Int) + 1) = ((i + 1 : Nat) : Int) := by rw [w64 (by omega) (by omega)]; omega
  refine Ev.step (fun k => accountingref19_Same.l0.eq_2 _ _ _ k) ?_
  simp only [if_pos (show ((i : Int) < (l.length : Int)) by omega), if_pos (show (0 : Int) ≤ (i : Int) by omega), hw, BEq.rfl, Bool.not_true, Bool.or_false, Bool.false_eq_true, if_false]
  exact ih (i + 1) (by omega) (by omega)
theorem same_ev (l : List S112) (hl : l.length ≤ 1000000) : Ev (fun k => accountingref19_Same.f k l l) true := by
 unfold accountingref19_Same.f
 simp only [if_true]
 exact same_l0 l hl _ 0 rfl (Nat.zero_le _)
end Go.Proofs.YtppcjoaghlecmaaDoor.P
namespace Go.Proofs.YtppcjoaghlecmaaDoor.P
open Go.RowKit Go.Sort Go.Proofs.YtppcjoaghlecmaaDoorW.PrintWords Go.Proofs.YtppcjoaghlecmaaDoorW.PrintLast Go.Proofs.YtppcjoaghlecmaaDoorW.PrintMore Go.Maps Go.ChangeShapes Go.WideShapes Go.WideMaps Go.Shelf
set_option linter.unusedVariables false
set_option linter.unusedSimpArgs false
structure Sl (w : World) (A : Option Addr) (n c : Nat) (l : List S112) : Prop where
 len : l.length = n
 le : n ≤ c
 v : Kd.V k112 112 w 0 (fun _ => True) (.slice A n c) l
theorem Sl.of {w : World} {base : Nat} {ok : Nat → Prop} {v : Value} {l : List S112} (h : Kd.R k112 112 w base ok v l) : ∃ A c, v = .slice A l.length c ∧ Sl w A l.length c l := by
 obtain ⟨A, c, rfl, hc, hC⟩ := Kd.R_reads h
 exact ⟨A, c, rfl, rfl, hc, Kd.V_mono (Kd.R_V h) (fun _ _ => trivial)⟩
theorem Sl.below {w w' : World} {A : Option Addr} {n c : Nat} {l : List S112} (h : Sl w A n c l) (hb : Below w.heap.size w w') : Sl w' A n c l := ⟨h.len, h.le, Kd.V_below h.v hb⟩
theorem Sl.C {w : World} {A : Option Addr} {n c : Nat} {l : List S112} (h : Sl w A n c l) : Kd.C k112 w A l.length l := by
 have := (Kd.V_reads' h.v).2.2
 exact this
theorem same_is {w : World} {A B : Option Addr} {n c n2 c2 : Nat} {l : List S112} (h : Sl w A n c l) (h2 : Sl w B n2 c2 l) (hl : l.length ≤ 1000000) :
  Calls Tryd.prog 21 #[.slice A n c, .slice B n2 c2] w fun e w' => e = .returned (.bool true) ∧ Below w.heap.size w w' := by
 obtain ⟨k, hk⟩ := (same_ev l hl).rounds
 have e1 := h.len
 have e2 := h2.len
 subst e1 e2
 refine (accountingref19_Same.calls k A c l B c2 l true w h.C h.le h2.C h2.le hk).mono ?_
 rintro e w' ⟨he, hd⟩
 exact ⟨he, hd.below⟩
theorem LiveE.sheet0 {w0 w : World} {p m : Nat} {E : List S29} {s : List S112} (h : LiveE w0 w p m E) (hg : GoodE E) (hn : lnsE E ≤ 400) (hl : E.length ≤ 1000) (q : Qy) (hs : (sheetE E q).1 = s) :
  Calls Tryd.prog 19 #[.pointer (some ⟨p, 0, none⟩), qyV q] w fun e w' => ∃ A c, e = .returned (.tuple #[.slice A s.length c, .int .i64 0]) ∧ Sl w' A s.length c s ∧ Below w.heap.size w w' ∧ LiveE w0 w' p m E := by
 refine (h.sheet hg hl q).mono ?_
 rintro e w' ⟨v, rfl, hr, hb, h2⟩
 rw [sheet_ok hg hn q]
 rw [hs] at hr
 obtain ⟨A, c, rfl, hsl⟩ := Sl.of hr
 exact ⟨A, c, rfl, hsl, hb, h2⟩
theorem LiveE.sheetx {w0 w : World} {p m : Nat} {E : List S29} {s : List S112} (h : LiveE w0 w p m E) (hg : GoodE E) (hn : lnsE E ≤ 400) (hl : E.length ≤ 1000) (e : ByteArray) (a z b : Int) (hs : (sheetE E ⟨e, a, z, b⟩).1 = s) :
  Calls Tryd.prog 19 #[.pointer (some ⟨p, 0, none⟩), .agg #[.string e, .int .i64 a, .int .i64 z, .int .i64 b]] w fun e w' => ∃ A c, e = .returned (.tuple #[.slice A s.length c, .int .i64 0]) ∧ Sl w' A s.length c s ∧ Below w.heap.size w w' ∧ LiveE w0 w' p m E := h.sheet0 hg hn hl ⟨e, a, z, b⟩ hs
theorem qy_kept {w : World} {g : Nat} {q : Qy} (h : w.heap[g]? = some (.cells #[.string q.e, .int .i64 q.a, .int .i64 q.z, .int .i64 q.b] 24 (0, 0))) : ∀ w', Below w.heap.size w w' → w'.cell? ⟨g, 0, none⟩ = some (.string q.e) ∧ w'.cell? ⟨g, 1, none⟩ = some (.int .i64 q.a) ∧ w'.cell? ⟨g, 2, none⟩ = some (.int .i64 q.z) ∧ w'.cell? ⟨g, 3, none⟩ = some (.int .i64 q.b) := fun w' hb =>
 have hb2 := blk_below h hb
 ⟨(blk_cell hb2 0).trans rfl, (blk_cell hb2 1).trans rfl, (blk_cell hb2 2).trans rfl, (blk_cell hb2 3).trans rfl⟩
theorem ke_kept {w : World} {g : Nat} {key : S40} (h : w.heap[g]? = some (.cells #[.string key.f0, .string key.f1, .string key.f2, .string key.f3, .string key.f4] 40 (0, 0))) : ∀ w', Below w.heap.size w w' → w'.cell? ⟨g, 0, none⟩ = some (.string key.f0) ∧ w'.cell? ⟨g, 1, none⟩ = some (.string key.f1) ∧ w'.cell? ⟨g, 2, none⟩ = some (.string key.f2) ∧ w'.cell? ⟨g, 3, none⟩ = some (.string key.f3) ∧ w'.cell? ⟨g, 4, none⟩ = some (.string key.f4) := fun w' hb =>
 have hb2 := blk_below h hb
 ⟨(blk_cell hb2 0).trans rfl, (blk_cell hb2 1).trans rfl, (blk_cell hb2 2).trans rfl, (blk_cell hb2 3).trans rfl, (blk_cell hb2 4).trans rfl⟩
structure NilM (w0 w : World) (x : S29) (A : Option Addr) (c : Nat) (q : Qy) (key : S40) (bx bq bk : Nat) : Prop where
 bx : w.heap[bx]? = some (.cells #[.int .i64 x.f0, .string x.f1, .int .i64 x.f2, .int .i64 x.f3, .int .i64 x.f4, .string x.f5, .string x.f6, .int .i64 x.f7, .slice A x.f8.length c] 29 (0, 0))
 bq : w.heap[bq]? = some (.cells #[.string q.e, .int .i64 q.a, .int .i64 q.z, .int .i64 q.b] 24 (0, 0))
 bk : w.heap[bk]? = some (.cells #[.string key.f0, .string key.f1, .string key.f2, .string key.f3, .string key.f4] 40 (0, 0))
 bel : Below w0.heap.size w0 w
theorem NilM.below {w0 w w' : World} {x : S29} {A : Option Addr} {c : Nat} {q : Qy} {key : S40} {bx bq bk : Nat} (h : NilM w0 w x A c q key bx bq bk) (hb : Below w.heap.size w w') : NilM w0 w' x A c q key bx bq bk :=
 ⟨blk_below h.bx hb, blk_below h.bq hb, blk_below h.bk hb, below_then h.bel h.bel.size hb⟩
instance (n : Int) : Decidable (i64ok n) := by unfold i64ok; exact inferInstance
end Go.Proofs.YtppcjoaghlecmaaDoor.P
namespace Go.Proofs.YtppcjoaghlecmaaDoor.P
open Go.RowKit Go.Sort Go.Proofs.YtppcjoaghlecmaaDoorW.PrintWords Go.Proofs.YtppcjoaghlecmaaDoorW.PrintLast Go.Proofs.YtppcjoaghlecmaaDoorW.PrintMore
set_option linter.unusedVariables false
set_option linter.unusedSimpArgs false
theorem play_mem {l : List S29} : ∀ x ∈ playE l, x ∈ l := by
 have : ∀ (l E : List S29), ∀ x ∈ l.foldl postE E, x ∈ E ∨ x ∈ l := by
  intro l
  induction l with
  | nil => exact fun E x hx => .inl hx
  | cons y r ih =>
   intro E x hx
   rcases ih (postE E y) x hx with h | h
   ·unfold postE at h
    split at h
    ·rcases List.mem_append.1 h with h | h
     ·exact .inl h
     ·rw [List.mem_singleton] at h
      exact .inr (by simp [h])
    ·exact .inl h
   ·exact .inr (by simp [h])
 intro x hx
 rcases this l [] x hx with h | h
 ·cases h
 ·exact h
end Go.Proofs.YtppcjoaghlecmaaDoor.P
namespace Go.Proofs.YtppcjoaghlecmaaDoor.P
open Go.RowKit Go.Proofs.YtppcjoaghlecmaaDoorW.PrintWords Go.Proofs.YtppcjoaghlecmaaDoorW.PrintLast Go.Proofs.YtppcjoaghlecmaaDoorW.PrintMore
attribute [local go_sem] max2_int min2_int max_two min_two max_three min_three max_four min_four
set_option linter.unusedVariables false
set_option linter.unusedSimpArgs false
def sheet_Pick.l0 : Nat → List (S112) → List (S112) → Int → Int → ByteArray → ByteArray → ByteArray → ByteArray → ByteArray → Option ((List (S112)))
 | 0, _, _, _, _, _, _, _, _, _ => none
 | k + 1, x4, x7, x8, x9, x365000, x365001, x365002, x365003, x365004 => if x9 < x8 then (if 0 ≤ x9 then (if x9 < (x7.length : Int) then ((sheet_Match.f x365000 x365001 x365002 x365003 x365004 ((rd_T112 x7 x9).f0.f0) ((rd_T112 x7 x9).f0.f1) ((rd_T112 x7 x9).f0.f2) ((rd_T112 x7 x9).f0.f3) ((rd_T112 x7 x9).f0.f4)).bind fun t367 => (if t367 = true then (if x4.length < 1466015503701 then (sheet_Pick.l0 k (x4 ++ [(⟨(⟨(rd_T112 x7 x9).f0.f0, (rd_T112 x7 x9).f0.f1, (rd_T112 x7 x9).f0.f2, (rd_T112 x7 x9).f0.f3, (rd_T112 x7 x9).f0.f4⟩ : S40), (rd_T112 x7 x9).f1, (rd_T112 x7 x9).f2⟩ : S112)]) x7 x8 (wrap64 (x9 + 1)) x365000 x365001 x365002 x365003 x365004) else (none)) else (sheet_Pick.l0 k x4 x7 x8 (wrap64 (x9 + 1)) x365000 x365001 x365002 x365003 x365004))) else (none)) else (none)) else (some x4)
def sheet_Pick.f (k : Nat) (l0 : List (S112)) (a1_0 : ByteArray) (a1_1 : ByteArray) (a1_2 : ByteArray) (a1_3 : ByteArray) (a1_4 : ByteArray) : Option ((List (S112))) := sheet_Pick.l0 k ([] : List (S112)) l0 (l0.length : Int) 0 a1_0 a1_1 a1_2 a1_3 a1_4
set_option maxHeartbeats 8000000 in
set_option maxRecDepth 100000 in
theorem sheet_Pick.calls (k : Nat) (A0 : Option Addr) (c0 : Nat) (l0 : List (S112)) (a1_0 : ByteArray) (a1_1 : ByteArray) (a1_2 : ByteArray) (a1_3 : ByteArray) (a1_4 : ByteArray) (r : List (S112)) (w : World) (hr0 : Kd.C k112 w A0 l0.length l0) (hc0 : l0.length ≤ c0) (h : sheet_Pick.f k l0 a1_0 a1_1 a1_2 a1_3 a1_4 = some r) :
  Calls Tryd.prog 30 #[.slice A0 l0.length c0, .agg #[.string a1_0, .string a1_1, .string a1_2, .string a1_3, .string a1_4]] w fun e w' => ∃ v0_ : Value, e = .returned (v0_) ∧ Kd.R k112 112 w' w.heap.size (fun _ => True) v0_ r ∧ Below w.heap.size w w' := by
 have hu40 := Tryd.underlying40
 have hu112 := Tryd.underlying112
 have HR0 := Aside0.mk hr0
 have HC0 := Aside0.mk hc0
 clear hr0 hc0
 have HB := Aside0.mk (Below.refl w.heap.size w)
 have H : (sheet_Pick.l0 k ([] : List (S112)) l0 (l0.length : Int) 0 a1_0 a1_1 a1_2 a1_3 a1_4) = some r := h
 clear h
 have H' := Aside0.mk H
 clear H
 go_enter Tryd.func30, Tryd.ntmps30
 go_wp2_with (first | ((with_reducible refine gate_dst (N := 3) rfl ?_); refine box_event ?hg (N := 3) ?hd (cs := #[.string a1_0, .string a1_1, .string a1_2, .string a1_3, .string a1_4]) (t := 40) ?hr ?_; (case hd => rfl); (case hg => rfl); (case hr => first | (go_simp; done) | (go_simp; rfl)); intro gb364 hg w3 hbox hb; have n0_ := Aside0.mk (below_step (bw_) hb); have n1_ := Aside0.mk (hbox); have n2_ := Aside0.mk (gw_ (w := w) hg); have n3_ := Aside0.mk (gw_ (w := w) hg); clear HB; have HB := n0_; have BK364 := n1_; have GW364 := n2_; have GE364 := n3_; clear n0_ n1_ n2_ n3_; clear hb hbox hg))
 go_loopg [4, 9] k (fun kq v4 v9 w' => ∃ (x4_1 : List (S112)) (x9_1 : Int), v9 = .int .i64 x9_1 ∧ Aside0 (sheet_Pick.l0 kq x4_1 l0 (l0.length : Int) x9_1 a1_0 a1_1 a1_2 a1_3 a1_4 = some r) ∧ Aside0 (kq ≤ k) ∧ Aside0 (Kd.R k112 112 w' w.heap.size (fun _ => True) v4 x4_1) ∧ Aside0 (w'.heap[gb364]? = some (.cells #[.string a1_0, .string a1_1, .string a1_2, .string a1_3, .string a1_4] 40 (0, 0))) ∧ Aside0 (Below w.heap.size w w'))
 case atStart => exact ⟨(([] : List (S112))), (0), sm_, H', ⟨Nat.le_refl _⟩, ⟨by first | exact Kd.R_nil _ _ _ _ _ | exact Kd.N_nil _ _ _ _ _ | exact Kd.V_nil _ _ _ _ _ | exact Kd.Q_nil _ _ _ _ _ | exact Kd.S_nil _ _ _ _ _⟩, ⟨by (with_reducible repeat (first | refine blk_drewN ?_ _ | refine blk_drew ?_ | refine blk_alloc ?_ _)); exact BK364.out⟩, ⟨bwx_⟩⟩
 case round =>
  clear H'
  try clear p2
  try clear c3
  obtain ⟨x4_1, x9_1, rfl, HA, HK1, HO_4, BK364, HB⟩ := hrel
  cases gk with
  | zero => exact absurd HA.out (by simp [sheet_Pick.l0])
  | succ k1 =>
   have H := HA.out
   clear HA
   simp only [sheet_Pick.l0] at H
   by_cases c4 : x9_1 < (l0.length : Int)
   ·rw [if_pos c4] at H
    have c4b0 : decide (x9_1 < (l0.length : Int)) = true := decide_eq_true c4
    clear c4
    by_cases c5 : 0 ≤ x9_1
    rotate_left
    ·rw [if_neg c5] at H
     exact absurd H (by simp)
    rw [if_pos c5] at H
    have c5b0 : decide (0 ≤ x9_1) = true := decide_eq_true c5
    clear c5
    by_cases c6 : x9_1 < (l0.length : Int)
    rotate_left
    ·rw [if_neg c6] at H
     exact absurd H (by simp)
    rw [if_pos c6] at H
    have c6b0 : decide (x9_1 < (l0.length : Int)) = true := decide_eq_true c6
    clear c6
    replace H := Option.bind_eq_some_iff.mp H
    obtain ⟨t367, A70, H⟩ := H
    try dsimp only at H
    have A7 := Aside0.mk A70
    clear A70
    by_cases c8 : t367 = true
    rotate_left
    ·replace c8 := Bool.eq_false_iff.mpr c8
     subst c8
     have H1 : (sheet_Pick.l0 k1 x4_1 l0 (l0.length : Int) (wrap64 (x9_1 + 1)) a1_0 a1_1 a1_2 a1_3 a1_4) = some r := by rw [if_neg (show ¬ (false = true) by decide)] at H; exact H
     clear H
     have H := H1
     clear H1
     have H' := Aside0.mk H
     clear H
     have p365 : 0 ≤ (x9_1 : Int) := odt_
     have q365 : x9_1 < (l0.length : Int) := odt_
     obtain ⟨ad365, e365, hx365_0, hx365_1, hx365_2, hx365_3, hx365_4, hx365_5, hx365_6⟩ := at_T112 HR0.out x9_1 p365 q365
     cases e365
     replace hx365_0 := bcl_ HB hx365_0
     replace hx365_1 := bcl_ HB hx365_1
     replace hx365_2 := bcl_ HB hx365_2
     replace hx365_3 := bcl_ HB hx365_3
     replace hx365_4 := bcl_ HB hx365_4
     replace hx365_5 := bcl_ HB hx365_5
     replace hx365_6 := bcl_ HB hx365_6
     replace p365 := eq_true p365
     replace q365 := eq_true q365
     go_wp2_with (first | ((with_reducible refine gate_dst (N := 6) rfl ?_); refine box_event ?hg (N := 6) ?hd (cs := #[.string (⟨#[]⟩ : ByteArray), .string (⟨#[]⟩ : ByteArray), .string (⟨#[]⟩ : ByteArray), .string (⟨#[]⟩ : ByteArray), .string (⟨#[]⟩ : ByteArray), .int .i64 0, .int .i64 0]) (t := 112) ?hr ?_; (case hd => rfl); (case hg => rfl); (case hr => first | (go_simp; done) | (go_simp; rfl)); intro gb366 hg w17 hbox hb; have n0_ := Aside0.mk (Kd.R_below (Kd.R_elderB (by (with_reducible repeat (first | apply Kd.R_alloc | apply Kd.R_drewN | apply Kd.R_drew)); exact HO_4.out) gb366 (Nat.le_of_eq hg.symm)) hb); have n1_ := Aside0.mk (bb_ BK364 hb); have n2_ := Aside0.mk (below_step (bwx_) hb); have n3_ := Aside0.mk (hbox); have n4_ := Aside0.mk (gw_ (w := w) hg); have n5_ := Aside0.mk (gw_ (w := w) hg); have n6_ := Aside0.mk ((by rw [hg]; exact Nat.ne_of_lt (bl_ BK364) : gb364 ≠ gb366)); have n7_ := Aside0.mk ((by rw [hg]; exact Nat.ne_of_gt (bl_ BK364) : gb366 ≠ gb364)); clear HO_4; clear BK364; clear HB; have HO_4 := n0_; have BK364 := n1_; have HB := n2_; have BK366 := n3_; have GW366 := n4_; have GE366 := n5_; have NB364_366 := n6_; have NB366_364 := n7_; clear n0_ n1_ n2_ n3_ n4_ n5_ n6_ n7_; clear hb hbox hg; have hnb18 := NB366_364.out; have hnc18 := NB364_366.out; obtain ⟨hcz19_0, hcz19_1, hcz19_2, hcz19_3, hcz19_4, hcz19_5, hcz19_6⟩ := bc7_ (w := w17) BK366.out; obtain ⟨hfz19_0, hfz19_1, hfz19_2, hfz19_3, hfz19_4, hfz19_5, hfz19_6⟩ := bf7_ BK366.out; obtain ⟨hcz20_0, hcz20_1, hcz20_2, hcz20_3, hcz20_4⟩ := bc5_ (w := w17) BK364.out; obtain ⟨hfz20_0, hfz20_1, hfz20_2, hfz20_3, hfz20_4⟩ := bf5_ BK364.out) | ((with_reducible refine gate_callee (f := 52) rfl ?_); refine goesL_ (some 16) rfl rfl Tryd.func52 (by kernel_rfl) rfl #[.agg #[.string a1_0, .string a1_1, .string a1_2, .string a1_3, .string a1_4], .agg #[.string ((rd_T112 l0 x9_1).f0.f0), .string ((rd_T112 l0 x9_1).f0.f1), .string ((rd_T112 l0 x9_1).f0.f2), .string ((rd_T112 l0 x9_1).f0.f3), .string ((rd_T112 l0 x9_1).f0.f4)]] rfl ml_ ?_; (with_reducible refine (sheet_Match.calls a1_0 a1_1 a1_2 a1_3 a1_4 ((rd_T112 l0 x9_1).f0.f0) ((rd_T112 l0 x9_1).f0.f1) ((rd_T112 l0 x9_1).f0.f2) ((rd_T112 l0 x9_1).f0.f3) ((rd_T112 l0 x9_1).f0.f4) false _ A7.out).mono ?_); rintro e w21 ⟨rfl, hb⟩; refine ⟨_, rfl, ?_⟩; have n0_ := Aside0.mk (Kd.R_below (by (with_reducible repeat (first | apply Kd.R_alloc | apply Kd.R_drewN | apply Kd.R_drew)); exact (Kd.R_mono (Kd.R_far (p := ⟨gb366, 6, none⟩) (Kd.R_far (p := ⟨gb366, 5, none⟩) (Kd.R_far (p := ⟨gb366, 4, none⟩) (Kd.R_far (p := ⟨gb366, 3, none⟩) (Kd.R_far (p := ⟨gb366, 2, none⟩) (Kd.R_far (p := ⟨gb366, 1, none⟩) (Kd.R_far (p := ⟨gb366, 0, none⟩) (Kd.R_mono HO_4.out (fun k_ hk => (⟨hk, hk.2⟩ : _ ∧ k_ ≠ gb366))) (fun _ hk => hk.2) (.string ((rd_T112 l0 x9_1).f0.f0))) (fun _ hk => hk.2) (.string ((rd_T112 l0 x9_1).f0.f1))) (fun _ hk => hk.2) (.string ((rd_T112 l0 x9_1).f0.f2))) (fun _ hk => hk.2) (.string ((rd_T112 l0 x9_1).f0.f3))) (fun _ hk => hk.2) (.string ((rd_T112 l0 x9_1).f0.f4))) (fun _ hk => hk.2) (.int .i64 ((rd_T112 l0 x9_1).f1))) (fun _ hk => hk.2) (.int .i64 ((rd_T112 l0 x9_1).f2))) (fun _ h_ => h_.1))) hb); have n1_ := Aside0.mk (blk_below (g := gb364) (o := .cells #[.string a1_0, .string a1_1, .string a1_2, .string a1_3, .string a1_4] 40 (0, 0)) (by (with_reducible repeat (first | refine blk_drewN ?_ _ | refine blk_drew ?_ | refine blk_alloc ?_ _)); refine blk_far ?_ NB364_366.out _; (with_reducible repeat (first | refine blk_drewN ?_ _ | refine blk_drew ?_ | refine blk_alloc ?_ _)); refine blk_far ?_ NB364_366.out _; (with_reducible repeat (first | refine blk_drewN ?_ _ | refine blk_drew ?_ | refine blk_alloc ?_ _)); refine blk_far ?_ NB364_366.out _; (with_reducible repeat (first | refine blk_drewN ?_ _ | refine blk_drew ?_ | refine blk_alloc ?_ _)); refine blk_far ?_ NB364_366.out _; (with_reducible repeat (first | refine blk_drewN ?_ _ | refine blk_drew ?_ | refine blk_alloc ?_ _)); refine blk_far ?_ NB364_366.out _; (with_reducible repeat (first | refine blk_drewN ?_ _ | refine blk_drew ?_ | refine blk_alloc ?_ _)); refine blk_far ?_ NB364_366.out _; (with_reducible repeat (first | refine blk_drewN ?_ _ | refine blk_drew ?_ | refine blk_alloc ?_ _)); refine blk_far ?_ NB364_366.out _; (with_reducible repeat (first | refine blk_drewN ?_ _ | refine blk_drew ?_ | refine blk_alloc ?_ _)); exact BK364.out) hb); have n2_ := Aside0.mk (blk_below (g := gb366) (o := .cells #[.string ((rd_T112 l0 x9_1).f0.f0), .string ((rd_T112 l0 x9_1).f0.f1), .string ((rd_T112 l0 x9_1).f0.f2), .string ((rd_T112 l0 x9_1).f0.f3), .string ((rd_T112 l0 x9_1).f0.f4), .int .i64 ((rd_T112 l0 x9_1).f1), .int .i64 ((rd_T112 l0 x9_1).f2)] 112 (0, 0)) (by (with_reducible repeat (first | refine blk_drewN ?_ _ | refine blk_drew ?_ | refine blk_alloc ?_ _)); refine blk_put (cs := #[.string ((rd_T112 l0 x9_1).f0.f0), .string ((rd_T112 l0 x9_1).f0.f1), .string ((rd_T112 l0 x9_1).f0.f2), .string ((rd_T112 l0 x9_1).f0.f3), .string ((rd_T112 l0 x9_1).f0.f4), .int .i64 ((rd_T112 l0 x9_1).f1), .int .i64 0]) ?_ 6 _ rfl; (with_reducible repeat (first | refine blk_drewN ?_ _ | refine blk_drew ?_ | refine blk_alloc ?_ _)); refine blk_put (cs := #[.string ((rd_T112 l0 x9_1).f0.f0), .string ((rd_T112 l0 x9_1).f0.f1), .string ((rd_T112 l0 x9_1).f0.f2), .string ((rd_T112 l0 x9_1).f0.f3), .string ((rd_T112 l0 x9_1).f0.f4), .int .i64 0, .int .i64 0]) ?_ 5 _ rfl; (with_reducible repeat (first | refine blk_drewN ?_ _ | refine blk_drew ?_ | refine blk_alloc ?_ _)); refine blk_put (cs := #[.string ((rd_T112 l0 x9_1).f0.f0), .string ((rd_T112 l0 x9_1).f0.f1), .string ((rd_T112 l0 x9_1).f0.f2), .string ((rd_T112 l0 x9_1).f0.f3), .string (⟨#[]⟩ : ByteArray), .int .i64 0, .int .i64 0]) ?_ 4 _ rfl; (with_reducible repeat (first | refine blk_drewN ?_ _ | refine blk_drew ?_ | refine blk_alloc ?_ _)); refine blk_put (cs := #[.string ((rd_T112 l0 x9_1).f0.f0), .string ((rd_T112 l0 x9_1).f0.f1), .string ((rd_T112 l0 x9_1).f0.f2), .string (⟨#[]⟩ : ByteArray), .string (⟨#[]⟩ : ByteArray), .int .i64 0, .int .i64 0]) ?_ 3 _ rfl; (with_reducible repeat (first | refine blk_drewN ?_ _ | refine blk_drew ?_ | refine blk_alloc ?_ _)); refine blk_put (cs := #[.string ((rd_T112 l0 x9_1).f0.f0), .string ((rd_T112 l0 x9_1).f0.f1), .string (⟨#[]⟩ : ByteArray), .string (⟨#[]⟩ : ByteArray), .string (⟨#[]⟩ : ByteArray), .int .i64 0, .int .i64 0]) ?_ 2 _ rfl; (with_reducible repeat (first | refine blk_drewN ?_ _ | refine blk_drew ?_ | refine blk_alloc ?_ _)); refine blk_put (cs := #[.string ((rd_T112 l0 x9_1).f0.f0), .string (⟨#[]⟩ : ByteArray), .string (⟨#[]⟩ : ByteArray), .string (⟨#[]⟩ : ByteArray), .string (⟨#[]⟩ : ByteArray), .int .i64 0, .int .i64 0]) ?_ 1 _ rfl; (with_reducible repeat (first | refine blk_drewN ?_ _ | refine blk_drew ?_ | refine blk_alloc ?_ _)); refine blk_put (cs := #[.string (⟨#[]⟩ : ByteArray), .string (⟨#[]⟩ : ByteArray), .string (⟨#[]⟩ : ByteArray), .string (⟨#[]⟩ : ByteArray), .string (⟨#[]⟩ : ByteArray), .int .i64 0, .int .i64 0]) ?_ 0 _ rfl; (with_reducible repeat (first | refine blk_drewN ?_ _ | refine blk_drew ?_ | refine blk_alloc ?_ _)); exact BK366.out) hb); have n3_ := Aside0.mk (below_step (bwx_) hb); clear HO_4; clear BK364; clear BK366; clear HB; have HO_4 := n0_; have BK364 := n1_; have BK366 := n2_; have HB := n3_; clear n0_ n1_ n2_ n3_; (try clear hb); (try clear hb2); (try clear hk); (try clear hi)))
     go_roundg k1
     case measure => have := HK1.out; omega
     case rel => exact ⟨(x4_1), (wrap64 (x9_1 + 1)), sm_, H', ⟨by have := HK1.out; omega⟩, ⟨by (with_reducible repeat (first | apply Kd.R_alloc | apply Kd.R_drewN | apply Kd.R_drew)); exact Kd.R_mono HO_4.out (fun _ hk => trivial)⟩, ⟨by (with_reducible repeat (first | refine blk_drewN ?_ _ | refine blk_drew ?_ | refine blk_alloc ?_ _)); exact BK364.out⟩, ⟨bwx_⟩⟩
    subst c8
    have H1 : (if x4_1.length < 1466015503701 then (sheet_Pick.l0 k1 (x4_1 ++ [(⟨(⟨(rd_T112 l0 x9_1).f0.f0, (rd_T112 l0 x9_1).f0.f1, (rd_T112 l0 x9_1).f0.f2, (rd_T112 l0 x9_1).f0.f3, (rd_T112 l0 x9_1).f0.f4⟩ : S40), (rd_T112 l0 x9_1).f1, (rd_T112 l0 x9_1).f2⟩ : S112)]) l0 (l0.length : Int) (wrap64 (x9_1 + 1)) a1_0 a1_1 a1_2 a1_3 a1_4) else (none)) = some r := by rw [if_pos rfl] at H; exact H
    clear H
    have H := H1
    clear H1
    by_cases c9 : x4_1.length < 1466015503701
    rotate_left
    ·rw [if_neg c9] at H
     exact absurd H (by simp)
    rw [if_pos c9] at H
    have LMc9 := Aside0.mk c9
    clear c9
    obtain ⟨y368, hy368⟩ : ∃ y_ : List (S112), y_ = (x4_1 ++ [(⟨(⟨(rd_T112 l0 x9_1).f0.f0, (rd_T112 l0 x9_1).f0.f1, (rd_T112 l0 x9_1).f0.f2, (rd_T112 l0 x9_1).f0.f3, (rd_T112 l0 x9_1).f0.f4⟩ : S40), (rd_T112 l0 x9_1).f1, (rd_T112 l0 x9_1).f2⟩ : S112)]) := ⟨_, rfl⟩
    replace H : (sheet_Pick.l0 k1 y368 l0 (l0.length : Int) (wrap64 (x9_1 + 1)) a1_0 a1_1 a1_2 a1_3 a1_4) = some r := by first | (rw [hy368]; with_reducible exact H) | (have H2_ := (Option.bind_some _ _).symm.trans H; rw [hy368]; with_reducible exact H2_) | (have H2_ := (Option.bind_some _ _).symm.trans H; with_reducible exact H2_) | with_reducible exact H | (rw [hy368]; exact H) | exact H
    have Ny368 := Aside0.mk hy368
    clear hy368
    have H' := Aside0.mk H
    clear H
    have p365 : 0 ≤ (x9_1 : Int) := odt_
    have q365 : x9_1 < (l0.length : Int) := odt_
    obtain ⟨ad365, e365, hx365_0, hx365_1, hx365_2, hx365_3, hx365_4, hx365_5, hx365_6⟩ := at_T112 HR0.out x9_1 p365 q365
    cases e365
    replace hx365_0 := bcl_ HB hx365_0
    replace hx365_1 := bcl_ HB hx365_1
    replace hx365_2 := bcl_ HB hx365_2
    replace hx365_3 := bcl_ HB hx365_3
    replace hx365_4 := bcl_ HB hx365_4
    replace hx365_5 := bcl_ HB hx365_5
    replace hx365_6 := bcl_ HB hx365_6
    replace p365 := eq_true p365
    replace q365 := eq_true q365
    go_wp2_with (first | ((with_reducible refine gate_dst (N := 6) rfl ?_); refine box_event ?hg (N := 6) ?hd (cs := #[.string (⟨#[]⟩ : ByteArray), .string (⟨#[]⟩ : ByteArray), .string (⟨#[]⟩ : ByteArray), .string (⟨#[]⟩ : ByteArray), .string (⟨#[]⟩ : ByteArray), .int .i64 0, .int .i64 0]) (t := 112) ?hr ?_; (case hd => rfl); (case hg => rfl); (case hr => first | (go_simp; done) | (go_simp; rfl)); intro gb366 hg w10 hbox hb; have n0_ := Aside0.mk (Kd.R_below (Kd.R_elderB (by (with_reducible repeat (first | apply Kd.R_alloc | apply Kd.R_drewN | apply Kd.R_drew)); exact HO_4.out) gb366 (Nat.le_of_eq hg.symm)) hb); have n1_ := Aside0.mk (bb_ BK364 hb); have n2_ := Aside0.mk (below_step (bwx_) hb); have n3_ := Aside0.mk (hbox); have n4_ := Aside0.mk (gw_ (w := w) hg); have n5_ := Aside0.mk (gw_ (w := w) hg); have n6_ := Aside0.mk ((by rw [hg]; exact Nat.ne_of_lt (bl_ BK364) : gb364 ≠ gb366)); have n7_ := Aside0.mk ((by rw [hg]; exact Nat.ne_of_gt (bl_ BK364) : gb366 ≠ gb364)); clear HO_4; clear BK364; clear HB; have HO_4 := n0_; have BK364 := n1_; have HB := n2_; have BK366 := n3_; have GW366 := n4_; have GE366 := n5_; have NB364_366 := n6_; have NB366_364 := n7_; clear n0_ n1_ n2_ n3_ n4_ n5_ n6_ n7_; clear hb hbox hg; have hnb11 := NB366_364.out; have hnc11 := NB364_366.out; obtain ⟨hcz12_0, hcz12_1, hcz12_2, hcz12_3, hcz12_4, hcz12_5, hcz12_6⟩ := bc7_ (w := w10) BK366.out; obtain ⟨hfz12_0, hfz12_1, hfz12_2, hfz12_3, hfz12_4, hfz12_5, hfz12_6⟩ := bf7_ BK366.out; obtain ⟨hcz13_0, hcz13_1, hcz13_2, hcz13_3, hcz13_4⟩ := bc5_ (w := w10) BK364.out; obtain ⟨hfz13_0, hfz13_1, hfz13_2, hfz13_3, hfz13_4⟩ := bf5_ BK364.out) | ((with_reducible refine gate_callee (f := 52) rfl ?_); refine goesL_ (some 16) rfl rfl Tryd.func52 (by kernel_rfl) rfl #[.agg #[.string a1_0, .string a1_1, .string a1_2, .string a1_3, .string a1_4], .agg #[.string ((rd_T112 l0 x9_1).f0.f0), .string ((rd_T112 l0 x9_1).f0.f1), .string ((rd_T112 l0 x9_1).f0.f2), .string ((rd_T112 l0 x9_1).f0.f3), .string ((rd_T112 l0 x9_1).f0.f4)]] rfl ml_ ?_; (with_reducible refine (sheet_Match.calls a1_0 a1_1 a1_2 a1_3 a1_4 ((rd_T112 l0 x9_1).f0.f0) ((rd_T112 l0 x9_1).f0.f1) ((rd_T112 l0 x9_1).f0.f2) ((rd_T112 l0 x9_1).f0.f3) ((rd_T112 l0 x9_1).f0.f4) true _ A7.out).mono ?_); rintro e w14 ⟨rfl, hb⟩; refine ⟨_, rfl, ?_⟩; have n0_ := Aside0.mk (Kd.R_below (by (with_reducible repeat (first | apply Kd.R_alloc | apply Kd.R_drewN | apply Kd.R_drew)); exact (Kd.R_mono (Kd.R_far (p := ⟨gb366, 6, none⟩) (Kd.R_far (p := ⟨gb366, 5, none⟩) (Kd.R_far (p := ⟨gb366, 4, none⟩) (Kd.R_far (p := ⟨gb366, 3, none⟩) (Kd.R_far (p := ⟨gb366, 2, none⟩) (Kd.R_far (p := ⟨gb366, 1, none⟩) (Kd.R_far (p := ⟨gb366, 0, none⟩) (Kd.R_mono HO_4.out (fun k_ hk => (⟨hk, hk.2⟩ : _ ∧ k_ ≠ gb366))) (fun _ hk => hk.2) (.string ((rd_T112 l0 x9_1).f0.f0))) (fun _ hk => hk.2) (.string ((rd_T112 l0 x9_1).f0.f1))) (fun _ hk => hk.2) (.string ((rd_T112 l0 x9_1).f0.f2))) (fun _ hk => hk.2) (.string ((rd_T112 l0 x9_1).f0.f3))) (fun _ hk => hk.2) (.string ((rd_T112 l0 x9_1).f0.f4))) (fun _ hk => hk.2) (.int .i64 ((rd_T112 l0 x9_1).f1))) (fun _ hk => hk.2) (.int .i64 ((rd_T112 l0 x9_1).f2))) (fun _ h_ => h_.1))) hb); have n1_ := Aside0.mk (blk_below (g := gb364) (o := .cells #[.string a1_0, .string a1_1, .string a1_2, .string a1_3, .string a1_4] 40 (0, 0)) (by (with_reducible repeat (first | refine blk_drewN ?_ _ | refine blk_drew ?_ | refine blk_alloc ?_ _)); refine blk_far ?_ NB364_366.out _; (with_reducible repeat (first | refine blk_drewN ?_ _ | refine blk_drew ?_ | refine blk_alloc ?_ _)); refine blk_far ?_ NB364_366.out _; (with_reducible repeat (first | refine blk_drewN ?_ _ | refine blk_drew ?_ | refine blk_alloc ?_ _)); refine blk_far ?_ NB364_366.out _; (with_reducible repeat (first | refine blk_drewN ?_ _ | refine blk_drew ?_ | refine blk_alloc ?_ _)); refine blk_far ?_ NB364_366.out _; (with_reducible repeat (first | refine blk_drewN ?_ _ | refine blk_drew ?_ | refine blk_alloc ?_ _)); refine blk_far ?_ NB364_366.out _; (with_reducible repeat (first | refine blk_drewN ?_ _ | refine blk_drew ?_ | refine blk_alloc ?_ _)); refine blk_far ?_ NB364_366.out _; (with_reducible repeat (first | refine blk_drewN ?_ _ | refine blk_drew ?_ | refine blk_alloc ?_ _)); refine blk_far ?_ NB364_366.out _; (with_reducible repeat (first | refine blk_drewN ?_ _ | refine blk_drew ?_ | refine blk_alloc ?_ _)); exact BK364.out) hb); have n2_ := Aside0.mk (blk_below (g := gb366) (o := .cells #[.string ((rd_T112 l0 x9_1).f0.f0), .string ((rd_T112 l0 x9_1).f0.f1), .string ((rd_T112 l0 x9_1).f0.f2), .string ((rd_T112 l0 x9_1).f0.f3), .string ((rd_T112 l0 x9_1).f0.f4), .int .i64 ((rd_T112 l0 x9_1).f1), .int .i64 ((rd_T112 l0 x9_1).f2)] 112 (0, 0)) (by (with_reducible repeat (first | refine blk_drewN ?_ _ | refine blk_drew ?_ | refine blk_alloc ?_ _)); refine blk_put (cs := #[.string ((rd_T112 l0 x9_1).f0.f0), .string ((rd_T112 l0 x9_1).f0.f1), .string ((rd_T112 l0 x9_1).f0.f2), .string ((rd_T112 l0 x9_1).f0.f3), .string ((rd_T112 l0 x9_1).f0.f4), .int .i64 ((rd_T112 l0 x9_1).f1), .int .i64 0]) ?_ 6 _ rfl; (with_reducible repeat (first | refine blk_drewN ?_ _ | refine blk_drew ?_ | refine blk_alloc ?_ _)); refine blk_put (cs := #[.string ((rd_T112 l0 x9_1).f0.f0), .string ((rd_T112 l0 x9_1).f0.f1), .string ((rd_T112 l0 x9_1).f0.f2), .string ((rd_T112 l0 x9_1).f0.f3), .string ((rd_T112 l0 x9_1).f0.f4), .int .i64 0, .int .i64 0]) ?_ 5 _ rfl; (with_reducible repeat (first | refine blk_drewN ?_ _ | refine blk_drew ?_ | refine blk_alloc ?_ _)); refine blk_put (cs := #[.string ((rd_T112 l0 x9_1).f0.f0), .string ((rd_T112 l0 x9_1).f0.f1), .string ((rd_T112 l0 x9_1).f0.f2), .string ((rd_T112 l0 x9_1).f0.f3), .string (⟨#[]⟩ : ByteArray), .int .i64 0, .int .i64 0]) ?_ 4 _ rfl; (with_reducible repeat (first | refine blk_drewN ?_ _ | refine blk_drew ?_ | refine blk_alloc ?_ _)); refine blk_put (cs := #[.string ((rd_T112 l0 x9_1).f0.f0), .string ((rd_T112 l0 x9_1).f0.f1), .string ((rd_T112 l0 x9_1).f0.f2), .string (⟨#[]⟩ : ByteArray), .string (⟨#[]⟩ : ByteArray), .int .i64 0, .int .i64 0]) ?_ 3 _ rfl; (with_reducible repeat (first | refine blk_drewN ?_ _ | refine blk_drew ?_ | refine blk_alloc ?_ _)); refine blk_put (cs := #[.string ((rd_T112 l0 x9_1).f0.f0), .string ((rd_T112 l0 x9_1).f0.f1), .string (⟨#[]⟩ : ByteArray), .string (⟨#[]⟩ : ByteArray), .string (⟨#[]⟩ : ByteArray), .int .i64 0, .int .i64 0]) ?_ 2 _ rfl; (with_reducible repeat (first | refine blk_drewN ?_ _ | refine blk_drew ?_ | refine blk_alloc ?_ _)); refine blk_put (cs := #[.string ((rd_T112 l0 x9_1).f0.f0), .string (⟨#[]⟩ : ByteArray), .string (⟨#[]⟩ : ByteArray), .string (⟨#[]⟩ : ByteArray), .string (⟨#[]⟩ : ByteArray), .int .i64 0, .int .i64 0]) ?_ 1 _ rfl; (with_reducible repeat (first | refine blk_drewN ?_ _ | refine blk_drew ?_ | refine blk_alloc ?_ _)); refine blk_put (cs := #[.string (⟨#[]⟩ : ByteArray), .string (⟨#[]⟩ : ByteArray), .string (⟨#[]⟩ : ByteArray), .string (⟨#[]⟩ : ByteArray), .string (⟨#[]⟩ : ByteArray), .int .i64 0, .int .i64 0]) ?_ 0 _ rfl; (with_reducible repeat (first | refine blk_drewN ?_ _ | refine blk_drew ?_ | refine blk_alloc ?_ _)); exact BK366.out) hb); have n3_ := Aside0.mk (below_step (bwx_) hb); clear HO_4; clear BK364; clear BK366; clear HB; have HO_4 := n0_; have BK364 := n1_; have BK366 := n2_; have HB := n3_; clear n0_ n1_ n2_ n3_; (try clear hb); (try clear hb2); (try clear hk); (try clear hi); obtain ⟨hcz15_0, hcz15_1, hcz15_2, hcz15_3, hcz15_4, hcz15_5, hcz15_6⟩ := bc7_ (w := w14) BK366.out; obtain ⟨hfz15_0, hfz15_1, hfz15_2, hfz15_3, hfz15_4, hfz15_5, hfz15_6⟩ := bf7_ BK366.out) | ((with_reducible refine gate_builtin (b := .append) (xs := #[.tmp 17, .tmp 19]) rfl ?_); at_builtin; refine Kd.R_append k112 (w0 := w) w.heap.size rfl (.tmp 17) (.tmp 19) 32 112 (.agg #[(.string ⟨#[]⟩), (.string ⟨#[]⟩), (.string ⟨#[]⟩), (.string ⟨#[]⟩), (.string ⟨#[]⟩), (.int .i64 0), (.int .i64 0)]) 96 rfl Tryd.underlying32 info112 rfl (by decide) (by omega) u4 x4_1 (⟨(⟨(rd_T112 l0 x9_1).f0.f0, (rd_T112 l0 x9_1).f0.f1, (rd_T112 l0 x9_1).f0.f2, (rd_T112 l0 x9_1).f0.f3, (rd_T112 l0 x9_1).f0.f4⟩ : S40), (rd_T112 l0 x9_1).f1, (rd_T112 l0 x9_1).f2⟩ : S112) [.string ((rd_T112 l0 x9_1).f0.f0), .string ((rd_T112 l0 x9_1).f0.f1), .string ((rd_T112 l0 x9_1).f0.f2), .string ((rd_T112 l0 x9_1).f0.f3), .string ((rd_T112 l0 x9_1).f0.f4), .int .i64 ((rd_T112 l0 x9_1).f1), .int .i64 ((rd_T112 l0 x9_1).f2)] (fun k_ => k_ ≠ gb366) (fun _ => False) rfl rfl ?aP (fun _ hk => hk.elim) ?aF ?aO ?aB ?aS ?aL ?_; (case aP => exact k112_mkM _ _ _ (⟨(⟨(rd_T112 l0 x9_1).f0.f0, (rd_T112 l0 x9_1).f0.f1, (rd_T112 l0 x9_1).f0.f2, (rd_T112 l0 x9_1).f0.f3, (rd_T112 l0 x9_1).f0.f4⟩ : S40), (rd_T112 l0 x9_1).f1, (rd_T112 l0 x9_1).f2⟩ : S112)); (case aB => exact (bwx_)); (case aF => exact (fun k_ hk => Kd.freshB (g := gb366) (o := .cells #[.string ((rd_T112 l0 x9_1).f0.f0), .string ((rd_T112 l0 x9_1).f0.f1), .string ((rd_T112 l0 x9_1).f0.f2), .string ((rd_T112 l0 x9_1).f0.f3), .string ((rd_T112 l0 x9_1).f0.f4), .int .i64 ((rd_T112 l0 x9_1).f1), .int .i64 ((rd_T112 l0 x9_1).f2)] 112 (0, 0)) (by (with_reducible repeat (first | refine blk_drewN ?_ _ | refine blk_drew ?_ | refine blk_alloc ?_ _)); exact BK366.out) k_ hk)); (case aO => exact (by (with_reducible repeat (first | apply Kd.R_alloc | apply Kd.R_drewN | apply Kd.R_drew)); exact Kd.R_mono HO_4.out (fun _ hk => hk.2))); (case aS => exact (below_size (bwx_))); (case aL => have := LMc9.out; omega); intro v369 w16 ho hb hg hat; rw [← Ny368.out] at ho; have n0_ := Aside0.mk (blk_grown (g := gb364) (o := .cells #[.string a1_0, .string a1_1, .string a1_2, .string a1_3, .string a1_4] 40 (0, 0)) (by (with_reducible repeat (first | refine blk_drewN ?_ _ | refine blk_drew ?_ | refine blk_alloc ?_ _)); exact BK364.out) hg (Kd.R_ne HO_4.out BK364.out (by decide))); have n1_ := Aside0.mk (blk_grown (g := gb366) (o := .cells #[.string ((rd_T112 l0 x9_1).f0.f0), .string ((rd_T112 l0 x9_1).f0.f1), .string ((rd_T112 l0 x9_1).f0.f2), .string ((rd_T112 l0 x9_1).f0.f3), .string ((rd_T112 l0 x9_1).f0.f4), .int .i64 ((rd_T112 l0 x9_1).f1), .int .i64 ((rd_T112 l0 x9_1).f2)] 112 (0, 0)) (by (with_reducible repeat (first | refine blk_drewN ?_ _ | refine blk_drew ?_ | refine blk_alloc ?_ _)); exact BK366.out) hg (Kd.R_away HO_4.out (fun _ hk => hk.2))); have n2_ := Aside0.mk (hb); have n3_ := Aside0.mk (ho); clear BK364; clear BK366; clear HB; clear HO_4; have BK364 := n0_; have BK366 := n1_; have HB := n2_; have HO370 := n3_; clear n0_ n1_ n2_ n3_; clear ho hb hg hat))
    go_roundg k1
    case measure => have := HK1.out; omega
    case rel => exact ⟨(y368), (wrap64 (x9_1 + 1)), sm_, H', ⟨by have := HK1.out; omega⟩, ⟨by (with_reducible repeat (first | apply Kd.R_alloc | apply Kd.R_drewN | apply Kd.R_drew)); exact Kd.R_mono HO370.out (fun _ hk => trivial)⟩, ⟨by (with_reducible repeat (first | refine blk_drewN ?_ _ | refine blk_drew ?_ | refine blk_alloc ?_ _)); exact BK364.out⟩, ⟨bwx_⟩⟩
   ·rw [if_neg c4] at H
    have c4b0 : decide (x9_1 < (l0.length : Int)) = false := decide_eq_false c4
    clear c4
    obtain rfl := Option.some.inj H
    go_wp2
    go_ret
    exact ⟨_, ew_, by (with_reducible repeat (first | apply Kd.R_alloc | apply Kd.R_drewN | apply Kd.R_drew)); exact HO_4.out, bwx_⟩
end Go.Proofs.YtppcjoaghlecmaaDoor.P
namespace Go.Proofs.YtppcjoaghlecmaaDoor.P
open Go.RowKit Go.Proofs.YtppcjoaghlecmaaDoorW.PrintWords Go.Proofs.YtppcjoaghlecmaaDoorW.PrintLast
set_option linter.unusedVariables false
set_option linter.unusedSimpArgs false
theorem sheetMatch_pure (x y : S40) : sheet_Match.f x.f0 x.f1 x.f2 x.f3 x.f4 y.f0 y.f1 y.f2 y.f3 y.f4 = some (matchK x y) := rfl
def pickK (key : S40) (l : List S112) : List S112 := l.filter (fun c => matchK key c.f0)
theorem mk34' (x : S112) : (⟨⟨x.f0.f0, x.f0.f1, x.f0.f2, x.f0.f3, x.f0.f4⟩, x.f1, x.f2⟩ : S112) = x := rfl
theorem pickK_take (key : S40) (l : List S112) {i : Nat} (h : i < l.length) : pickK key (l.take (i + 1)) = if matchK key l[i].f0 = true then pickK key (l.take i) ++ [l[i]] else pickK key (l.take i) := by
 unfold pickK
 rw [List.take_add_one, List.getElem?_eq_getElem h, List.filter_append]
 show _ ++ List.filter _ [l[i]] = _
 by_cases c : matchK key l[i].f0 = true
 ·rw [if_pos c, List.filter_cons_of_pos (by exact c)]; rfl
 ·rw [if_neg c, List.filter_cons_of_neg (by exact c)]; simp
theorem pickK_le (key : S40) (l : List S112) : (pickK key l).length ≤ l.length := List.length_filter_le _ _
theorem pick_l0 (l : List S112) (key : S40) (hl : l.length ≤ 1000000) : ∀ (n i : Nat), l.length - i = n → i ≤ l.length → Ev (fun k => sheet_Pick.l0 k (pickK key (l.take i)) l (l.length : Int) (i : Int) key.f0 key.f1 key.f2 key.f3 key.f4) (pickK key l) := by
 intro n
 induction n with
 | zero =>
  intro i hn hi
  refine Ev.step (fun k => sheet_Pick.l0.eq_2 _ _ _ _ _ _ _ _ _ k) ?_
  rw [List.take_of_length_le (by omega)]
  simp only [if_neg (show ¬ ((i : Int) < (l.length : Int)) by omega)]
  exact Ev.now _
 | succ n ih =>
  intro i hn hi
  have hil : i < l.length := by omega
  have hw : wrap64 ((i : Int) + 1) = ((i + 1 : Nat) : Int) := by rw [w64 (by omega) (by omega)]; omega
  have hp := pickK_le key (l.take i)
  rw [List.length_take] at hp
  have ih := ih (i + 1) (by omega) (by omega)
  rw [pickK_take key l hil] at ih
  refine Ev.step (fun k => sheet_Pick.l0.eq_2 _ _ _ _ _ _ _ _ _ k) ?_
  simp only [if_pos (show ((i : Int) < (l.length : Int)) by omega), if_pos (show (0 : Int) ≤ (i : Int) by omega), hw, rd112_at hil, sheetMatch_pure, Option.bind_some, if_pos (show (pickK key (l.take i)).length < 1466015503701 by omega), mk34']
  by_cases c : matchK key l[i].f0 = true
  ·rw [if_pos c] at ih
   simp only [if_pos c]; exact ih
  ·rw [if_neg c] at ih
   simp only [if_neg c]; exact ih
theorem pick_ev (l : List S112) (key : S40) (hl : l.length ≤ 1000000) : Ev (fun k => sheet_Pick.f k l key.f0 key.f1 key.f2 key.f3 key.f4) (pickK key l) := pick_l0 l key hl _ 0 rfl (Nat.zero_le _)
end Go.Proofs.YtppcjoaghlecmaaDoor.P
namespace Go.Proofs.YtppcjoaghlecmaaDoor.P
open Go.RowKit Go.Sort Go.Proofs.YtppcjoaghlecmaaDoorW.PrintWords Go.Proofs.YtppcjoaghlecmaaDoorW.PrintLast Go.Proofs.YtppcjoaghlecmaaDoorW.PrintMore Go.Maps Go.ChangeShapes Go.WideShapes Go.WideMaps Go.Shelf
set_option linter.unusedVariables false
set_option linter.unusedSimpArgs false
def cellsE (x : S29) : List S112 × Int := if (chkE x).2 = 0 then ofK (rawL x) else ([], (chkE x).2)
theorem okS_raw {x : S29} (h : (chkE x).2 = 0) : OkS (rawL x) := ⟨by have := (good_raw h).2.1; omega, (good_raw h).2.2⟩
theorem cells_ev (x : S29) (hf : FitE x) : Ev (fun k => ledger_Cells.f k x.f0 x.f1 x.f2 x.f3 x.f4 x.f5 x.f6 x.f7 x.f8) (cellsE x) := by
 unfold ledger_Cells.f cellsE
 refine Ev.bind (chk_ev x hf) ?_
 by_cases h : (chkE x).2 = 0
 ·simp only [if_pos h]
  refine Ev.bind (raw_ev x (by have := (head_len (chk_two h).1).2.1; omega)) ?_
  unfold sheet_Of.f
  rw [if_pos (okS_raw h)]
  exact Ev.now _
 simp only [if_neg h]
 exact Ev.now _
theorem cells_is (x : S29) (A : Option Addr) (c : Nat) (s : List S112) (n : Int) (w : World) (hC : Kd.C k109 w A x.f8.length x.f8) (hc : x.f8.length ≤ c) (hf : FitE x) (hT : Tab w) (hs : cellsE x = (s, n)) : Calls Tryd.prog 25 #[enV x A c] w fun e w' => ∃ A' c', e = .returned (.tuple #[.slice A' s.length c', .int .i64 n]) ∧ Sl w' A' s.length c' s ∧ Below w.heap.size w w' := by
 obtain ⟨k, hk⟩ := (cells_ev x hf).rounds
 rw [hs] at hk
 refine (ledger_Cells.calls k _ _ _ _ _ _ _ _ A c x.f8 s n w hC hc hk hT).mono ?_
 rintro e w' ⟨v, rfl, hr, hb⟩
 obtain ⟨A', c', rfl, h1⟩ := Sl.of hr
 exact ⟨A', c', rfl, h1, hb⟩
end Go.Proofs.YtppcjoaghlecmaaDoor.P
