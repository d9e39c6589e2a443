/- Texts of mine and of the print, joined. -/
import Derived.Test.YtppcjoaghlecmaaDoorRc
import Derived.Test.YtppcjoaghlecmaaDoorRe
import Derived.BigQuiet
import Derived.Deep.RegionHeld3
import Derived.StillTailTactics
import Derived.RangeFuncBox
import Derived.RangeFuncNested
import Derived.RangeFuncLeaves
import Derived.Shelf.Abstract
import Derived.WalkKit
import Derived.OwnWalkIn
import Derived.TacticsInMore
import Derived.LoopNIn
import Derived.LoopIn
import Derived.Maps.AppendAt
import Derived.Test.YtppcjoaghlecmaaDoorRa
import Derived.Test.YtppcjoaghlecmaaDoorRb
set_option linter.unusedVariables false
set_option linter.unusedSimpArgs false
set_option maxHeartbeats 16000000
set_option maxRecDepth 100000
open Go.RowKit Go.Proofs.YtppcjoaghlecmaaDoorW.PrintWords Go.Proofs.YtppcjoaghlecmaaDoorW.PrintLast Go.Proofs.YtppcjoaghlecmaaDoorW.PrintMore
namespace Go.Proofs.YtppcjoaghlecmaaDoor.P
section
open Go.Sort Go.Maps Go.ChangeShapes Go.WideShapes Go.WideMaps
structure Pst where
 h : S29
 C : List S112
 v : Value
def hdV (x : S29) (l : Value) : Value := .agg #[.int .i64 x.f0, .string x.f1, .int .i64 x.f2, .int .i64 x.f3, .int .i64 x.f4, .string x.f5, .string x.f6, .int .i64 x.f7, l]
def pstV (x : S29) (v : Value) : Value := .agg #[.int .i64 x.f0, .string x.f1, .int .i64 x.f2, .int .i64 x.f3, .int .i64 x.f4, .string x.f5, .string x.f6, .int .i64 x.f7, .slice none 0 0, v]
def z118V : Value := pstV z29 (.slice none 0 0)
def valL (L : List Pst) (j : Int) : Value := if j < 1 then z118V else match L[(j - 1).toNat]? with | some c => pstV c.h c.v | none => z118V
theorem zero118 (w : World) : (zeroValue 118).run Tryd.prog w = .ok z118V w := by kernel_rfl
theorem qkg : Keyed Tryd.prog 3 := int_keyed Tryd.underlying3
theorem keyI {j : Int} (h : qdl j) : keyOf Tryd.prog 3 (.int .i64 j) = some (.int .i64 j) := keyOf_int_mk Tryd.underlying3 (by
 have h2 : IntKind.i64.min = -9223372036854775808 := by decide
 unfold qdl at h
 simp [Lit.wf, h2]
 omega)
theorem int_ne {a b : Int} (h : a ≠ b) : Lit.int IntKind.i64 a ≠ Lit.int IntKind.i64 b := by
 intro h'
 simp only [Lit.int.injEq] at h'
 exact h h'.2
structure Led (w : World) (base p m : Nat) (L : List Pst) : Prop where
 blk : w.heap[p]? = some (.cells #[.map (some m)] 121 (0, 0))
 map : ∃ D : DataW Value, w.ownsMap Tryd.prog 3 vR m L.length D ∧ Maps.size D = L.length ∧ (∀ j : Int, qdl j → D.atKey (.int .i64 j) (.held z118V) = .held (valL L j)) ∧ ∀ j : Int, qdl j → Maps.has D (.int .i64 j) = decide (1 ≤ j ∧ j ≤ L.length)
 row : ∀ c ∈ L, Kd.R k112 112 w base (fun _ => True) c.v c.C
 lowp : base ≤ p
 lowm : base ≤ m
section
variable {w w' : World} {base p m : Nat} {L : List Pst}
theorem Led.ltm (h : Led w base p m L) : m < w.heap.size := by
 obtain ⟨D, ⟨es, clock, h1, h2⟩, _⟩ := h.map
 exact (Array.getElem?_eq_some_iff.1 h1).1
theorem Led.ltp (h : Led w base p m L) : p < w.heap.size := qeo h.blk
theorem Led.ne (h : Led w base p m L) : p ≠ m := by
 rintro rfl
 obtain ⟨D, ⟨es, clock, h1, h2⟩, _⟩ := h.map
 rw [h.blk] at h1; cases h1
theorem Led.below (h : Led w base p m L) (hb : Below w.heap.size w w') : Led w' base p m L := by
 obtain ⟨D, ⟨es, clock, h1, h2⟩, hD⟩ := h.map
 exact ⟨(hb.block p h.ltp).trans h.blk, ⟨D, ⟨es, clock, (hb.block m h.ltm).trans h1, h2⟩, hD⟩, fun c hc => Kd.qdw (h.row c hc) hb, h.lowp, h.lowm⟩
theorem Led.len (h : Led w base p m L) (ty : TypeId) : (Builtin.len_ #[119] ty #[.map (some m)]).run Tryd.prog w = .ok (.int .i64 L.length) w := by
 obtain ⟨D, ho, hs, _⟩ := h.map
 rw [← hs]
 exact ho.len Tryd.underlying119 ty
theorem Led.look (h : Led w base p m L) {j : Int} (hj : qdl j) : (Instr.lookup 119 (.map (some m)) (.int .i64 j) false).run Tryd.prog w = .ok (valL L j) w := by
 obtain ⟨D, ho, _, hD, _⟩ := h.map
 obtain ⟨v, ps, hrun, hv⟩ := ho.lookup qkg Tryd.underlying119 (zero118 w) (zd := .held z118V) (zp := []) rfl (keyI hj)
 rw [hrun]
 simp only [vR, Option.some.injEq, Prod.mk.injEq] at hv
 rw [hD j hj] at hv
 simp only [DataW.held.injEq] at hv
 rw [hv.1]
theorem valL_at {c : Pst} {i : Nat} (h : L[i]? = some c) : valL L ((i : Int) + 1) = pstV c.h c.v := by
 unfold valL
 rw [if_neg (by omega), show ((i : Int) + 1 - 1).toNat = i from by omega, h]
theorem valL_snoc {c : Pst} (j : Int) : valL (L ++ [c]) j = if j = (L.length : Int) + 1 then pstV c.h c.v else valL L j := by
 unfold valL
 by_cases h1 : j < 1
 ·rw [if_pos h1, if_pos h1, if_neg (by omega)]
 rw [if_neg h1, if_neg h1]
 by_cases e : j = (L.length : Int) + 1
 ·rw [if_pos e, show (j - 1).toNat = L.length from by omega]
  simp
 rw [if_neg e]
 by_cases h2 : (j - 1).toNat < L.length
 ·rw [List.getElem?_append_left h2]
 rw [List.getElem?_eq_none (l := L) (by omega), List.getElem?_eq_none (by simp; omega)]
theorem Led.put (h : Led w base p m L) {c : Pst} (hL : L.length < 1000000) (hc : Kd.R k112 112 w base (fun _ => True) c.v c.C) :
  ∃ w', (Instr.mapUpdate 119 (.map (some m)) (.int .i64 ((L.length : Int) + 1)) (pstV c.h c.v)).run Tryd.prog w = .ok () w' ∧ Led w' base p m (L ++ [c]) ∧ w.grownBy w' (some m) := by
 obtain ⟨D, ho, hs, hD, hh⟩ := h.map
 have hM := World.ownsMap.isMap ho
 have hT := World.ownsMap.tidy ho qkg
 have hj : qdl ((L.length : Int) + 1) := by unfold qdl; omega
 obtain ⟨w', hrun, ho', hg⟩ := ho.update qkg Tryd.underlying119 (by unfold maxLen; omega) (val := pstV c.h c.v) (d := .held (pstV c.h c.v)) (ps := []) (keyI hj) rfl
 have hblk : ∀ k, k < w.heap.size → k ≠ m → w'.heap[k]? = w.heap[k]? := fun k hk hne => hg.block k hk (fun e => hne (Option.some.inj e))
 have hrow : ∀ d : Pst, Kd.R k112 112 w base (fun _ => True) d.v d.C → Kd.R k112 112 w' base (fun _ => True) d.v d.C := fun d hd => by
  have h1 := Kd.qdt (Kd.qkn rfl hd) (ok' := fun k => d.v.ownBlock = some k) (fun k hk => hk.symm)
  have h2 := Kd.qhj h1 (w1 := w') (fun k hk hlt => by
   obtain ⟨cs, hcs⟩ := Kd.qea hd k hk
   refine hblk k hlt (fun e => ?_)
   subst e
   obtain ⟨es, cl, h1, _⟩ := ho
   rw [hcs] at h1; cases h1)
  exact Kd.qdt h2 (fun _ _ => trivial)
 refine ⟨w', hrun, ⟨(hblk p h.ltp h.ne).trans h.blk, ⟨_, by rw [List.length_append]; exact ho', ?_, fun t ht => ?_, fun t ht => ?_⟩, fun d hd => ?_, h.lowp, h.lowm⟩, hg⟩
 ·rw [size_put hT, hh _ hj, hs]
  rw [if_neg (by simp; omega)]
  simp
 ·rw [valL_snoc]
  by_cases e : t = (L.length : Int) + 1
  ·subst e
   rw [atKey_put_same hM (qkg.key (keyI hj)), if_pos rfl]
  rw [atKey_put_other (int_ne e), if_neg e, hD t ht]
 ·by_cases e : t = (L.length : Int) + 1
  ·subst e
   rw [has_put_same hM (qkg.key (keyI hj))]
   simp
   omega
  rw [has_put_other (int_ne e), hh t ht]
  simp only [List.length_append, List.length_cons, List.length_nil]
  rw [decide_eq_decide]
  omega
 ·rcases List.mem_append.1 hd with hd | hd
  ·exact hrow d (h.row d hd)
  ·rw [List.mem_singleton] at hd
   subst hd
   exact hrow d hc
theorem Led.made (w : World) : Led ((w.alloc (.map #[] 0)).alloc (.cells #[.map (some w.heap.size)] 121 (0, 0))) w.heap.size (w.heap.size + 1) w.heap.size [] := by
 have h1 : (w.alloc (.map #[] 0)).heap.size = w.heap.size + 1 := by simp
 refine ⟨by rw [← h1]; exact qdu _ _, ⟨.map [], ?_, rfl, (fun j hj => ?_), (fun j hj => ?_)⟩, (fun c hc => by cases hc), Nat.le_succ _, Nat.le_refl _⟩
 ·obtain ⟨es, clock, h2, h3⟩ := World.ownsMap_made w Tryd.prog 3 vR
  exact ⟨es, clock, ((qbk (Below.refl _ _) _).block w.heap.size (by rw [h1]; omega)).trans h2, h3⟩
 ·unfold valL
  by_cases h1 : j < 1
  ·rw [if_pos h1]; rfl
  rw [if_neg h1]; rfl
 ·have : (decide (1 ≤ j ∧ j ≤ (([] : List Pst).length : Int))) = false := decide_eq_false (by simp; omega)
  rw [this]; rfl
end
end
section
def ahead (E : List S29) (x : S29) : Bool := match E.getLast? with | some y => decide (x.f2 < y.f2) | none => false
def postC (E : List S29) (x : S29) : Int :=
 if (chkE x).2 ≠ 0 then (chkE x).2 else if x.f0 ≠ (E.length : Int) + 1 ∨ ahead E x = true then 17 else if E.length ≥ 4000 then 9 else 0
def qjk (E : List S29) (x : S29) : List S29 := if postC E x = 0 then E ++ [x] else E
def LedE (w : World) (base p m : Nat) (E : List S29) : Prop := ∃ L, Led w base p m L ∧ L.map Pst.h = E ∧ ∀ c ∈ L, c.C = rawL c.h
theorem LedE.below {w w' : World} {base p m : Nat} {E : List S29} (h : LedE w base p m E) (hb : Below w.heap.size w w') : LedE w' base p m E := by
 obtain ⟨L, h1, h2, h3⟩ := h
 exact ⟨L, h1.below hb, h2, h3⟩
theorem LedE.lowm {w : World} {base p m : Nat} {E : List S29} (h : LedE w base p m E) : base ≤ m := by
 obtain ⟨L, h1, _⟩ := h
 exact h1.lowm
end
section
open Go.Sort Go.Maps Go.ChangeShapes Go.WideShapes Go.WideMaps
theorem lnew_calls (w : World) : Calls Tryd.prog 22 #[] w fun e w' => ∃ p m, e = .returned (.pointer (some ⟨p, 0, none⟩)) ∧ Led w' w.heap.size p m [] ∧ Below w.heap.size w w' := by
 have hmm := @run_makeMap Tryd.prog
 go_enter Tryd.func22, Tryd.ntmps22
 go_wp2
 go_ret
 exact ⟨_, _, rfl, Led.made w, qbk (qbk (Below.refl _ _) _) _⟩
theorem llen_calls {w : World} {base p m : Nat} {L : List Pst} (h : Led w base p m L) : Calls Tryd.prog 23 #[.pointer (some ⟨p, 0, none⟩)] w fun e w' => e = .returned (.int .i64 L.length) ∧ Below w.heap.size w w' := by
 have hl := h.len 3
 have hc := (qg h.blk 0).trans rfl
 go_enter Tryd.func23, Tryd.ntmps23
 go_wp2
 go_ret
 exact ⟨rfl, Below.refl _ _⟩
abbrev enV (x : S29) (A : Option Addr) (c : Nat) : Value := .agg #[.int .i64 x.f0, .string x.f1, .int .i64 x.f2, .int .i64 x.f3, .int .i64 x.f4, .string x.f5, .string x.f6, .int .i64 x.f7, .slice A x.f8.length c]
theorem post_bad {p : Nat} (x : S29) (A : Option Addr) (c : Nat) (w : World) (hC : Kd.C k109 w A x.f8.length x.f8) (hc : x.f8.length ≤ c) (hT : Tab w) (hf : FitE x) (hne : (chkE x).2 ≠ 0) :
  Calls Tryd.prog 20 #[.pointer (some ⟨p, 0, none⟩), enV x A c] w fun e w' => e = .returned (.int .i64 (chkE x).2) ∧ Below w.heap.size w w' := by
 obtain ⟨k, hk⟩ := (qmp x hf).rounds
 obtain ⟨at_, er, he⟩ : ∃ a e, chkE x = (a, e) := ⟨_, _, rfl⟩
 rw [he] at hk hne
 rw [he]
 have d1 : decide (er = 0) = false := decide_eq_false hne
 have HC := qd.mk hC
 have HT := qd.mk hT
 have HK := qd.mk hk
 have HL := qd.mk hc
 have HB1 := qd.mk (qbk (Below.refl w.heap.size w) (.cells #[.int .i64 x.f0, .string x.f1, .int .i64 x.f2, .int .i64 x.f3, .int .i64 x.f4, .string x.f5, .string x.f6, .int .i64 x.f7, .slice A x.f8.length c] 29))
 clear hC hT hk he hc
 go_enter Tryd.func20, Tryd.ntmps20
 go_wp2_with (first | (go_at_call 47; refine (qde.calls k x.f0 x.f1 x.f2 x.f3 x.f4 x.f5 x.f6 x.f7 A c x.f8 at_ er _ (Kd.qbw HC.out HB1.out) HL.out HK.out (HT.out.below HB1.out)).mono ?_; rintro e w2 ⟨rfl, hb⟩))
 go_ret
 exact ⟨rfl, qcn HB1.out HB1.out.size hb⟩
theorem post_order {base p m : Nat} {E : List S29} (x : S29) (A : Option Addr) (c : Nat) (w : World) (hL : LedE w base p m E) (hC : Kd.C k109 w A x.f8.length x.f8) (hc : x.f8.length ≤ c) (hT : Tab w) (hf : FitE x) (hchk : (chkE x).2 = 0) (hlen : E.length ≤ 100000) (ho : x.f0 ≠ (E.length : Int) + 1) :
  Calls Tryd.prog 20 #[.pointer (some ⟨p, 0, none⟩), enV x A c] w fun e w' => e = .returned (.int .i64 17) ∧ Below w.heap.size w w' := by
 obtain ⟨k, hk⟩ := (qmp x hf).rounds
 rw [(qho hchk).2.2.2] at hk
 have HC := qd.mk hC
 have HT := qd.mk hT
 have HK := qd.mk hk
 have HLC := qd.mk hc
 have HB1 := qd.mk (qbk (Below.refl w.heap.size w) (.cells #[.int .i64 x.f0, .string x.f1, .int .i64 x.f2, .int .i64 x.f3, .int .i64 x.f4, .string x.f5, .string x.f6, .int .i64 x.f7, .slice A x.f8.length c] 29))
 have HBX := qd.mk (qdu w (.cells #[.int .i64 x.f0, .string x.f1, .int .i64 x.f2, .int .i64 x.f3, .int .i64 x.f4, .string x.f5, .string x.f6, .int .i64 x.f7, .slice A x.f8.length c] 29))
 obtain ⟨L, hLed, hE, hraw⟩ := hL
 have hLn : E.length = L.length := by rw [← hE, List.length_map]
 rw [hLn] at ho hlen
 have HLED := qd.mk (hLed.below HB1.out)
 have HHL := qd.mk hlen
 clear hC hT hk hc hLed hE hraw hchk hLn
 have hp := (qg HLED.out.blk 0).trans rfl
 have hw1 : wrap64 ((L.length : Int) + 1) = (L.length : Int) + 1 := by unfold wrap64; omega
 have d1 : (x.f0 != (L.length : Int) + 1) = true := by simpa using ho
 go_enter Tryd.func20, Tryd.ntmps20
 go_upto_region 7 with (first | (go_at_call 47; refine (qde.calls k x.f0 x.f1 x.f2 x.f3 x.f4 x.f5 x.f6 x.f7 A c x.f8 (-1) 0 _ (Kd.qbw HC.out HB1.out) HLC.out HK.out (HT.out.below HB1.out)).mono ?_; rintro e w2 ⟨rfl, hb⟩; have HLED2 := qd.mk (HLED.out.below hb); have hln := HLED2.out.len 3; have hp2 : w2.cell? ⟨p, 0, none⟩ = some (.map (some m)) := (qg HLED2.out.blk 0).trans rfl; have hb2 := qcj HBX.out hb; have a0 : w2.cell? ⟨w.heap.size, 0, none⟩ = some (.int .i64 x.f0) := (qg hb2 0).trans rfl; have a2 : w2.cell? ⟨w.heap.size, 2, none⟩ = some (.int .i64 x.f2) := (qg hb2 2).trans rfl; clear hb2 hp))
 have HB2 := qd.mk (qcn HB1.out HB1.out.size hb)
 clear hb
 go_big_quiet (fail)
 go_wp2
 go_ret
 exact ⟨rfl, qbn HB2.out nq⟩
theorem post_order2 {base p m : Nat} {E : List S29} (x y : S29) (A : Option Addr) (c : Nat) (w : World) (hL : LedE w base p m E) (hC : Kd.C k109 w A x.f8.length x.f8) (hc : x.f8.length ≤ c) (hT : Tab w) (hf : FitE x) (hchk : (chkE x).2 = 0) (hlen : E.length ≤ 100000) (ho : x.f0 = (E.length : Int) + 1) (hy : E.getLast? = some y) (hxy : x.f2 < y.f2) :
  Calls Tryd.prog 20 #[.pointer (some ⟨p, 0, none⟩), enV x A c] w fun e w' => e = .returned (.int .i64 17) ∧ Below w.heap.size w w' := by
 obtain ⟨k, hk⟩ := (qmp x hf).rounds
 rw [(qho hchk).2.2.2] at hk
 have HC := qd.mk hC
 have HT := qd.mk hT
 have HK := qd.mk hk
 have HLC := qd.mk hc
 have HB1 := qd.mk (qbk (Below.refl w.heap.size w) (.cells #[.int .i64 x.f0, .string x.f1, .int .i64 x.f2, .int .i64 x.f3, .int .i64 x.f4, .string x.f5, .string x.f6, .int .i64 x.f7, .slice A x.f8.length c] 29))
 have HBX := qd.mk (qdu w (.cells #[.int .i64 x.f0, .string x.f1, .int .i64 x.f2, .int .i64 x.f3, .int .i64 x.f4, .string x.f5, .string x.f6, .int .i64 x.f7, .slice A x.f8.length c] 29))
 obtain ⟨L, hLed, hE, hraw⟩ := hL
 have hLn : E.length = L.length := by rw [← hE, List.length_map]
 rw [hLn] at ho hlen
 have hcl : ∃ d, L[L.length - 1]? = some d ∧ d.h = y ∧ 0 < L.length := by
  rw [← hE, List.getLast?_map, List.getLast?_eq_getElem?] at hy
  obtain ⟨d, hd, rfl⟩ := Option.map_eq_some_iff.1 hy
  exact ⟨d, hd, rfl, by have := (List.getElem?_eq_some_iff.1 hd).1; omega⟩
 obtain ⟨d, hd, rfl, h0⟩ := hcl
 obtain ⟨Ad, cd, hdv⟩ := Kd.qct (hLed.row d (List.mem_of_getElem? hd))
 have hval : valL L (L.length : Int) = pstV d.h (.slice Ad d.C.length cd) := by
  have := valL_at hd
  rw [show ((L.length - 1 : Nat) : Int) + 1 = (L.length : Int) from by omega, hdv] at this
  exact this
 unfold pstV at hval
 have HLED := qd.mk (hLed.below HB1.out)
 have HHL := qd.mk hlen
 have HVAL := qd.mk hval
 have HI := qd.mk (show qdl (L.length : Int) from by unfold qdl; omega)
 have hfa : ∀ w, (Instr.field 118 (.agg #[.int .i64 d.h.f0, .string d.h.f1, .int .i64 d.h.f2, .int .i64 d.h.f3, .int .i64 d.h.f4, .string d.h.f5, .string d.h.f6, .int .i64 d.h.f7, .slice none 0 0, .slice Ad d.C.length cd]) 0).run Tryd.prog w = .ok (.agg #[.int .i64 d.h.f0, .string d.h.f1, .int .i64 d.h.f2, .int .i64 d.h.f3, .int .i64 d.h.f4, .string d.h.f5, .string d.h.f6, .int .i64 d.h.f7, .slice none 0 0]) w := fun w => by kernel_rfl
 have hfb : ∀ w, (Instr.field 29 (.agg #[.int .i64 d.h.f0, .string d.h.f1, .int .i64 d.h.f2, .int .i64 d.h.f3, .int .i64 d.h.f4, .string d.h.f5, .string d.h.f6, .int .i64 d.h.f7, .slice none 0 0]) 2).run Tryd.prog w = .ok (.int .i64 d.h.f2) w := fun w => by kernel_rfl
 have d1 : (x.f0 != (L.length : Int) + 1) = false := by simpa using ho
 have d2 : decide ((0 : Int) < (L.length : Int)) = true := decide_eq_true (by omega)
 have d2' : decide (0 < L.length) = true := decide_eq_true h0
 have d3 : decide (x.f2 < d.h.f2) = true := decide_eq_true hxy
 clear hC hT hk hc hLed hE hraw hchk hLn hd hdv hval hy hxy hlen ho
 have hp := (qg HLED.out.blk 0).trans rfl
 have hw1 : wrap64 ((L.length : Int) + 1) = (L.length : Int) + 1 := by have := HHL.out; unfold wrap64; omega
 go_enter Tryd.func20, Tryd.ntmps20
 go_upto_region 7 with (first | (go_at_call 47; refine (qde.calls k x.f0 x.f1 x.f2 x.f3 x.f4 x.f5 x.f6 x.f7 A c x.f8 (-1) 0 _ (Kd.qbw HC.out HB1.out) HLC.out HK.out (HT.out.below HB1.out)).mono ?_; rintro e w2 ⟨rfl, hb⟩; have HLED2 := qd.mk (HLED.out.below hb); have hln := HLED2.out.len 3; have hp2 : w2.cell? ⟨p, 0, none⟩ = some (.map (some m)) := (qg HLED2.out.blk 0).trans rfl; have hb2 := qcj HBX.out hb; have a0 : w2.cell? ⟨w.heap.size, 0, none⟩ = some (.int .i64 x.f0) := (qg hb2 0).trans rfl; have a2 : w2.cell? ⟨w.heap.size, 2, none⟩ = some (.int .i64 x.f2) := (qg hb2 2).trans rfl; clear hb2 hp))
 have HB2 := qd.mk (qcn HB1.out HB1.out.size hb)
 clear hb
 have hlk : ∀ n, (Instr.lookup 119 (.map (some m)) (.int .i64 (L.length : Int)) false).run Tryd.prog (w2.drewN n) = .ok _ (w2.drewN n) := fun n => ((HLED2.out.below (qbn (Below.refl _ w2) n)).look HI.out).trans (by rw [HVAL.out])
 go_big_quiet (fail)
 go_wp2
 go_ret
 exact ⟨rfl, qbn HB2.out nq⟩
theorem post_many {base p m : Nat} {E : List S29} (x y : S29) (A : Option Addr) (c : Nat) (w : World) (hL : LedE w base p m E) (hC : Kd.C k109 w A x.f8.length x.f8) (hc : x.f8.length ≤ c) (hT : Tab w) (hf : FitE x) (hchk : (chkE x).2 = 0) (hlen : E.length ≤ 100000) (ho : x.f0 = (E.length : Int) + 1) (hy : E.getLast? = some y) (hxy : ¬ x.f2 < y.f2) (h4 : 4000 ≤ E.length) :
  Calls Tryd.prog 20 #[.pointer (some ⟨p, 0, none⟩), enV x A c] w fun e w' => e = .returned (.int .i64 9) ∧ Below w.heap.size w w' := by
 obtain ⟨k, hk⟩ := (qmp x hf).rounds
 rw [(qho hchk).2.2.2] at hk
 have HC := qd.mk hC
 have HT := qd.mk hT
 have HK := qd.mk hk
 have HLC := qd.mk hc
 have HB1 := qd.mk (qbk (Below.refl w.heap.size w) (.cells #[.int .i64 x.f0, .string x.f1, .int .i64 x.f2, .int .i64 x.f3, .int .i64 x.f4, .string x.f5, .string x.f6, .int .i64 x.f7, .slice A x.f8.length c] 29))
 have HBX := qd.mk (qdu w (.cells #[.int .i64 x.f0, .string x.f1, .int .i64 x.f2, .int .i64 x.f3, .int .i64 x.f4, .string x.f5, .string x.f6, .int .i64 x.f7, .slice A x.f8.length c] 29))
 obtain ⟨L, hLed, hE, hraw⟩ := hL
 have hLn : E.length = L.length := by rw [← hE, List.length_map]
 rw [hLn] at ho hlen h4
 have hcl : ∃ d, L[L.length - 1]? = some d ∧ d.h = y ∧ 0 < L.length := by
  rw [← hE, List.getLast?_map, List.getLast?_eq_getElem?] at hy
  obtain ⟨d, hd, rfl⟩ := Option.map_eq_some_iff.1 hy
  exact ⟨d, hd, rfl, by have := (List.getElem?_eq_some_iff.1 hd).1; omega⟩
 obtain ⟨d, hd, rfl, h0⟩ := hcl
 obtain ⟨Ad, cd, hdv⟩ := Kd.qct (hLed.row d (List.mem_of_getElem? hd))
 have hval : valL L (L.length : Int) = pstV d.h (.slice Ad d.C.length cd) := by
  have := valL_at hd
  rw [show ((L.length - 1 : Nat) : Int) + 1 = (L.length : Int) from by omega, hdv] at this
  exact this
 unfold pstV at hval
 have HLED := qd.mk (hLed.below HB1.out)
 have HHL := qd.mk hlen
 have HVAL := qd.mk hval
 have HI := qd.mk (show qdl (L.length : Int) from by unfold qdl; omega)
 have hfa : ∀ w, (Instr.field 118 (.agg #[.int .i64 d.h.f0, .string d.h.f1, .int .i64 d.h.f2, .int .i64 d.h.f3, .int .i64 d.h.f4, .string d.h.f5, .string d.h.f6, .int .i64 d.h.f7, .slice none 0 0, .slice Ad d.C.length cd]) 0).run Tryd.prog w = .ok (.agg #[.int .i64 d.h.f0, .string d.h.f1, .int .i64 d.h.f2, .int .i64 d.h.f3, .int .i64 d.h.f4, .string d.h.f5, .string d.h.f6, .int .i64 d.h.f7, .slice none 0 0]) w := fun w => by kernel_rfl
 have hfb : ∀ w, (Instr.field 29 (.agg #[.int .i64 d.h.f0, .string d.h.f1, .int .i64 d.h.f2, .int .i64 d.h.f3, .int .i64 d.h.f4, .string d.h.f5, .string d.h.f6, .int .i64 d.h.f7, .slice none 0 0]) 2).run Tryd.prog w = .ok (.int .i64 d.h.f2) w := fun w => by kernel_rfl
 have d1 : (x.f0 != (L.length : Int) + 1) = false := by simpa using ho
 have d2 : decide ((0 : Int) < (L.length : Int)) = true := decide_eq_true (by omega)
 have d2' : decide (0 < L.length) = true := decide_eq_true h0
 have d3 : decide (x.f2 < d.h.f2) = false := decide_eq_false hxy
 have d4 : decide ((4000 : Int) ≤ (L.length : Int)) = true := decide_eq_true (by omega)
 have d4' : decide (4000 ≤ L.length) = true := decide_eq_true h4
 clear hC hT hk hc hLed hE hraw hchk hLn hd hdv hval hy hxy hlen ho h4
 have hp := (qg HLED.out.blk 0).trans rfl
 have hw1 : wrap64 ((L.length : Int) + 1) = (L.length : Int) + 1 := by have := HHL.out; unfold wrap64; omega
 go_enter Tryd.func20, Tryd.ntmps20
 go_upto_region 7 with (first | (go_at_call 47; refine (qde.calls k x.f0 x.f1 x.f2 x.f3 x.f4 x.f5 x.f6 x.f7 A c x.f8 (-1) 0 _ (Kd.qbw HC.out HB1.out) HLC.out HK.out (HT.out.below HB1.out)).mono ?_; rintro e w2 ⟨rfl, hb⟩; have HLED2 := qd.mk (HLED.out.below hb); have hln := HLED2.out.len 3; have hp2 : w2.cell? ⟨p, 0, none⟩ = some (.map (some m)) := (qg HLED2.out.blk 0).trans rfl; have hb2 := qcj HBX.out hb; have a0 : w2.cell? ⟨w.heap.size, 0, none⟩ = some (.int .i64 x.f0) := (qg hb2 0).trans rfl; have a2 : w2.cell? ⟨w.heap.size, 2, none⟩ = some (.int .i64 x.f2) := (qg hb2 2).trans rfl; clear hb2 hp))
 have HB2 := qd.mk (qcn HB1.out HB1.out.size hb)
 clear hb
 have hlk : ∀ n, (Instr.lookup 119 (.map (some m)) (.int .i64 (L.length : Int)) false).run Tryd.prog (w2.drewN n) = .ok _ (w2.drewN n) := fun n => ((HLED2.out.below (qbn (Below.refl _ w2) n)).look HI.out).trans (by rw [HVAL.out])
 go_big_quiet (fail)
 go_wp2
 go_ret
 exact ⟨rfl, qbn HB2.out nq⟩
theorem qoa {w : World} {g0 c : Nat} {A : Option Addr} {x : S29} (h : w.heap[g0]? = some (.cells #[.int .i64 x.f0, .string x.f1, .int .i64 x.f2, .int .i64 x.f3, .int .i64 x.f4, .string x.f5, .string x.f6, .int .i64 x.f7, .slice A x.f8.length c] 29 (0, 0))) : ∀ w', Below w.heap.size w w' → w'.cell? ⟨g0, 0, none⟩ = some (.int .i64 x.f0) ∧ w'.cell? ⟨g0, 1, none⟩ = some (.string x.f1) ∧ w'.cell? ⟨g0, 2, none⟩ = some (.int .i64 x.f2) ∧ w'.cell? ⟨g0, 3, none⟩ = some (.int .i64 x.f3) ∧ w'.cell? ⟨g0, 4, none⟩ = some (.int .i64 x.f4) ∧ w'.cell? ⟨g0, 5, none⟩ = some (.string x.f5) ∧ w'.cell? ⟨g0, 6, none⟩ = some (.string x.f6) ∧ w'.cell? ⟨g0, 7, none⟩ = some (.int .i64 x.f7) ∧ w'.cell? ⟨g0, 8, none⟩ = some (.slice A x.f8.length c) := fun w' hb =>
 have hb2 := qcj h hb
 ⟨(qg hb2 0).trans rfl, (qg hb2 1).trans rfl, (qg hb2 2).trans rfl, (qg hb2 3).trans rfl, (qg hb2 4).trans rfl, (qg hb2 5).trans rfl, (qg hb2 6).trans rfl, (qg hb2 7).trans rfl, (qg hb2 8).trans rfl⟩
theorem raw_kept {w w3 : World} (x : S29) (A : Option Addr) (c : Nat) (hl : x.f8.length ≤ 100) (hC : Kd.C k109 w A x.f8.length x.f8) (hc : x.f8.length ≤ c) (h3 : Below w.heap.size w w3) : ∀ w', Below w3.heap.size w3 w' → Calls Tryd.prog 51 #[.agg #[.int .i64 x.f0, .string x.f1, .int .i64 x.f2, .int .i64 x.f3, .int .i64 x.f4, .string x.f5, .string x.f6, .int .i64 x.f7, .slice A x.f8.length c]] w' fun e w5 => ∃ v : Value, e = .returned v ∧ Kd.R k112 112 w5 w3.heap.size (fun _ => True) v (rawL x) ∧ Below w3.heap.size w3 w5 ∧ Below w'.heap.size w' w5 := fun w' hb => by
 obtain ⟨k, hk⟩ := (raw_ev x (by omega)).rounds
 refine (qdx.calls k x.f0 x.f1 x.f2 x.f3 x.f4 x.f5 x.f6 x.f7 A c x.f8 (rawL x) w' (Kd.qbw (Kd.qbw hC h3) hb) hc hk).mono ?_
 rintro e w5 ⟨v, rfl, hr, hb5⟩
 exact ⟨v, rfl, Kd.qec hr hb.size, qcn hb hb.size hb5, hb5⟩
theorem row118 {w : World} {b g i : Nat} {v u : Value} {l : List S112} {cs : Array Value} (h : Kd.R k112 112 w b (fun _ => True) v l) (hg : w.heap[g]? = some (.cells cs 118 (0, 0))) : Kd.R k112 112 (w.setCell ⟨g, i, none⟩ u) b (fun _ => True) v l := by
 have h1 := Kd.qdt (Kd.qkn rfl h) (ok' := fun k => v.ownBlock = some k) (fun k hk => hk.symm)
 have h2 := Kd.qhj h1 (w1 := w.setCell ⟨g, i, none⟩ u) (fun k hk hlt => by
  obtain ⟨cs', hcs⟩ := Kd.qea h k hk
  refine Below.heap_setCell _ _ _ _ (fun e => ?_)
  have e' : k = g := e
  rw [e', hg] at hcs
  cases hcs)
 exact Kd.qdt h2 (fun _ _ => trivial)
structure qnf (w3 w : World) (g : Nat) (cs : Array Value) (v : Value) (l : List S112) : Prop where
 blk : w.heap[g]? = some (.cells cs 118 (0, 0))
 row : Kd.R k112 112 w w3.heap.size (fun _ => True) v l
 bel : Below w3.heap.size w3 w
 low : w3.heap.size ≤ g
theorem qnf.set {w3 w : World} {g : Nat} {cs cs' : Array Value} {v : Value} {l : List S112} (h : qnf w3 w g cs v l) (i : Nat) (u : Value) (hc : cs.setIfInBounds i u = cs') : qnf w3 (w.setCell ⟨g, i, none⟩ u) g cs' v l :=
 ⟨qcr h.blk i u hc, row118 h.row h.blk, h.bel.setCell (p := ⟨g, i, none⟩) h.low u, h.low⟩
theorem kp_new {w3 w5 : World} {x : S29} {A : Option Addr} {c : Nat} {v : Value} {l : List S112} (hr : Kd.R k112 112 w5 w3.heap.size (fun _ => True) v l) (hb : Below w3.heap.size w3 w5) : qnf w3 (w5.alloc (.cells #[.int .i64 x.f0, .string x.f1, .int .i64 x.f2, .int .i64 x.f3, .int .i64 x.f4, .string x.f5, .string x.f6, .int .i64 x.f7, .slice A x.f8.length c, v] 118)) w5.heap.size #[.int .i64 x.f0, .string x.f1, .int .i64 x.f2, .int .i64 x.f3, .int .i64 x.f4, .string x.f5, .string x.f6, .int .i64 x.f7, .slice A x.f8.length c, v] v l :=
 ⟨qdu _ _, Kd.qdw hr (qbk (Below.refl _ _) _), qbk hb _, hb.size⟩
theorem kp_ten {w3 w5 : World} {x : S29} {A : Option Addr} {c g : Nat} {v : Value} {l : List S112} (hz : w5.heap[g]? = some (.cells #[.int .i64 0, .string ⟨#[]⟩, .int .i64 0, .int .i64 0, .int .i64 0, .string ⟨#[]⟩, .string ⟨#[]⟩, .int .i64 0, .slice none 0 0, .slice none 0 0] 118 (0, 0))) (hr : Kd.R k112 112 w5 w3.heap.size (fun _ => True) v l) (hb : Below w3.heap.size w3 w5) (hg : w3.heap.size ≤ g) :
  qnf w3 ((((((((((w5.setCell ⟨g, 0, none⟩ (.int .i64 x.f0)).setCell ⟨g, 1, none⟩ (.string x.f1)).setCell ⟨g, 2, none⟩ (.int .i64 x.f2)).setCell ⟨g, 3, none⟩ (.int .i64 x.f3)).setCell ⟨g, 4, none⟩ (.int .i64 x.f4)).setCell ⟨g, 5, none⟩ (.string x.f5)).setCell ⟨g, 6, none⟩ (.string x.f6)).setCell ⟨g, 7, none⟩ (.int .i64 x.f7)).setCell ⟨g, 8, none⟩ (.slice A x.f8.length c)).setCell ⟨g, 9, none⟩ v) g #[.int .i64 x.f0, .string x.f1, .int .i64 x.f2, .int .i64 x.f3, .int .i64 x.f4, .string x.f5, .string x.f6, .int .i64 x.f7, .slice A x.f8.length c, v] v l := by
 have h0 := qnf.mk hz hr hb hg
 have h1 := h0.set (cs' := #[(.int .i64 x.f0), (.string ⟨#[]⟩), (.int .i64 0), (.int .i64 0), (.int .i64 0), (.string ⟨#[]⟩), (.string ⟨#[]⟩), (.int .i64 0), (.slice none 0 0), (.slice none 0 0)]) 0 (.int .i64 x.f0) rfl
 have h2 := h1.set (cs' := #[(.int .i64 x.f0), (.string x.f1), (.int .i64 0), (.int .i64 0), (.int .i64 0), (.string ⟨#[]⟩), (.string ⟨#[]⟩), (.int .i64 0), (.slice none 0 0), (.slice none 0 0)]) 1 (.string x.f1) rfl
 have h3 := h2.set (cs' := #[(.int .i64 x.f0), (.string x.f1), (.int .i64 x.f2), (.int .i64 0), (.int .i64 0), (.string ⟨#[]⟩), (.string ⟨#[]⟩), (.int .i64 0), (.slice none 0 0), (.slice none 0 0)]) 2 (.int .i64 x.f2) rfl
 have h4 := h3.set (cs' := #[(.int .i64 x.f0), (.string x.f1), (.int .i64 x.f2), (.int .i64 x.f3), (.int .i64 0), (.string ⟨#[]⟩), (.string ⟨#[]⟩), (.int .i64 0), (.slice none 0 0), (.slice none 0 0)]) 3 (.int .i64 x.f3) rfl
 have h5 := h4.set (cs' := #[(.int .i64 x.f0), (.string x.f1), (.int .i64 x.f2), (.int .i64 x.f3), (.int .i64 x.f4), (.string ⟨#[]⟩), (.string ⟨#[]⟩), (.int .i64 0), (.slice none 0 0), (.slice none 0 0)]) 4 (.int .i64 x.f4) rfl
 have h6 := h5.set (cs' := #[(.int .i64 x.f0), (.string x.f1), (.int .i64 x.f2), (.int .i64 x.f3), (.int .i64 x.f4), (.string x.f5), (.string ⟨#[]⟩), (.int .i64 0), (.slice none 0 0), (.slice none 0 0)]) 5 (.string x.f5) rfl
 have h7 := h6.set (cs' := #[(.int .i64 x.f0), (.string x.f1), (.int .i64 x.f2), (.int .i64 x.f3), (.int .i64 x.f4), (.string x.f5), (.string x.f6), (.int .i64 0), (.slice none 0 0), (.slice none 0 0)]) 6 (.string x.f6) rfl
 have h8 := h7.set (cs' := #[(.int .i64 x.f0), (.string x.f1), (.int .i64 x.f2), (.int .i64 x.f3), (.int .i64 x.f4), (.string x.f5), (.string x.f6), (.int .i64 x.f7), (.slice none 0 0), (.slice none 0 0)]) 7 (.int .i64 x.f7) rfl
 have h9 := h8.set (cs' := #[(.int .i64 x.f0), (.string x.f1), (.int .i64 x.f2), (.int .i64 x.f3), (.int .i64 x.f4), (.string x.f5), (.string x.f6), (.int .i64 x.f7), (.slice A x.f8.length c), (.slice none 0 0)]) 8 (.slice A x.f8.length c) rfl
 have h10 := h9.set (cs' := #[(.int .i64 x.f0), (.string x.f1), (.int .i64 x.f2), (.int .i64 x.f3), (.int .i64 x.f4), (.string x.f5), (.string x.f6), (.int .i64 x.f7), (.slice A x.f8.length c), v]) 9 v rfl
 exact h10
theorem post_putn {base p m : Nat} {E : List S29} (x y : S29) (A : Option Addr) (c : Nat) (w : World) (hL : LedE w base p m E) (hC : Kd.C k109 w A x.f8.length x.f8) (hc : x.f8.length ≤ c) (hT : Tab w) (hf : FitE x) (hchk : (chkE x).2 = 0) (hlen : E.length ≤ 100000) (ho : x.f0 = (E.length : Int) + 1) (hy : E.getLast? = some y) (hxy : ¬ x.f2 < y.f2) (h4 : ¬ 4000 ≤ E.length) :
  Calls Tryd.prog 20 #[.pointer (some ⟨p, 0, none⟩), enV x A c] w fun e w' => e = .returned (.int .i64 0) ∧ LedE w' base p m (E ++ [x]) ∧ But (fun k => k = m) w w' := by
 obtain ⟨k, hk⟩ := (qmp x hf).rounds
 rw [(qho hchk).2.2.2] at hk
 have HC := qd.mk hC
 have HT := qd.mk hT
 have HK := qd.mk hk
 have HLC := qd.mk hc
 have HB1 := qd.mk (qbk (Below.refl w.heap.size w) (.cells #[.int .i64 x.f0, .string x.f1, .int .i64 x.f2, .int .i64 x.f3, .int .i64 x.f4, .string x.f5, .string x.f6, .int .i64 x.f7, .slice A x.f8.length c] 29))
 have HBX := qd.mk (qdu w (.cells #[.int .i64 x.f0, .string x.f1, .int .i64 x.f2, .int .i64 x.f3, .int .i64 x.f4, .string x.f5, .string x.f6, .int .i64 x.f7, .slice A x.f8.length c] 29))
 obtain ⟨L, hLed, hE, hraw⟩ := hL
 have hLn : E.length = L.length := by rw [← hE, List.length_map]
 rw [hLn] at ho hlen h4
 have hcl : ∃ d, L[L.length - 1]? = some d ∧ d.h = y ∧ 0 < L.length := by
  rw [← hE, List.getLast?_map, List.getLast?_eq_getElem?] at hy
  obtain ⟨d, hd, rfl⟩ := Option.map_eq_some_iff.1 hy
  exact ⟨d, hd, rfl, by have := (List.getElem?_eq_some_iff.1 hd).1; omega⟩
 obtain ⟨d, hd, rfl, h0⟩ := hcl
 obtain ⟨Ad, cd, hdv⟩ := Kd.qct (hLed.row d (List.mem_of_getElem? hd))
 have hval : valL L (L.length : Int) = pstV d.h (.slice Ad d.C.length cd) := by
  have := valL_at hd
  rw [show ((L.length - 1 : Nat) : Int) + 1 = (L.length : Int) from by omega, hdv] at this
  exact this
 unfold pstV at hval
 have HLED := qd.mk (hLed.below HB1.out)
 have HHL := qd.mk hlen
 have HVAL := qd.mk hval
 have HI := qd.mk (show qdl (L.length : Int) from by unfold qdl; omega)
 have hfa : ∀ w, (Instr.field 118 (.agg #[.int .i64 d.h.f0, .string d.h.f1, .int .i64 d.h.f2, .int .i64 d.h.f3, .int .i64 d.h.f4, .string d.h.f5, .string d.h.f6, .int .i64 d.h.f7, .slice none 0 0, .slice Ad d.C.length cd]) 0).run Tryd.prog w = .ok (.agg #[.int .i64 d.h.f0, .string d.h.f1, .int .i64 d.h.f2, .int .i64 d.h.f3, .int .i64 d.h.f4, .string d.h.f5, .string d.h.f6, .int .i64 d.h.f7, .slice none 0 0]) w := fun w => by kernel_rfl
 have hfb : ∀ w, (Instr.field 29 (.agg #[.int .i64 d.h.f0, .string d.h.f1, .int .i64 d.h.f2, .int .i64 d.h.f3, .int .i64 d.h.f4, .string d.h.f5, .string d.h.f6, .int .i64 d.h.f7, .slice none 0 0]) 2).run Tryd.prog w = .ok (.int .i64 d.h.f2) w := fun w => by kernel_rfl
 have hl100 := (qie (qho hchk).1).2.1
 have HO := qd.mk ho
 have H4 := qd.mk h4
 have HD := qd.mk hE
 have HRW := qd.mk hraw
 have d1 : (x.f0 != (L.length : Int) + 1) = false := by simpa using ho
 have d2 : decide ((0 : Int) < (L.length : Int)) = true := decide_eq_true (by omega)
 have d2' : decide (0 < L.length) = true := decide_eq_true h0
 have d3 : decide (x.f2 < d.h.f2) = false := decide_eq_false hxy
 have d4 : decide ((4000 : Int) ≤ (L.length : Int)) = false := decide_eq_false (by omega)
 have d4' : decide (4000 ≤ L.length) = false := decide_eq_false h4
 clear hC hT hk hc hLed hE hraw hchk hLn hd hdv hval hy hxy hlen ho h4
 have hp := (qg HLED.out.blk 0).trans rfl
 have hw1 : wrap64 ((L.length : Int) + 1) = (L.length : Int) + 1 := by have := HHL.out; unfold wrap64; omega
 go_enter Tryd.func20, Tryd.ntmps20
 go_upto_region 7 with (first | (go_at_call 47; refine (qde.calls k x.f0 x.f1 x.f2 x.f3 x.f4 x.f5 x.f6 x.f7 A c x.f8 (-1) 0 _ (Kd.qbw HC.out HB1.out) HLC.out HK.out (HT.out.below HB1.out)).mono ?_; rintro e w2 ⟨rfl, hb⟩; have HLED2 := qd.mk (HLED.out.below hb); have hln := HLED2.out.len 3; have hp2 : w2.cell? ⟨p, 0, none⟩ = some (.map (some m)) := (qg HLED2.out.blk 0).trans rfl; have hb2 := qcj HBX.out hb; have HBX2 := qd.mk hb2; have a0 : w2.cell? ⟨w.heap.size, 0, none⟩ = some (.int .i64 x.f0) := (qg hb2 0).trans rfl; have a2 : w2.cell? ⟨w.heap.size, 2, none⟩ = some (.int .i64 x.f2) := (qg hb2 2).trans rfl; clear hb2 hp))
 have HB2 := qd.mk (qcn HB1.out HB1.out.size hb)
 clear hb
 have hlk : ∀ n, (Instr.lookup 119 (.map (some m)) (.int .i64 (L.length : Int)) false).run Tryd.prog (w2.drewN n) = .ok _ (w2.drewN n) := fun n => ((HLED2.out.below (qbn (Below.refl _ w2) n)).look HI.out).trans (by rw [HVAL.out])
 go_big_quiet (fail)
 go_upto_region 11 with (fail)
 refine qdj (P := fun x => Code.wp _ _ _ _ x) _ ?_
 intro w3 hw3
 have HLED3 := qd.mk (show Led w3 base p m L from hw3 ▸ HLED2.out.below (qbn (Below.refl _ w2) nq))
 have HB3 := qd.mk (show Below w.heap.size w w3 from hw3 ▸ qbn HB2.out nq)
 obtain ⟨g0, hg0⟩ : ∃ g0, w.heap.size = g0 := ⟨_, rfl⟩
 have HG0 := qd.mk hg0
 have hbx3 : w3.heap[g0]? = some (.cells #[.int .i64 x.f0, .string x.f1, .int .i64 x.f2, .int .i64 x.f3, .int .i64 x.f4, .string x.f5, .string x.f6, .int .i64 x.f7, .slice A x.f8.length c] 29 (0, 0)) := by
  rw [hw3, ← hg0]
  exact qp HBX2.out nq
 try rw [hg0]
 have HBX3 := qd.mk hbx3
 have HQS := qd.mk (qoa hbx3)
 obtain ⟨r0, r1, r2, r3, r4, r5, r6, r7, r8⟩ := HQS.out w3 (Below.refl _ _)
 have HRC := qd.mk (raw_kept (w := w) x A c hl100 HC.out HLC.out HB3.out)
 clear hw3 hg0 hbx3 a0 a2 hlk hp2
 obtain ⟨q0, q1, q2, q3, q4, q5, q6, q7, q8⟩ := HQS.out ((w3.alloc (.cells #[.int .i64 0, .string ⟨#[]⟩, .int .i64 0, .int .i64 0, .int .i64 0, .string ⟨#[]⟩, .string ⟨#[]⟩, .int .i64 0, .slice none 0 0, .slice none 0 0] 118)).drew) (qdo (qbk (Below.refl _ _) _))
 go_cut [8, 48, 49, 50, 51] (fun v8 _ _ _ _ wc => ∃ (g : Nat) (A5 : Option Addr) (c5 : Nat), v8 = .pointer (some ⟨g, 0, none⟩) ∧ qd (qnf w3 wc g #[.int .i64 x.f0, .string x.f1, .int .i64 x.f2, .int .i64 x.f3, .int .i64 x.f4, .string x.f5, .string x.f6, .int .i64 x.f7, .slice A x.f8.length c, .slice A5 (rawL x).length c5] (.slice A5 (rawL x).length c5) (rawL x)))
 case first =>
  go_region_law (first | (go_simp; go_at_call 51; (with_reducible refine (HRC.out _ ?hbl).mono ?_); (case hbl => repeat (first | (with_reducible exact Below.refl _ _) | apply qdo | refine qbk ?_ _)); rintro e_ w5 ⟨v5, rfl, hr5, hb5, hb6⟩; obtain ⟨A5, c5, rfl⟩ := Kd.qct hr5; have HR5 := qd.mk hr5; have HB5 := qd.mk hb5; have HB6 := qd.mk hb6; obtain ⟨s0, s1, s2, s3, s4, s5, s6, s7, s8⟩ := HQS.out w5 hb5; obtain ⟨t0, t1, t2, t3, t4, t5, t6, t7, t8⟩ := HQS.out (w5.alloc (.cells #[.int .i64 0, .string ⟨#[]⟩, .int .i64 0, .int .i64 0, .int .i64 0, .string ⟨#[]⟩, .string ⟨#[]⟩, .int .i64 0, .slice none 0 0, .slice none 0 0] 118)) (qbk hb5 _); try (have hbz : w5.heap[w3.heap.size]? = some (.cells #[.int .i64 0, .string ⟨#[]⟩, .int .i64 0, .int .i64 0, .int .i64 0, .string ⟨#[]⟩, .string ⟨#[]⟩, .int .i64 0, .slice none 0 0, .slice none 0 0] 118 (0, 0)) := qcj (by first | exact qdu _ _ | exact qz (qdu _ _)) hb6; have z0 : w5.cell? ⟨w3.heap.size, 0, none⟩ = some (.int .i64 0) := (qg hbz 0).trans rfl; have f0 := qbq hbz 0; have z1 : w5.cell? ⟨w3.heap.size, 1, none⟩ = some (.string ⟨#[]⟩) := (qg hbz 1).trans rfl; have f1 := qbq hbz 1; have z2 : w5.cell? ⟨w3.heap.size, 2, none⟩ = some (.int .i64 0) := (qg hbz 2).trans rfl; have f2 := qbq hbz 2; have z3 : w5.cell? ⟨w3.heap.size, 3, none⟩ = some (.int .i64 0) := (qg hbz 3).trans rfl; have f3 := qbq hbz 3; have z4 : w5.cell? ⟨w3.heap.size, 4, none⟩ = some (.int .i64 0) := (qg hbz 4).trans rfl; have f4 := qbq hbz 4; have z5 : w5.cell? ⟨w3.heap.size, 5, none⟩ = some (.string ⟨#[]⟩) := (qg hbz 5).trans rfl; have f5 := qbq hbz 5; have z6 : w5.cell? ⟨w3.heap.size, 6, none⟩ = some (.string ⟨#[]⟩) := (qg hbz 6).trans rfl; have f6 := qbq hbz 6; have z7 : w5.cell? ⟨w3.heap.size, 7, none⟩ = some (.int .i64 0) := (qg hbz 7).trans rfl; have f7 := qbq hbz 7; have z8 : w5.cell? ⟨w3.heap.size, 8, none⟩ = some (.slice none 0 0) := (qg hbz 8).trans rfl; have f8 := qbq hbz 8; have z9 : w5.cell? ⟨w3.heap.size, 9, none⟩ = some (.slice none 0 0) := (qg hbz 9).trans rfl; have f9 := qbq hbz 9; have HBZ := qd.mk hbz; clear hbz); clear hr5 hb5 hb6))
  all_goals
   go_wp2_with fail
   go_meet
  all_goals
   case rel =>
    first
    | (with_reducible exact ⟨w3.heap.size, A5, c5, rfl, ⟨kp_ten HBZ.out HR5.out HB5.out (Nat.le_refl _)⟩⟩)
    | exact ⟨w5.heap.size, A5, c5, rfl, ⟨kp_new HR5.out HB5.out⟩⟩
 obtain ⟨g, A5, c5, rfl, HKP⟩ := hcut
 have c8 : wc.cell? ⟨g, 8, none⟩ = some (.slice A x.f8.length c) := (qg HKP.out.blk 8).trans rfl
 have f8 := qbq HKP.out.blk 8
 go_upto_region 13 with (fail)
 refine qdj (P := fun x => Code.wp _ _ _ _ x) _ ?_
 intro w6 hw6
 have HK6 := qd.mk (show qnf w3 w6 g #[.int .i64 x.f0, .string x.f1, .int .i64 x.f2, .int .i64 x.f3, .int .i64 x.f4, .string x.f5, .string x.f6, .int .i64 x.f7, .slice none 0 0, .slice A5 (rawL x).length c5] (.slice A5 (rawL x).length c5) (rawL x) from hw6 ▸ HKP.out.set 8 _ rfl)
 clear hw6 HKP c8 f8
 have hrow : Kd.R k112 112 w6 base (fun _ => True) (.slice A5 (rawL x).length c5) (rawL x) := Kd.qec HK6.out.row (by have := HLED3.out.ltm; have := HLED3.out.lowm; omega)
 have HLED6 := qd.mk ((HLED3.out.below HK6.out.bel).below (qdo (Below.refl _ w6)))
 obtain ⟨w7, hup, hLed7, hg7⟩ := HLED6.out.put (c := ⟨x, rawL x, .slice A5 (rawL x).length c5⟩) (by have := HHL.out; omega) (Kd.qdw hrow (qdo (Below.refl _ w6)))
 have HL7 := qd.mk hLed7
 have HG7 := qd.mk hg7
 clear hLed7 hg7 hrow
 unfold pstV at hup
 rw [← HO.out] at hup
 obtain ⟨q0, q1, q2, q3, q4, q5, q6, q7, q8⟩ := HQS.out w6 HK6.out.bel
 clear q1 q2 q3 q4 q5 q6 q7 q8
 have e0 : w6.cell? ⟨g, 0, none⟩ = some (.int .i64 x.f0) := (qg HK6.out.blk 0).trans rfl
 have e1 : w6.cell? ⟨g, 1, none⟩ = some (.string x.f1) := (qg HK6.out.blk 1).trans rfl
 have e2 : w6.cell? ⟨g, 2, none⟩ = some (.int .i64 x.f2) := (qg HK6.out.blk 2).trans rfl
 have e3 : w6.cell? ⟨g, 3, none⟩ = some (.int .i64 x.f3) := (qg HK6.out.blk 3).trans rfl
 have e4 : w6.cell? ⟨g, 4, none⟩ = some (.int .i64 x.f4) := (qg HK6.out.blk 4).trans rfl
 have e5 : w6.cell? ⟨g, 5, none⟩ = some (.string x.f5) := (qg HK6.out.blk 5).trans rfl
 have e6 : w6.cell? ⟨g, 6, none⟩ = some (.string x.f6) := (qg HK6.out.blk 6).trans rfl
 have e7 : w6.cell? ⟨g, 7, none⟩ = some (.int .i64 x.f7) := (qg HK6.out.blk 7).trans rfl
 have e8 : w6.cell? ⟨g, 8, none⟩ = some (.slice none 0 0) := (qg HK6.out.blk 8).trans rfl
 have e9 : w6.cell? ⟨g, 9, none⟩ = some (.slice A5 (rawL x).length c5) := (qg HK6.out.blk 9).trans rfl
 have ep : w6.cell? ⟨p, 0, none⟩ = some (.map (some m)) := (qg HLED6.out.blk 0).trans rfl
 go_still_tail 7, (by kernel_rfl)
 change wpList _ _ _ _ _ w6.drew
 go_wp2
 go_ret
 refine ⟨rfl, ⟨_, HL7.out, ?_, fun d' hd' => ?_⟩, ?_⟩
 ·rw [List.map_append, HD.out]
  rfl
 ·rcases List.mem_append.1 hd' with hd' | hd'
  ·exact HRW.out d' hd'
  ·rw [List.mem_singleton] at hd'
   subst hd'
   rfl
 ·have hb6 : Below w.heap.size w w6.drew := qdo (qcn HB3.out HB3.out.size HK6.out.bel)
  exact (But.of_below hb6 _).trans (But.qjc HG7.out (fun k hk => (Option.some.inj hk).symm))
theorem post_put0 {base p m : Nat} {E : List S29} (x : S29) (A : Option Addr) (c : Nat) (w : World) (hL : LedE w base p m E) (hC : Kd.C k109 w A x.f8.length x.f8) (hc : x.f8.length ≤ c) (hT : Tab w) (hf : FitE x) (hchk : (chkE x).2 = 0) (hlen : E.length ≤ 100000) (ho : x.f0 = (E.length : Int) + 1) (h00 : E.length = 0) :
  Calls Tryd.prog 20 #[.pointer (some ⟨p, 0, none⟩), enV x A c] w fun e w' => e = .returned (.int .i64 0) ∧ LedE w' base p m (E ++ [x]) ∧ But (fun k => k = m) w w' := by
 obtain ⟨k, hk⟩ := (qmp x hf).rounds
 rw [(qho hchk).2.2.2] at hk
 have HC := qd.mk hC
 have HT := qd.mk hT
 have HK := qd.mk hk
 have HLC := qd.mk hc
 have HB1 := qd.mk (qbk (Below.refl w.heap.size w) (.cells #[.int .i64 x.f0, .string x.f1, .int .i64 x.f2, .int .i64 x.f3, .int .i64 x.f4, .string x.f5, .string x.f6, .int .i64 x.f7, .slice A x.f8.length c] 29))
 have HBX := qd.mk (qdu w (.cells #[.int .i64 x.f0, .string x.f1, .int .i64 x.f2, .int .i64 x.f3, .int .i64 x.f4, .string x.f5, .string x.f6, .int .i64 x.f7, .slice A x.f8.length c] 29))
 obtain ⟨L, hLed, hE, hraw⟩ := hL
 have hLn : E.length = L.length := by rw [← hE, List.length_map]
 rw [hLn] at ho hlen h00
 have HLED := qd.mk (hLed.below HB1.out)
 have HHL := qd.mk hlen
 have HI := qd.mk (show qdl (L.length : Int) from by unfold qdl; omega)
 have hl100 := (qie (qho hchk).1).2.1
 have HO := qd.mk ho
 have H00 := qd.mk h00
 have HD := qd.mk hE
 have HRW := qd.mk hraw
 have d1 : (x.f0 != (L.length : Int) + 1) = false := by simpa using ho
 have d2 : decide ((0 : Int) < (L.length : Int)) = false := decide_eq_false (by omega)
 have d2' : decide (0 < L.length) = false := decide_eq_false (by omega)
 have d4 : decide ((4000 : Int) ≤ (L.length : Int)) = false := decide_eq_false (by omega)
 have d4' : decide (4000 ≤ L.length) = false := decide_eq_false (by omega)
 clear hC hT hk hc hLed hE hraw hchk hLn hlen ho h00
 have hp := (qg HLED.out.blk 0).trans rfl
 have hw1 : wrap64 ((L.length : Int) + 1) = (L.length : Int) + 1 := by have := HHL.out; unfold wrap64; omega
 go_enter Tryd.func20, Tryd.ntmps20
 go_upto_region 7 with (first | (go_at_call 47; refine (qde.calls k x.f0 x.f1 x.f2 x.f3 x.f4 x.f5 x.f6 x.f7 A c x.f8 (-1) 0 _ (Kd.qbw HC.out HB1.out) HLC.out HK.out (HT.out.below HB1.out)).mono ?_; rintro e w2 ⟨rfl, hb⟩; have HLED2 := qd.mk (HLED.out.below hb); have hln := HLED2.out.len 3; have hp2 : w2.cell? ⟨p, 0, none⟩ = some (.map (some m)) := (qg HLED2.out.blk 0).trans rfl; have hb2 := qcj HBX.out hb; have HBX2 := qd.mk hb2; have a0 : w2.cell? ⟨w.heap.size, 0, none⟩ = some (.int .i64 x.f0) := (qg hb2 0).trans rfl; have a2 : w2.cell? ⟨w.heap.size, 2, none⟩ = some (.int .i64 x.f2) := (qg hb2 2).trans rfl; clear hb2 hp))
 have HB2 := qd.mk (qcn HB1.out HB1.out.size hb)
 clear hb
 go_big_quiet (fail)
 go_upto_region 11 with (fail)
 refine qdj (P := fun x => Code.wp _ _ _ _ x) _ ?_
 intro w3 hw3
 have HLED3 := qd.mk (show Led w3 base p m L from hw3 ▸ HLED2.out.below (qbn (Below.refl _ w2) nq))
 have HB3 := qd.mk (show Below w.heap.size w w3 from hw3 ▸ qbn HB2.out nq)
 obtain ⟨g0, hg0⟩ : ∃ g0, w.heap.size = g0 := ⟨_, rfl⟩
 have HG0 := qd.mk hg0
 have hbx3 : w3.heap[g0]? = some (.cells #[.int .i64 x.f0, .string x.f1, .int .i64 x.f2, .int .i64 x.f3, .int .i64 x.f4, .string x.f5, .string x.f6, .int .i64 x.f7, .slice A x.f8.length c] 29 (0, 0)) := by
  rw [hw3, ← hg0]
  exact qp HBX2.out nq
 try rw [hg0]
 have HBX3 := qd.mk hbx3
 have HQS := qd.mk (qoa hbx3)
 obtain ⟨r0, r1, r2, r3, r4, r5, r6, r7, r8⟩ := HQS.out w3 (Below.refl _ _)
 have HRC := qd.mk (raw_kept (w := w) x A c hl100 HC.out HLC.out HB3.out)
 clear hw3 hg0 hbx3 a0 a2 hp2
 obtain ⟨q0, q1, q2, q3, q4, q5, q6, q7, q8⟩ := HQS.out ((w3.alloc (.cells #[.int .i64 0, .string ⟨#[]⟩, .int .i64 0, .int .i64 0, .int .i64 0, .string ⟨#[]⟩, .string ⟨#[]⟩, .int .i64 0, .slice none 0 0, .slice none 0 0] 118)).drew) (qdo (qbk (Below.refl _ _) _))
 go_cut [8, 48, 49, 50, 51] (fun v8 _ _ _ _ wc => ∃ (g : Nat) (A5 : Option Addr) (c5 : Nat), v8 = .pointer (some ⟨g, 0, none⟩) ∧ qd (qnf w3 wc g #[.int .i64 x.f0, .string x.f1, .int .i64 x.f2, .int .i64 x.f3, .int .i64 x.f4, .string x.f5, .string x.f6, .int .i64 x.f7, .slice A x.f8.length c, .slice A5 (rawL x).length c5] (.slice A5 (rawL x).length c5) (rawL x)))
 case first =>
  go_region_law (first | (go_simp; go_at_call 51; (with_reducible refine (HRC.out _ ?hbl).mono ?_); (case hbl => repeat (first | (with_reducible exact Below.refl _ _) | apply qdo | refine qbk ?_ _)); rintro e_ w5 ⟨v5, rfl, hr5, hb5, hb6⟩; obtain ⟨A5, c5, rfl⟩ := Kd.qct hr5; have HR5 := qd.mk hr5; have HB5 := qd.mk hb5; have HB6 := qd.mk hb6; obtain ⟨s0, s1, s2, s3, s4, s5, s6, s7, s8⟩ := HQS.out w5 hb5; obtain ⟨t0, t1, t2, t3, t4, t5, t6, t7, t8⟩ := HQS.out (w5.alloc (.cells #[.int .i64 0, .string ⟨#[]⟩, .int .i64 0, .int .i64 0, .int .i64 0, .string ⟨#[]⟩, .string ⟨#[]⟩, .int .i64 0, .slice none 0 0, .slice none 0 0] 118)) (qbk hb5 _); try (have hbz : w5.heap[w3.heap.size]? = some (.cells #[.int .i64 0, .string ⟨#[]⟩, .int .i64 0, .int .i64 0, .int .i64 0, .string ⟨#[]⟩, .string ⟨#[]⟩, .int .i64 0, .slice none 0 0, .slice none 0 0] 118 (0, 0)) := qcj (by first | exact qdu _ _ | exact qz (qdu _ _)) hb6; have z0 : w5.cell? ⟨w3.heap.size, 0, none⟩ = some (.int .i64 0) := (qg hbz 0).trans rfl; have f0 := qbq hbz 0; have z1 : w5.cell? ⟨w3.heap.size, 1, none⟩ = some (.string ⟨#[]⟩) := (qg hbz 1).trans rfl; have f1 := qbq hbz 1; have z2 : w5.cell? ⟨w3.heap.size, 2, none⟩ = some (.int .i64 0) := (qg hbz 2).trans rfl; have f2 := qbq hbz 2; have z3 : w5.cell? ⟨w3.heap.size, 3, none⟩ = some (.int .i64 0) := (qg hbz 3).trans rfl; have f3 := qbq hbz 3; have z4 : w5.cell? ⟨w3.heap.size, 4, none⟩ = some (.int .i64 0) := (qg hbz 4).trans rfl; have f4 := qbq hbz 4; have z5 : w5.cell? ⟨w3.heap.size, 5, none⟩ = some (.string ⟨#[]⟩) := (qg hbz 5).trans rfl; have f5 := qbq hbz 5; have z6 : w5.cell? ⟨w3.heap.size, 6, none⟩ = some (.string ⟨#[]⟩) := (qg hbz 6).trans rfl; have f6 := qbq hbz 6; have z7 : w5.cell? ⟨w3.heap.size, 7, none⟩ = some (.int .i64 0) := (qg hbz 7).trans rfl; have f7 := qbq hbz 7; have z8 : w5.cell? ⟨w3.heap.size, 8, none⟩ = some (.slice none 0 0) := (qg hbz 8).trans rfl; have f8 := qbq hbz 8; have z9 : w5.cell? ⟨w3.heap.size, 9, none⟩ = some (.slice none 0 0) := (qg hbz 9).trans rfl; have f9 := qbq hbz 9; have HBZ := qd.mk hbz; clear hbz); clear hr5 hb5 hb6))
  all_goals
   go_wp2_with fail
   go_meet
  all_goals
   case rel =>
    first
    | (with_reducible exact ⟨w3.heap.size, A5, c5, rfl, ⟨kp_ten HBZ.out HR5.out HB5.out (Nat.le_refl _)⟩⟩)
    | exact ⟨w5.heap.size, A5, c5, rfl, ⟨kp_new HR5.out HB5.out⟩⟩
 obtain ⟨g, A5, c5, rfl, HKP⟩ := hcut
 have c8 : wc.cell? ⟨g, 8, none⟩ = some (.slice A x.f8.length c) := (qg HKP.out.blk 8).trans rfl
 have f8 := qbq HKP.out.blk 8
 go_upto_region 13 with (fail)
 refine qdj (P := fun x => Code.wp _ _ _ _ x) _ ?_
 intro w6 hw6
 have HK6 := qd.mk (show qnf w3 w6 g #[.int .i64 x.f0, .string x.f1, .int .i64 x.f2, .int .i64 x.f3, .int .i64 x.f4, .string x.f5, .string x.f6, .int .i64 x.f7, .slice none 0 0, .slice A5 (rawL x).length c5] (.slice A5 (rawL x).length c5) (rawL x) from hw6 ▸ HKP.out.set 8 _ rfl)
 clear hw6 HKP c8 f8
 have hrow : Kd.R k112 112 w6 base (fun _ => True) (.slice A5 (rawL x).length c5) (rawL x) := Kd.qec HK6.out.row (by have := HLED3.out.ltm; have := HLED3.out.lowm; omega)
 have HLED6 := qd.mk ((HLED3.out.below HK6.out.bel).below (qdo (Below.refl _ w6)))
 obtain ⟨w7, hup, hLed7, hg7⟩ := HLED6.out.put (c := ⟨x, rawL x, .slice A5 (rawL x).length c5⟩) (by have := HHL.out; omega) (Kd.qdw hrow (qdo (Below.refl _ w6)))
 have HL7 := qd.mk hLed7
 have HG7 := qd.mk hg7
 clear hLed7 hg7 hrow
 unfold pstV at hup
 rw [← HO.out] at hup
 obtain ⟨q0, q1, q2, q3, q4, q5, q6, q7, q8⟩ := HQS.out w6 HK6.out.bel
 clear q1 q2 q3 q4 q5 q6 q7 q8
 have e0 : w6.cell? ⟨g, 0, none⟩ = some (.int .i64 x.f0) := (qg HK6.out.blk 0).trans rfl
 have e1 : w6.cell? ⟨g, 1, none⟩ = some (.string x.f1) := (qg HK6.out.blk 1).trans rfl
 have e2 : w6.cell? ⟨g, 2, none⟩ = some (.int .i64 x.f2) := (qg HK6.out.blk 2).trans rfl
 have e3 : w6.cell? ⟨g, 3, none⟩ = some (.int .i64 x.f3) := (qg HK6.out.blk 3).trans rfl
 have e4 : w6.cell? ⟨g, 4, none⟩ = some (.int .i64 x.f4) := (qg HK6.out.blk 4).trans rfl
 have e5 : w6.cell? ⟨g, 5, none⟩ = some (.string x.f5) := (qg HK6.out.blk 5).trans rfl
 have e6 : w6.cell? ⟨g, 6, none⟩ = some (.string x.f6) := (qg HK6.out.blk 6).trans rfl
 have e7 : w6.cell? ⟨g, 7, none⟩ = some (.int .i64 x.f7) := (qg HK6.out.blk 7).trans rfl
 have e8 : w6.cell? ⟨g, 8, none⟩ = some (.slice none 0 0) := (qg HK6.out.blk 8).trans rfl
 have e9 : w6.cell? ⟨g, 9, none⟩ = some (.slice A5 (rawL x).length c5) := (qg HK6.out.blk 9).trans rfl
 have ep : w6.cell? ⟨p, 0, none⟩ = some (.map (some m)) := (qg HLED6.out.blk 0).trans rfl
 go_still_tail 7, (by kernel_rfl)
 change wpList _ _ _ _ _ w6.drew
 go_wp2
 go_ret
 refine ⟨rfl, ⟨_, HL7.out, ?_, fun d' hd' => ?_⟩, ?_⟩
 ·rw [List.map_append, HD.out]
  rfl
 ·rcases List.mem_append.1 hd' with hd' | hd'
  ·exact HRW.out d' hd'
  ·rw [List.mem_singleton] at hd'
   subst hd'
   rfl
 ·have hb6 : Below w.heap.size w w6.drew := qdo (qcn HB3.out HB3.out.size HK6.out.bel)
  exact (But.of_below hb6 _).trans (But.qjc HG7.out (fun k hk => (Option.some.inj hk).symm))
def qmu (w : World) (base p m : Nat) (E : List S29) (x : S29) (e : Ending) (w' : World) : Prop := e = .returned (.int .i64 (postC E x)) ∧ LedE w' base p m (qjk E x) ∧ But (fun k => k = m) w w'
theorem qmu.same {w w' : World} {base p m : Nat} {E : List S29} {x : S29} {e : Ending} {r : Int} (hL : LedE w base p m E) (hr : postC E x = r) (h0 : r ≠ 0) (he : e = .returned (.int .i64 r)) (hb : Below w.heap.size w w') : qmu w base p m E x e w' := by
 refine ⟨by rw [hr]; exact he, ?_, But.of_below hb _⟩
 unfold qjk
 rw [if_neg (by rw [hr]; exact h0)]
 exact hL.below hb
theorem qmu.more {w w' : World} {base p m : Nat} {E : List S29} {x : S29} {e : Ending} (hr : postC E x = 0) (he : e = .returned (.int .i64 0)) (hL : LedE w' base p m (E ++ [x])) (hb : But (fun k => k = m) w w') : qmu w base p m E x e w' := by
 refine ⟨by rw [hr]; exact he, ?_, hb⟩
 unfold qjk
 rw [if_pos hr]
 exact hL
theorem post_calls {base p m : Nat} {E : List S29} (x : S29) (A : Option Addr) (c : Nat) (w : World) (hL : LedE w base p m E) (hC : Kd.C k109 w A x.f8.length x.f8) (hc : x.f8.length ≤ c) (hT : Tab w) (hf : FitE x) (hlen : E.length ≤ 100000) :
  Calls Tryd.prog 20 #[.pointer (some ⟨p, 0, none⟩), enV x A c] w fun e w' => qmu w base p m E x e w' := by
 by_cases h1 : (chkE x).2 = 0
 rotate_left
 ·have hpc : postC E x = (chkE x).2 := by
   unfold postC
   rw [if_pos h1]
  refine (post_bad x A c w hC hc hT hf h1).mono ?_
  rintro e w' ⟨he, hb⟩
  exact qmu.same hL hpc h1 he hb
 by_cases h2 : x.f0 = (E.length : Int) + 1
 rotate_left
 ·have hpc : postC E x = 17 := by
   unfold postC
   rw [if_neg (by omega), if_pos (.inl h2)]
  refine (post_order x A c w hL hC hc hT hf h1 hlen h2).mono ?_
  rintro e w' ⟨he, hb⟩
  exact qmu.same hL hpc (by decide) he hb
 cases hy : E.getLast? with
 | none =>
  have h00 : E.length = 0 := by
   rw [List.getLast?_eq_none_iff] at hy
   rw [hy]; rfl
  have hpc : postC E x = 0 := by
   unfold postC ahead
   rw [hy, if_neg (by omega), if_neg (by simp [h2]), if_neg (by omega)]
  refine (post_put0 x A c w hL hC hc hT hf h1 hlen h2 h00).mono ?_
  rintro e w' ⟨he, h3, h4⟩
  exact qmu.more hpc he h3 h4
 | some y =>
  by_cases h3 : x.f2 < y.f2
  ·have hpc : postC E x = 17 := by
    unfold postC ahead
    rw [hy, if_neg (by omega), if_pos (.inr (by simp [h3]))]
   refine (post_order2 x y A c w hL hC hc hT hf h1 hlen h2 hy h3).mono ?_
   rintro e w' ⟨he, hb⟩
   exact qmu.same hL hpc (by decide) he hb
  by_cases h4 : 4000 ≤ E.length
  ·have hpc : postC E x = 9 := by
    unfold postC ahead
    rw [hy, if_neg (by omega), if_neg (by simp [h2, h3]), if_pos h4]
   refine (post_many x y A c w hL hC hc hT hf h1 hlen h2 hy h3 h4).mono ?_
   rintro e w' ⟨he, hb⟩
   exact qmu.same hL hpc (by decide) he hb
  have hpc : postC E x = 0 := by
   unfold postC ahead
   rw [hy, if_neg (by omega), if_neg (by simp [h2, h3]), if_neg (by omega)]
  refine (post_putn x y A c w hL hC hc hT hf h1 hlen h2 hy h3 h4).mono ?_
  rintro e w' ⟨he, h5, h6⟩
  exact qmu.more hpc he h5 h6
end
section
open Go.Sort Go.Maps Go.ChangeShapes Go.WideShapes Go.WideMaps Go.Shelf
section
structure Qy where
 e : ByteArray
 a : Int
 z : Int
 b : Int
def qyV (q : Qy) : Value := .agg #[.string q.e, .int .i64 q.a, .int .i64 q.z, .int .i64 q.b]
def qyO (q : Qy) : Obj := .cells #[.string q.e, .int .i64 q.a, .int .i64 q.z, .int .i64 q.b] 24 (0, 0)
def selB (q : Qy) (x : S29) : Bool := (q.e.toList == [] || q.e.toList == x.f1.toList) && decide (q.a ≤ x.f3) && decide (x.f3 ≤ q.z) && decide (x.f2 ≤ q.b)
attribute [local go_sem] Oper.semAt_some
theorem qlr (F : Fence) (n : Nat) (h56 : F.fn 56) (hro : F.round = none) (q : Qy) (w : World) :
  CallsIn F n Tryd.prog 56 #[qyV q] w fun e w' => e = .returned (.func (.func 106) #[] #[.pointer (some ⟨w.heap.size, 0, none⟩)]) ∧ w' = w.alloc (qyO q) := by
 unfold qyV qyO
 refine callsIn_of_wp Tryd.func56 rfl h56 ?_ hro
 simp only [Tryd.ntmps56, List.size_toArray, List.length_cons, List.length_nil, Nat.reduceAdd, Nat.reduceSub, Array.replicate_succ, Array.replicate_zero, List.push_toArray, List.append_toArray, List.nil_append, List.cons_append]
 gi_wp2
 go_ret
 exact ⟨rfl, rfl⟩
theorem qnh (F : Fence) (n : Nat) (h106 : F.fn 106) (hro : F.round = none) (q : Qy) (x : S29) (l : Value) (g : Nat) (w : World) (hg : w.heap[g]? = some (qyO q)) :
  CallsIn F n Tryd.prog 106 #[hdV x l, .pointer (some ⟨g, 0, none⟩)] w fun e w' => e = .returned (.bool (selB q x)) ∧ w' = w.alloc (.cells #[.int .i64 x.f0, .string x.f1, .int .i64 x.f2, .int .i64 x.f3, .int .i64 x.f4, .string x.f5, .string x.f6, .int .i64 x.f7, l] 29) := by
 unfold hdV
 unfold qyO at hg
 have hg1 := qm hg (.cells #[.int .i64 x.f0, .string x.f1, .int .i64 x.f2, .int .i64 x.f3, .int .i64 x.f4, .string x.f5, .string x.f6, .int .i64 x.f7, l] 29)
 have c0 := (qg hg1 0).trans rfl
 have c1 := (qg hg1 1).trans rfl
 have c2 := (qg hg1 2).trans rfl
 have c3 := (qg hg1 3).trans rfl
 clear hg hg1
 unfold selB
 refine callsIn_of_wp Tryd.func106 rfl h106 ?_ hro
 simp only [Tryd.ntmps106, List.size_toArray, List.length_cons, List.length_nil, Nat.reduceAdd, Nat.reduceSub, Array.replicate_succ, Array.replicate_zero, List.push_toArray, List.append_toArray, List.nil_append, List.cons_append]
 cases e1 : (q.e.toList == []) <;> cases e2 : (q.e.toList == x.f1.toList) <;> cases e3 : decide (q.a ≤ x.f3) <;> cases e4 : decide (x.f3 ≤ q.z) <;> cases e5 : decide (x.f2 ≤ q.b)
 all_goals (gi_wp2)
 all_goals (go_ret; exact ⟨rfl, rfl⟩)
theorem llen_in_nil (F : Fence) (n : Nat) (h23 : F.fn 23) (hro : F.round = none) (w : World) : CallsIn F n Tryd.prog 23 #[.pointer none] w fun e w' => e = .returned (.int .i64 0) ∧ w' = w := by
 refine callsIn_of_wp Tryd.func23 rfl h23 ?_ hro
 simp only [Tryd.ntmps23, List.size_toArray, List.length_cons, List.length_nil, Nat.reduceAdd, Nat.reduceSub, Array.replicate_succ, Array.replicate_zero, List.push_toArray, List.append_toArray, List.nil_append, List.cons_append]
 gi_wp2
 go_ret
 exact ⟨rfl, rfl⟩
theorem llen_in (F : Fence) (n : Nat) (h23 : F.fn 23) (hro : F.round = none) {w : World} {base p m : Nat} {L : List Pst} (h : Led w base p m L) : CallsIn F n Tryd.prog 23 #[.pointer (some ⟨p, 0, none⟩)] w fun e w' => e = .returned (.int .i64 L.length) ∧ w' = w := by
 have hl := h.len 3
 have hc := (qg h.blk 0).trans rfl
 refine callsIn_of_wp Tryd.func23 rfl h23 ?_ hro
 simp only [Tryd.ntmps23, List.size_toArray, List.length_cons, List.length_nil, Nat.reduceAdd, Nat.reduceSub, Array.replicate_succ, Array.replicate_zero, List.push_toArray, List.append_toArray, List.nil_append, List.cons_append]
 gi_wp2
 go_ret
 exact ⟨rfl, rfl⟩
end
section
theorem qgn (P : Program) (w : World) (a : Addr) (m : Mode) (f : Fn) (x y : Array Value) : (store a (.func f x y) m).run P w = stored P w a (.func f x y) m := run_store P w a _ m rfl
attribute [local go_sem] Oper.semAt_some qgn
theorem qls (F : Fence) (n : Nat) (h50 : F.fn 50) (h56 : F.fn 56) (hro : F.round = none) (hn : 1 ≤ n) (v : Option Addr) (q : Qy) (w : World) :
  CallsIn F n Tryd.prog 50 #[.pointer v, qyV q] w fun e w' => e = .returned (.func (.func 97) #[] #[.pointer (some ⟨w.heap.size, 0, none⟩), .pointer (some ⟨w.heap.size + 3, 0, none⟩)]) ∧
   w'.heap[w.heap.size]? = some (.cells #[.pointer v] 30 (0, 0)) ∧ w'.heap[w.heap.size + 2]? = some (qyO q) ∧ w'.heap[w.heap.size + 3]? = some (.cells #[.func (.func 106) #[] #[.pointer (some ⟨w.heap.size + 2, 0, none⟩)]] 49 (0, 0)) ∧
   Below w.heap.size w w' ∧ w'.heap.size = w.heap.size + 4 := by
 have hs := qlr F (n - 1) h56 hro q
 unfold qyV at hs ⊢
 refine callsIn_of_wp Tryd.func50 rfl h50 ?_ hro
 simp only [Tryd.ntmps50, List.size_toArray, List.length_cons, List.length_nil, Nat.reduceAdd, Nat.reduceSub, Array.replicate_succ, Array.replicate_zero, List.push_toArray, List.append_toArray, List.nil_append, List.cons_append]
 gi_wp2_with (gi_at_call 56; refine (hs _).mono ?_; rintro e w3 ⟨rfl, hw3⟩; have HK := qd.mk hw3; clear hw3)
 go_ret
 have hw3 := HK.out
 have hz : w3.heap.size = w.heap.size + 3 := by rw [hw3]; simp
 have b0 : w3.heap[w.heap.size]? = some (.cells #[.pointer v] 30 (0, 0)) := by
  rw [hw3]
  exact qm (qm (qdu w (.cells #[.pointer v] 30)) _) _
 have b2 : w3.heap[w.heap.size + 2]? = some (qyO q) := by
  have e : (((w.alloc (.cells #[.pointer v] 30)).alloc (qyO q))).heap.size = w.heap.size + 2 := by simp
  rw [hw3, ← e]
  exact qdu _ _
 have hB : Below w.heap.size w w3 := by
  rw [hw3]
  exact qbk (qbk (qbk (Below.refl _ _) _) _) _
 refine ⟨by simp [hz], ?_, ?_, ?_, ?_, ?_⟩
 ·exact qm b0 _
 ·exact qm b2 _
 ·rw [← hz]
  exact qdu _ _
 ·exact qbk hB _
 ·rw [World.size_alloc, hz]
end
section
attribute [local go_sem] Oper.semAt_some qgn
def LedO (w : World) (base : Nat) (g : Option Addr) (L : List Pst) : Prop := (g = none ∧ L = []) ∨ ∃ p m, g = some ⟨p, 0, none⟩ ∧ Led w base p m L
theorem LedO.below {w w' : World} {base : Nat} {g : Option Addr} {L : List Pst} (h : LedO w base g L) (hb : Below w.heap.size w w') : LedO w' base g L := by
 rcases h with h | ⟨p, m, e, h⟩
 ·exact .inl h
 ·exact .inr ⟨p, m, e, h.below hb⟩
theorem LedO.len {w : World} {base : Nat} {g : Option Addr} {L : List Pst} (h : LedO w base g L) (F : Fence) (n : Nat) (h23 : F.fn 23) (hro : F.round = none) : CallsIn F n Tryd.prog 23 #[.pointer g] w fun e w' => e = .returned (.int .i64 L.length) ∧ w' = w := by
 rcases h with ⟨rfl, rfl⟩ | ⟨p, m, rfl, h⟩
 ·exact llen_in_nil F n h23 hro w
 ·exact llen_in F n h23 hro h
def qko (n₀ Bg Bf Bq : Nat) (W W' : World) : Prop := Below n₀ W W' ∧ W'.heap[Bg]? = W.heap[Bg]? ∧ W'.heap[Bf]? = W.heap[Bf]? ∧ W'.heap[Bq]? = W.heap[Bq]?
theorem qko.refl (n₀ Bg Bf Bq : Nat) (W : World) : qko n₀ Bg Bf Bq W W := ⟨Below.refl _ _, rfl, rfl, rfl⟩
theorem qko.t {n₀ Bg Bf Bq : Nat} {A B C : World} (h : qko n₀ Bg Bf Bq A B) (k : qko n₀ Bg Bf Bq B C) : qko n₀ Bg Bf Bq A C := ⟨h.1.trans k.1, k.2.1.trans h.2.1, k.2.2.1.trans h.2.2.1, k.2.2.2.trans h.2.2.2⟩
def qej (q : Qy) (c : Pst) : Bool := selB q c.h
def pstO (c : Pst) : Obj := .cells #[.int .i64 c.h.f0, .string c.h.f1, .int .i64 c.h.f2, .int .i64 c.h.f3, .int .i64 c.h.f4, .string c.h.f5, .string c.h.f6, .int .i64 c.h.f7, .slice none 0 0, c.v] 118 (0, 0)
theorem sel_iter_in (F : Fence) (n : Nat) (h97 : F.fn 97) (h23 : F.fn 23) (h106 : F.fn 106) (hro : F.round = none) (hn : 2 ≤ n) (l Bg Bf Bq base : Nat) (q : Qy) (g : Option Addr) {α : Type} (val : α → Pst) (T : List α) (L : List Pst) (hT : T.map val = L) (hlen : L.length ≤ 1000000) (w : World) (hL : LedO w base g L) (J Jx : List α → World → Prop)
  (hY : ∀ pre x W, J pre W → pre.length < L.length → YieldAt F (n - 1) Tryd.prog l #[pstV (val x).h (val x).v] W fun e W' =>
   (e = .returned (.bool true) ∧ J (pre ++ [x]) W' ∧ qko w.heap.size Bg Bf Bq W W') ∨ (e = .returned (.bool false) ∧ Jx (pre ++ [x]) W'))
  (W : World) (hJ : AbidesFrom W.heap.size J) (hB : Below w.heap.size w W) (hlg : Bg < W.heap.size) (hlf : Bf < W.heap.size) (hlq : Bq < W.heap.size)
  (hBg : Boxed W Bg 30 (.pointer g)) (hBf : Boxed W Bf 49 (.func (.func 106) #[] #[.pointer (some ⟨Bq, 0, none⟩)])) (hBq : W.heap[Bq]? = some (qyO q)) (h0 : J [] W) :
  CallsIn F n Tryd.prog 97 #[.func (.yield l) #[] #[], .pointer (some ⟨Bg, 0, none⟩), .pointer (some ⟨Bf, 0, none⟩)] W fun e W' => (∃ v, e = .returned v) ∧
   ((∃ ys, ys = T.filter (fun x => qej q (val x)) ∧ J ys W') ∨ (∃ pre, True ∧ Jx pre W')) := by
 have h1 : 1 ≤ n := by omega
 have hTl : T.length = L.length := by rw [← hT, List.length_map]
 refine callsIn_of_wp Tryd.func97 rfl h97 ?_ hro
 simp only [Tryd.ntmps97, List.size_toArray, List.length_cons, List.length_nil, Nat.reduceAdd, Nat.reduceSub, Array.replicate_succ, Array.replicate_zero, List.push_toArray, List.append_toArray, List.nil_append, List.cons_append]
 gi_wp2
 gi_loopw [4] (fun i wr => ∃ k : Nat, k ≤ L.length ∧ i = .int .i64 ((k : Int) + 1) ∧ J ((T.take k).filter (fun x => qej q (val x))) wr ∧ AbidesFrom W.heap.size J ∧ qko w.heap.size Bg Bf Bq W wr)
  (fun i _ => L.length + 1 - (intOf i).toNat)
 case atStart => exact ⟨0, Nat.zero_le _, rfl, by simpa using h0, hJ, qko.refl _ _ _ _ _⟩
 obtain ⟨k, hk, rfl, hJs, hJA, hK⟩ := hrel
 have bG : Boxed wr Bg 30 (.pointer g) := hK.2.1.trans hBg
 have cG := bG.cell
 have hLw := hL.below (hB.trans hK.1)
 have hln := hLw.len F (n - 1) h23 hro
 by_cases hlt : k < L.length
 rotate_left
 ·obtain rfl : k = L.length := by omega
  have d1 : decide ((L.length : Int) + 1 ≤ (L.length : Int)) = false := decide_eq_false (by omega)
  gi_wp2_with (gi_at_call 23; refine hln.mono ?_; rintro e w' ⟨rfl, rfl⟩)
  go_end0
  exact ⟨⟨_, rfl⟩, .inl ⟨_, rfl, by rw [← hTl, List.take_length] at hJs; exact hJs⟩⟩
 obtain ⟨x0, hx0⟩ : ∃ x0, T[k]? = some x0 := ⟨_, lge (by omega)⟩
 obtain ⟨c, hcx⟩ : ∃ c, val x0 = c := ⟨_, rfl⟩
 have hc : L[k]? = some c := by rw [← hT, List.getElem?_map, hx0, ← hcx]; rfl
 rcases hL with ⟨_, hnil⟩ | ⟨p, m, rfl, hled⟩
 ·rw [hnil] at hlt; exact absurd hlt (by simp)
 have hw := hled.below (hB.trans hK.1)
 obtain ⟨A, cp, hv⟩ := Kd.qct (hw.row c (List.mem_of_getElem? hc))
 have hlk := hw.look (j := (k : Int) + 1) (by unfold qdl; omega)
 rw [valL_at hc, hv] at hlk
 unfold pstV at hlk
 have cP := (qg hw.blk 0).trans rfl
 have d1 : decide ((k : Int) + 1 ≤ (L.length : Int)) = true := decide_eq_true (by omega)
 have d2 : decide (k + 1 ≤ L.length) = true := decide_eq_true (by omega)
 have d3 : decide (k < L.length) = true := decide_eq_true hlt
 have bF : Boxed wr Bf 49 (.func (.func 106) #[] #[.pointer (some ⟨Bq, 0, none⟩)]) := hK.2.2.1.trans hBf
 have bQ : wr.heap[Bq]? = some (qyO q) := hK.2.2.2.trans hBq
 have hpo : pstO c = .cells #[.int .i64 c.h.f0, .string c.h.f1, .int .i64 c.h.f2, .int .i64 c.h.f3, .int .i64 c.h.f4, .string c.h.f5, .string c.h.f6, .int .i64 c.h.f7, .slice none 0 0, .slice A c.C.length cp] 118 (0, 0) := by unfold pstO; rw [hv]
 obtain ⟨Wa, hWa⟩ : ∃ Wa, wr.alloc (.cells #[.int .i64 c.h.f0, .string c.h.f1, .int .i64 c.h.f2, .int .i64 c.h.f3, .int .i64 c.h.f4, .string c.h.f5, .string c.h.f6, .int .i64 c.h.f7, .slice none 0 0, .slice A c.C.length cp] 118) = Wa := ⟨_, rfl⟩
 have hg : wr.grownBy Wa none := by rw [← hWa]; exact World.grownBy_alloc wr _ none
 have bFa : Boxed Wa Bf 49 (.func (.func 106) #[] #[.pointer (some ⟨Bq, 0, none⟩)]) := by rw [← hWa]; exact bF.alloc _
 have bQa : Wa.heap[Bq]? = some (qyO q) := by rw [← hWa]; exact qm bQ _
 have bTa : Wa.heap[wr.heap.size]? = some (.cells #[.int .i64 c.h.f0, .string c.h.f1, .int .i64 c.h.f2, .int .i64 c.h.f3, .int .i64 c.h.f4, .string c.h.f5, .string c.h.f6, .int .i64 c.h.f7, .slice none 0 0, .slice A c.C.length cp] 118 (0, 0)) := by rw [← hWa]; exact World.alloc_heap_new wr _
 have cF := bFa.cell
 have hs := qnh F (n - 1) h106 hro q c.h (.slice none 0 0) Bq Wa bQa
 unfold hdV at hs
 obtain ⟨Wb, hWb⟩ : ∃ Wb, Wa.alloc (.cells #[.int .i64 c.h.f0, .string c.h.f1, .int .i64 c.h.f2, .int .i64 c.h.f3, .int .i64 c.h.f4, .string c.h.f5, .string c.h.f6, .int .i64 c.h.f7, .slice none 0 0] 29) = Wb := ⟨_, rfl⟩
 rw [hWb] at hs
 have hgb : Wa.grownBy Wb none := by rw [← hWb]; exact World.grownBy_alloc Wa _ none
 have bTb : Wb.heap[wr.heap.size]? = some (.cells #[.int .i64 c.h.f0, .string c.h.f1, .int .i64 c.h.f2, .int .i64 c.h.f3, .int .i64 c.h.f4, .string c.h.f5, .string c.h.f6, .int .i64 c.h.f7, .slice none 0 0, .slice A c.C.length cp] 118 (0, 0)) := by rw [← hWb]; exact qm bTa _
 have a0 := (qg bTa 0).trans rfl
 have a1 := (qg bTa 1).trans rfl
 have a2 := (qg bTa 2).trans rfl
 have a3 := (qg bTa 3).trans rfl
 have a4 := (qg bTa 4).trans rfl
 have a5 := (qg bTa 5).trans rfl
 have a6 := (qg bTa 6).trans rfl
 have a7 := (qg bTa 7).trans rfl
 have a8 := (qg bTa 8).trans rfl
 have b0 := (qg bTb 0).trans rfl
 have b1 := (qg bTb 1).trans rfl
 have b2 := (qg bTb 2).trans rfl
 have b3 := (qg bTb 3).trans rfl
 have b4 := (qg bTb 4).trans rfl
 have b5 := (qg bTb 5).trans rfl
 have b6 := (qg bTb 6).trans rfl
 have b7 := (qg bTb 7).trans rfl
 have b8 := (qg bTb 8).trans rfl
 have b9 := (qg bTb 9).trans rfl
 have hJb : J ((T.take k).filter (fun x => qej q (val x))) Wb := hJA _ _ _ none (hJA _ _ _ none hJs hg (fun r e => by cases e)) hgb (fun r e => by cases e)
 have hsz : wr.heap.size < Wa.heap.size := by rw [← hWa]; simp
 have hKb : qko w.heap.size Bg Bf Bq wr Wb :=
  ⟨((Below.refl w.heap.size wr).grown hg (by have := (hB.trans hK.1).size; omega) (fun k e => by cases e)).grown hgb (by have := (hB.trans hK.1).size; omega) (fun k e => by cases e),
   (hgb.block Bg (by have := bG.lt; omega) (by simp)).trans (hg.block Bg bG.lt (by simp)), (hgb.block Bf (by have := bF.lt; omega) (by simp)).trans (hg.block Bf bF.lt (by simp)), (hgb.block Bq (by have := qeo bQ; omega) (by simp)).trans (hg.block Bq (qeo bQ) (by simp))⟩
 have hlf : ((T.take k).filter (fun x => qej q (val x))).length < L.length := by
  have := List.length_filter_le (fun x => qej q (val x)) (T.take k)
  rw [List.length_take] at this
  omega
 have htk : T.take (k + 1) = T.take k ++ [x0] := by
  rw [List.take_add_one, hx0]; rfl
 cases hq : selB q c.h
 ·have hf : (T.take (k + 1)).filter (fun x => qej q (val x)) = (T.take k).filter (fun x => qej q (val x)) := by
   rw [htk, List.filter_append]; simp [qej, hcx, hq]
  rw [hq] at hs
  clear bTa bTb hgb hg bF bQ bFa bQa hw hpo
  gi_wp2_with (first | (gi_at_call 23; refine hln.mono ?_; rintro e w' ⟨rfl, rfl⟩) | (gi_at_call 106; refine hs.mono ?_; rintro e w' ⟨rfl, rfl⟩))
  refine ⟨fun f hf' => (by cases hf'), ?_⟩
  gi_wp2
  go_roundw
  case rel => exact ⟨k + 1, by omega, by simp, by rw [hf]; exact hJb, hJA, hK.t hKb⟩
  case measure => simp [intOf]; omega
 ·have hf : (T.take (k + 1)).filter (fun x => qej q (val x)) = (T.take k).filter (fun x => qej q (val x)) ++ [x0] := by
   rw [htk, List.filter_append]; simp [qej, hcx, hq]
  rw [hq] at hs
  obtain ⟨fn, tmps, assign, body, hy, hR⟩ := hY _ x0 _ hJb hlf
  rw [hcx] at hy
  unfold pstV at hy
  rw [hv] at hy
  clear bTa bTb hgb hg bF bQ bFa bQa hw hpo
  gi_wp2_with (first | (gi_at_call 23; refine hln.mono ?_; rintro e w' ⟨rfl, rfl⟩) | (gi_at_call 106; refine hs.mono ?_; rintro e w' ⟨rfl, rfl⟩))
  refine hR.mono ?_
  rintro e W3 (⟨rfl, hJ3, hk3⟩ | ⟨rfl, hJx3⟩)
  ·gi_wp2
   go_roundw
   case rel => exact ⟨k + 1, by omega, by simp, by rw [hf]; exact hJ3, hJA, (hK.t hKb).t hk3⟩
   case measure => simp [intOf]; omega
  ·gi_wp2
   refine bodyPost_ret (results_none rfl _ _ _) rfl ?_
   exact ⟨⟨_, rfl⟩, .inr ⟨_, trivial, hJx3⟩⟩
theorem sel_stops (F : Fence) (n : Nat) (h97 : F.fn 97) (h23 : F.fn 23) (h106 : F.fn 106) (hro : F.round = none) (hn : 2 ≤ n) (Bg Bf Bq base : Nat) (q : Qy) (g : Option Addr) {α : Type} (val : α → Pst) (T : List α) (L : List Pst) (hT : T.map val = L) (hlen : L.length ≤ 1000000) (w0 : World) (hL : LedO w0 base g L) (w : World) (hB : Below w0.heap.size w0 w)
  (hBg : Boxed w Bg 30 (.pointer g)) (hBf : Boxed w Bf 49 (.func (.func 106) #[] #[.pointer (some ⟨Bq, 0, none⟩)])) (hBq : w.heap[Bq]? = some (qyO q)) :
  SeqStopsK F n Tryd.prog 97 #[.pointer (some ⟨Bg, 0, none⟩), .pointer (some ⟨Bf, 0, none⟩)] (fun x : α => #[pstV (val x).h (val x).v]) (qko w0.heap.size Bg Bf Bq) (fun ys => ys = T.filter (fun x => qej q (val x))) (fun _ => True) L.length w := fun l J Jx W hW hJ _ hY h0 => by
 have hBg' : Boxed W Bg 30 (.pointer g) := (hW.block Bg hBg.lt).trans hBg
 have hBf' : Boxed W Bf 49 (.func (.func 106) #[] #[.pointer (some ⟨Bq, 0, none⟩)]) := (hW.block Bf hBf.lt).trans hBf
 have hBq' : W.heap[Bq]? = some (qyO q) := (hW.block Bq (qeo hBq)).trans hBq
 exact sel_iter_in F n h97 h23 h106 hro hn l Bg Bf Bq base q g val T L hT hlen w0 hL J Jx hY W hJ (hB.trans (hW.mono hB.size)) hBg'.lt hBf'.lt (qeo hBq') hBg' hBf' hBq' h0
end
end
section
open Go.Sort
def cellC (x : S112) : List Value := [.string x.f0.f0, .string x.f0.f1, .string x.f0.f2, .string x.f0.f3, .string x.f0.f4, .int .i64 x.f1, .int .i64 x.f2]
def qgb : List S112 → List Value
 | [] => []
 | x :: r => cellC x ++ qgb r
theorem qit (l : List S112) : (qgb l).length = l.length * 7 := by
 induction l with
 | nil => rfl
 | cons x r ih => simp only [qgb, List.length_append, List.length_cons, ih]; simp [cellC]; omega
theorem flatC_app (a b : List S112) : qgb (a ++ b) = qgb a ++ qgb b := by
 induction a with
 | nil => rfl
 | cons x r ih => simp [qgb, ih]
theorem flatC_one (l : List S112) : ∀ u ∈ qgb l, u.oneCell' = true := by
 induction l with
 | nil => simp [qgb]
 | cons x r ih =>
  intro u hu
  simp only [qgb, List.mem_append] at hu
  rcases hu with hu | hu
  ·simp only [cellC, List.mem_cons, List.not_mem_nil, or_false] at hu
   rcases hu with rfl | rfl | rfl | rfl | rfl | rfl | rfl <;> rfl
  ·exact ih u hu
theorem qny : ∀ (l : List S112) (j : Nat), (qgb l).drop (j * 7) = qgb (l.drop j)
 | l, 0 => by simp
 | [], j + 1 => by simp [qgb]
 | x :: r, j + 1 => by
  rw [List.drop_succ_cons, ← qny r j]
  simp only [qgb]
  rw [List.drop_append, show (cellC x).length = 7 from rfl, List.drop_eq_nil_of_le (by simp [cellC]; omega), show (j + 1) * 7 - 7 = j * 7 from by omega]
  simp
theorem reps_flatC (w : World) (base : Nat) (ok : Nat → Prop) (l : List S112) : Reps (k112.M w base ok) 7 l (qgb l) := by
 refine ⟨qit l, fun j p hj => ?_⟩
 have hlt : j < l.length := (List.getElem?_eq_some_iff.1 hj).1
 have hp : l[j] = p := (List.getElem?_eq_some_iff.1 hj).2
 rw [← Nat.mul_comm 7 j, Nat.mul_comm 7 j, qny, List.drop_eq_getElem_cons hlt, hp]
 simp only [qgb]
 rw [List.take_append, show (cellC p).length = 7 from rfl, List.take_of_length_le (by simp [cellC])]
 simp
 exact qfw w base ok p
theorem R_flatC {w : World} {base n : Nat} {v : Value} {l : List S112} (hn : l.length = n) (h : w.ownsRow base 112 7 v n (qgb l)) : Kd.R k112 112 w base (fun _ => True) v l := by
 subst hn
 exact ⟨fun _ _ => trivial, qgb l, h, reps_flatC w base _ l⟩
theorem flatC_get : ∀ (l : List S112) (i t : Nat) (h : i < l.length), t < 7 → (qgb l)[i * 7 + t]? = (cellC l[i])[t]?
 | [], i, t, h, _ => by simp at h
 | x :: r, 0, t, h, ht => by
  simp only [qgb]
  rw [List.getElem?_append_left (by simp [cellC]; omega)]
  simp
 | x :: r, i + 1, t, h, ht => by
  simp only [qgb]
  rw [List.getElem?_append_right (by simp [cellC]; omega), show (i + 1) * 7 + t - (cellC x).length = i * 7 + t from by simp [cellC]; omega, flatC_get r i t (by simpa using h) ht]
  simp
theorem flat_src {w : World} {A : Option Addr} {l : List S112} (h : Kd.C k112 w A l.length l) : l = [] ∨ ∃ ad, A = some ad ∧ ∀ j u, (qgb l)[j]? = some u → w.cell? (ad.add j) = some u := by
 by_cases e : l = []
 ·exact .inl e
 have h0 : 0 < l.length := List.length_pos_iff.2 e
 obtain ⟨ad, c, hA, _⟩ := Kd.C_get h z112 0 (by omega) (by omega)
 refine .inr ⟨ad, hA, fun j u hj => ?_⟩
 have hj2 : j < l.length * 7 := by
  rw [← qit]
  exact (List.getElem?_eq_some_iff.1 hj).1
 have hi : j / 7 < l.length := by omega
 obtain ⟨ad2, c2, hA2, _, hK, hc⟩ := Kd.C_get h z112 ((j / 7 : Nat) : Int) (by omega) (by omega)
 rw [hA] at hA2
 obtain rfl := Option.some.inj hA2
 have hc' : ∀ t u, c2[t]? = some u → w.cell? (ad.add (((j / 7 : Nat) : Int).toNat * 7 + t)) = some u := hc
 obtain rfl := qir hK
 have hg := flatC_get l (j / 7) (j % 7) hi (by omega)
 rw [show j / 7 * 7 + j % 7 = j from by omega, hj] at hg
 have hx : l.getD ((j / 7 : Nat) : Int).toNat z112 = l[j / 7] := by rw [Int.toNat_natCast, List.getD_eq_getElem?_getD, lge hi]; rfl
 have := hc' (j % 7) u (by rw [hx]; exact hg.symm)
 rw [Int.toNat_natCast, show j / 7 * 7 + j % 7 = j from by omega] at this
 exact this
end
section
open Go.Sort Go.Maps Go.ChangeShapes Go.WideShapes Go.WideMaps Go.Shelf
section
attribute [local go_sem] Oper.semAt_some qgn
theorem qjl {β : Type} (B k : Nat) (cs : Array Value) (t : TypeId) : OwnFrom B (fun (_ : β) W => W.heap[k]? = some (.cells cs t (0, 0))) := by
 rintro _ W W' row h hg hr
 refine (hg.block k (Array.getElem?_eq_some_iff.1 h).1 ?_).trans h
 intro e
 obtain ⟨_, o, ho, hc⟩ := hr k e.symm
 rw [h] at ho; cases ho; cases hc
def AxS (ts : Nat → Array Value → Prop) (x : Pst) (a' : Act) (W : World) : Prop := ∃ B, ts B a'.tmps ∧ a'.defers = [] ∧ W.heap[B]? = some (pstO x)
theorem qmd (ts : Nat → Array Value → Prop) (B : Nat) (x : Pst) (a' : Act) : OwnFrom B (fun (_ : Unit) W => AxS ts x a' W) := by
 rintro _ W W' row ⟨b, h1, h2, h3⟩ hg hr
 refine ⟨b, h1, h2, (hg.block b (Array.getElem?_eq_some_iff.1 h3).1 ?_).trans h3⟩
 intro e
 obtain ⟨_, o, ho, hc⟩ := hr b e.symm
 rw [h3] at ho; cases ho; cases hc
theorem appended0 {W w1 : World} {n₀ B : Nat} {t e : TypeId} {size : Nat} {v v' : Value} {k m : Nat} {xs ys : List Value}
  (hv : Boxed W B t v) (hte : t ≠ e) (hrow : W.ownsRow n₀ e size v k xs) (hn₀ : n₀ ≤ W.heap.size) (hB : n₀ ≤ B)
  (hown' : w1.ownsRow n₀ e size v' m ys) (hgrow : W.grownBy w1 v.ownBlock) :
  Boxed w1 B t v ∧ Boxed (w1.setCell ⟨B, 0, none⟩ v') B t v' ∧ (w1.setCell ⟨B, 0, none⟩ v').ownsRow n₀ e size v' m ys ∧ KeepsOthers W (w1.setCell ⟨B, 0, none⟩ v') ∧ Below n₀ W (w1.setCell ⟨B, 0, none⟩ v') := by
 have hv1 : Boxed w1 B t v := hv.kept hgrow (hv.not_row hte hrow)
 refine ⟨hv1, hv1.set v', hown'.kept (grownBy_setCell' w1 B v') (.inr (hv1.not_row hte hown').symm), ?_, ?_⟩
 ·refine (KeepsOthers.of_grownBy hgrow fun j o ej hj => ?_).trans (KeepsOthers.setCell _ _ _)
  rcases hrow.2 with ⟨rfl, _⟩ | ⟨g, cap, cur, rfl, _, hgb, _⟩
  ·simp [Value.ownBlock] at ej
  ·obtain rfl : g = j := by simpa [Value.ownBlock] using ej
   rw [hgb] at hj; cases hj; rfl
 ·refine ((Below.refl n₀ W).grown hgrow hn₀ fun j ej => ?_).setCell (p := ⟨B, 0, none⟩) hB v'
  rcases hrow.2 with ⟨rfl, _⟩ | ⟨g, cap, cur, rfl, hb, _, _⟩
  ·simp [Value.ownBlock] at ej
  ·obtain rfl : g = j := by simpa [Value.ownBlock] using ej
   exact hb
def totS {L : List Pst} (pre : List {c // c ∈ L}) : List S112 := (pre.map (fun x => x.1.C)).flatten
theorem totS_app {L : List Pst} (pre : List {c // c ∈ L}) (x : {c // c ∈ L}) : totS (pre ++ [x]) = totS pre ++ x.1.C := by simp [totS]
theorem totS_len {L : List Pst} (hC : ∀ c ∈ L, c.C.length ≤ 1000) : ∀ pre : List {c // c ∈ L}, (totS pre).length ≤ pre.length * 1000
 | [] => by simp [totS]
 | x :: r => by
  have := totS_len hC r
  have h2 := hC x.1 x.2
  simp only [totS, List.map_cons, List.flatten_cons, List.length_append, List.length_cons] at this ⊢
  omega
theorem totS_filter {L : List Pst} (q : Qy) : totS (L.attach.filter (fun x => qej q x.1)) = ((L.filter (qej q)).map Pst.C).flatten := by
 have h : (L.attach.filter (fun x => qej q x.1)).map (fun x => x.1) = L.filter (qej q) := by
  have := (List.filter_map (p := qej q) (f := fun x : {c // c ∈ L} => x.1) (l := L.attach)).symm
  rw [List.attach_map_subtype_val] at this
  exact this
 unfold totS
 rw [← h, List.map_map]
 rfl
theorem lsheet_in (g : Option Addr) (q : Qy) (base : Nat) (L : List Pst) (w : World) (hL : LedO w base g L) (h1000 : L.length ≤ 1000) (hC : ∀ c ∈ L, c.C.length ≤ 1000) (hne : ∀ c ∈ L, c.C ≠ []) (all : List S112) (hall : all = ((L.filter (qej q)).map Pst.C).flatten) (hok : OkS all) :
  CallsIn Fence.wide 4 Tryd.prog 19 #[.pointer g, qyV q] w fun e w' => ∃ v, e = .returned (.tuple #[v, .int .i64 (ofK all).2]) ∧ Kd.R k112 112 w' w.heap.size (fun _ => True) v (ofK all).1 ∧ Below w.heap.size w w' := by
 obtain ⟨F, hF⟩ : ∃ F, F = Fence.wide := ⟨_, rfl⟩
 rw [← hF]
 have h19 : F.fn 19 := by rw [hF]; trivial
 have h50 : F.fn 50 := by rw [hF]; trivial
 have h56 : F.fn 56 := by rw [hF]; trivial
 have h97 : F.fn 97 := by rw [hF]; trivial
 have h23 : F.fn 23 := by rw [hF]; trivial
 have h106 : F.fn 106 := by rw [hF]; trivial
 have h31 : F.fn 31 := by rw [hF]; trivial
 have hro : F.round = none := by rw [hF]; rfl
 have hof : ∀ (A0 : Option Addr) (c0 : Nat) (W : World), Kd.C k112 W A0 all.length all → all.length ≤ c0 → CallsIn F 3 Tryd.prog 31 #[.slice A0 all.length c0] W fun e w' => ∃ v0_ : Value, e = .returned (.tuple #[v0_, .int .i64 (ofK all).2]) ∧ Kd.R k112 112 w' W.heap.size (fun _ => True) v0_ (ofK all).1 ∧ Below W.heap.size W w' := by
  intro A0 c0 W h1 h2
  rw [hF]
  exact callsIn_wide.2 (qhf.calls A0 c0 all (ofK all).1 (ofK all).2 W h1 h2 (by unfold qhf.f; rw [if_pos hok]))
 clear hF
 have hse := qls F 3 h50 h56 hro (by omega) g q
 unfold qyV at hse ⊢
 obtain ⟨i0, hi, hz0, hz1, hz2⟩ := info_parts qfk
 refine callsIn_of_wp_marks Tryd.func19 rfl h19 ?_ hro
 simp only [Tryd.ntmps19, List.size_toArray, List.length_cons, List.length_nil, Nat.reduceAdd, Nat.reduceSub, Array.replicate_succ, Array.replicate_zero, List.push_toArray, List.append_toArray, List.nil_append, List.cons_append]
 gi_wp2_with (gi_at_call 50; refine (hse _).mono ?_; rintro e W4 ⟨rfl, k0, k2, k3, kB, ks⟩)
 simp only [World.size_alloc] at k0 k2 k3 kB ks
 have hsl : ∀ c ∈ L, ∃ A cp, c.v = .slice (some A) c.C.length cp ∧ A.block < w.heap.size ∧ ∀ j u, (qgb c.C)[j]? = some u → w.cell? (A.add j) = some u := by
  intro c hc
  rcases hL with ⟨_, rfl⟩ | ⟨p, m, _, hled⟩
  ·cases hc
  obtain ⟨A, cp, hv, _, hr⟩ := Kd.qhp (hled.row c hc)
  rcases flat_src hr with h | ⟨ad, rfl, h⟩
  ·exact absurd h (hne c hc)
  ·refine ⟨ad, cp, hv, ?_, h⟩
   have h0 : 0 < (qgb c.C).length := by
    rw [qit]
    have := List.length_pos_iff.2 (hne c hc)
    omega
   have := World.block_lt_of_cell? w _ (h 0 _ (lge h0))
   rw [add_block] at this
   exact this
 have bN : Boxed W4 (w.heap.size + 1 + 1) 30 (.pointer g) := k0
 have bF : Boxed W4 (w.heap.size + 1 + 1 + 3) 49 (.func (.func 106) #[] #[.pointer (some ⟨w.heap.size + 1 + 1 + 2, 0, none⟩)]) := k3
 have bD : Boxed W4 (w.heap.size + 1) 32 (.slice none 0 0) := (kB.block (w.heap.size + 1) (by omega)).trans (by have := qdu (w.alloc (qyO q)) (.cells #[.slice none 0 0] 32); rw [World.size_alloc] at this; exact this)
 have hB0 : Below w.heap.size w W4 := ((((Below.refl _ w).alloc (Nat.le_refl _) _).alloc (by simp) _)).trans (kB.mono (by omega))
 refine wpIn_rangeFunc_ownH (α := {c // c ∈ L}) hro (by omega) (gf := 97) (lb := #[.pointer (some ⟨w.heap.size + 1 + 1, 0, none⟩), .pointer (some ⟨w.heap.size + 1 + 1 + 3, 0, none⟩)]) rfl h97 (enters_of Tryd.func97 (by kernel_rfl) rfl)
  (sel_stops F 3 h97 h23 h106 hro (by omega) (w.heap.size + 1 + 1) (w.heap.size + 1 + 1 + 3) (w.heap.size + 1 + 1 + 2) base q g (fun x : {c // c ∈ L} => x.1) L.attach L (List.attach_map_subtype_val L) (by omega) w hL W4 hB0 bN bF k2)
  qko.t (fun W b o o' hb h hcl hwk => ⟨belowK_b (w := W4) (by omega) W b o o' hb h hcl hwk, World.putObj_heap_other (by omega), World.putObj_heap_other (by omega), World.putObj_heap_other (by omega)⟩)
  (Below.refl _ _) (fun _ => rfl)
  (fun pre W => (∃ v, Boxed W (w.heap.size + 1) 32 v ∧ W.ownsRow w.heap.size 112 7 v (totS pre).length (qgb (totS pre)) ∧ True) ∧ (((Boxed W (w.heap.size + 1 + 1) 30 (.pointer g) ∧ Boxed W (w.heap.size + 1 + 1 + 3) 49 (.func (.func 106) #[] #[.pointer (some ⟨w.heap.size + 1 + 1 + 2, 0, none⟩)])) ∧ W.heap[w.heap.size + 1 + 1 + 2]? = some (qyO q)) ∧ Below w.heap.size w W))
  (fun _ _ _ => False)
  (OwnFrom.and (Own.from (holdsRow_own w.heap.size (w.heap.size + 1) 32 112 7 (fun pre : List {c // c ∈ L} => (totS pre).length) (fun pre => qgb (totS pre)) (fun _ _ => True)) _) (OwnFrom.and (OwnFrom.and (OwnFrom.and (Own.from (boxed_own _ _ (fun _ => .pointer g)) _) (Own.from (boxed_own _ _ (fun _ => (.func (.func 106) #[] #[.pointer (some ⟨w.heap.size + 1 + 1 + 2, 0, none⟩)]))) _)) (qjl _ _ _ _)) (ownFrom_below (Nat.le_refl _) (by omega))))
  (fun _ _ _ _ _ hs _ _ => hs)
  ⟨⟨_, bD, World.ownsRow_nil _ _ _ _, trivial⟩, ⟨⟨bN, bF⟩, k2⟩, hB0⟩
  (fun x => AxS (fun B ts => ∃ u, ts = #[.pointer g, .agg #[.string q.e, .int .i64 q.a, .int .i64 q.z, .int .i64 q.b], undef, .pointer (some ⟨w.heap.size, 0, none⟩), .slice none 0 0, .int .i64 0, .pointer (some ⟨w.heap.size + 1, 0, none⟩), .pointer (some ⟨B, 0, none⟩), .pointer g, .agg #[.string q.e, .int .i64 q.a, .int .i64 q.z, .int .i64 q.b], .func (.func 97) #[] #[.pointer (some ⟨w.heap.size + 1 + 1, 0, none⟩), .pointer (some ⟨w.heap.size + 1 + 1 + 3, 0, none⟩)], u, undef, undef, undef, undef, undef, undef, undef, undef]) x.1)
  (fun x a' => qmd _ _ x.1 a') ?assign ?body ?done ?stop
 case assign =>
  rintro b pre ⟨x, hx⟩ W K ⟨⟨v, hv, hrow, _⟩, ⟨⟨bn, bf⟩, bq⟩, hB⟩ hK
  obtain ⟨A, cp, hxv, _, _⟩ := hsl x hx
  simp only [pstV, hxv]
  gi_wp2
  have hpo : pstO x = .cells #[.int .i64 x.h.f0, .string x.h.f1, .int .i64 x.h.f2, .int .i64 x.h.f3, .int .i64 x.h.f4, .string x.h.f5, .string x.h.f6, .int .i64 x.h.f7, .slice none 0 0, .slice (some A) x.C.length cp] 118 (0, 0) := by unfold pstO; rw [hxv]
  have hg := World.grownBy_alloc W (pstO x) none
  rw [hpo] at hg
  have hlq : w.heap.size + 1 + 1 + 2 < W.heap.size := qeo bq
  exact hK _ _ ((KeepsOthers.alloc W _).from _) ⟨(Below.refl _ W).alloc hB.size _, hg.block _ bn.lt (by simp), hg.block _ bf.lt (by simp), hg.block _ hlq (by simp)⟩
   ⟨⟨v, hv.alloc _, hrow.alloc _, trivial⟩, ⟨⟨bn.alloc _, bf.alloc _⟩, qm bq _⟩, hB.alloc hB.size _⟩ ⟨W.heap.size, ⟨_, rfl⟩, rfl, by rw [hpo]; exact World.alloc_heap_new W _⟩
 case body =>
  rintro b pre ⟨x, hx⟩ ⟨tm, df⟩ W hb _ ⟨⟨v, hv, hrow, _⟩, ⟨⟨bn, bf⟩, bq⟩, hB⟩ ⟨B, ⟨u, hts⟩, hdf, hbx⟩ hlt
  obtain rfl : tm = _ := hts
  obtain rfl : df = [] := hdf
  obtain ⟨A, cp, hxv, hAb, hsrc⟩ := hsl x hx
  have hpo : pstO x = .cells #[.int .i64 x.h.f0, .string x.h.f1, .int .i64 x.h.f2, .int .i64 x.h.f3, .int .i64 x.h.f4, .string x.h.f5, .string x.h.f6, .int .i64 x.h.f7, .slice none 0 0, .slice (some A) x.C.length cp] 118 (0, 0) := by unfold pstO; rw [hxv]
  rw [hpo] at hbx
  have c9 := (qg hbx 9).trans rfl
  have hc' := hv.cell
  have htot := totS_len hC pre
  have hxl := hC x hx
  have hW := hB.size
  have hsr : ∀ j u, (qgb x.C)[j]? = some u → W.cell? (A.add j) = some u := fun j u hj => (hB.cell (p := A.add j) (by rw [add_block]; exact hAb)).trans (hsrc j u hj)
  gi_wp2_with (gi_at_builtin; refine wpListIn_append_own _ rfl _ _ 32 rfl w.heap.size 112 i0 (.agg #[.string ⟨#[]⟩, .string ⟨#[]⟩, .string ⟨#[]⟩, .string ⟨#[]⟩, .string ⟨#[]⟩, .int .i64 0, .int .i64 0]) 7 96 Tryd.underlying32 hi hz0 hz1 hz2 rfl (by decide) _ _ _ rfl hrow A x.C.length cp (qgb x.C) rfl (qit _) hsr (flatC_one _) (by unfold maxLen; omega) (by omega) hW ?_; intro v' w1 hown' hgrow _; obtain ⟨A', n', cap', rfl⟩ : ∃ A' n' cap', v' = .slice A' n' cap' := (by rcases hown'.2 with ⟨rfl, _⟩ | ⟨g_, cap_, cur_, rfl, _⟩ <;> exact ⟨_, _, _, rfl⟩); obtain ⟨hv1, hv2, hr2, hk2, hb2⟩ := appended0 hv (by decide) hrow hW (by omega) hown' hgrow; have hc1 := hv1.cell; have hf1 := hv1.frozen; have bn1 := bn.kept hgrow (bn.not_row (by decide) hrow); have bf1 := bf.kept hgrow (bf.not_row (by decide) hrow))
  have bq1 : w1.heap[w.heap.size + 1 + 1 + 2]? = some (qyO q) := by
   refine (hgrow.block _ (qeo bq) (fun e => ?_)).trans bq
   rcases hrow.2 with ⟨rfl, _⟩ | ⟨g_, cap_, cur_, rfl, _, hgb, _⟩
   ·cases e
   ·have e2 : g_ = w.heap.size + 1 + 1 + 2 := Option.some.inj (show some g_ = some (w.heap.size + 1 + 1 + 2) from e.symm)
    rw [e2, bq] at hgb
    cases hgb
  have bn2 : Boxed (w1.setCell ⟨w.heap.size + 1, 0, none⟩ (.slice A' n' cap')) (w.heap.size + 1 + 1) 30 (.pointer g) := (Below.heap_setCell w1 ⟨w.heap.size + 1, 0, none⟩ _ (w.heap.size + 1 + 1) (by simp)).trans bn1
  have bf2 : Boxed (w1.setCell ⟨w.heap.size + 1, 0, none⟩ (.slice A' n' cap')) (w.heap.size + 1 + 1 + 3) 49 (.func (.func 106) #[] #[.pointer (some ⟨w.heap.size + 1 + 1 + 2, 0, none⟩)]) := (Below.heap_setCell w1 ⟨w.heap.size + 1, 0, none⟩ _ (w.heap.size + 1 + 1 + 3) (by simp)).trans bf1
  have bq2 : (w1.setCell ⟨w.heap.size + 1, 0, none⟩ (.slice A' n' cap')).heap[w.heap.size + 1 + 1 + 2]? = some (qyO q) := (Below.heap_setCell w1 ⟨w.heap.size + 1, 0, none⟩ _ (w.heap.size + 1 + 1 + 2) (by simp)).trans bq1
  exact ⟨hk2.from _, ⟨hb2, bn2.trans bn.symm, bf2.trans bf.symm, bq2.trans bq.symm⟩, ⟨_, hv2, by rw [totS_app, List.length_append, flatC_app]; exact hr2, trivial⟩, ⟨⟨bn2, bf2⟩, bq2⟩, hB.trans hb2⟩
 case done =>
  rintro D ys W hD rfl ⟨⟨v, hv, hrow, _⟩, _, hB⟩ hK
  rw [totS_filter, ← hall] at hrow
  obtain ⟨A', cap', rfl, hcp, hcr⟩ := Kd.qhp (R_flatC rfl hrow)
  have hc' := hv.cell
  have hf' := hv.frozen
  have hof' := hof A' cap' W hcr hcp
  clear hof hse hsl hi hz0 hz1 hz2 hall hok hL hC hne k0 k2 k3 bN bF bD
  obtain ⟨R, hR⟩ : ∃ R, ofK all = R := ⟨_, rfl⟩
  rw [hR] at hof'
  have HRR := qd.mk hR
  obtain ⟨n, hn⟩ : ∃ n, all.length = n := ⟨_, rfl⟩
  rw [hn] at hof' hc'
  clear hrow hcp hcr hv hR hn
  gi_wp2_with (gi_at_call 31; refine hof'.mono ?_; rintro e W5 ⟨v5, rfl, hR5, hB5⟩)
  have hK' := (hB5.block D (Array.getElem?_eq_some_iff.1 hK).1).trans hK
  refine ⟨by simp, .inl ⟨_, _, rfl, run_takeDeferred hK', ?_⟩⟩
  have hBD := belowK_b (w := w) (Nat.le_refl _) W5 D _ (.deferred none) (by omega) hK' rfl rfl
  refine ⟨.tuple #[v5, .int .i64 R.2], ?_, v5, by rw [HRR.out], ?_, (hB.trans (hB5.mono hB.size)).trans hBD⟩
  ·simp [results, Tryd.f19, go_sem]
  ·rw [HRR.out]
   have h1 : Kd.R k112 112 W5 w.heap.size (fun _ => True) v5 R.1 := by first | exact Kd.qec hR5 hB.size | exact Kd.qec hB.size hR5
   have h2 := Kd.qdt (Kd.qkn rfl h1) (ok' := fun k => v5.ownBlock = some k) (fun k hk => hk.symm)
   refine Kd.qdt (Kd.qhj h2 (fun k hk hlt => ?_)) (fun _ _ => trivial)
   obtain ⟨cs, hcs⟩ := Kd.qea h1 k hk
   refine World.putObj_heap_other (fun e => ?_)
   subst e
   rw [hcs] at hK'
   cases hK'
 case stop =>
  rintro D c pre W _ _ h _
  exact h.elim
end
section
attribute [local go_sem] Oper.semAt_some qgn
def keV (y : S40) : Value := .agg #[.string y.f0, .string y.f1, .string y.f2, .string y.f3, .string y.f4]
def keO (y : S40) : Obj := .cells #[.string y.f0, .string y.f1, .string y.f2, .string y.f3, .string y.f4] 40 (0, 0)
def hasM (key : S40) (c : Pst) : Bool := c.C.any (fun y => qhs key y.f0)
def nosS {L : List Pst} (key : S40) (pre : List {c // c ∈ L}) : List Int := (pre.filter (fun x => hasM key x.1)).map (fun x => x.1.h.f0)
theorem nosS_len {L : List Pst} (key : S40) (pre : List {c // c ∈ L}) : (nosS key pre).length ≤ pre.length := by
 unfold nosS
 rw [List.length_map]
 exact List.length_filter_le _ _
theorem nosS_yes {L : List Pst} {key : S40} (pre : List {c // c ∈ L}) (x : {c // c ∈ L}) (h : hasM key x.1 = true) : nosS key (pre ++ [x]) = nosS key pre ++ [x.1.h.f0] := by
 unfold nosS
 rw [List.filter_append]; simp [h]
theorem nosS_no {L : List Pst} {key : S40} (pre : List {c // c ∈ L}) (x : {c // c ∈ L}) (h : hasM key x.1 = false) : nosS key (pre ++ [x]) = nosS key pre := by
 unfold nosS
 rw [List.filter_append]; simp [h]
def findK (L : List Pst) (q : Qy) (key : S40) : List Int := ((L.filter (qej q)).filter (hasM key)).map (fun c => c.h.f0)
theorem nosS_filter {L : List Pst} (q : Qy) (key : S40) : nosS key (L.attach.filter (fun x => qej q x.1)) = findK L q key := by
 have h : (L.attach.filter (fun x => qej q x.1)).map (fun x => x.1) = L.filter (qej q) := by
  have := (List.filter_map (p := qej q) (f := fun x : {c // c ∈ L} => x.1) (l := L.attach)).symm
  rw [List.attach_map_subtype_val] at this
  exact this
 unfold nosS findK
 rw [← h, List.filter_map, List.map_map]
 rfl
theorem qmh {W W' : World} (h : Below W.heap.size W W') : KeepsOthers W W' := ⟨h.size, fun k o hk _ => (h.block k (Array.getElem?_eq_some_iff.1 hk).1).trans hk⟩
theorem ne_row {W : World} {n₀ k n : Nat} {v : Value} {xs : List Value} {cs : Array Value} {t e : TypeId} {size : Nat} (hrow : W.ownsRow n₀ e size v n xs) (h : W.heap[k]? = some (.cells cs t (0, 0))) (ht : t ≠ e) : v.ownBlock ≠ some k := by
 intro he
 rcases hrow.2 with ⟨rfl, _⟩ | ⟨g_, cap_, cur_, rfl, _, hgb, _⟩
 ·cases he
 ·have e2 : g_ = k := Option.some.inj (show some g_ = some k from he)
  rw [e2, h] at hgb
  cases hgb
  exact ht rfl
theorem one_new (W : World) (z : Value) (t : TypeId) : ∀ j u, [z][j]? = some u → (W.alloc (.cells #[z] t)).cell? (Addr.add ⟨W.heap.size, 0, none⟩ j) = some u := by
 intro j u h
 have hj : j = 0 := by
  have := (List.getElem?_eq_some_iff.1 h).1
  simpa using this
 subst hj
 obtain rfl : z = u := by simpa using h
 exact (qg (qdu W (.cells #[z] t)) 0).trans rfl
theorem lfind_in (g : Option Addr) (q : Qy) (key : S40) (base : Nat) (L : List Pst) (w : World) (hL : LedO w base g L) (h1000 : L.length ≤ 1000) (hC : ∀ c ∈ L, c.C.length ≤ 1000) (hne : ∀ c ∈ L, c.C ≠ []) :
  CallsIn Fence.wide 4 Tryd.prog 24 #[.pointer g, qyV q, keV key] w fun e w' => ∃ v, e = .returned v ∧ Kd.R (Kd.int .i64) 3 w' w.heap.size (fun _ => True) v (findK L q key) ∧ Below w.heap.size w w' := by
 obtain ⟨F, hF⟩ : ∃ F, F = Fence.wide := ⟨_, rfl⟩
 rw [← hF]
 have h24 : F.fn 24 := by rw [hF]; trivial
 have h50 : F.fn 50 := by rw [hF]; trivial
 have h56 : F.fn 56 := by rw [hF]; trivial
 have h97 : F.fn 97 := by rw [hF]; trivial
 have h23 : F.fn 23 := by rw [hF]; trivial
 have h106 : F.fn 106 := by rw [hF]; trivial
 have h52 : F.fn 52 := by rw [hF]; trivial
 have hro : F.round = none := by rw [hF]; rfl
 have hmt : ∀ (n : Nat) (y : S40) (W : World), CallsIn F n Tryd.prog 52 #[.agg #[.string key.f0, .string key.f1, .string key.f2, .string key.f3, .string key.f4], .agg #[.string y.f0, .string y.f1, .string y.f2, .string y.f3, .string y.f4]] W fun e w' => e = .returned (.bool (qhs key y)) ∧ Below W.heap.size W w' := by
  intro n y W
  rw [hF]
  exact callsIn_wide.2 (qjj.calls key.f0 key.f1 key.f2 key.f3 key.f4 y.f0 y.f1 y.f2 y.f3 y.f4 (qhs key y) W rfl)
 clear hF
 have hse := qls F 3 h50 h56 hro (by omega) g q
 unfold qyV at hse ⊢
 unfold keV
 obtain ⟨i0, hi, hz0, hz1, hz2⟩ := info_parts info3
 refine callsIn_of_wp_marks Tryd.func24 rfl h24 ?_ hro
 simp only [Tryd.ntmps24, List.size_toArray, List.length_cons, List.length_nil, Nat.reduceAdd, Nat.reduceSub, Array.replicate_succ, Array.replicate_zero, List.push_toArray, List.append_toArray, List.nil_append, List.cons_append]
 gi_wp2_with (gi_at_call 50; refine (hse _).mono ?_; rintro e W4 ⟨rfl, k0, k2, k3, kB, ks⟩)
 simp only [World.size_alloc] at k0 k2 k3 kB ks
 have hsl : ∀ c ∈ L, ∃ A cp, c.v = .slice (some A) c.C.length cp ∧ A.block < w.heap.size ∧ Kd.C k112 w (some A) c.C.length c.C := by
  intro c hc
  rcases hL with ⟨_, rfl⟩ | ⟨p, m, _, hled⟩
  ·cases hc
  obtain ⟨A, cp, hv, _, hr⟩ := Kd.qhp (hled.row c hc)
  rcases flat_src hr with h | ⟨ad, rfl, h⟩
  ·exact absurd h (hne c hc)
  ·refine ⟨ad, cp, hv, ?_, hr⟩
   have h0 : 0 < (qgb c.C).length := by
    rw [qit]
    have := List.length_pos_iff.2 (hne c hc)
    omega
   have := World.block_lt_of_cell? w _ (h 0 _ (lge h0))
   rw [add_block] at this
   exact this
 have bN : Boxed W4 (w.heap.size + 1 + 1 + 1) 30 (.pointer g) := k0
 have bF : Boxed W4 (w.heap.size + 1 + 1 + 1 + 3) 49 (.func (.func 106) #[] #[.pointer (some ⟨w.heap.size + 1 + 1 + 1 + 2, 0, none⟩)]) := k3
 have bD : Boxed W4 (w.heap.size + 1 + 1) 43 (.slice none 0 0) := (kB.block (w.heap.size + 1 + 1) (by omega)).trans (by have := qdu ((w.alloc (qyO q)).alloc (keO key)) (.cells #[.slice none 0 0] 43); rw [World.size_alloc, World.size_alloc] at this; exact this)
 have bP : W4.heap[w.heap.size + 1]? = some (keO key) := (kB.block (w.heap.size + 1) (by omega)).trans (by have := qdu (w.alloc (qyO q)) (keO key); rw [World.size_alloc] at this; exact qm this _)
 have hB0 : Below w.heap.size w W4 := (((((Below.refl _ w).alloc (Nat.le_refl _) _).alloc (by simp) _)).alloc (by simp; omega) _).trans (kB.mono (by omega))
 refine wpIn_rangeFunc_ownH (α := {c // c ∈ L}) hro (by omega) (gf := 97) (lb := #[.pointer (some ⟨w.heap.size + 1 + 1 + 1, 0, none⟩), .pointer (some ⟨w.heap.size + 1 + 1 + 1 + 3, 0, none⟩)]) rfl h97 (enters_of Tryd.func97 (by kernel_rfl) rfl)
  (sel_stops F 3 h97 h23 h106 hro (by omega) (w.heap.size + 1 + 1 + 1) (w.heap.size + 1 + 1 + 1 + 3) (w.heap.size + 1 + 1 + 1 + 2) base q g (fun x : {c // c ∈ L} => x.1) L.attach L (List.attach_map_subtype_val L) (by omega) w hL W4 hB0 bN bF k2)
  qko.t (fun W b o o' hb h hcl hwk => ⟨belowK_b (w := W4) (by omega) W b o o' hb h hcl hwk, World.putObj_heap_other (by omega), World.putObj_heap_other (by omega), World.putObj_heap_other (by omega)⟩)
  (Below.refl _ _) (fun _ => rfl)
  (fun pre W => (∃ v, Boxed W (w.heap.size + 1 + 1) 43 v ∧ W.ownsRow w.heap.size 3 1 v (nosS key pre).length (nums .i64 (nosS key pre)) ∧ True) ∧ ((((Boxed W (w.heap.size + 1 + 1 + 1) 30 (.pointer g) ∧ Boxed W (w.heap.size + 1 + 1 + 1 + 3) 49 (.func (.func 106) #[] #[.pointer (some ⟨w.heap.size + 1 + 1 + 1 + 2, 0, none⟩)])) ∧ W.heap[w.heap.size + 1 + 1 + 1 + 2]? = some (qyO q)) ∧ W.heap[w.heap.size + 1]? = some (keO key)) ∧ Below w.heap.size w W))
  (fun _ _ _ => False)
  (OwnFrom.and (Own.from (holdsRow_own w.heap.size (w.heap.size + 1 + 1) 43 3 1 (fun pre : List {c // c ∈ L} => (nosS key pre).length) (fun pre => nums .i64 (nosS key pre)) (fun _ _ => True)) _) (OwnFrom.and (OwnFrom.and (OwnFrom.and (OwnFrom.and (Own.from (boxed_own _ _ (fun _ => .pointer g)) _) (Own.from (boxed_own _ _ (fun _ => (.func (.func 106) #[] #[.pointer (some ⟨w.heap.size + 1 + 1 + 1 + 2, 0, none⟩)]))) _)) (qjl _ _ _ _)) (qjl _ _ _ _)) (ownFrom_below (Nat.le_refl _) (by omega))))
  (fun _ _ _ _ _ hs _ _ => hs)
  ⟨⟨_, bD, World.ownsRow_nil _ _ _ _, trivial⟩, ⟨⟨⟨bN, bF⟩, k2⟩, bP⟩, hB0⟩
  (fun x => AxS (fun B ts => ∃ u, ts = #[.pointer g, .agg #[.string q.e, .int .i64 q.a, .int .i64 q.z, .int .i64 q.b], .agg #[.string key.f0, .string key.f1, .string key.f2, .string key.f3, .string key.f4], undef, .pointer (some ⟨w.heap.size, 0, none⟩), .pointer (some ⟨w.heap.size + 1, 0, none⟩), .pointer (some ⟨w.heap.size + 1 + 1, 0, none⟩), .pointer (some ⟨B, 0, none⟩), undef, undef, .pointer g, .agg #[.string q.e, .int .i64 q.a, .int .i64 q.z, .int .i64 q.b], .func (.func 97) #[] #[.pointer (some ⟨w.heap.size + 1 + 1 + 1, 0, none⟩), .pointer (some ⟨w.heap.size + 1 + 1 + 1 + 3, 0, none⟩)], u, undef, undef, undef, undef, undef, undef, undef, undef, undef, undef, undef, undef, undef, undef, undef, undef, undef, undef, undef]) x.1)
  (fun x a' => qmd _ _ x.1 a') ?assign ?body ?done ?stop
 case assign =>
  rintro b pre ⟨x, hx⟩ W K ⟨⟨v, hv, hrow, _⟩, ⟨⟨⟨bn, bf⟩, bq⟩, bp⟩, hB⟩ hK
  obtain ⟨A, cp, hxv, _, _⟩ := hsl x hx
  simp only [pstV, hxv]
  gi_wp2
  have hpo : pstO x = .cells #[.int .i64 x.h.f0, .string x.h.f1, .int .i64 x.h.f2, .int .i64 x.h.f3, .int .i64 x.h.f4, .string x.h.f5, .string x.h.f6, .int .i64 x.h.f7, .slice none 0 0, .slice (some A) x.C.length cp] 118 (0, 0) := by unfold pstO; rw [hxv]
  have hg := World.grownBy_alloc W (pstO x) none
  rw [hpo] at hg
  have hlq : w.heap.size + 1 + 1 + 1 + 2 < W.heap.size := qeo bq
  exact hK _ _ ((KeepsOthers.alloc W _).from _) ⟨(Below.refl _ W).alloc hB.size _, hg.block _ bn.lt (by simp), hg.block _ bf.lt (by simp), hg.block _ hlq (by simp)⟩
   ⟨⟨v, hv.alloc _, hrow.alloc _, trivial⟩, ⟨⟨⟨bn.alloc _, bf.alloc _⟩, qm bq _⟩, qm bp _⟩, hB.alloc hB.size _⟩ ⟨W.heap.size, ⟨_, rfl⟩, rfl, by rw [hpo]; exact World.alloc_heap_new W _⟩
 case body =>
  rintro b pre ⟨x, hx⟩ ⟨tm, df⟩ W hb _ ⟨⟨v, hv, hrow, _⟩, ⟨⟨⟨bn, bf⟩, bq⟩, bp⟩, hB⟩ ⟨B, ⟨u, hts⟩, hdf, hbx⟩ hlt
  obtain rfl : tm = _ := hts
  obtain rfl : df = [] := hdf
  obtain ⟨A, cp, hxv, hAb, hsrc⟩ := hsl x hx
  have hpo : pstO x = .cells #[.int .i64 x.h.f0, .string x.h.f1, .int .i64 x.h.f2, .int .i64 x.h.f3, .int .i64 x.h.f4, .string x.h.f5, .string x.h.f6, .int .i64 x.h.f7, .slice none 0 0, .slice (some A) x.C.length cp] 118 (0, 0) := by unfold pstO; rw [hxv]
  rw [hpo] at hbx
  have c9 : W.cell? ⟨B, 9, none⟩ = some (.slice (some A) x.C.length cp) := (qg hbx 9).trans rfl
  have hxl := hC x hx
  gi_wp2
  gi_loopw [17] (fun i wr => ∃ k : Nat, k ≤ x.C.length ∧ i = .int .i64 (k : Int) ∧ qd (∀ j : Nat, j < k → qhs key (qx x.C (j : Int)).f0 = false) ∧ qd (Below W.heap.size W wr))
   (fun i _ => x.C.length - (intOf i).toNat)
  case atStart => exact ⟨0, Nat.zero_le _, rfl, ⟨fun j hj => absurd hj (Nat.not_lt_zero j)⟩, ⟨Below.refl _ _⟩⟩
  obtain ⟨k, hk, rfl, hno, hW⟩ := hrel
  rename World => wr
  by_cases hlt2 : k < x.C.length
  rotate_left
  ·obtain rfl : k = x.C.length := by omega
   have d1 : decide ((x.C.length : Int) < (x.C.length : Int)) = false := decide_eq_false (by omega)
   have hnom : hasM key x = false := by
    unfold hasM
    rw [List.any_eq_false]
    intro y hy
    obtain ⟨j, hj, rfl⟩ := List.mem_iff_getElem.1 hy
    have : qx x.C (j : Int) = x.C[j] := by simp [qx, hj]
    rw [← this, hno.out j hj]
    decide
   gi_wp2
   have hWb := hW.out
   exact ⟨(qmh hWb).from _, ⟨hWb.mono hB.size, (qcj bn hWb).trans bn.symm, (qcj bf hWb).trans bf.symm, (qcj bq hWb).trans bq.symm⟩, ⟨_, qcj hv hWb, by rw [nosS_no pre ⟨x, hx⟩ hnom]; exact qfx hrow hWb, trivial⟩, ⟨⟨⟨qcj bn hWb, qcj bf hWb⟩, qcj bq hWb⟩, qcj bp hWb⟩, hB.trans (hWb.mono hB.size)⟩
  have d1 : decide ((k : Int) < (x.C.length : Int)) = true := decide_eq_true (by omega)
  have d2 : decide (k < x.C.length) = true := decide_eq_true hlt2
  have p0 : (0 : Int) ≤ (k : Int) := by omega
  have p1 : (k : Int) < (x.C.length : Int) := by omega
  obtain ⟨ad, e, q0, q1, q2, q3, q4, q5, q6⟩ := qep (Kd.qbw (Kd.qbw hsrc hB) hW.out) (k : Int) p0 p1
  cases e
  rw [Int.toNat_natCast] at q0 q1 q2 q3 q4 q5 q6
  obtain ⟨y, hy⟩ : ∃ y, qx x.C (k : Int) = y := ⟨_, rfl⟩
  rw [hy] at q0 q1 q2 q3 q4 q5 q6
  have HY := qd.mk hy
  clear hy
  obtain ⟨Wa, hWa⟩ : ∃ Wa, wr.alloc (.cells #[.string y.f0.f0, .string y.f0.f1, .string y.f0.f2, .string y.f0.f3, .string y.f0.f4, .int .i64 y.f1, .int .i64 y.f2] 112) = Wa := ⟨_, rfl⟩
  have hBa : Below W.heap.size W Wa := by rw [← hWa]; exact qbk hW.out _
  have hBy : Wa.heap[wr.heap.size]? = some (.cells #[.string y.f0.f0, .string y.f0.f1, .string y.f0.f2, .string y.f0.f3, .string y.f0.f4, .int .i64 y.f1, .int .i64 y.f2] 112 (0, 0)) := by rw [← hWa]; exact qdu wr _
  have y0 : Wa.cell? ⟨wr.heap.size, 0, none⟩ = some (.string y.f0.f0) := (qg hBy 0).trans rfl
  have y1 : Wa.cell? ⟨wr.heap.size, 1, none⟩ = some (.string y.f0.f1) := (qg hBy 1).trans rfl
  have y2 : Wa.cell? ⟨wr.heap.size, 2, none⟩ = some (.string y.f0.f2) := (qg hBy 2).trans rfl
  have y3 : Wa.cell? ⟨wr.heap.size, 3, none⟩ = some (.string y.f0.f3) := (qg hBy 3).trans rfl
  have y4 : Wa.cell? ⟨wr.heap.size, 4, none⟩ = some (.string y.f0.f4) := (qg hBy 4).trans rfl
  have hBp := qcj bp hBa
  have t0 : Wa.cell? ⟨w.heap.size + 1, 0, none⟩ = some (.string key.f0) := (qg hBp 0).trans rfl
  have t1 : Wa.cell? ⟨w.heap.size + 1, 1, none⟩ = some (.string key.f1) := (qg hBp 1).trans rfl
  have t2 : Wa.cell? ⟨w.heap.size + 1, 2, none⟩ = some (.string key.f2) := (qg hBp 2).trans rfl
  have t3 : Wa.cell? ⟨w.heap.size + 1, 3, none⟩ = some (.string key.f3) := (qg hBp 3).trans rfl
  have t4 : Wa.cell? ⟨w.heap.size + 1, 4, none⟩ = some (.string key.f4) := (qg hBp 4).trans rfl
  have HBA := qd.mk hBa
  clear hBy hBp hBa
  cases hm : qhs key y.f0
  ·have hmy := hmt (4 - 1 - 1 - 1) y.f0 Wa
   rw [hm] at hmy
   have HM := qd.mk hm
   clear hm
   gi_wp2_with (gi_at_call 52; refine ((hmt _ y.f0 Wa).inRound b).mono ?_; rw [HM.out]; rintro e w2 ⟨rfl, hb2⟩; have HB2 := qd.mk (qcn HBA.out HBA.out.size hb2); clear hb2)
   go_roundw
   case rel => exact ⟨k + 1, by omega, by simp, ⟨fun j hj => by
    by_cases e : j = k
    ·rw [e, HY.out]; exact HM.out
    exact hno.out j (by omega)⟩, HB2⟩
   case measure => simp [intOf]; omega
  ·have HM := qd.mk hm
   clear hm
   gi_wp2_with (first | (gi_at_call 52; refine ((hmt _ y.f0 Wa).inRound b).mono ?_; rw [HM.out]; rintro e w2 ⟨rfl, hb2⟩; have HB2 := qd.mk (qcn HBA.out HBA.out.size hb2); have hx2 := qcj hbx HB2.out; have z0 : w2.cell? ⟨B, 0, none⟩ = some (.int .i64 x.h.f0) := (qg hx2 0).trans rfl; have hv2 : Boxed w2 (w.heap.size + 1 + 1) 43 v := qcj hv HB2.out; have hvc := hv2.cell; have hr2 := (qfx hrow HB2.out).alloc (.cells #[.int .i64 x.h.f0] 3); have hW2 : w.heap.size ≤ (w2.alloc (.cells #[.int .i64 x.h.f0] 3)).heap.size := Nat.le_trans hB.size (Nat.le_trans HB2.out.size (by simp)); have HR2 := qd.mk hr2; have HW2 := qd.mk hW2; have HV2 := qd.mk (hv2.alloc (.cells #[.int .i64 x.h.f0] 3)); clear hx2 hb2 hr2 hW2 hv2) | (gi_at_builtin; refine wpListIn_append_own _ rfl _ _ 43 rfl w.heap.size 3 i0 (.int .i64 0) 1 8 Tryd.underlying43 hi hz0 hz1 hz2 rfl (by decide) _ _ _ rfl HR2.out ⟨w2.heap.size, 0, none⟩ 1 1 [.int .i64 x.h.f0] rfl rfl (one_new w2 _ 3) (by simp [Value.oneCell']) (by have := nosS_len key pre; unfold maxLen; omega) (by have := nosS_len key pre; omega) HW2.out ?_; intro v' w1 hown' hgrow _; obtain ⟨A', n', cap', rfl⟩ : ∃ A' n' cap', v' = .slice A' n' cap' := (by rcases hown'.2 with ⟨rfl, _⟩ | ⟨g_, cap_, cur_, rfl, _⟩ <;> exact ⟨_, _, _, rfl⟩); obtain ⟨hv1, hv3, hr3, hk3, hb3⟩ := appended0 HV2.out (by decide) HR2.out HW2.out (by omega) hown' hgrow; have hc1 := hv1.cell; have hf1 := hv1.frozen; have HG := qd.mk hgrow; have HV3 := qd.mk hv3; have HR3 := qd.mk hr3; have HK3 := qd.mk hk3; have HB3 := qd.mk hb3; clear hgrow hv3 hr3 hk3 hb3 hown'))
   have hbA : Below W.heap.size W (w2.alloc (.cells #[.int .i64 x.h.f0] 3)) := qbk HB2.out _
   have kp : ∀ (k : Nat) (o : Obj) (cs : Array Value) (t : TypeId), o = .cells cs t (0, 0) → t ≠ 3 → k ≠ w.heap.size + 1 + 1 → W.heap[k]? = some o → (w1.setCell ⟨w.heap.size + 1 + 1, 0, none⟩ (.slice A' n' cap')).heap[k]? = some o := by
    intro k o cs t ho ht hk h
    have h1 := qcj h hbA
    have h1' := h1
    rw [ho] at h1'
    have h2 := (HG.out.block k (qeo h1) (fun e => ne_row HR2.out h1' ht e.symm)).trans h1
    exact (Below.heap_setCell w1 ⟨w.heap.size + 1 + 1, 0, none⟩ _ k hk).trans h2
   have bn3 := kp _ _ _ _ rfl (by decide) (by omega) bn
   have bf3 := kp _ _ _ _ rfl (by decide) (by omega) bf
   have bq3 := kp _ _ _ _ (show qyO q = _ from rfl) (by decide) (by omega) bq
   have bp3 := kp _ _ _ _ (show keO key = _ from rfl) (by decide) (by omega) bp
   have hfin : Below w.heap.size W (w1.setCell ⟨w.heap.size + 1 + 1, 0, none⟩ (.slice A' n' cap')) := (hbA.mono hB.size).trans HB3.out
   have hyes : hasM key x = true := by
    unfold hasM
    rw [List.any_eq_true]
    refine ⟨x.C[k], List.getElem_mem _, ?_⟩
    have : qx x.C (k : Int) = x.C[k] := by simp [qx, hlt2]
    rw [← this, HY.out]
    exact HM.out
   exact ⟨((qmh hbA).trans HK3.out).from _, ⟨hfin, bn3.trans bn.symm, bf3.trans bf.symm, bq3.trans bq.symm⟩, ⟨_, HV3.out, by rw [nosS_yes pre ⟨x, hx⟩ hyes, List.length_append]; unfold nums; rw [List.map_append]; exact HR3.out, trivial⟩, ⟨⟨⟨bn3, bf3⟩, bq3⟩, bp3⟩, hB.trans hfin⟩
 case done =>
  rintro D ys W hD rfl ⟨⟨v, hv, hrow, _⟩, _, hB⟩ hK
  rw [nosS_filter] at hrow
  have hc' := hv.cell
  have hf' := hv.frozen
  obtain ⟨A', n', cap', rfl⟩ : ∃ A' n' cap', v = .slice A' n' cap' := by
   rcases hrow.2 with ⟨rfl, _⟩ | ⟨g, cap, cur, rfl, _⟩ <;> exact ⟨_, _, _, rfl⟩
  clear hmt hse hsl hi hz0 hz1 hz2 hL hC hne k0 k2 k3 bN bF bD bP
  gi_wp2
  have hK' := (KeepsOthers.setCell W ⟨w.heap.size + 1 + 1, 0, none⟩ (.slice A' n' cap')).same D _ hK rfl
  refine ⟨by simp, .inl ⟨_, _, rfl, run_takeDeferred hK', ?_⟩⟩
  have hc5 := cell_kept (World.cell?_setCell_same' W ⟨w.heap.size + 1 + 1, 0, none⟩ (.slice A' n' cap') (by rw [hc']; rfl)) (grownBy_putObj' _ D (.deferred none)) (fun r e => by cases e; exact ⟨_, hK', rfl⟩)
  have h5 := hrow.kept (grownBy_setCell' W (w.heap.size + 1 + 1) (.slice A' n' cap')) (.inr (hv.not_row (by decide) hrow).symm)
  have h6 := ownsRow_putObj h5 (.deferred none) hK' rfl
  refine ⟨.slice A' n' cap', ?_, .slice A' n' cap', rfl, Kd.qlj h6 (fun _ _ => trivial), (hB.setCell (p := ⟨w.heap.size + 1 + 1, 0, none⟩) (by simp; omega) _).trans (belowK_b (w := w) (Nat.le_refl _) _ D _ _ (by omega) hK' rfl rfl)⟩
  simp [results, Tryd.f24, go_sem, hc5]
 case stop =>
  rintro D c pre W _ _ h _
  exact h.elim
end
end
section
open Go.Sort
def psA (P : S40 → Bool) (l : List S112) : Int := (amts (l.filter (fun c => P c.f0))).sum
def psB (P : S40 → Bool) (l : List S112) : Int := (bass (l.filter (fun c => P c.f0))).sum
theorem psA_cons (P : S40 → Bool) (c : S112) (r : List S112) : psA P (c :: r) = (if P c.f0 = true then c.f1 else 0) + psA P r := by
 unfold psA
 by_cases h : P c.f0 = true
 ·rw [List.filter_cons_of_pos (by exact h), if_pos h]; rfl
 ·rw [List.filter_cons_of_neg (by exact h), if_neg h, Int.zero_add]
theorem psB_cons (P : S40 → Bool) (c : S112) (r : List S112) : psB P (c :: r) = (if P c.f0 = true then c.f2 else 0) + psB P r := by
 unfold psB
 by_cases h : P c.f0 = true
 ·rw [List.filter_cons_of_pos (by exact h), if_pos h]; rfl
 ·rw [List.filter_cons_of_neg (by exact h), if_neg h, Int.zero_add]
def isK (k : S40) (x : S40) : Bool := decide (cmpK k x = 0)
theorem isK_iff {k x : S40} : isK k x = true ↔ k = x := by
 unfold isK
 rw [decide_eq_true_iff]
 exact ⟨qiv, fun h => by rw [h]; exact qhx x⟩
theorem sumA_ps (l : List S112) (k : S40) : sumA l k = psA (isK k) l := rfl
theorem sumB_ps (l : List S112) (k : S40) : sumB l k = psB (isK k) l := rfl
theorem psA_zero {P : S40 → Bool} : ∀ {l : List S112}, (∀ c ∈ l, P c.f0 = false) → psA P l = 0
 | [], _ => rfl
 | c :: r, h => by rw [psA_cons, if_neg (by rw [h c (by simp)]; decide), psA_zero (fun x hx => h x (by simp [hx]))]; rfl
theorem psB_zero {P : S40 → Bool} : ∀ {l : List S112}, (∀ c ∈ l, P c.f0 = false) → psB P l = 0
 | [], _ => rfl
 | c :: r, h => by rw [psB_cons, if_neg (by rw [h c (by simp)]; decide), psB_zero (fun x hx => h x (by simp [hx]))]; rfl
theorem sumA_none {l : List S112} {k : S40} (h : k ∉ qff l) : sumA l k = 0 := by
 rw [sumA_ps]
 refine psA_zero (fun c hc => ?_)
 rw [Bool.eq_false_iff]
 intro e
 exact h ((qga k l).2 ⟨c, hc, (isK_iff.1 e).symm⟩)
theorem sumB_none {l : List S112} {k : S40} (h : k ∉ qff l) : sumB l k = 0 := by
 rw [sumB_ps]
 refine psB_zero (fun c hc => ?_)
 rw [Bool.eq_false_iff]
 intro e
 exact h ((qga k l).2 ⟨c, hc, (isK_iff.1 e).symm⟩)
def cellOf (l : List S112) (k : S40) : S112 := ⟨k, sumA l k, sumB l k⟩
def nzC (c : S112) : Bool := decide (c.f1 ≠ 0 ∨ c.f2 ≠ 0)
def fitK (l : List S112) (k : S40) : Bool := fitB (sumA l k) && fitB (sumB l k)
theorem cells_1 (l : List S112) : ∀ (ks : List S40) (out : List S112), (qgd l ks out).1 = ks.all (fitK l)
 | [], out => rfl
 | k :: t, out => by
  unfold qgd
  rw [List.all_cons]
  rw [show (fitB (sumA l k) && fitB (sumB l k)) = fitK l k from rfl]
  cases h : fitK l k with
  | true => rw [if_pos rfl, Bool.true_and]; exact cells_1 l t _
  | false => rw [if_neg (by decide), Bool.false_and]
theorem cells_2 (l : List S112) : ∀ (ks : List S40) (out : List S112), ks.all (fitK l) = true → (qgd l ks out).2 = out ++ (ks.map (cellOf l)).filter nzC
 | [], out, _ => by simp [qgd]
 | k :: t, out, h => by
  rw [List.all_cons, Bool.and_eq_true] at h
  unfold qgd
  have h1 : (fitB (sumA l k) && fitB (sumB l k)) = true := h.1
  rw [if_pos h1, cells_2 l t _ h.2, List.map_cons]
  by_cases c : sumA l k ≠ 0 ∨ sumB l k ≠ 0
  ·rw [if_pos c, List.filter_cons_of_pos (by exact decide_eq_true c), List.append_assoc]
   rfl
  ·rw [if_neg c, List.filter_cons_of_neg (by unfold nzC; rw [decide_eq_true_iff]; exact c)]
theorem ofK_eq (l : List S112) : ofK l = if (qff l).all (fitK l) = true then (((qff l).map (cellOf l)).filter nzC, 0) else ([], 4) := by
 unfold ofK
 rw [cells_1]
 by_cases h : (qff l).all (fitK l) = true
 ·rw [if_pos h, if_pos h, cells_2 l _ _ h, List.nil_append]
 ·rw [if_neg h, if_neg h]
theorem fit_all (l : List S112) : (qff l).all (fitK l) = true ↔ ∀ k, fitK l k = true := by
 rw [List.all_eq_true]
 constructor
 ·intro h k
  by_cases hk : k ∈ qff l
  ·exact h k hk
  ·unfold fitK
   rw [sumA_none hk, sumB_none hk]
   decide
 ·exact fun h k _ => h k
theorem ofK_code (l : List S112) : (ofK l).2 = 0 ∨ ofK l = ([], 4) := by
 rw [ofK_eq]
 by_cases h : (qff l).all (fitK l) = true
 ·rw [if_pos h]; exact .inl rfl
 ·rw [if_neg h]; exact .inr rfl
theorem ofK_fit {l : List S112} (h : (ofK l).2 = 0) : ∀ k, fitK l k = true := by
 rw [ofK_eq] at h
 by_cases hf : (qff l).all (fitK l) = true
 ·exact (fit_all l).1 hf
 ·rw [if_neg hf] at h; cases h
theorem ofK_ok {l : List S112} (h : ∀ k, fitK l k = true) : ofK l = (((qff l).map (cellOf l)).filter nzC, 0) := by
 rw [ofK_eq, if_pos ((fit_all l).2 h)]
theorem insK_len (k : S40) : ∀ (ks : List S40), (insK k ks).length ≤ ks.length + 1
 | [] => Nat.le_refl _
 | a :: b => by
  have ih := insK_len k b
  unfold insK
  by_cases h1 : cmpK k a < 0
  ·rw [if_pos h1]; simp
  ·rw [if_neg h1]
   by_cases h2 : cmpK k a = 0
   ·rw [if_pos h2]; simp
   ·rw [if_neg h2]; simp only [List.length_cons]; omega
theorem keysK_le : ∀ (l : List S112), (qff l).length ≤ l.length
 | [] => Nat.le_refl _
 | c :: r => by
  have := insK_len c.f0 (qff r)
  have := keysK_le r
  unfold qff
  simp only [List.length_cons]
  omega
theorem ofK_le (l : List S112) : (ofK l).1.length ≤ l.length := by
 rcases ofK_code l with h | h
 ·rw [ofK_ok (ofK_fit h)]
  refine Nat.le_trans (List.length_filter_le _ _) ?_
  rw [List.length_map]
  exact keysK_le l
 ·rw [h]; exact Nat.zero_le _
theorem ofK_len {l : List S112} (h : OkS l) : (ofK l).1.length ≤ 1000000 := Nat.le_trans (ofK_le l) h.1
end
section
open Go.Sort Go.Maps Go.ChangeShapes Go.WideShapes Go.WideMaps Go.Shelf
def qkp (E : List S29) : Prop := ∀ x ∈ E, (chkE x).2 = 0
theorem qkp.nil : qkp [] := fun x hx => by cases hx
theorem qkp.post {E : List S29} (h : qkp E) (x : S29) : qkp (qjk E x) := by
 unfold qjk
 by_cases hc : postC E x = 0
 rotate_left
 ·rw [if_neg hc]
  exact h
 rw [if_pos hc]
 intro y hy
 rcases List.mem_append.1 hy with hy | hy
 ·exact h y hy
 ·rw [List.mem_singleton] at hy
  subst hy
  unfold postC at hc
  by_cases h0 : (chkE y).2 = 0
  ·exact h0
  rw [if_pos h0] at hc
  exact hc
def selC (E : List S29) (q : Qy) : List S112 := ((E.filter (selB q)).map rawL).flatten
def qjw (E : List S29) (q : Qy) : List S112 × Int := ofK (selC E q)
def findE (E : List S29) (q : Qy) (key : S40) : List Int := ((E.filter (selB q)).filter (fun x => (rawL x).any (fun y => qhs key y.f0))).map S29.f0
theorem raw_len (x : S29) : (rawL x).length = x.f8.length := by unfold rawL; rw [List.length_map]
theorem qif {x : S29} (h : (chkE x).2 = 0) : rawL x ≠ [] ∧ (rawL x).length ≤ 100 ∧ ∀ c ∈ rawL x, qdl c.f1 ∧ qdl c.f2 := by
 obtain ⟨h1, h2, _⟩ := qho h
 have hl := qie h1
 have hr := raw_len x
 refine ⟨fun e => ?_, by omega, fun c hc => ?_⟩
 ·rw [e] at hr
  simp at hr
  omega
 ·unfold rawL at hc
  obtain ⟨y, hy, rfl⟩ := List.mem_map.1 hc
  have := line_bnd (h2 y hy)
  unfold qdl
  show (_ ∧ y.f2 ≤ _) ∧ _ ∧ y.f3 ≤ _
  constructor <;> constructor <;> (try show _ ≤ y.f2) <;> (try show _ ≤ y.f3) <;> omega
theorem flat_len {α β : Type} (f : α → List β) (n : Nat) : ∀ (l : List α), (∀ x ∈ l, (f x).length ≤ n) → ((l.map f).flatten).length ≤ l.length * n
 | [], _ => by simp
 | x :: r, h => by
  have h1 := h x (by simp)
  have h2 := flat_len f n r (fun y hy => h y (by simp [hy]))
  simp only [List.map_cons, List.flatten_cons, List.length_append, List.length_cons, Nat.succ_mul]
  omega
theorem qmf {E : List S29} (hg : qkp E) (hl : E.length ≤ 1000) (q : Qy) : OkS (selC E q) := by
 have hf : (E.filter (selB q)).length ≤ E.length := List.length_filter_le _ _
 refine ⟨?_, fun c hc => ?_⟩
 ·have := flat_len rawL 100 (E.filter (selB q)) (fun x hx => (qif (hg x (List.mem_filter.1 hx).1)).2.1)
  unfold selC
  omega
 ·unfold selC at hc
  obtain ⟨l, hl2, hc⟩ := List.mem_flatten.1 hc
  obtain ⟨x, hx, rfl⟩ := List.mem_map.1 hl2
  exact (qif (hg x (List.mem_filter.1 hx).1)).2.2 c hc
theorem qni {L : List Pst} (h : ∀ c ∈ L, c.C = rawL c.h) (q : Qy) : ((L.filter (qej q)).map Pst.C).flatten = selC (L.map Pst.h) q := by
 unfold selC
 rw [List.filter_map, List.map_map]
 congr 1
 refine List.map_congr_left (fun c hc => ?_)
 exact h c (List.mem_filter.1 hc).1
theorem find_bridge {L : List Pst} (h : ∀ c ∈ L, c.C = rawL c.h) (q : Qy) (key : S40) : findK L q key = findE (L.map Pst.h) q key := by
 unfold findK findE
 rw [List.filter_map, List.filter_map, List.map_map]
 have : List.filter (hasM key) (L.filter (qej q)) = List.filter ((fun x => (rawL x).any (fun y => qhs key y.f0)) ∘ Pst.h) (L.filter (selB q ∘ Pst.h)) := by
  refine List.filter_congr (fun c hc => ?_)
  unfold hasM
  rw [h c (List.mem_filter.1 hc).1]
  rfl
 rw [this]
 rfl
structure qgu (w0 w : World) (p m : Nat) (E : List S29) : Prop where
 led : LedE w w0.heap.size p m E
 bel : Below w0.heap.size w0 w
theorem qgu.below {w0 w w' : World} {p m : Nat} {E : List S29} (h : qgu w0 w p m E) (hb : Below w.heap.size w w') : qgu w0 w' p m E := ⟨h.led.below hb, qcn h.bel h.bel.size hb⟩
theorem qgu.made (w : World) : Calls Tryd.prog 22 #[] w fun e w' => ∃ p m, e = .returned (.pointer (some ⟨p, 0, none⟩)) ∧ qgu w w' p m [] := by
 refine (lnew_calls w).mono ?_
 rintro e w' ⟨p, m, rfl, h1, h2⟩
 exact ⟨p, m, rfl, ⟨[], h1, rfl, fun c hc => by cases hc⟩, h2⟩
theorem qgu.tab {w0 w : World} {p m : Nat} {E : List S29} (h : qgu w0 w p m E) (hT : Tab w0) : Tab w := hT.below h.bel
theorem qgu.post {w0 w : World} {p m : Nat} {E : List S29} (h : qgu w0 w p m E) (hT : Tab w0) (x : S29) (A : Option Addr) (c : Nat) (hC : Kd.C k109 w A x.f8.length x.f8) (hc : x.f8.length ≤ c) (hf : FitE x) (hlen : E.length ≤ 100000) :
  Calls Tryd.prog 20 #[.pointer (some ⟨p, 0, none⟩), enV x A c] w fun e w' => e = .returned (.int .i64 (postC E x)) ∧ qgu w0 w' p m (qjk E x) ∧ But (fun k => k = m) w w' := by
 refine (post_calls x A c w h.led hC hc (h.tab hT) hf hlen).mono ?_
 rintro e w' ⟨he, h1, h2⟩
 exact ⟨he, ⟨h1, But.below h.bel h2 h.bel.size (fun k hk => by have := h.led.lowm; omega)⟩, h2⟩
theorem qgu.sheet {w0 w : World} {p m : Nat} {E : List S29} (h : qgu w0 w p m E) (hg : qkp E) (hl : E.length ≤ 1000) (q : Qy) :
  Calls Tryd.prog 19 #[.pointer (some ⟨p, 0, none⟩), qyV q] w fun e w' => ∃ v, e = .returned (.tuple #[v, .int .i64 (qjw E q).2]) ∧ Kd.R k112 112 w' w.heap.size (fun _ => True) v (qjw E q).1 ∧ Below w.heap.size w w' ∧ qgu w0 w' p m E := by
 obtain ⟨L, hL, rfl, hC⟩ := h.led
 have hgd : ∀ c ∈ L, (chkE c.h).2 = 0 := fun c hc => hg c.h (List.mem_map.2 ⟨c, hc, rfl⟩)
 rw [List.length_map] at hl
 refine (callsIn_wide.1 (lsheet_in (some ⟨p, 0, none⟩) q _ L w (.inr ⟨p, m, rfl, hL⟩) hl (fun c hc => by rw [hC c hc]; have := (qif (hgd c hc)).2.1; omega) (fun c hc => by rw [hC c hc]; exact (qif (hgd c hc)).1) _ rfl (by rw [qni hC]; exact qmf hg (by rw [List.length_map]; exact hl) q))).mono ?_
 rw [qni hC]
 rintro e w' ⟨v, he, hr, hb⟩
 exact ⟨v, he, hr, hb, h.below hb⟩
theorem qgu.find {w0 w : World} {p m : Nat} {E : List S29} (h : qgu w0 w p m E) (hg : qkp E) (hl : E.length ≤ 1000) (q : Qy) (key : S40) :
  Calls Tryd.prog 24 #[.pointer (some ⟨p, 0, none⟩), qyV q, keV key] w fun e w' => ∃ v, e = .returned v ∧ Kd.R (Kd.int .i64) 3 w' w.heap.size (fun _ => True) v (findE E q key) ∧ Below w.heap.size w w' ∧ qgu w0 w' p m E := by
 obtain ⟨L, hL, rfl, hC⟩ := h.led
 have hgd : ∀ c ∈ L, (chkE c.h).2 = 0 := fun c hc => hg c.h (List.mem_map.2 ⟨c, hc, rfl⟩)
 rw [List.length_map] at hl
 refine (callsIn_wide.1 (lfind_in (some ⟨p, 0, none⟩) q key _ L w (.inr ⟨p, m, rfl, hL⟩) hl (fun c hc => by rw [hC c hc]; have := (qif (hgd c hc)).2.1; omega) (fun c hc => by rw [hC c hc]; exact (qif (hgd c hc)).1))).mono ?_
 rw [find_bridge hC]
 rintro e w' ⟨v, he, hr, hb⟩
 exact ⟨v, he, hr, hb, h.below hb⟩
theorem qgu.len {w0 w : World} {p m : Nat} {E : List S29} (h : qgu w0 w p m E) : Calls Tryd.prog 23 #[.pointer (some ⟨p, 0, none⟩)] w fun e w' => e = .returned (.int .i64 E.length) ∧ Below w.heap.size w w' := by
 obtain ⟨L, hL, rfl, hC⟩ := h.led
 rw [List.length_map]
 exact llen_calls hL
end
section
attribute [local go_sem] qfp qfn qgk qgj qex qew qfo qfm
def qek.f (a0 : Int) (a1 : Int) (a2 : Int) (a3 : ByteArray) (a4 : Int) : Option (Int × ByteArray × Int × Int × Int × ByteArray × ByteArray × Int × (List (S109))) := some (a0, (⟨#[97]⟩ : ByteArray), a1, a2, 1, (⟨#[]⟩ : ByteArray), (⟨#[117]⟩ : ByteArray), 0, (([(⟨a3, (⟨#[69, 85, 82]⟩ : ByteArray), a4, a4, (⟨#[]⟩ : ByteArray), (⟨#[]⟩ : ByteArray), ([] : List (S213))⟩ : S109), (⟨(⟨#[52, 48]⟩ : ByteArray), (⟨#[69, 85, 82]⟩ : ByteArray), wrap64 (-a4), wrap64 (-a4), (⟨#[]⟩ : ByteArray), (⟨#[]⟩ : ByteArray), ([] : List (S213))⟩ : S109)] : List (S109))))
theorem qek.calls (a0 : Int) (a1 : Int) (a2 : Int) (a3 : ByteArray) (a4 : Int) (r1 : Int) (r2 : ByteArray) (r3 : Int) (r4 : Int) (r5 : Int) (r6 : ByteArray) (r7 : ByteArray) (r8 : Int) (r9 : List (S109)) (w : World) (h : qek.f a0 a1 a2 a3 a4 = some (r1, r2, r3, r4, r5, r6, r7, r8, r9)) :
  Calls Tryd.prog 48 #[.int .i64 a0, .int .i64 a1, .int .i64 a2, .string a3, .int .i64 a4] w fun e w' => ∃ v8_ : Value, e = .returned (.agg #[.int .i64 r1, .string r2, .int .i64 r3, .int .i64 r4, .int .i64 r5, .string r6, .string r7, .int .i64 r8, v8_]) ∧ Kd.S k109 109 w' w.heap.size (fun _ => True) v8_ r9 ∧ Below w.heap.size w w' := by
 have hu29 := Tryd.underlying29
 have hu109 := Tryd.underlying109
 have HB := qd.mk (Below.refl w.heap.size w)
 have H : (some (a0, (⟨#[97]⟩ : ByteArray), a1, a2, 1, (⟨#[]⟩ : ByteArray), (⟨#[117]⟩ : ByteArray), 0, (([(⟨a3, (⟨#[69, 85, 82]⟩ : ByteArray), a4, a4, (⟨#[]⟩ : ByteArray), (⟨#[]⟩ : ByteArray), ([] : List (S213))⟩ : S109), (⟨(⟨#[52, 48]⟩ : ByteArray), (⟨#[69, 85, 82]⟩ : ByteArray), wrap64 (-a4), wrap64 (-a4), (⟨#[]⟩ : ByteArray), (⟨#[]⟩ : ByteArray), ([] : List (S213))⟩ : S109)] : List (S109))))) = some (r1, r2, r3, r4, r5, r6, r7, r8, r9) := h
 clear h
 obtain ⟨y161, hy161⟩ : ∃ y_ : List (S109), y_ = (([(⟨a3, (⟨#[69, 85, 82]⟩ : ByteArray), a4, a4, (⟨#[]⟩ : ByteArray), (⟨#[]⟩ : ByteArray), ([] : List (S213))⟩ : S109), (⟨(⟨#[52, 48]⟩ : ByteArray), (⟨#[69, 85, 82]⟩ : ByteArray), wrap64 (-a4), wrap64 (-a4), (⟨#[]⟩ : ByteArray), (⟨#[]⟩ : ByteArray), ([] : List (S213))⟩ : S109)] : List (S109))) := ⟨_, rfl⟩
 replace H : (some (a0, (⟨#[97]⟩ : ByteArray), a1, a2, 1, (⟨#[]⟩ : ByteArray), (⟨#[117]⟩ : ByteArray), 0, y161)) = some (r1, r2, r3, r4, r5, r6, r7, r8, r9) := by first | (rw [hy161]; with_reducible exact H) | (have H2_ := (Option.bind_some _ _).symm.trans H; rw [hy161]; with_reducible exact H2_) | (have H2_ := (Option.bind_some _ _).symm.trans H; with_reducible exact H2_) | with_reducible exact H | (rw [hy161]; exact H) | exact H
 have Ny161 := qd.mk hy161
 clear hy161
 simp only [Option.some.injEq, Prod.mk.injEq] at H
 obtain ⟨rfl, rfl, rfl, rfl, rfl, rfl, rfl, rfl, rfl⟩ := H
 go_enter Tryd.func48, Tryd.ntmps48
 go_wp2_with (first | ((with_reducible refine qbx (N := 10) rfl ?_); refine qbu ?hg (N := 10) ?hd (cs := #[.int .i64 0, .string (⟨#[]⟩ : ByteArray), .int .i64 0, .int .i64 0, .int .i64 0, .string (⟨#[]⟩ : ByteArray), .string (⟨#[]⟩ : ByteArray), .int .i64 0, .slice none 0 0]) (t := 29) ?hr ?_; (case hd => rfl); (case hg => rfl); (case hr => first | (go_simp; done) | (go_simp; rfl)); intro gb160 hg w6 hbox hb; have n0_ := qd.mk (qw (bw_) hb); have n1_ := qd.mk (hbox); have n2_ := qd.mk (gw_ (w := w) hg); have n3_ := qd.mk (gw_ (w := w) hg); clear HB; have HB := n0_; have BK160 := n1_; have GW160 := n2_; have GE160 := n3_; clear n0_ n1_ n2_ n3_; clear hb hbox hg) | ((with_reducible refine qbx (N := 23) rfl ?_); refine Kd.S_lit k109 _ 109 ?hg (N := 23) ?hd (xs := ([(⟨a3, (⟨#[69, 85, 82]⟩ : ByteArray), a4, a4, (⟨#[]⟩ : ByteArray), (⟨#[]⟩ : ByteArray), ([] : List (S213))⟩ : S109), (⟨(⟨#[52, 48]⟩ : ByteArray), (⟨#[69, 85, 82]⟩ : ByteArray), wrap64 (-a4), wrap64 (-a4), (⟨#[]⟩ : ByteArray), (⟨#[]⟩ : ByteArray), ([] : List (S213))⟩ : S109)] : List (S109))) (inner := [.string a3, .string (⟨#[69, 85, 82]⟩ : ByteArray), .int .i64 a4, .int .i64 a4, .string (⟨#[]⟩ : ByteArray), .string (⟨#[]⟩ : ByteArray), .slice none 0 0, .string (⟨#[52, 48]⟩ : ByteArray), .string (⟨#[69, 85, 82]⟩ : ByteArray), .int .i64 (wrap64 (-a4)), .int .i64 (wrap64 (-a4)), .string (⟨#[]⟩ : ByteArray), .string (⟨#[]⟩ : ByteArray), .slice none 0 0]) (ok := fun _ => True) (okp := fun _ => True) ?hr ?hp (fun _ hk => hk) trivial (Below.refl _ _) (Nat.le_refl _) (by simp) ?_; (case hd => rfl); (case hg => rfl); (case hr => first | (go_simp; done) | (go_simp; rfl)); (case hp => exact (Reps.c7 (show Kd.M k109 _ _ _ (⟨a3, (⟨#[69, 85, 82]⟩ : ByteArray), a4, a4, (⟨#[]⟩ : ByteArray), (⟨#[]⟩ : ByteArray), ([] : List (S213))⟩ : S109) [.string a3, .string (⟨#[69, 85, 82]⟩ : ByteArray), .int .i64 a4, .int .i64 a4, .string (⟨#[]⟩ : ByteArray), .string (⟨#[]⟩ : ByteArray), .slice none 0 0] from (k109_mkM _ _ _ (⟨a3, (⟨#[69, 85, 82]⟩ : ByteArray), a4, a4, (⟨#[]⟩ : ByteArray), (⟨#[]⟩ : ByteArray), ([] : List (S213))⟩ : S109) (Kd.qhz _ _ _ _ _))) (Reps.c7 (show Kd.M k109 _ _ _ (⟨(⟨#[52, 48]⟩ : ByteArray), (⟨#[69, 85, 82]⟩ : ByteArray), wrap64 (-a4), wrap64 (-a4), (⟨#[]⟩ : ByteArray), (⟨#[]⟩ : ByteArray), ([] : List (S213))⟩ : S109) [.string (⟨#[52, 48]⟩ : ByteArray), .string (⟨#[69, 85, 82]⟩ : ByteArray), .int .i64 (wrap64 (-a4)), .int .i64 (wrap64 (-a4)), .string (⟨#[]⟩ : ByteArray), .string (⟨#[]⟩ : ByteArray), .slice none 0 0] from (k109_mkM _ _ _ (⟨(⟨#[52, 48]⟩ : ByteArray), (⟨#[69, 85, 82]⟩ : ByteArray), wrap64 (-a4), wrap64 (-a4), (⟨#[]⟩ : ByteArray), (⟨#[]⟩ : ByteArray), ([] : List (S213))⟩ : S109) (Kd.qhz _ _ _ _ _))) (Reps.none _ _)))); intro v162 w7 ho8 hb hg_ hnew_; clear hg_ hnew_; (first | rw [← Ny161.out] at ho8 | (simp only [Int.reduceToNat] at ho8; rw [← Ny161.out] at ho8)); have n0_ := qd.mk (Kd.S_lower ho8 (qcm (bwx_))); have n1_ := qd.mk (bb_ BK160 hb); have n2_ := qd.mk (qw (bwx_) hb); clear BK160; clear HB; have HO163 := n0_; have BK160 := n1_; have HB := n2_; clear n0_ n1_ n2_; clear hb ho8; obtain ⟨Ao9, co9, eo9⟩ := Kd.S_slice HO163.out; subst eo9; obtain ⟨cz10_0, cz10_1, cz10_2, cz10_3, cz10_4, cz10_5, cz10_6, cz10_7, cz10_8⟩ := bc9_ (w := w7) BK160.out; obtain ⟨fz10_0, fz10_1, fz10_2, fz10_3, fz10_4, fz10_5, fz10_6, fz10_7, fz10_8⟩ := bf9_ BK160.out))
 refine bodyPost_ret (results_cell_row rfl _ _ gb160 29 #[.int .i64 a0, .string (⟨#[97]⟩ : ByteArray), .int .i64 a1, .int .i64 a2, .int .i64 1, .string (⟨#[]⟩ : ByteArray), .string (⟨#[117]⟩ : ByteArray), .int .i64 0, .slice Ao9 y161.length co9] (0, 0) _ rfl (by (with_reducible repeat (first | refine qp ?_ _ | refine qz ?_ | refine qm ?_ _)); refine qcr (cs := #[.int .i64 a0, .string (⟨#[97]⟩ : ByteArray), .int .i64 a1, .int .i64 a2, .int .i64 1, .string (⟨#[]⟩ : ByteArray), .string (⟨#[117]⟩ : ByteArray), .int .i64 0, .slice none 0 0]) ?_ 8 _ rfl; (with_reducible repeat (first | refine qp ?_ _ | refine qz ?_ | refine qm ?_ _)); refine qcr (cs := #[.int .i64 a0, .string (⟨#[97]⟩ : ByteArray), .int .i64 a1, .int .i64 a2, .int .i64 1, .string (⟨#[]⟩ : ByteArray), .string (⟨#[117]⟩ : ByteArray), .int .i64 0, .slice none 0 0]) ?_ 7 _ rfl; (with_reducible repeat (first | refine qp ?_ _ | refine qz ?_ | refine qm ?_ _)); refine qcr (cs := #[.int .i64 a0, .string (⟨#[97]⟩ : ByteArray), .int .i64 a1, .int .i64 a2, .int .i64 1, .string (⟨#[]⟩ : ByteArray), .string (⟨#[]⟩ : ByteArray), .int .i64 0, .slice none 0 0]) ?_ 6 _ rfl; (with_reducible repeat (first | refine qp ?_ _ | refine qz ?_ | refine qm ?_ _)); refine qcr (cs := #[.int .i64 a0, .string (⟨#[97]⟩ : ByteArray), .int .i64 a1, .int .i64 a2, .int .i64 1, .string (⟨#[]⟩ : ByteArray), .string (⟨#[]⟩ : ByteArray), .int .i64 0, .slice none 0 0]) ?_ 5 _ rfl; (with_reducible repeat (first | refine qp ?_ _ | refine qz ?_ | refine qm ?_ _)); refine qcr (cs := #[.int .i64 a0, .string (⟨#[97]⟩ : ByteArray), .int .i64 a1, .int .i64 a2, .int .i64 0, .string (⟨#[]⟩ : ByteArray), .string (⟨#[]⟩ : ByteArray), .int .i64 0, .slice none 0 0]) ?_ 4 _ rfl; (with_reducible repeat (first | refine qp ?_ _ | refine qz ?_ | refine qm ?_ _)); refine qcr (cs := #[.int .i64 a0, .string (⟨#[97]⟩ : ByteArray), .int .i64 a1, .int .i64 0, .int .i64 0, .string (⟨#[]⟩ : ByteArray), .string (⟨#[]⟩ : ByteArray), .int .i64 0, .slice none 0 0]) ?_ 3 _ rfl; (with_reducible repeat (first | refine qp ?_ _ | refine qz ?_ | refine qm ?_ _)); refine qcr (cs := #[.int .i64 a0, .string (⟨#[97]⟩ : ByteArray), .int .i64 0, .int .i64 0, .int .i64 0, .string (⟨#[]⟩ : ByteArray), .string (⟨#[]⟩ : ByteArray), .int .i64 0, .slice none 0 0]) ?_ 2 _ rfl; (with_reducible repeat (first | refine qp ?_ _ | refine qz ?_ | refine qm ?_ _)); refine qcr (cs := #[.int .i64 a0, .string (⟨#[]⟩ : ByteArray), .int .i64 0, .int .i64 0, .int .i64 0, .string (⟨#[]⟩ : ByteArray), .string (⟨#[]⟩ : ByteArray), .int .i64 0, .slice none 0 0]) ?_ 1 _ rfl; (with_reducible repeat (first | refine qp ?_ _ | refine qz ?_ | refine qm ?_ _)); refine qcr (cs := #[.int .i64 0, .string (⟨#[]⟩ : ByteArray), .int .i64 0, .int .i64 0, .int .i64 0, .string (⟨#[]⟩ : ByteArray), .string (⟨#[]⟩ : ByteArray), .int .i64 0, .slice none 0 0]) ?_ 0 _ rfl; (with_reducible repeat (first | refine qp ?_ _ | refine qz ?_ | refine qm ?_ _)); exact BK160.out) Tryd.underlying29 rfl (by kernel_rfl)) rfl ?_
 exact ⟨_, ew_, by (with_reducible repeat (first | apply Kd.S_alloc | apply Kd.S_drewN | apply Kd.S_drew)); exact Kd.S_mono (Kd.S_far (p := ⟨gb160, 8, none⟩) (Kd.S_far (p := ⟨gb160, 7, none⟩) (Kd.S_far (p := ⟨gb160, 6, none⟩) (Kd.S_far (p := ⟨gb160, 5, none⟩) (Kd.S_far (p := ⟨gb160, 4, none⟩) (Kd.S_far (p := ⟨gb160, 3, none⟩) (Kd.S_far (p := ⟨gb160, 2, none⟩) (Kd.S_far (p := ⟨gb160, 1, none⟩) (Kd.S_far (p := ⟨gb160, 0, none⟩) (Kd.S_types HO163.out BK160.out (by decide)) (fun _ hk => hk.2) (.int .i64 a0)) (fun _ hk => hk.2) (.string (⟨#[97]⟩ : ByteArray))) (fun _ hk => hk.2) (.int .i64 a1)) (fun _ hk => hk.2) (.int .i64 a2)) (fun _ hk => hk.2) (.int .i64 1)) (fun _ hk => hk.2) (.string (⟨#[]⟩ : ByteArray))) (fun _ hk => hk.2) (.string (⟨#[117]⟩ : ByteArray))) (fun _ hk => hk.2) (.int .i64 0)) (fun _ hk => hk.2) (.slice Ao9 y161.length co9)) (fun _ hk => trivial), bwx_⟩
def qcw.l0 : Nat → List Int → List Int → Int → Option (Bool)
 | 0, _, _, _ => none
 | k + 1, x0, x1, x5 => if x5 < (x0.length : Int) then (if 0 ≤ x5 then (if x5 < (x1.length : Int) then (if (rd x0 x5) = (rd x1 x5) then (qcw.l0 k x0 x1 (wrap64 (x5 + 1))) else (some false)) else (none)) else (none)) else (some true)
def qcw.f (k : Nat) (l0 : List Int) (l1 : List Int) : Option (Bool) := if (l0.length : Int) = (l1.length : Int) then (qcw.l0 k l0 l1 0) else (some false)
theorem qcw.calls (k : Nat) (A0 : Option Addr) (c0 : Nat) (l0 : List Int) (A1 : Option Addr) (c1 : Nat) (l1 : List Int) (r : Bool) (w : World) (hr0 : Kd.C (Kd.int .i64) w A0 l0.length l0) (hc0 : l0.length ≤ c0) (hr1 : Kd.C (Kd.int .i64) w A1 l1.length l1) (hc1 : l1.length ≤ c1) (h : qcw.f k l0 l1 = some r) :
  Calls Tryd.prog 49 #[.slice A0 l0.length c0, .slice A1 l1.length c1] w fun e w' => e = .returned (.bool r) ∧ qcs w w' := by
 have HR0 := qd.mk hr0
 have HC0 := qd.mk hc0
 clear hr0 hc0
 have HR1 := qd.mk hr1
 have HC1 := qd.mk hc1
 clear hr1 hc1
 have H : (if (l0.length : Int) = (l1.length : Int) then (qcw.l0 k l0 l1 0) else (some false)) = some r := h
 clear h
 by_cases c3 : (l0.length : Int) = (l1.length : Int)
 ·rw [if_pos c3] at H
  have c3b0 : ((l0.length : Int) == (l1.length : Int)) = true := beq_iff_eq.mpr c3
  have c3b1 : ((l0.length : Int) != (l1.length : Int)) = false := bne_eq_false_iff_eq.mpr c3
  have c3b2 : (l0.length == l1.length) = true := by first | simpa using c3 | (simp at c3 ⊢; omega)
  clear c3
  have H' := qd.mk H
  clear H
  go_enter Tryd.func49, Tryd.ntmps49
  go_wp2
  repeat (go_quiet (fail); try go_wp2)
  go_loopg [5] k (fun kq v5 w' => ∃ (x5_1 : Int), v5 = .int .i64 x5_1 ∧ qd (qcw.l0 kq l0 l1 x5_1 = some r) ∧ qd (kq ≤ k) ∧ qcs w w')
  case atStart => exact ⟨(0), sm_, H', ⟨Nat.le_refl _⟩, dn_⟩
  clear H'
  try clear c1
  try clear p2
  try clear c3
  try clear c3b0
  try clear c3b1
  try clear c3b2
  obtain ⟨x5_1, rfl, HA, HK1, ⟨m1, rfl⟩⟩ := hrel
  cases gk with
  | zero => exact absurd HA.out (by simp [qcw.l0])
  | succ k1 =>
   have H := HA.out
   clear HA
   simp only [qcw.l0] at H
   by_cases c4 : x5_1 < (l0.length : Int)
   rotate_left
   ·rw [if_neg c4] at H
    have c4b0 : decide (x5_1 < (l0.length : Int)) = false := decide_eq_false c4
    clear c4
    obtain rfl := Option.some.inj H
    go_wp2
    repeat (go_quiet (fail); try go_wp2)
    go_ret
    exact ⟨sm_, dn_⟩
   rw [if_pos c4] at H
   have c4b0 : decide (x5_1 < (l0.length : Int)) = true := decide_eq_true c4
   clear c4
   by_cases c5 : 0 ≤ x5_1
   rotate_left
   ·rw [if_neg c5] at H
    exact absurd H (by simp)
   rw [if_pos c5] at H
   have c5b0 : decide (0 ≤ x5_1) = true := decide_eq_true c5
   clear c5
   by_cases c6 : x5_1 < (l1.length : Int)
   rotate_left
   ·rw [if_neg c6] at H
    exact absurd H (by simp)
   rw [if_pos c6] at H
   have c6b0 : decide (x5_1 < (l1.length : Int)) = true := decide_eq_true c6
   clear c6
   by_cases c7 : (rd l0 x5_1) = (rd l1 x5_1)
   ·rw [if_pos c7] at H
    have c7b0 : ((rd l0 x5_1) == (rd l1 x5_1)) = true := beq_iff_eq.mpr c7
    have c7b1 : ((rd l0 x5_1) != (rd l1 x5_1)) = false := bne_eq_false_iff_eq.mpr c7
    clear c7
    have H' := qd.mk H
    clear H
    have p164 : 0 ≤ (x5_1 : Int) := odt_
    have q164 : x5_1 < (l0.length : Int) := odt_
    obtain ⟨ad164, e164, hx164_0⟩ := Kd.qms HR0.out x5_1 p164 q164
    cases e164
    replace p164 := eq_true p164
    replace q164 := eq_true q164
    have p165 : 0 ≤ (x5_1 : Int) := odt_
    have q165 : x5_1 < (l1.length : Int) := odt_
    obtain ⟨ad165, e165, hx165_0⟩ := Kd.qms HR1.out x5_1 p165 q165
    cases e165
    replace p165 := eq_true p165
    replace q165 := eq_true q165
    go_wp2
    repeat (go_quiet (fail); try go_wp2)
    go_roundg k1
    case measure => have := HK1.out; omega
    case rel => exact ⟨(wrap64 (x5_1 + 1)), sm_, H', ⟨by have := HK1.out; omega⟩, dn_⟩
   rw [if_neg c7] at H
   have c7b0 : ((rd l0 x5_1) == (rd l1 x5_1)) = false := beq_eq_false_iff_ne.mpr c7
   have c7b1 : ((rd l0 x5_1) != (rd l1 x5_1)) = true := bne_iff_ne.mpr c7
   obtain rfl := Option.some.inj H
   have p164 : 0 ≤ (x5_1 : Int) := odt_
   have q164 : x5_1 < (l0.length : Int) := odt_
   obtain ⟨ad164, e164, hx164_0⟩ := Kd.qms HR0.out x5_1 p164 q164
   cases e164
   replace p164 := eq_true p164
   replace q164 := eq_true q164
   have p165 : 0 ≤ (x5_1 : Int) := odt_
   have q165 : x5_1 < (l1.length : Int) := odt_
   obtain ⟨ad165, e165, hx165_0⟩ := Kd.qms HR1.out x5_1 p165 q165
   cases e165
   replace p165 := eq_true p165
   replace q165 := eq_true q165
   go_wp2
   repeat (go_quiet (fail); try go_wp2)
   go_ret
   exact ⟨sm_, dn_⟩
 ·rw [if_neg c3] at H
  have c3b0 : ((l0.length : Int) == (l1.length : Int)) = false := beq_eq_false_iff_ne.mpr c3
  have c3b1 : ((l0.length : Int) != (l1.length : Int)) = true := bne_iff_ne.mpr c3
  have c3b2 : (l0.length == l1.length) = false := by first | simpa using c3 | (simp at c3 ⊢; omega)
  obtain rfl := Option.some.inj H
  go_enter Tryd.func49, Tryd.ntmps49
  go_wp2
  repeat (go_quiet (fail); try go_wp2)
  go_ret
  exact ⟨sm_, dn_⟩
end
section
def bA : ByteArray := ⟨#[97]⟩
def eur : ByteArray := ⟨#[69, 85, 82]⟩
def b10 : ByteArray := ⟨#[49, 48]⟩
def b40 : ByteArray := ⟨#[52, 48]⟩
def nilB : ByteArray := ⟨#[]⟩
def mv (no book value amount : Int) : S29 := ⟨no, bA, book, value, 1, nilB, ⟨#[117]⟩, 0, [⟨b10, eur, amount, amount, nilB, nilB, []⟩, ⟨b40, eur, -amount, -amount, nilB, nilB, []⟩]⟩
def m1 := mv 1 100 90 5
def m2 := mv 2 110 80 7
def m3 := mv 3 109 109 1
def m4 := mv 4 110 110 1
theorem p1 : postC [] m1 = 0 := by decide +kernel
theorem p2 : postC [m1] m2 = 0 := by decide +kernel
theorem p3 : postC [m1, m2] m3 = 17 := by decide +kernel
theorem p4 : postC [m1, m2] m4 = 17 := by decide +kernel
def c1 (a : Int) : S112 := ⟨⟨bA, b10, eur, nilB, nilB⟩, a, a⟩
def c4 (a : Int) : S112 := ⟨⟨bA, b40, eur, nilB, nilB⟩, a, a⟩
theorem sh1 : qjw [m1, m2] ⟨nilB, 0, 90, 100⟩ = ([c1 5, c4 (-5)], 0) := by kernel_rfl
theorem sh2 : qjw [m1, m2] ⟨bA, 0, 85, 110⟩ = ([c1 7, c4 (-7)], 0) := by kernel_rfl
theorem sh3 : qjw [m1, m2] ⟨⟨#[98]⟩, 0, 200, 200⟩ = ([], 0) := by kernel_rfl
theorem fd1 : findE [m1, m2] ⟨nilB, 0, 200, 200⟩ ⟨nilB, b10, nilB, nilB, nilB⟩ = [1, 2] := by kernel_rfl
theorem fd2 : findE [m1, m2] ⟨nilB, 85, 200, 200⟩ ⟨nilB, b40, nilB, nilB, nilB⟩ = [1] := by kernel_rfl
theorem sm1 : qcw.f 10 [1, 2] [1, 2] = some true := by kernel_rfl
theorem sm2 : qcw.f 10 [1] [1] = some true := by kernel_rfl
end
section
open Go.Sort Go.Maps Go.ChangeShapes Go.WideShapes Go.WideMaps Go.Shelf
theorem move_is (no book value amt : Int) (hw : wrap64 (-amt) = -amt) (w : World) : Calls Tryd.prog 48 #[.int .i64 no, .int .i64 book, .int .i64 value, .string ⟨#[49, 48]⟩, .int .i64 amt] w fun e w' => ∃ A c, e = .returned (enV (mv no book value amt) A c) ∧ Kd.C k109 w' A (mv no book value amt).f8.length (mv no book value amt).f8 ∧ (mv no book value amt).f8.length ≤ c ∧ Below w.heap.size w w' := by
 have hf : qek.f no book value b10 amt = some (no, bA, book, value, 1, nilB, ⟨#[117]⟩, 0, (mv no book value amt).f8) := by
  unfold qek.f
  rw [hw]
  rfl
 refine (qek.calls _ _ _ _ _ _ _ _ _ _ _ _ _ _ w hf).mono ?_
 rintro e w' ⟨v, rfl, hS, hb⟩
 obtain ⟨A, c, rfl, hc, hC⟩ := Kd.S_reads hS
 exact ⟨A, c, rfl, hC, hc, hb⟩
theorem mv_fit (no book value amt : Int) : FitE (mv no book value amt) := by
 intro y hy
 simp only [mv, List.mem_cons, List.not_mem_nil, or_false] at hy
 rcases hy with rfl | rfl <;> (show (3 : Nat) ≤ maxLen; decide)
theorem post_is {w0 w : World} {p m : Nat} {E E' : List S29} {r : Int} (x : S29) (hr : postC E x = r) (hE : qjk E x = E') (h : qgu w0 w p m E) (hT : Tab w0) (A : Option Addr) (c : Nat) (hC : Kd.C k109 w A x.f8.length x.f8) (hc : x.f8.length ≤ c) (hf : FitE x) (hlen : E.length ≤ 100000) :
  Calls Tryd.prog 20 #[.pointer (some ⟨p, 0, none⟩), enV x A c] w fun e w' => e = .returned (.int .i64 r) ∧ qgu w0 w' p m E' := by
 refine (h.post hT x A c hC hc hf hlen).mono ?_
 rintro e w' ⟨he, h1, _⟩
 rw [hr] at he
 rw [hE] at h1
 exact ⟨he, h1⟩
theorem sheet_is {w0 w : World} {p m : Nat} {E : List S29} {s : List S112} (q : Qy) (hs : qjw E q = (s, 0)) (h : qgu w0 w p m E) (hg : qkp E) (hl : E.length ≤ 1000) :
  Calls Tryd.prog 19 #[.pointer (some ⟨p, 0, none⟩), qyV q] w fun e w' => ∃ A c, e = .returned (.tuple #[.slice A s.length c, .int .i64 0]) ∧ Kd.C k112 w' A s.length s ∧ Below w.heap.size w w' ∧ qgu w0 w' p m E := by
 refine (h.sheet hg hl q).mono ?_
 rw [hs]
 rintro e w' ⟨v, rfl, hr, hb, h2⟩
 obtain ⟨A, c, rfl, hc, hC⟩ := Kd.qhp hr
 exact ⟨A, c, rfl, hC, hb, h2⟩
theorem find_is {w0 w : World} {p m : Nat} {E : List S29} {s : List Int} (q : Qy) (key : S40) (hs : findE E q key = s) (h : qgu w0 w p m E) (hg : qkp E) (hl : E.length ≤ 1000) :
  Calls Tryd.prog 24 #[.pointer (some ⟨p, 0, none⟩), qyV q, keV key] w fun e w' => ∃ A c, e = .returned (.slice A s.length c) ∧ s.length ≤ c ∧ Kd.C (Kd.int .i64) w' A s.length s ∧ Below w.heap.size w w' ∧ qgu w0 w' p m E := by
 refine (h.find hg hl q key).mono ?_
 rw [hs]
 rintro e w' ⟨v, rfl, hr, hb, h2⟩
 obtain ⟨A, c, rfl, hc, hC⟩ := Kd.qhp hr
 exact ⟨A, c, rfl, hc, hC, hb, h2⟩
theorem good2 : qkp [m1, m2] := by
 intro x hx
 simp only [List.mem_cons, List.not_mem_nil, or_false] at hx
 rcases hx with rfl | rfl
 ·exact (by decide +kernel : (chkE m1).2 = 0)
 ·exact (by decide +kernel : (chkE m2).2 = 0)
theorem e1 : qjk [] m1 = [m1] := by unfold qjk; rw [if_pos p1]; rfl
theorem e2 : qjk [m1] m2 = [m1, m2] := by unfold qjk; rw [if_pos p2]; rfl
theorem e3 : qjk [m1, m2] m3 = [m1, m2] := by unfold qjk; rw [p3]; rfl
theorem e4 : qjk [m1, m2] m4 = [m1, m2] := by unfold qjk; rw [p4]; rfl
theorem lit_C (W : World) (xs : List Int) (hm : xs.length ≤ 1000 := by decide) : Kd.C (Kd.int .i64) (W.alloc (.cells (nums .i64 xs).toArray 3)) (some ⟨W.heap.size, 0, none⟩) xs.length xs :=
 (Kd.qbt (Kd.qlj (ok := fun _ => True) (own_lit W W.heap.size 3 .i64 xs (Nat.le_refl _) (by omega)) (fun _ _ => trivial))).2.2
theorem lives_calls (w0 : World) (hT : Tab w0) : Calls Tryd.prog 17 #[] w0 fun e w' => e = .returned (.bool true) ∧ Below w0.heap.size w0 w' := by
 have HT := qd.mk hT
 clear hT
 go_enter Tryd.func17, Tryd.ntmps17
 go_upto_region 2 with (go_at_call 22; refine (qgu.made _).mono ?_; rintro e w1 ⟨p, m, rfl, h1⟩; have HL1 := qd.mk h1; clear h1)
 go_upto_region 3 with (first | (go_at_call 48; refine (move_is 1 100 90 5 (by unfold wrap64; omega) _).mono ?_; rintro e w2 ⟨A2, k2, rfl, hC2, hc2, hb2⟩; have HL2 := qd.mk (HL1.out.below hb2); have HC2 := qd.mk hC2; have Hc2 := qd.mk hc2; clear hC2 hc2 hb2) | (go_at_call 20; refine (post_is m1 p1 e1 HL2.out HT.out A2 k2 HC2.out Hc2.out (mv_fit _ _ _ _) (by simp)).mono ?_; rintro e w3 ⟨rfl, h3⟩; have HL3 := qd.mk h3; clear h3 HL1 HL2 HC2 Hc2))
 go_upto_region 4 with (first | (go_at_call 48; refine (move_is 2 110 80 7 (by unfold wrap64; omega) _).mono ?_; rintro e w4 ⟨A4, k4, rfl, hC2, hc2, hb2⟩; have HL4 := qd.mk (HL3.out.below hb2); have HC2 := qd.mk hC2; have Hc2 := qd.mk hc2; clear hC2 hc2 hb2) | (go_at_call 20; refine (post_is m2 p2 e2 HL4.out HT.out A4 k4 HC2.out Hc2.out (mv_fit _ _ _ _) (by simp)).mono ?_; rintro e w5 ⟨rfl, h3⟩; have HL5 := qd.mk h3; clear h3 HL3 HL4 HC2 Hc2))
 go_upto_region 5 with (first | (go_at_call 48; refine (move_is 3 109 109 1 (by unfold wrap64; omega) _).mono ?_; rintro e w6 ⟨A6, k6, rfl, hC2, hc2, hb2⟩; have HL6 := qd.mk (HL5.out.below hb2); have HC2 := qd.mk hC2; have Hc2 := qd.mk hc2; clear hC2 hc2 hb2) | (go_at_call 20; refine (post_is m3 p3 e3 HL6.out HT.out A6 k6 HC2.out Hc2.out (mv_fit _ _ _ _) (by simp)).mono ?_; rintro e w7 ⟨rfl, h3⟩; have HL7 := qd.mk h3; clear h3 HL5 HL6 HC2 Hc2))
 go_upto_region 6 with (first | (go_at_call 48; refine (move_is 4 110 110 1 (by unfold wrap64; omega) _).mono ?_; rintro e w8 ⟨A8, k8, rfl, hC2, hc2, hb2⟩; have HL8 := qd.mk (HL7.out.below hb2); have HC2 := qd.mk hC2; have Hc2 := qd.mk hc2; clear hC2 hc2 hb2) | (go_at_call 20; refine (post_is m4 p4 e4 HL8.out HT.out A8 k8 HC2.out Hc2.out (mv_fit _ _ _ _) (by simp)).mono ?_; rintro e w9 ⟨rfl, h3⟩; have HL9 := qd.mk h3; clear h3 HL7 HL8 HC2 Hc2))
 go_upto_region 7 with (go_at_call 19; refine (sheet_is ⟨nilB, 0, 90, 100⟩ sh1 HL9.out good2 (by simp)).mono ?_; rintro e wa ⟨Aa, ca, rfl, hC, hb, h2⟩; have HLa := qd.mk h2; have HCa := qd.mk hC; clear hC hb h2 HL9)
 go_upto_region 8 with (go_at_call 19; refine (sheet_is ⟨bA, 0, 85, 110⟩ sh2 HLa.out good2 (by simp)).mono ?_; rintro e wb ⟨Ab, cb, rfl, hC, hb, h2⟩; have HLb := qd.mk h2; have HCb := qd.mk hC; have HCa' := qd.mk (Kd.qbw HCa.out hb); clear hC hb h2 HLa HCa)
 go_upto_region 9 with (go_at_call 19; refine (sheet_is ⟨⟨#[98]⟩, 0, 200, 200⟩ sh3 HLb.out good2 (by simp)).mono ?_; rintro e wc ⟨Ac, cc, rfl, hC, hb, h2⟩; have HLc := qd.mk h2; have HCa := qd.mk (Kd.qbw HCa'.out hb); have HCb' := qd.mk (Kd.qbw HCb.out hb); clear hC hb h2 HLb HCa' HCb)
 go_upto_region 11 with (go_at_call 23; refine HLc.out.len.mono ?_; rintro e wd ⟨rfl, hb⟩; have HLd := qd.mk (HLc.out.below hb); have HCb := qd.mk (Kd.qbw HCb'.out hb); have HCa2 := qd.mk (Kd.qbw HCa.out hb); clear hb HLc HCb' HCa)
 go_upto_region 12 with (go_at_call 24; refine (find_is ⟨nilB, 0, 200, 200⟩ ⟨nilB, b10, nilB, nilB, nilB⟩ fd1 HLd.out good2 (by simp)).mono ?_; rintro e we ⟨An, cn, rfl, hcn, hC, hb, h2⟩; have HLe := qd.mk h2; have HCn := qd.mk hC; have Hcn := qd.mk hcn; have HCb2 := qd.mk (Kd.qbw HCb.out hb); have HCa3 := qd.mk (Kd.qbw HCa2.out hb); clear hC hb h2 hcn HLd HCb HCa2)
 go_upto_region 13 with (go_at_call 24; refine (find_is ⟨nilB, 85, 200, 200⟩ ⟨nilB, b40, nilB, nilB, nilB⟩ fd2 HLe.out good2 (by simp)).mono ?_; rintro e wf ⟨Am, cm, rfl, hcm, hC, hb, h2⟩; have HLf := qd.mk h2; have HCm := qd.mk hC; have Hcm := qd.mk hcm; have HCn2 := qd.mk (Kd.qbw HCn.out hb); have HCb3 := qd.mk (Kd.qbw HCb2.out hb); have HCa4 := qd.mk (Kd.qbw HCa3.out hb); clear hC hb h2 hcm HLe HCn HCb2 HCa3)
 obtain ⟨ada, ea, a0, a1, a2, a3, a4, a5, a6⟩ := qep HCa4.out 0 (by omega) (by simp)
 obtain ⟨ada', ea', x0, x1, x2, x3, x4, x5, x6⟩ := qep HCa4.out 1 (by omega) (by simp)
 obtain ⟨adb, eb, b0, b1, b2, b3, b4, b5, b6⟩ := qep HCb3.out 0 (by omega) (by simp)
 cases ea
 cases ea'
 cases eb
 have ad0 : ∀ (d : Addr) (n : Nat), (d.add n).block = d.block ∧ (d.add n).off = d.off + n := fun d n => by unfold Addr.add; split <;> simp_all
 have a1' : wf.cell? ⟨ada.block, ada.off + 1, none⟩ = some (.string ⟨#[49, 48]⟩) := by
  rw [(ad0 _ _).1, (ad0 _ _).2] at a1
  exact a1
 have a6' : wf.cell? ⟨ada.block, ada.off + 6, none⟩ = some (.int .i64 5) := by
  rw [(ad0 _ _).1, (ad0 _ _).2] at a6
  exact a6
 have x6' : wf.cell? ⟨ada.block, ada.off + 7 + 6, none⟩ = some (.int .i64 (-5)) := by
  rw [(ad0 _ _).1, (ad0 _ _).2] at x6
  exact x6
 have b6' : wf.cell? ⟨adb.block, adb.off + 6, none⟩ = some (.int .i64 7) := by
  rw [(ad0 _ _).1, (ad0 _ _).2] at b6
  exact b6
 clear ad0
 clear a0 a1 a2 a3 a4 a5 a6 x0 x1 x2 x3 x4 x5 x6 b0 b1 b2 b3 b4 b5 b6
 have HBL := qd.mk HLf.out.bel
 have HS1 := qd.mk (show Calls Tryd.prog 49 #[.slice An 2 cn, .slice (some ⟨wf.heap.size, 0, none⟩) 2 2] (wf.alloc (.cells #[.int .i64 1, .int .i64 2] 3)) (fun e w' => e = .returned (.bool true) ∧ qcs (wf.alloc (.cells #[.int .i64 1, .int .i64 2] 3)) w') from
  qcw.calls 10 An cn [1, 2] (some ⟨wf.heap.size, 0, none⟩) 2 [1, 2] true _ (Kd.qck HCn2.out _) Hcn.out (lit_C wf [1, 2]) (by simp) sm1)
 have HS2 := qd.mk (fun (W : World) (hW : Below wf.heap.size wf W) => show Calls Tryd.prog 49 #[.slice Am 1 cm, .slice (some ⟨W.heap.size, 0, none⟩) 1 1] (W.alloc (.cells #[.int .i64 1] 3)) (fun e w' => e = .returned (.bool true) ∧ qcs (W.alloc (.cells #[.int .i64 1] 3)) w') from
  qcw.calls 10 Am cm [1] (some ⟨W.heap.size, 0, none⟩) 1 [1] true _ (Kd.qck (Kd.qbw HCm.out hW) _) Hcm.out (lit_C W [1]) (by simp) sm2)
 have HBF := qd.mk (qbk (Below.refl wf.heap.size wf) (.cells #[.int .i64 1, .int .i64 2] 3))
 clear HCn2 Hcn HCm Hcm HCa4 HCb3 HLf HT
 go_wp2_with (first
  | (go_at_call 49; (with_reducible refine HS1.out.mono ?_); rintro e wg ⟨rfl, hd⟩; have HDg := qd.mk (qcn HBF.out HBF.out.size hd.below); clear hd)
  | (go_at_call 49; (with_reducible refine (HS2.out _ HDg.out).mono ?_); rintro e wh ⟨rfl, hd⟩; have HDh := qd.mk hd.below; clear hd))
 go_ret
 refine ⟨rfl, ?_⟩
 have h1 : Below w0.heap.size w0 wg := qcn HBL.out HBL.out.size HDg.out
 exact qcn (qbk h1 _) (qbk h1 _).size HDh.out
def qcy.f : Option Bool := some true
theorem qcy.calls (r : Bool) (w : World) (h : qcy.f = some r) (hT : Tab w) : Calls Tryd.prog 17 #[] w fun e w' => e = .returned (.bool r) ∧ Below w.heap.size w w' := by
 obtain rfl := Option.some.inj h
 exact lives_calls w hT
section
attribute [local go_sem] Oper.semAt_some qgn
def qhb : List S29 → Int
 | [] => 0
 | x :: r => if (chkE x).2 = 0 then qhb r else (chkE x).2
def qgh (l : List S29) (q : Qy) : List S112 × Int := if qhb l = 0 then qjw l q else ([], qhb l)
theorem qig {l : List S29} {i : Nat} (h : i < l.length) (h0 : qhb (l.take i) = 0) : ((chkE l[i]).2 = 0 → qhb (l.take (i + 1)) = 0) ∧ ((chkE l[i]).2 ≠ 0 → qhb l = (chkE l[i]).2) := by
 induction l generalizing i with
 | nil => simp at h
 | cons x r ih =>
  cases i with
  | zero =>
   simp only [List.getElem_cons_zero, List.take_succ_cons, List.take_zero, qhb]
   exact ⟨fun h => by rw [if_pos h], fun h => by rw [if_neg h]⟩
  | succ i =>
   simp only [List.take_succ_cons, qhb] at h0
   by_cases hx : (chkE x).2 = 0
   ·rw [if_pos hx] at h0
    have := ih (by simpa using h) h0
    simp only [List.getElem_cons_succ, List.take_succ_cons, qhb, if_pos hx]
    exact this
   rw [if_neg hx] at h0
   exact absurd h0 hx
theorem qha : ∀ {l : List S29}, qhb l = 0 → qkp l
 | [], _ => qkp.nil
 | x :: r, h => by
  unfold qhb at h
  by_cases hx : (chkE x).2 = 0
  ·rw [if_pos hx] at h
   intro y hy
   rcases List.mem_cons.1 hy with rfl | hy
   ·exact hx
   ·exact qha h y hy
  rw [if_neg hx] at h
  exact absurd h hx
theorem qlt {l : List S29} {i : Nat} (h : i < l.length) (q : Qy) : selC (l.take (i + 1)) q = if selB q l[i] = true then selC (l.take i) q ++ rawL l[i] else selC (l.take i) q := by
 unfold selC
 rw [List.take_add_one, lge h, List.filter_append]
 by_cases hs : selB q l[i] = true
 ·rw [if_pos hs]; simp [hs]
 rw [if_neg hs]; simp [hs]
instance (x : S29) : Decidable (FitE x) := by unfold FitE; exact inferInstance
def qeb.f (l : List S29) (a1_0 : ByteArray) (a1_1 a1_2 a1_3 : Int) : Option (List S112 × Int) := if l.length ≤ 1000 ∧ ∀ x ∈ l, FitE x then some (qgh l ⟨a1_0, a1_1, a1_2, a1_3⟩) else none
theorem qjy (q : Qy) (x : S29) (l : Value) (g : Nat) (w : World) (hg : w.heap[g]? = some (qyO q)) : Calls Tryd.prog 106 #[hdV x l, .pointer (some ⟨g, 0, none⟩)] w fun e w' => e = .returned (.bool (selB q x)) ∧ Below w.heap.size w w' := by
 refine (callsIn_wide.1 (qnh Fence.wide 0 trivial rfl q x l g w hg)).mono ?_
 rintro e w' ⟨he, rfl⟩
 exact ⟨he, qbk (Below.refl _ _) _⟩
theorem take_len (q : Qy) {x : S29} (hx : x.f8.length ≤ 100) {l : List S29} (hl : l.length ≤ 1000) (hf : ∀ y ∈ l, FitE y) {i : Nat} (hi : i < l.length) (h0 : qhb (l.take i) = 0) : (selC (l.take i) q).length ≤ 100000 := by
 have hg := qha h0
 have := (qmf hg (by rw [List.length_take]; omega) q).1
 have h2 := flat_len rawL 100 ((l.take i).filter (selB q)) (fun x hx => (qif (hg x (List.mem_filter.1 hx).1)).2.1)
 have h3 : ((l.take i).filter (selB q)).length ≤ (l.take i).length := List.length_filter_le _ _
 rw [List.length_take] at h3
 unfold selC
 omega
theorem replay_calls (q : Qy) (A : Option Addr) (c : Nat) (l : List S29) (w : World) (h : Kd.C k29 w A l.length l) (hc : l.length ≤ c) (hl : l.length ≤ 1000) (hf : ∀ x ∈ l, FitE x) (hT : Tab w) :
  Calls Tryd.prog 27 #[.slice A l.length c, .agg #[.string q.e, .int .i64 q.a, .int .i64 q.z, .int .i64 q.b]] w fun e w' => ∃ v, e = .returned (.tuple #[v, .int .i64 (qgh l q).2]) ∧ Kd.R k112 112 w' w.heap.size (fun _ => True) v (qgh l q).1 ∧ Below w.heap.size w w' := by
 have HC := qd.mk h
 have HT := qd.mk hT
 have HF := qd.mk hf
 have HLL := qd.mk hl
 clear h hT hf
 obtain ⟨base, hbase⟩ : ∃ base, w.heap.size = base := ⟨_, rfl⟩
 have HBS := qd.mk hbase
 obtain ⟨r1, r2, hr⟩ : ∃ r1 r2, qgh l q = (r1, r2) := ⟨_, _, rfl⟩
 rw [hr]
 have HR := qd.mk hr
 clear hr
 go_enter Tryd.func27, Tryd.ntmps27
 go_upto_region 3 with (go_at_call 56; refine (callsIn_wide.1 (qlr Fence.wide 0 trivial rfl q _)).mono ?_; rintro e w2 ⟨rfl, hw2⟩; have HW2 := qd.mk hw2; clear hw2)
 have HB2 := qd.mk (show Below base w w2 from by rw [HW2.out, ← HBS.out]; exact qbk (qbk (Below.refl _ _) _) _)
 have HQ2 := qd.mk (show w2.heap[base + 1]? = some (qyO q) from by rw [HW2.out, ← HBS.out]; have := qdu (w.alloc (.cells #[.string q.e, .int .i64 q.a, .int .i64 q.z, .int .i64 q.b] 24)) (qyO q); rw [World.size_alloc] at this; exact this)
 clear HW2 hbase
 go_wp2
 go_loopw [7, 16] (fun v7 v16 wr => ∃ i : Nat, i ≤ l.length ∧ v16 = .int .i64 i ∧ qd (qhb (l.take i) = 0) ∧ qd (Kd.R k112 112 wr base (fun _ => True) v7 (selC (l.take i) q)) ∧ qd (wr.heap[base + 1]? = some (qyO q)) ∧ qd (Below base w wr)) (fun _ v16 _ => l.length - (intOf v16).toNat)
 case atStart => exact ⟨0, Nat.zero_le _, rfl, ⟨rfl⟩, ⟨Kd.qhz _ _ _ _ _⟩, HQ2, HB2⟩
 clear HQ2 HB2
 obtain ⟨i, hi, rfl, HFE, HRW, HQY, HBW⟩ := hrel
 rename World => wo
 have HWS := qd.mk HBW.out.size
 by_cases hlt : i < l.length
 rotate_left
 ·obtain rfl : i = l.length := by omega
  have d1 : decide ((l.length : Int) < (l.length : Int)) = false := decide_eq_false (by omega)
  have hfe := HFE.out
  rw [List.take_length] at hfe
  have hrw := HRW.out
  rw [List.take_length] at hrw
  obtain ⟨A7, c7, e7, h7, g7⟩ := Kd.qhp hrw
  subst e7
  have hgd := qha hfe
  have hsn : ofK (selC l q) = (r1, r2) := by
   have := HR.out
   unfold qgh qjw at this
   rw [hfe, if_pos rfl] at this
   exact this
  have hfq : qhf.f (selC l q) = some (r1, r2) := by
   unfold qhf.f
   rw [if_pos (qmf hgd HLL.out q), hsn]
  have HQF := qd.mk hfq
  have HG7 := qd.mk g7
  have HH7 := qd.mk h7
  clear hfq hsn hgd hrw hfe g7 h7
  go_wp2_with (go_at_call 31; refine (qhf.calls A7 c7 (selC l q) r1 r2 _ HG7.out HH7.out HQF.out).mono ?_; rintro e w8 ⟨v8, rfl, hr, hb⟩; have HR8 := qd.mk hr; have HB8 := qd.mk hb; clear hr hb)
  go_ret2
  exact ⟨_, rfl, Kd.qec HR8.out HWS.out, by rw [HBS.out]; exact qcn HBW.out (by rw [← HBS.out]; exact HWS.out) HB8.out⟩
 have d1 : decide ((i : Int) < (l.length : Int)) = true := decide_eq_true (by omega)
 have d2 : decide (i < l.length) = true := decide_eq_true hlt
 have p0 : (0 : Int) ≤ (i : Int) := by omega
 have p1 : (i : Int) < (l.length : Int) := by omega
 obtain ⟨ad, A8, c8, e, q0, q1, q2, q3, q4, q5, q6, q7, q8, l8, g8⟩ := qgg (Kd.qbw HC.out (by rw [HBS.out]; exact HBW.out)) (i : Int) p0 p1
 cases e
 rw [Int.toNat_natCast] at q0 q1 q2 q3 q4 q5 q6 q7 q8
 obtain ⟨x, hx⟩ : ∃ x, qbi l (i : Int) = x := ⟨_, rfl⟩
 have hxi : l[i] = x := by rw [← hx]; simp [qbi, hlt]
 rw [hx] at q0 q1 q2 q3 q4 q5 q6 q7 q8 l8 g8
 have HXI := qd.mk hxi
 have HG8 := qd.mk g8
 have HL8 := qd.mk l8
 have HXF := qd.mk (HF.out x (by rw [← hxi]; exact List.getElem_mem _))
 clear hx hxi g8 l8
 go_upto_region 6 with (fail)
 refine qdj (P := fun x => Code.wp _ _ _ _ x) _ ?_
 intro w3 hw3
 have HB3 := qd.mk (show Below wo.heap.size wo w3 from by rw [hw3]; exact qbk (Below.refl _ _) _)
 have HBX := qd.mk (show w3.heap[wo.heap.size]? = some (.cells #[.int .i64 x.f0, .string x.f1, .int .i64 x.f2, .int .i64 x.f3, .int .i64 x.f4, .string x.f5, .string x.f6, .int .i64 x.f7, .slice A8 x.f8.length c8] 29 (0, 0)) from by rw [hw3]; exact qdu wo _)
 clear hw3 q0 q1 q2 q3 q4 q5 q6 q7 q8
 obtain ⟨k, hk⟩ := (qmp x HXF.out).rounds
 obtain ⟨at_, er, he⟩ : ∃ a e, chkE x = (a, e) := ⟨_, _, rfl⟩
 rw [he] at hk
 have HE := qd.mk he
 have HK := qd.mk hk
 clear he hk
 have HW3 := qd.mk (qcn HBW.out (by rw [← HBS.out]; exact HWS.out) HB3.out)
 have HT3 := qd.mk (HT.out.below (by rw [HBS.out]; exact HW3.out))
 have a0 : w3.cell? ⟨wo.heap.size, 0, none⟩ = some (.int .i64 x.f0) := (qg HBX.out 0).trans rfl
 have a1 : w3.cell? ⟨wo.heap.size, 1, none⟩ = some (.string x.f1) := (qg HBX.out 1).trans rfl
 have a2 : w3.cell? ⟨wo.heap.size, 2, none⟩ = some (.int .i64 x.f2) := (qg HBX.out 2).trans rfl
 have a3 : w3.cell? ⟨wo.heap.size, 3, none⟩ = some (.int .i64 x.f3) := (qg HBX.out 3).trans rfl
 have a4 : w3.cell? ⟨wo.heap.size, 4, none⟩ = some (.int .i64 x.f4) := (qg HBX.out 4).trans rfl
 have a5 : w3.cell? ⟨wo.heap.size, 5, none⟩ = some (.string x.f5) := (qg HBX.out 5).trans rfl
 have a6 : w3.cell? ⟨wo.heap.size, 6, none⟩ = some (.string x.f6) := (qg HBX.out 6).trans rfl
 have a7 : w3.cell? ⟨wo.heap.size, 7, none⟩ = some (.int .i64 x.f7) := (qg HBX.out 7).trans rfl
 have a8 : w3.cell? ⟨wo.heap.size, 8, none⟩ = some (.slice A8 x.f8.length c8) := (qg HBX.out 8).trans rfl
 by_cases hchk : er = 0
 rotate_left
 ·have d3 : decide (er = 0) = false := decide_eq_false hchk
  have HER := qd.mk (show qhb l = er from by rw [(qig hlt HFE.out).2 (by rw [HXI.out, HE.out]; exact hchk), HXI.out, HE.out])
  have HRR := qd.mk (show r1 = [] ∧ r2 = er from by
   have := HR.out
   unfold qgh at this
   rw [HER.out, if_neg hchk] at this
   obtain ⟨h1, h2⟩ := Prod.mk.inj this
   exact ⟨h1.symm, h2.symm⟩)
  go_wp2_with (first
   | (go_at_call 47; refine (qde.calls k x.f0 x.f1 x.f2 x.f3 x.f4 x.f5 x.f6 x.f7 A8 c8 x.f8 at_ er _ (Kd.qbw HG8.out HB3.out) HL8.out HK.out HT3.out).mono ?_; rintro e w4 ⟨rfl, hb⟩; have HB4 := qd.mk hb; clear hb a0 a1 a2 a3 a4 a5 a6 a7 a8))
  go_ret2
  exact ⟨.slice none 0 0, by rw [HRR.out.2]; rfl, by rw [HRR.out.1]; exact Kd.qhz _ _ _ _ _, by rw [HBS.out]; exact qcn HW3.out (by rw [← HBS.out]; exact HW3.out.size) HB4.out⟩
 subst hchk
 have HOK := qd.mk (show (chkE x).2 = 0 from by rw [HE.out])
 have HX8 := qd.mk ((qie (qho HOK.out).1).2.1)
 cases hq : selB q x
 ·have HQ := qd.mk hq
  clear hq
  go_wp2_with (first
   | (go_at_call 47; refine (qde.calls k x.f0 x.f1 x.f2 x.f3 x.f4 x.f5 x.f6 x.f7 A8 c8 x.f8 at_ 0 _ (Kd.qbw HG8.out HB3.out) HL8.out HK.out HT3.out).mono ?_; rintro e w4 ⟨rfl, hb⟩; have HB4 := qd.mk hb; have HBX4 := qd.mk (qcj HBX.out hb); have b0 : w4.cell? ⟨wo.heap.size, 0, none⟩ = some (.int .i64 x.f0) := (qg HBX4.out 0).trans rfl; have b1 : w4.cell? ⟨wo.heap.size, 1, none⟩ = some (.string x.f1) := (qg HBX4.out 1).trans rfl; have b2 : w4.cell? ⟨wo.heap.size, 2, none⟩ = some (.int .i64 x.f2) := (qg HBX4.out 2).trans rfl; have b3 : w4.cell? ⟨wo.heap.size, 3, none⟩ = some (.int .i64 x.f3) := (qg HBX4.out 3).trans rfl; have b4 : w4.cell? ⟨wo.heap.size, 4, none⟩ = some (.int .i64 x.f4) := (qg HBX4.out 4).trans rfl; have b5 : w4.cell? ⟨wo.heap.size, 5, none⟩ = some (.string x.f5) := (qg HBX4.out 5).trans rfl; have b6 : w4.cell? ⟨wo.heap.size, 6, none⟩ = some (.string x.f6) := (qg HBX4.out 6).trans rfl; have b7 : w4.cell? ⟨wo.heap.size, 7, none⟩ = some (.int .i64 x.f7) := (qg HBX4.out 7).trans rfl; have b8 : w4.cell? ⟨wo.heap.size, 8, none⟩ = some (.slice A8 x.f8.length c8) := (qg HBX4.out 8).trans rfl; clear hb a0 a1 a2 a3 a4 a5 a6 a7 a8)
   | (go_at_call 106; refine (qjy q x (.slice A8 x.f8.length c8) (base + 1) _ (qcj (qcj HQY.out HB3.out) HB4.out)).mono ?_; rw [HQ.out]; rintro e w5 ⟨rfl, hb⟩; have HB5 := qd.mk hb; clear hb b0 b1 b2 b3 b4 b5 b6 b7 b8))
  have hb5 : Below wo.heap.size wo w5 := qcn (qcn HB3.out HB3.out.size HB4.out) (qcn HB3.out HB3.out.size HB4.out).size HB5.out
  go_roundw
  case rel =>
   refine ⟨i + 1, by omega, by go_num, ⟨(qig hlt HFE.out).1 (by rw [HXI.out]; exact HOK.out)⟩, ⟨?_⟩, ⟨qcj HQY.out hb5⟩, ⟨qcn HBW.out (by rw [← HBS.out]; exact HWS.out) hb5⟩⟩
   rw [qlt hlt, HXI.out, HQ.out]
   exact Kd.qdw HRW.out hb5
  case measure => simp [intOf]; omega
 ·have HQ := qd.mk hq
  clear hq
  obtain ⟨k2, hk2⟩ := (raw_ev x (by have := HX8.out; omega)).rounds
  have HK2 := qd.mk hk2
  clear hk2
  obtain ⟨A7, c7, e7⟩ := Kd.qct HRW.out
  subst e7
  go_wp2_with (first
   | (go_at_call 47; refine (qde.calls k x.f0 x.f1 x.f2 x.f3 x.f4 x.f5 x.f6 x.f7 A8 c8 x.f8 at_ 0 _ (Kd.qbw HG8.out HB3.out) HL8.out HK.out HT3.out).mono ?_; rintro e w4 ⟨rfl, hb⟩; have HB4 := qd.mk (qcn HB3.out HB3.out.size hb); have HBX4 := qd.mk (qcj HBX.out hb); have b0 : w4.cell? ⟨wo.heap.size, 0, none⟩ = some (.int .i64 x.f0) := (qg HBX4.out 0).trans rfl; have b1 : w4.cell? ⟨wo.heap.size, 1, none⟩ = some (.string x.f1) := (qg HBX4.out 1).trans rfl; have b2 : w4.cell? ⟨wo.heap.size, 2, none⟩ = some (.int .i64 x.f2) := (qg HBX4.out 2).trans rfl; have b3 : w4.cell? ⟨wo.heap.size, 3, none⟩ = some (.int .i64 x.f3) := (qg HBX4.out 3).trans rfl; have b4 : w4.cell? ⟨wo.heap.size, 4, none⟩ = some (.int .i64 x.f4) := (qg HBX4.out 4).trans rfl; have b5 : w4.cell? ⟨wo.heap.size, 5, none⟩ = some (.string x.f5) := (qg HBX4.out 5).trans rfl; have b6 : w4.cell? ⟨wo.heap.size, 6, none⟩ = some (.string x.f6) := (qg HBX4.out 6).trans rfl; have b7 : w4.cell? ⟨wo.heap.size, 7, none⟩ = some (.int .i64 x.f7) := (qg HBX4.out 7).trans rfl; have b8 : w4.cell? ⟨wo.heap.size, 8, none⟩ = some (.slice A8 x.f8.length c8) := (qg HBX4.out 8).trans rfl; clear hb a0 a1 a2 a3 a4 a5 a6 a7 a8)
   | (go_at_call 106; refine (qjy q x (.slice A8 x.f8.length c8) (base + 1) _ (qcj HQY.out HB4.out)).mono ?_; rw [HQ.out]; rintro e w5 ⟨rfl, hb⟩; have HB5 := qd.mk (qcn HB4.out HB4.out.size hb); have HBX5 := qd.mk (qcj HBX4.out hb); have d0 : w5.cell? ⟨wo.heap.size, 0, none⟩ = some (.int .i64 x.f0) := (qg HBX5.out 0).trans rfl; have d1 : w5.cell? ⟨wo.heap.size, 1, none⟩ = some (.string x.f1) := (qg HBX5.out 1).trans rfl; have d2 : w5.cell? ⟨wo.heap.size, 2, none⟩ = some (.int .i64 x.f2) := (qg HBX5.out 2).trans rfl; have d3 : w5.cell? ⟨wo.heap.size, 3, none⟩ = some (.int .i64 x.f3) := (qg HBX5.out 3).trans rfl; have d4 : w5.cell? ⟨wo.heap.size, 4, none⟩ = some (.int .i64 x.f4) := (qg HBX5.out 4).trans rfl; have d5 : w5.cell? ⟨wo.heap.size, 5, none⟩ = some (.string x.f5) := (qg HBX5.out 5).trans rfl; have d6 : w5.cell? ⟨wo.heap.size, 6, none⟩ = some (.string x.f6) := (qg HBX5.out 6).trans rfl; have d7 : w5.cell? ⟨wo.heap.size, 7, none⟩ = some (.int .i64 x.f7) := (qg HBX5.out 7).trans rfl; have d8 : w5.cell? ⟨wo.heap.size, 8, none⟩ = some (.slice A8 x.f8.length c8) := (qg HBX5.out 8).trans rfl; clear hb b0 b1 b2 b3 b4 b5 b6 b7 b8)
   | (go_at_call 51; refine (qdx.calls k2 x.f0 x.f1 x.f2 x.f3 x.f4 x.f5 x.f6 x.f7 A8 c8 x.f8 (rawL x) _ (Kd.qbw HG8.out HB5.out) HL8.out HK2.out).mono ?_; rintro e w6 ⟨v6, rfl, hr, hb⟩; obtain ⟨A6, c6, e6⟩ := Kd.qct hr; subst e6; have HR6 := qd.mk hr; have HB6 := qd.mk (qcn HB5.out HB5.out.size hb); clear hb hr d0 d1 d2 d3 d4 d5 d6 d7 d8)
   | ((with_reducible refine qdf (b := .append) (xs := #[.tmp 31, .tmp 33]) rfl ?_); at_builtin; refine Kd.qij k112 (w0 := w) base rfl (.tmp 31) (.tmp 33) 32 112 (.agg #[(.string ⟨#[]⟩), (.string ⟨#[]⟩), (.string ⟨#[]⟩), (.string ⟨#[]⟩), (.string ⟨#[]⟩), (.int .i64 0), (.int .i64 0)]) 96 rfl Tryd.underlying32 qfk rfl (by decide) (by omega) _ (selC (l.take i) q) (rawL x) A6 (rawL x).length c6 (fun _ => True) (fun _ => False) rfl rfl (Kd.qdw HRW.out HB6.out) (Kd.qbt HR6.out).2.2 (fun _ _ h => h) (fun _ h => h.elim) (fun _ _ => trivial) (qcn HBW.out (by rw [← HBS.out]; exact HWS.out) HB6.out) (by have h1 := HBS.out; have h2 := HWS.out; have h3 := HB6.out.size; omega) (by have h1 := take_len q HX8.out HLL.out (HF.out) hlt HFE.out; have h2 := raw_len x; have h3 := HX8.out; omega) ?_; intro v7 w7 ho hb hg _; have HO7 := qd.mk ho; have HB7 := qd.mk hb; have HG7 := qd.mk hg; clear ho hb hg))
  go_roundw
  case rel =>
   refine ⟨i + 1, by omega, by go_num, ⟨(qig hlt HFE.out).1 (by rw [HXI.out]; exact HOK.out)⟩, ⟨?_⟩, ⟨?_⟩, HB7⟩
   ·rw [qlt hlt, HXI.out, HQ.out]
    exact HO7.out
   ·have h6 := qcj HQY.out HB6.out
    exact (HG7.out.block _ (qeo h6) (fun e => by
     obtain ⟨cs, hcs⟩ := Kd.qea (Kd.qdw HRW.out HB6.out) (base + 1) e.symm
     rw [h6] at hcs
     cases hcs)).trans h6
  case measure => simp [intOf]; omega
theorem qeb.calls (A0 : Option Addr) (c0 : Nat) (l0 : List S29) (a1_0 : ByteArray) (a1_1 a1_2 a1_3 : Int) (r1 : List S112) (r2 : Int) (w : World) (hr0 : Kd.C k29 w A0 l0.length l0) (hc0 : l0.length ≤ c0) (h : qeb.f l0 a1_0 a1_1 a1_2 a1_3 = some (r1, r2)) (hT : Tab w) :
  Calls Tryd.prog 27 #[.slice A0 l0.length c0, .agg #[.string a1_0, .int .i64 a1_1, .int .i64 a1_2, .int .i64 a1_3]] w fun e w' => ∃ v0_ : Value, e = .returned (.tuple #[v0_, .int .i64 r2]) ∧ Kd.R k112 112 w' w.heap.size (fun _ => True) v0_ r1 ∧ Below w.heap.size w w' := by
 unfold qeb.f at h
 split at h
 ·rename_i hok
  have hh := Option.some.inj h
  have := replay_calls ⟨a1_0, a1_1, a1_2, a1_3⟩ A0 c0 l0 w hr0 hc0 hok.1 hok.2 hT
  rw [hh] at this
  exact this
 ·cases h
end
end
section
attribute [local go_sem] qfp qfn qgk qgj qex qew qfo qfm
def qdb.f (k : Nat) (l0 : List (S29)) (a1_0 : ByteArray) (a1_1 : Int) (a1_2 : Int) (a1_3 : Int) : Option (Bool) := (qbg.f k l0).bind fun t336 => (if t336 = true then ((qcy.f).bind fun t337 => (some t337)) else ((qeb.f l0 a1_0 a1_1 a1_2 a1_3).bind fun bt338 => ((qbo.f k l0 a1_0 a1_1 a1_2 a1_3).bind fun bt342 => (if bt338.2 = bt342.2 then ((qcd.f k bt338.1 bt342.1).bind fun t346 => (if t346 = true then ((qcy.f).bind fun t347 => (some t347)) else (some false))) else (some false)))))
theorem qdb.calls (k : Nat) (A0 : Option Addr) (c0 : Nat) (l0 : List (S29)) (a1_0 : ByteArray) (a1_1 : Int) (a1_2 : Int) (a1_3 : Int) (r : Bool) (w : World) (hr0 : Kd.C k29 w A0 l0.length l0) (hc0 : l0.length ≤ c0) (h : qdb.f k l0 a1_0 a1_1 a1_2 a1_3 = some r) (hT : Tab w) :
  Calls Tryd.prog 6 #[.slice A0 l0.length c0, .agg #[.string a1_0, .int .i64 a1_1, .int .i64 a1_2, .int .i64 a1_3]] w fun e w' => e = .returned (.bool r) ∧ Below w.heap.size w w' := by
 have HTB := qd.mk hT
 clear hT
 have hu24 := Tryd.underlying24
 have HR0 := qd.mk hr0
 have HC0 := qd.mk hc0
 clear hr0 hc0
 have HB := qd.mk (Below.refl w.heap.size w)
 have H : ((qbg.f k l0).bind fun t336 => (if t336 = true then ((qcy.f).bind fun t337 => (some t337)) else ((qeb.f l0 a1_0 a1_1 a1_2 a1_3).bind fun bt338 => ((qbo.f k l0 a1_0 a1_1 a1_2 a1_3).bind fun bt342 => (if bt338.2 = bt342.2 then ((qcd.f k bt338.1 bt342.1).bind fun t346 => (if t346 = true then ((qcy.f).bind fun t347 => (some t347)) else (some false))) else (some false)))))) = some r := h
 clear h
 replace H := obm H
 obtain ⟨t336, A30, H⟩ := H
 try dsimp only at H
 have A3 := qd.mk A30
 clear A30
 by_cases c4 : t336 = true
 ·subst c4
  have H1 : ((qcy.f).bind fun t337 => (some t337)) = some r := by rw [if_pos rfl] at H; exact H
  clear H
  have H := H1
  clear H1
  replace H := obm H
  obtain ⟨t337, A50, H⟩ := H
  replace H : (some t337) = some r := H
  have A5 := qd.mk A50
  clear A50
  obtain rfl := Option.some.inj H
  go_enter Tryd.func6, Tryd.ntmps6
  go_wp2_with (first | ((with_reducible refine qbx (N := 3) rfl ?_); refine qbu ?hg (N := 3) ?hd (cs := #[.string a1_0, .int .i64 a1_1, .int .i64 a1_2, .int .i64 a1_3]) (t := 24) ?hr ?_; (case hd => rfl); (case hg => rfl); (case hr => first | (go_simp; done) | (go_simp; rfl)); intro gb335 hg w6 hbox hb; have n0_ := qd.mk (qw (bw_) hb); have n1_ := qd.mk (hbox); have n2_ := qd.mk (gw_ (w := w) hg); have n3_ := qd.mk (gw_ (w := w) hg); clear HB; have HB := n0_; have BK335 := n1_; have GW335 := n2_; have GE335 := n3_; clear n0_ n1_ n2_ n3_; clear hb hbox hg) | ((with_reducible refine qbf (f := 16) rfl ?_); refine qcp (some 10) rfl rfl Tryd.func16 (by kernel_rfl) rfl #[.slice A0 l0.length c0] rfl ml_ ?_; (with_reducible refine (qbg.calls k _ _ l0 true _ ?side1 ?side2 A3.out).mono ?_); (case side1 => repeat (first | exact (Kd.qbw HR0.out HB.out) | exact (Kd.qcf (Kd.qbw HR0.out HB.out) _) | (with_reducible refine Kd.qck ?_ _) | (with_reducible refine Kd.qcf ?_ _) | (with_reducible refine Kd.qcz ?_))); (case side2 => exact HC0.out); rintro e w7 ⟨rfl, hb⟩; refine ⟨_, rfl, ?_⟩; have n0_ := qd.mk (bb_ BK335 hb); have n1_ := qd.mk (qw (bwx_) hb); clear BK335; clear HB; have BK335 := n0_; have HB := n1_; clear n0_ n1_; (try clear hb); (try clear hb2); (try clear hk); (try clear hi)) | ((with_reducible refine qbf (f := 17) rfl ?_); refine qcp (some 11) rfl rfl Tryd.func17 (by kernel_rfl) rfl #[] rfl ml_ ?_; (with_reducible refine (qcy.calls  t337 _ A5.out (by first | exact HTB.out | (exact Tab.below HTB.out (by repeat (first | (with_reducible first | exact HB.out | apply qbk | apply qbn | apply qcq | apply pw_below_drew) | exact HB.out | refine qdm ?_ (qd.out (by assumption))))) | (repeat (first | exact HTB.out | apply Tab.alloc | apply Tab.drewN | apply Tab.drew)))).mono ?_); rintro e w8 ⟨rfl, hb⟩; refine ⟨_, rfl, ?_⟩; have n0_ := qd.mk (bb_ BK335 hb); have n1_ := qd.mk (qw (bwx_) hb); clear BK335; clear HB; have BK335 := n0_; have HB := n1_; clear n0_ n1_; (try clear hb); (try clear hb2); (try clear hk); (try clear hi)))
  go_ret
  exact ⟨ew_, bwx_⟩
 ·replace c4 := Bool.eq_false_iff.mpr c4
  subst c4
  have H1 : ((qeb.f l0 a1_0 a1_1 a1_2 a1_3).bind fun bt338 => ((qbo.f k l0 a1_0 a1_1 a1_2 a1_3).bind fun bt342 => (if bt338.2 = bt342.2 then ((qcd.f k bt338.1 bt342.1).bind fun t346 => (if t346 = true then ((qcy.f).bind fun t347 => (some t347)) else (some false))) else (some false)))) = some r := by rw [if_neg (show ¬ (false = true) by decide)] at H; exact H
  clear H
  have H := H1
  clear H1
  replace H := obm H
  obtain ⟨⟨t338, t341⟩, A90, H⟩ := H
  try dsimp only at H
  have A9 := qd.mk A90
  clear A90
  replace H := obm H
  obtain ⟨⟨t342, t345⟩, A100, H⟩ := H
  try dsimp only at H
  have A10 := qd.mk A100
  clear A100
  by_cases c11 : t341 = t345
  ·rw [if_pos c11] at H
   have c11b0 : (t341 == t345) = true := beq_iff_eq.mpr c11
   have c11b1 : (t341 != t345) = false := bne_eq_false_iff_eq.mpr c11
   clear c11
   replace H := obm H
   obtain ⟨t346, A120, H⟩ := H
   try dsimp only at H
   have A12 := qd.mk A120
   clear A120
   by_cases c13 : t346 = true
   rotate_left
   ·replace c13 := Bool.eq_false_iff.mpr c13
    subst c13
    have H1 : (some false) = some r := by rw [if_neg (show ¬ (false = true) by decide)] at H; exact H
    clear H
    have H := H1
    clear H1
    obtain rfl := Option.some.inj H
    go_enter Tryd.func6, Tryd.ntmps6
    go_wp2_with (first | ((with_reducible refine qbx (N := 3) rfl ?_); refine qbu ?hg (N := 3) ?hd (cs := #[.string a1_0, .int .i64 a1_1, .int .i64 a1_2, .int .i64 a1_3]) (t := 24) ?hr ?_; (case hd => rfl); (case hg => rfl); (case hr => first | (go_simp; done) | (go_simp; rfl)); intro gb335 hg w24 hbox hb; have n0_ := qd.mk (qw (bw_) hb); have n1_ := qd.mk (hbox); have n2_ := qd.mk (gw_ (w := w) hg); have n3_ := qd.mk (gw_ (w := w) hg); clear HB; have HB := n0_; have BK335 := n1_; have GW335 := n2_; have GE335 := n3_; clear n0_ n1_ n2_ n3_; clear hb hbox hg) | ((with_reducible refine qbf (f := 16) rfl ?_); refine qcp (some 10) rfl rfl Tryd.func16 (by kernel_rfl) rfl #[.slice A0 l0.length c0] rfl ml_ ?_; (with_reducible refine (qbg.calls k _ _ l0 false _ ?side1 ?side2 A3.out).mono ?_); (case side1 => repeat (first | exact (Kd.qbw HR0.out HB.out) | exact (Kd.qcf (Kd.qbw HR0.out HB.out) _) | (with_reducible refine Kd.qck ?_ _) | (with_reducible refine Kd.qcf ?_ _) | (with_reducible refine Kd.qcz ?_))); (case side2 => exact HC0.out); rintro e w25 ⟨rfl, hb⟩; refine ⟨_, rfl, ?_⟩; have n0_ := qd.mk (bb_ BK335 hb); have n1_ := qd.mk (qw (bwx_) hb); clear BK335; clear HB; have BK335 := n0_; have HB := n1_; clear n0_ n1_; (try clear hb); (try clear hb2); (try clear hk); (try clear hi); obtain ⟨cz26_0, cz26_1, cz26_2, cz26_3⟩ := bc4_ (w := w25) BK335.out; obtain ⟨fz26_0, fz26_1, fz26_2, fz26_3⟩ := bf4_ BK335.out) | ((with_reducible refine qbf (f := 27) rfl ?_); refine qcp (some 15) rfl rfl Tryd.func27 (by kernel_rfl) rfl #[.slice A0 l0.length c0, .agg #[.string a1_0, .int .i64 a1_1, .int .i64 a1_2, .int .i64 a1_3]] rfl ml_ ?_; (with_reducible refine (qeb.calls _ _ l0 a1_0 a1_1 a1_2 a1_3 t338 t341 _ ?side1 ?side2 A9.out (by first | exact HTB.out | (exact Tab.below HTB.out (by repeat (first | (with_reducible first | exact HB.out | apply qbk | apply qbn | apply qcq | apply pw_below_drew) | exact HB.out | refine qdm ?_ (qd.out (by assumption))))) | (repeat (first | exact HTB.out | apply Tab.alloc | apply Tab.drewN | apply Tab.drew)))).mono ?_); (case side1 => repeat (first | exact (Kd.qbw HR0.out HB.out) | exact (Kd.qcf (Kd.qbw HR0.out HB.out) _) | (with_reducible refine Kd.qck ?_ _) | (with_reducible refine Kd.qcf ?_ _) | (with_reducible refine Kd.qcz ?_))); (case side2 => exact HC0.out); rintro e w27 ⟨v339, rfl, ho0, hb⟩; refine ⟨_, rfl, ?_⟩; have n0_ := qd.mk (Kd.qec ho0 (qcm (bwx_))); have n1_ := qd.mk (bb_ BK335 hb); have n2_ := qd.mk (qw (bwx_) hb); clear BK335; clear HB; have HO340 := n0_; have BK335 := n1_; have HB := n2_; clear n0_ n1_ n2_; (try clear hb); (try clear hb2); (try clear hk); (try clear hi); (try clear ho0); obtain ⟨cz28_0, cz28_1, cz28_2, cz28_3⟩ := bc4_ (w := w27) BK335.out; obtain ⟨fz28_0, fz28_1, fz28_2, fz28_3⟩ := bf4_ BK335.out) | ((with_reducible refine qbf (f := 28) rfl ?_); refine qcp (some 21) rfl rfl Tryd.func28 (by kernel_rfl) rfl #[.slice A0 l0.length c0, .agg #[.string a1_0, .int .i64 a1_1, .int .i64 a1_2, .int .i64 a1_3]] rfl ml_ ?_; (with_reducible refine (qbo.calls k _ _ l0 a1_0 a1_1 a1_2 a1_3 t342 t345 _ ?side1 ?side2 A10.out).mono ?_); (case side1 => repeat (first | exact (Kd.qbw HR0.out HB.out) | exact (Kd.qcf (Kd.qbw HR0.out HB.out) _) | (with_reducible refine Kd.qck ?_ _) | (with_reducible refine Kd.qcf ?_ _) | (with_reducible refine Kd.qcz ?_))); (case side2 => exact HC0.out); rintro e w29 ⟨v343, rfl, ho0, hb⟩; refine ⟨_, rfl, ?_⟩; have n0_ := qd.mk (Kd.qhk (by (with_reducible repeat (first | apply Kd.R_alloc | apply Kd.qbj | apply Kd.qbl)); exact HO340.out) (Kd.qkx ho0) hb); have n1_ := qd.mk (Kd.qec (Kd.qkw ho0 (Kd.R_lt (by (with_reducible repeat (first | apply Kd.R_alloc | apply Kd.qbj | apply Kd.qbl)); exact HO340.out))) (qcm (bwx_))); have n2_ := qd.mk (bb_ BK335 hb); have n3_ := qd.mk (qw (bwx_) hb); clear HO340; clear BK335; clear HB; have HO340 := n0_; have HO344 := n1_; have BK335 := n2_; have HB := n3_; clear n0_ n1_ n2_ n3_; (try clear hb); (try clear hb2); (try clear hk); (try clear hi); (try clear ho0); obtain ⟨Ao30, co30, eo30⟩ := Kd.qct HO340.out; subst eo30; obtain ⟨Ao31, co31, eo31⟩ := Kd.qct HO344.out; subst eo31) | (go_at_call 21; (with_reducible refine (qcd.calls k _ _ t338 _ _ t342 false _ ?side1 ?side2 ?side3 ?side4 A12.out).mono ?_); (case side1 => repeat (first | exact (Kd.qbt HO340.out).2.2 | (with_reducible refine Kd.qck ?_ _) | (with_reducible refine Kd.qcf ?_ _) | (with_reducible refine Kd.qcz ?_))); (case side2 => exact (Kd.qbt HO340.out).2.1); (case side3 => repeat (first | exact (Kd.qbt HO344.out).2.2 | (with_reducible refine Kd.qck ?_ _) | (with_reducible refine Kd.qcf ?_ _) | (with_reducible refine Kd.qcz ?_))); (case side4 => exact (Kd.qbt HO344.out).2.1); rintro e w' ⟨rfl, ⟨nd, rfl⟩⟩))
    go_ret
    exact ⟨ew_, bwx_⟩
   subst c13
   have H1 : ((qcy.f).bind fun t347 => (some t347)) = some r := by rw [if_pos rfl] at H; exact H
   clear H
   have H := H1
   clear H1
   replace H := obm H
   obtain ⟨t347, A140, H⟩ := H
   replace H : (some t347) = some r := H
   have A14 := qd.mk A140
   clear A140
   obtain rfl := Option.some.inj H
   go_enter Tryd.func6, Tryd.ntmps6
   go_wp2_with (first | ((with_reducible refine qbx (N := 3) rfl ?_); refine qbu ?hg (N := 3) ?hd (cs := #[.string a1_0, .int .i64 a1_1, .int .i64 a1_2, .int .i64 a1_3]) (t := 24) ?hr ?_; (case hd => rfl); (case hg => rfl); (case hr => first | (go_simp; done) | (go_simp; rfl)); intro gb335 hg w15 hbox hb; have n0_ := qd.mk (qw (bw_) hb); have n1_ := qd.mk (hbox); have n2_ := qd.mk (gw_ (w := w) hg); have n3_ := qd.mk (gw_ (w := w) hg); clear HB; have HB := n0_; have BK335 := n1_; have GW335 := n2_; have GE335 := n3_; clear n0_ n1_ n2_ n3_; clear hb hbox hg) | ((with_reducible refine qbf (f := 16) rfl ?_); refine qcp (some 10) rfl rfl Tryd.func16 (by kernel_rfl) rfl #[.slice A0 l0.length c0] rfl ml_ ?_; (with_reducible refine (qbg.calls k _ _ l0 false _ ?side1 ?side2 A3.out).mono ?_); (case side1 => repeat (first | exact (Kd.qbw HR0.out HB.out) | exact (Kd.qcf (Kd.qbw HR0.out HB.out) _) | (with_reducible refine Kd.qck ?_ _) | (with_reducible refine Kd.qcf ?_ _) | (with_reducible refine Kd.qcz ?_))); (case side2 => exact HC0.out); rintro e w16 ⟨rfl, hb⟩; refine ⟨_, rfl, ?_⟩; have n0_ := qd.mk (bb_ BK335 hb); have n1_ := qd.mk (qw (bwx_) hb); clear BK335; clear HB; have BK335 := n0_; have HB := n1_; clear n0_ n1_; (try clear hb); (try clear hb2); (try clear hk); (try clear hi); obtain ⟨cz17_0, cz17_1, cz17_2, cz17_3⟩ := bc4_ (w := w16) BK335.out; obtain ⟨fz17_0, fz17_1, fz17_2, fz17_3⟩ := bf4_ BK335.out) | ((with_reducible refine qbf (f := 27) rfl ?_); refine qcp (some 15) rfl rfl Tryd.func27 (by kernel_rfl) rfl #[.slice A0 l0.length c0, .agg #[.string a1_0, .int .i64 a1_1, .int .i64 a1_2, .int .i64 a1_3]] rfl ml_ ?_; (with_reducible refine (qeb.calls _ _ l0 a1_0 a1_1 a1_2 a1_3 t338 t341 _ ?side1 ?side2 A9.out (by first | exact HTB.out | (exact Tab.below HTB.out (by repeat (first | (with_reducible first | exact HB.out | apply qbk | apply qbn | apply qcq | apply pw_below_drew) | exact HB.out | refine qdm ?_ (qd.out (by assumption))))) | (repeat (first | exact HTB.out | apply Tab.alloc | apply Tab.drewN | apply Tab.drew)))).mono ?_); (case side1 => repeat (first | exact (Kd.qbw HR0.out HB.out) | exact (Kd.qcf (Kd.qbw HR0.out HB.out) _) | (with_reducible refine Kd.qck ?_ _) | (with_reducible refine Kd.qcf ?_ _) | (with_reducible refine Kd.qcz ?_))); (case side2 => exact HC0.out); rintro e w18 ⟨v339, rfl, ho0, hb⟩; refine ⟨_, rfl, ?_⟩; have n0_ := qd.mk (Kd.qec ho0 (qcm (bwx_))); have n1_ := qd.mk (bb_ BK335 hb); have n2_ := qd.mk (qw (bwx_) hb); clear BK335; clear HB; have HO340 := n0_; have BK335 := n1_; have HB := n2_; clear n0_ n1_ n2_; (try clear hb); (try clear hb2); (try clear hk); (try clear hi); (try clear ho0); obtain ⟨cz19_0, cz19_1, cz19_2, cz19_3⟩ := bc4_ (w := w18) BK335.out; obtain ⟨fz19_0, fz19_1, fz19_2, fz19_3⟩ := bf4_ BK335.out) | ((with_reducible refine qbf (f := 28) rfl ?_); refine qcp (some 21) rfl rfl Tryd.func28 (by kernel_rfl) rfl #[.slice A0 l0.length c0, .agg #[.string a1_0, .int .i64 a1_1, .int .i64 a1_2, .int .i64 a1_3]] rfl ml_ ?_; (with_reducible refine (qbo.calls k _ _ l0 a1_0 a1_1 a1_2 a1_3 t342 t345 _ ?side1 ?side2 A10.out).mono ?_); (case side1 => repeat (first | exact (Kd.qbw HR0.out HB.out) | exact (Kd.qcf (Kd.qbw HR0.out HB.out) _) | (with_reducible refine Kd.qck ?_ _) | (with_reducible refine Kd.qcf ?_ _) | (with_reducible refine Kd.qcz ?_))); (case side2 => exact HC0.out); rintro e w20 ⟨v343, rfl, ho0, hb⟩; refine ⟨_, rfl, ?_⟩; have n0_ := qd.mk (Kd.qhk (by (with_reducible repeat (first | apply Kd.R_alloc | apply Kd.qbj | apply Kd.qbl)); exact HO340.out) (Kd.qkx ho0) hb); have n1_ := qd.mk (Kd.qec (Kd.qkw ho0 (Kd.R_lt (by (with_reducible repeat (first | apply Kd.R_alloc | apply Kd.qbj | apply Kd.qbl)); exact HO340.out))) (qcm (bwx_))); have n2_ := qd.mk (bb_ BK335 hb); have n3_ := qd.mk (qw (bwx_) hb); clear HO340; clear BK335; clear HB; have HO340 := n0_; have HO344 := n1_; have BK335 := n2_; have HB := n3_; clear n0_ n1_ n2_ n3_; (try clear hb); (try clear hb2); (try clear hk); (try clear hi); (try clear ho0); obtain ⟨Ao21, co21, eo21⟩ := Kd.qct HO340.out; subst eo21; obtain ⟨Ao22, co22, eo22⟩ := Kd.qct HO344.out; subst eo22) | (go_at_call 21; (with_reducible refine (qcd.calls k _ _ t338 _ _ t342 true _ ?side1 ?side2 ?side3 ?side4 A12.out).mono ?_); (case side1 => repeat (first | exact (Kd.qbt HO340.out).2.2 | (with_reducible refine Kd.qck ?_ _) | (with_reducible refine Kd.qcf ?_ _) | (with_reducible refine Kd.qcz ?_))); (case side2 => exact (Kd.qbt HO340.out).2.1); (case side3 => repeat (first | exact (Kd.qbt HO344.out).2.2 | (with_reducible refine Kd.qck ?_ _) | (with_reducible refine Kd.qcf ?_ _) | (with_reducible refine Kd.qcz ?_))); (case side4 => exact (Kd.qbt HO344.out).2.1); rintro e w' ⟨rfl, ⟨nd, rfl⟩⟩) | (go_at_call 17; (with_reducible refine (qcy.calls  t347 _ A14.out (by first | exact HTB.out | (exact Tab.below HTB.out (by repeat (first | (with_reducible first | exact HB.out | apply qbk | apply qbn | apply qcq | apply pw_below_drew) | exact HB.out | refine qdm ?_ (qd.out (by assumption))))) | (repeat (first | exact HTB.out | apply Tab.alloc | apply Tab.drewN | apply Tab.drew)))).mono ?_); rintro e w23 ⟨rfl, hb⟩; have n0_ := qd.mk (Kd.qdw (by (with_reducible repeat (first | apply Kd.R_alloc | apply Kd.qbj | apply Kd.qbl)); exact HO340.out) hb); have n1_ := qd.mk (Kd.qdw (by (with_reducible repeat (first | apply Kd.R_alloc | apply Kd.qbj | apply Kd.qbl)); exact HO344.out) hb); have n2_ := qd.mk (bb_ BK335 hb); have n3_ := qd.mk (qw (bwx_) hb); clear HO340; clear HO344; clear BK335; clear HB; have HO340 := n0_; have HO344 := n1_; have BK335 := n2_; have HB := n3_; clear n0_ n1_ n2_ n3_; (try clear hb); (try clear hb2); (try clear hk); (try clear hi)))
   go_ret
   exact ⟨ew_, bwx_⟩
  ·rw [if_neg c11] at H
   have c11b0 : (t341 == t345) = false := beq_eq_false_iff_ne.mpr c11
   have c11b1 : (t341 != t345) = true := bne_iff_ne.mpr c11
   obtain rfl := Option.some.inj H
   go_enter Tryd.func6, Tryd.ntmps6
   go_wp2_with (first | ((with_reducible refine qbx (N := 3) rfl ?_); refine qbu ?hg (N := 3) ?hd (cs := #[.string a1_0, .int .i64 a1_1, .int .i64 a1_2, .int .i64 a1_3]) (t := 24) ?hr ?_; (case hd => rfl); (case hg => rfl); (case hr => first | (go_simp; done) | (go_simp; rfl)); intro gb335 hg w32 hbox hb; have n0_ := qd.mk (qw (bw_) hb); have n1_ := qd.mk (hbox); have n2_ := qd.mk (gw_ (w := w) hg); have n3_ := qd.mk (gw_ (w := w) hg); clear HB; have HB := n0_; have BK335 := n1_; have GW335 := n2_; have GE335 := n3_; clear n0_ n1_ n2_ n3_; clear hb hbox hg) | ((with_reducible refine qbf (f := 16) rfl ?_); refine qcp (some 10) rfl rfl Tryd.func16 (by kernel_rfl) rfl #[.slice A0 l0.length c0] rfl ml_ ?_; (with_reducible refine (qbg.calls k _ _ l0 false _ ?side1 ?side2 A3.out).mono ?_); (case side1 => repeat (first | exact (Kd.qbw HR0.out HB.out) | exact (Kd.qcf (Kd.qbw HR0.out HB.out) _) | (with_reducible refine Kd.qck ?_ _) | (with_reducible refine Kd.qcf ?_ _) | (with_reducible refine Kd.qcz ?_))); (case side2 => exact HC0.out); rintro e w33 ⟨rfl, hb⟩; refine ⟨_, rfl, ?_⟩; have n0_ := qd.mk (bb_ BK335 hb); have n1_ := qd.mk (qw (bwx_) hb); clear BK335; clear HB; have BK335 := n0_; have HB := n1_; clear n0_ n1_; (try clear hb); (try clear hb2); (try clear hk); (try clear hi); obtain ⟨cz34_0, cz34_1, cz34_2, cz34_3⟩ := bc4_ (w := w33) BK335.out; obtain ⟨fz34_0, fz34_1, fz34_2, fz34_3⟩ := bf4_ BK335.out) | ((with_reducible refine qbf (f := 27) rfl ?_); refine qcp (some 15) rfl rfl Tryd.func27 (by kernel_rfl) rfl #[.slice A0 l0.length c0, .agg #[.string a1_0, .int .i64 a1_1, .int .i64 a1_2, .int .i64 a1_3]] rfl ml_ ?_; (with_reducible refine (qeb.calls _ _ l0 a1_0 a1_1 a1_2 a1_3 t338 t341 _ ?side1 ?side2 A9.out (by first | exact HTB.out | (exact Tab.below HTB.out (by repeat (first | (with_reducible first | exact HB.out | apply qbk | apply qbn | apply qcq | apply pw_below_drew) | exact HB.out | refine qdm ?_ (qd.out (by assumption))))) | (repeat (first | exact HTB.out | apply Tab.alloc | apply Tab.drewN | apply Tab.drew)))).mono ?_); (case side1 => repeat (first | exact (Kd.qbw HR0.out HB.out) | exact (Kd.qcf (Kd.qbw HR0.out HB.out) _) | (with_reducible refine Kd.qck ?_ _) | (with_reducible refine Kd.qcf ?_ _) | (with_reducible refine Kd.qcz ?_))); (case side2 => exact HC0.out); rintro e w35 ⟨v339, rfl, ho0, hb⟩; refine ⟨_, rfl, ?_⟩; have n0_ := qd.mk (Kd.qec ho0 (qcm (bwx_))); have n1_ := qd.mk (bb_ BK335 hb); have n2_ := qd.mk (qw (bwx_) hb); clear BK335; clear HB; have HO340 := n0_; have BK335 := n1_; have HB := n2_; clear n0_ n1_ n2_; (try clear hb); (try clear hb2); (try clear hk); (try clear hi); (try clear ho0); obtain ⟨cz36_0, cz36_1, cz36_2, cz36_3⟩ := bc4_ (w := w35) BK335.out; obtain ⟨fz36_0, fz36_1, fz36_2, fz36_3⟩ := bf4_ BK335.out) | ((with_reducible refine qbf (f := 28) rfl ?_); refine qcp (some 21) rfl rfl Tryd.func28 (by kernel_rfl) rfl #[.slice A0 l0.length c0, .agg #[.string a1_0, .int .i64 a1_1, .int .i64 a1_2, .int .i64 a1_3]] rfl ml_ ?_; (with_reducible refine (qbo.calls k _ _ l0 a1_0 a1_1 a1_2 a1_3 t342 t345 _ ?side1 ?side2 A10.out).mono ?_); (case side1 => repeat (first | exact (Kd.qbw HR0.out HB.out) | exact (Kd.qcf (Kd.qbw HR0.out HB.out) _) | (with_reducible refine Kd.qck ?_ _) | (with_reducible refine Kd.qcf ?_ _) | (with_reducible refine Kd.qcz ?_))); (case side2 => exact HC0.out); rintro e w37 ⟨v343, rfl, ho0, hb⟩; refine ⟨_, rfl, ?_⟩; have n0_ := qd.mk (Kd.qhk (by (with_reducible repeat (first | apply Kd.R_alloc | apply Kd.qbj | apply Kd.qbl)); exact HO340.out) (Kd.qkx ho0) hb); have n1_ := qd.mk (Kd.qec (Kd.qkw ho0 (Kd.R_lt (by (with_reducible repeat (first | apply Kd.R_alloc | apply Kd.qbj | apply Kd.qbl)); exact HO340.out))) (qcm (bwx_))); have n2_ := qd.mk (bb_ BK335 hb); have n3_ := qd.mk (qw (bwx_) hb); clear HO340; clear BK335; clear HB; have HO340 := n0_; have HO344 := n1_; have BK335 := n2_; have HB := n3_; clear n0_ n1_ n2_ n3_; (try clear hb); (try clear hb2); (try clear hk); (try clear hi); (try clear ho0)))
   go_ret
   exact ⟨ew_, bwx_⟩
end
section
open Go.Proofs.YtppcjoaghlecmaaDoor.Op
def qdb.Pure : Prop := ∀ (l0 : List (S29)) (a1 : S24), (FitL fit29) l0 → fit24 a1 → ∃ k, qdb.f k l0 a1.f0 a1.f1 a1.f2 a1.f3 = some true
end
section
open Go.Proofs.YtppcjoaghlecmaaDoor.Op
def okLn (y : S109) : Prop := y.f0.size ≤ 140737488351232 ∧ y.f1.size ≤ 140737488351232 ∧ y.f4.size ≤ 140737488351232 ∧ y.f5.size ≤ 140737488351232 ∧ y.f6.length ≤ 140737488351232 ∧ ∀ t ∈ y.f6, t.f0.size ≤ 140737488351232 ∧ t.f1.size ≤ 140737488351232
def okEn (x : S29) : Prop := x.f1.size ≤ 140737488351232 ∧ x.f5.size ≤ 140737488351232 ∧ x.f6.size ≤ 140737488351232 ∧ x.f8.length ≤ 140737488351232 ∧ ∀ y ∈ x.f8, okLn y
instance (y : S109) : Decidable (okLn y) := by unfold okLn; exact inferInstance
instance (x : S29) : Decidable (okEn x) := by unfold okEn; exact inferInstance
theorem qkb : reachBytes = 140737488351232 := by decide
theorem fit_okLn {y : S109} (h : fit109 y) : okLn y := by
 obtain ⟨h0, h1, _, _, h4, h5, h6, h7⟩ := h
 unfold okLn
 rw [← qkb]
 exact ⟨h0, h1, h4, h5, h6, fun t ht => ⟨(h7 t ht).1, (h7 t ht).2⟩⟩
theorem fit_ok {x : S29} (h : fit29 x) : okEn x := by
 obtain ⟨_, h1, _, _, _, h5, h6, _, h8, h9⟩ := h
 unfold okEn
 rw [← qkb]
 exact ⟨h1, h5, h6, h8, fun y hy => fit_okLn (h9 y hy)⟩
def lnB (y : S109) : Bool := decide (20 < y.f6.length) || decide (400 < y.f0.size + y.f1.size + y.f4.size + y.f5.size)
def lgs : Nat → List S29 → Bool
 | _, [] => false
 | n, x :: r => (decide (400 < n + x.f8.length) || decide (400 < x.f1.size + x.f5.size + x.f6.size)) || (x.f8.any lnB || lgs (n + x.f8.length) r)
def largeB (l : List S29) : Bool := decide (40 < l.length) || lgs 0 l
theorem rd29 {l : List S29} {i : Nat} (h : i < l.length) : qbi l (i : Int) = l[i] := by
 simp [qbi, h]
theorem ln_f (y : S109) (h : okLn y) : (if ((y.f6.length : Int) > 20) then (some true : Option Bool) else (if (wrap64 ((wrap64 ((wrap64 ((y.f0.size : Int) + (y.f1.size : Int))) + (y.f4.size : Int))) + (y.f5.size : Int))) > 400 then some true else none)) = if lnB y = true then some true else none := by
 obtain ⟨h0, h1, h4, h5, h6, _⟩ := h
 rw [w64t (x := (y.f0.size : Int) + (y.f1.size : Int)) (by omega) (by omega), w64t (x := (y.f0.size : Int) + (y.f1.size : Int) + (y.f4.size : Int)) (by omega) (by omega), w64t (by omega) (by omega)]
 unfold lnB
 by_cases c1 : 20 < y.f6.length
 ·rw [if_pos (show (y.f6.length : Int) > 20 by omega), decide_eq_true c1, Bool.true_or]; rfl
 ·rw [if_neg (show ¬ (y.f6.length : Int) > 20 by omega), decide_eq_false c1, Bool.false_or]
  by_cases c2 : 400 < y.f0.size + y.f1.size + y.f4.size + y.f5.size
  ·rw [if_pos (show (y.f0.size : Int) + (y.f1.size : Int) + (y.f4.size : Int) + (y.f5.size : Int) > 400 by omega), decide_eq_true c2]; rfl
  ·rw [if_neg (show ¬ (y.f0.size : Int) + (y.f1.size : Int) + (y.f4.size : Int) + (y.f5.size : Int) > 400 by omega), decide_eq_false c2]; rfl
theorem large_l1 (l : List S29) (hl : l.length ≤ 40) (hf : ∀ x ∈ l, okEn x) (i : Nat) (hi : i < l.length) (z : Int) (r : Bool) (hr : Ev (fun k => qbg.l0 k l z ((i + 1 : Nat) : Int)) r) : ∀ (n j : Nat), (l[i]).f8.length - j = n → j ≤ (l[i]).f8.length → Ev (fun k => qbg.l1 k l z (i : Int) (j : Int)) (((l[i]).f8.drop j).any lnB || r) := by
 have hx := hf _ (List.getElem_mem hi)
 have hlen := hx.2.2.2.1
 intro n
 induction n with
 | zero =>
  intro j hn hj
  obtain rfl : j = (l[i]).f8.length := by omega
  refine Ev.step (fun k => qbg.l1.eq_2 _ _ _ _ k) ?_
  have hw := hw1 i (by omega)
  simp only [if_pos (show (0 : Int) ≤ (i : Int) by omega), if_pos (show (i : Int) < (l.length : Int) by omega), rd29 hi, if_neg (show ¬ (((l[i]).f8.length : Int) < ((l[i]).f8.length : Int)) by omega), hw, List.drop_length, List.any_nil, Bool.false_or]
  exact hr
 | succ n ih =>
  intro j hn hj
  have hjl : j < (l[i]).f8.length := by omega
  have hy := hx.2.2.2.2 _ (List.getElem_mem hjl)
  refine Ev.step (fun k => qbg.l1.eq_2 _ _ _ _ k) ?_
  have hw : wrap64 ((j : Int) + 1) = ((j + 1 : Nat) : Int) := by rw [w64t (by omega) (by omega)]; omega
  simp only [if_pos (show (0 : Int) ≤ (i : Int) by omega), if_pos (show (i : Int) < (l.length : Int) by omega), rd29 hi, if_pos (show ((j : Int) < ((l[i]).f8.length : Int)) by omega), if_pos (show (0 : Int) ≤ (j : Int) by omega), rd109 hjl, hw]
  rw [List.drop_eq_getElem_cons hjl, List.any_cons]
  have hL := ln_f _ hy
  have hi' := ih (j + 1) (by omega) (by omega)
  generalize (l[i]).f8[j] = y at hL
  by_cases c1 : (y.f6.length : Int) > 20
  ·simp only [if_pos c1]
   rw [if_pos c1] at hL
   have : lnB y = true := by
    by_cases c : lnB y = true
    ·exact c
    ·rw [if_neg c] at hL; cases hL
   rw [this, Bool.true_or, Bool.true_or]
   exact Ev.now _
  ·simp only [if_neg c1]
   rw [if_neg c1] at hL
   by_cases c2 : wrap64 (wrap64 (wrap64 ((y.f0.size : Int) + (y.f1.size : Int)) + (y.f4.size : Int)) + (y.f5.size : Int)) > 400
   ·simp only [if_pos c2]
    rw [if_pos c2] at hL
    have : lnB y = true := by
     by_cases c : lnB y = true
     ·exact c
     ·rw [if_neg c] at hL; cases hL
    rw [this, Bool.true_or, Bool.true_or]
    exact Ev.now _
   ·simp only [if_neg c2]
    rw [if_neg c2] at hL
    have : lnB y = false := by
     by_cases c : lnB y = true
     ·rw [if_pos c] at hL; cases hL
     ·simpa using c
    rw [this, Bool.false_or]
    exact hi'
theorem large_l0 (l : List S29) (hl : l.length ≤ 40) (hf : ∀ x ∈ l, okEn x) : ∀ (n i z : Nat), l.length - i = n → i ≤ l.length → z ≤ 400 → Ev (fun k => qbg.l0 k l (z : Int) (i : Int)) (lgs z (l.drop i)) := by
 intro n
 induction n with
 | zero =>
  intro i z hn hi hz
  obtain rfl : i = l.length := by omega
  refine Ev.step (fun k => qbg.l0.eq_2 _ _ _ k) ?_
  simp only [if_neg (show ¬ ((l.length : Int) < (l.length : Int)) by omega), List.drop_length, lgs]
  exact Ev.now _
 | succ n ih =>
  intro i z hn hi hz
  have hil : i < l.length := by omega
  have hx := hf _ (List.getElem_mem hil)
  obtain ⟨h1, h5, h6, hlen, _⟩ := hx
  refine Ev.step (fun k => qbg.l0.eq_2 _ _ _ k) ?_
  simp only [if_pos (show ((i : Int) < (l.length : Int)) by omega), if_pos (show (0 : Int) ≤ (i : Int) by omega), rd29 hil]
  rw [w64t (x := (z : Int) + ((l[i]).f8.length : Int)) (by omega) (by omega)]
  rw [w64t (x := ((l[i]).f1.size : Int) + ((l[i]).f5.size : Int)) (by omega) (by omega), w64t (x := ((l[i]).f1.size : Int) + ((l[i]).f5.size : Int) + ((l[i]).f6.size : Int)) (by omega) (by omega)]
  rw [show (z : Int) + ((l[i]).f8.length : Int) = ((z + (l[i]).f8.length : Nat) : Int) by omega]
  rw [List.drop_eq_getElem_cons hil]
  unfold lgs
  have bad : ∀ (z' : Int), Ev (fun k => qbg.j1 k l z' (i : Int) true) true := fun z' => by
   refine Ev.step (fun k => qbg.j1.eq_2 _ _ _ _ k) ?_
   simp only [if_true]
   exact Ev.now _
  by_cases c1 : 400 < z + (l[i]).f8.length
  ·simp only [if_pos (show ((z + (l[i]).f8.length : Nat) : Int) > 400 by omega)]
   rw [decide_eq_true c1, Bool.true_or, Bool.true_or]
   exact bad _
  ·simp only [if_neg (show ¬ ((z + (l[i]).f8.length : Nat) : Int) > 400 by omega)]
   rw [decide_eq_false c1, Bool.false_or]
   by_cases c2 : 400 < (l[i]).f1.size + (l[i]).f5.size + (l[i]).f6.size
   ·rw [decide_eq_true c2, Bool.true_or, decide_eq_true (show ((l[i]).f1.size : Int) + ((l[i]).f5.size : Int) + ((l[i]).f6.size : Int) > 400 by omega)]
    exact bad _
   ·rw [decide_eq_false c2, Bool.false_or, decide_eq_false (show ¬ ((l[i]).f1.size : Int) + ((l[i]).f5.size : Int) + ((l[i]).f6.size : Int) > 400 by omega)]
    refine Ev.step (fun k => qbg.j1.eq_2 _ _ _ _ k) ?_
    simp only [Bool.false_eq_true, if_false]
    have := large_l1 l hl hf i hil ((z + (l[i]).f8.length : Nat) : Int) _ (ih (i + 1) (z + (l[i]).f8.length) (by omega) (by omega) (by omega)) _ 0 rfl (Nat.zero_le _)
    rw [List.drop_zero] at this
    exact this
theorem large_ev (l : List S29) (hf : ∀ x ∈ l, okEn x) : Ev (fun k => qbg.f k l) (largeB l) := by
 unfold qbg.f largeB
 by_cases h : 40 < l.length
 ·simp only [if_pos (show (l.length : Int) > 40 by omega), decide_eq_true h, Bool.true_or]
  exact Ev.now _
 ·simp only [if_neg (show ¬ (l.length : Int) > 40 by omega), decide_eq_false h, Bool.false_or]
  exact large_l0 l (by omega) hf _ 0 0 rfl (Nat.zero_le _) (by omega)
theorem lgs_tot : ∀ (l : List S29) (n : Nat), n ≤ 400 → lgs n l = false → n + (l.map (fun x => x.f8.length)).sum ≤ 400
 | [], n, h, _ => by simpa using h
 | x :: r, n, h, hl => by
  unfold lgs at hl
  simp only [Bool.or_eq_false_iff, decide_eq_false_iff_not] at hl
  have := lgs_tot r (n + x.f8.length) (by omega) hl.2.2
  simp only [List.map_cons, List.sum_cons]
  omega
theorem lgs_tags : ∀ (l : List S29) (n : Nat), lgs n l = false → ∀ x ∈ l, ∀ y ∈ x.f8, y.f6.length ≤ 20
 | [], _, _, x, hx, _, _ => by cases hx
 | z :: r, n, hl, x, hx, y, hy => by
  unfold lgs at hl
  simp only [Bool.or_eq_false_iff] at hl
  rcases List.mem_cons.1 hx with rfl | hx
  ·have h := List.any_eq_false.1 hl.2.1 y hy
   unfold lnB at h
   simp only [Bool.or_eq_true, decide_eq_true_eq, not_or] at h
   omega
  ·exact lgs_tags r _ hl.2.2 x hx y hy
theorem large_no {l : List S29} (h : largeB l = false) : l.length ≤ 40 ∧ (l.map (fun x => x.f8.length)).sum ≤ 400 ∧ ∀ x ∈ l, ∀ y ∈ x.f8, y.f6.length ≤ 20 := by
 unfold largeB at h
 simp only [Bool.or_eq_false_iff, decide_eq_false_iff_not] at h
 have h2 := lgs_tot l 0 (by omega) h.2
 exact ⟨by omega, by omega, lgs_tags l 0 h.2⟩
theorem fit_E {x : S29} (h : okEn x) : FitE x := fun y hy => by
 have := (h.2.2.2.2 y hy).2.1
 unfold maxLen
 omega
theorem fit_short {x : S29} (h : okEn x) : qgl x := by
 obtain ⟨h1, h5, h6, h8, h9⟩ := h
 refine ⟨by omega, by omega, by omega, fun y hy => ?_⟩
 obtain ⟨g0, g1, g4, g5, gl, gt⟩ := h9 y hy
 refine ⟨by omega, by omega, by omega, by omega, by omega, fun i hi => ?_⟩
 rw [rd213 hi]
 have := gt _ (List.getElem_mem hi)
 omega
end
section
open Go.Sort Go.Proofs.YtppcjoaghlecmaaDoor.Op
theorem same_l0 (l : List S112) (hl : l.length ≤ 1000000) : ∀ (n i : Nat), l.length - i = n → i ≤ l.length → Ev (fun k => qcd.l0 k l l (i : Int)) true := by
 intro n
 induction n with
 | zero =>
  intro i hn hi
  refine Ev.step (fun k => qcd.l0.eq_2 _ _ _ k) ?_
  simp only [if_neg (show ¬ ((i : Int) < (l.length : Int)) by omega)]
  exact Ev.now _
 | succ n ih =>
  intro i hn hi
  have hil : i < l.length := by omega
  have hw : wrap64 ((i : Int) + 1) = ((i + 1 : Nat) : Int) := by rw [w64 (by omega) (by omega)]; omega
  refine Ev.step (fun k => qcd.l0.eq_2 _ _ _ k) ?_
  simp only [if_pos (show ((i : Int) < (l.length : Int)) by omega), if_pos (show (0 : Int) ≤ (i : Int) by omega), hw, BEq.rfl, Bool.not_true, Bool.or_false, Bool.false_eq_true, if_false]
  exact ih (i + 1) (by omega) (by omega)
theorem same_ev (l : List S112) (hl : l.length ≤ 1000000) : Ev (fun k => qcd.f k l l) true := by
 unfold qcd.f
 simp only [if_true]
 exact same_l0 l hl _ 0 rfl (Nat.zero_le _)
end
section
open Go.Proofs.YtppcjoaghlecmaaDoor.Op
theorem selects_f (q : Qy) (x : S29) : qdr.f q.e q.a q.z q.b x.f0 x.f1 x.f2 x.f3 x.f4 x.f5 x.f6 x.f7 x.f8 = some (selB q x) := by
 unfold qdr.f selB
 by_cases h1 : q.e.toList = []
 ·have e1 : (q.e.toList == []) = true := by rw [h1]; rfl
  rw [if_pos h1, e1, Bool.true_or, Bool.true_and]
  by_cases h2 : x.f3 ≥ q.a
  ·rw [if_pos h2, decide_eq_true (show q.a ≤ x.f3 from h2), Bool.true_and]
   by_cases h3 : x.f3 ≤ q.z
   ·rw [if_pos h3, decide_eq_true h3, Bool.true_and]
   ·rw [if_neg h3, decide_eq_false h3, Bool.false_and]
  ·rw [if_neg h2, decide_eq_false (show ¬ q.a ≤ x.f3 from h2), Bool.false_and, Bool.false_and]
 ·have e1 : (q.e.toList == []) = false := by simpa using h1
  rw [if_neg h1, e1, Bool.false_or]
  by_cases h0 : q.e.toList = x.f1.toList
  ·have e2 : (q.e.toList == x.f1.toList) = true := by simpa using h0
   rw [if_pos h0, e2, Bool.true_and]
   by_cases h2 : x.f3 ≥ q.a
   ·rw [if_pos h2, decide_eq_true (show q.a ≤ x.f3 from h2), Bool.true_and]
    by_cases h3 : x.f3 ≤ q.z
    ·rw [if_pos h3, decide_eq_true h3, Bool.true_and]
    ·rw [if_neg h3, decide_eq_false h3, Bool.false_and]
   ·rw [if_neg h2, decide_eq_false (show ¬ q.a ≤ x.f3 from h2), Bool.false_and, Bool.false_and]
  ·have e2 : (q.e.toList == x.f1.toList) = false := by simpa using h0
   rw [if_neg h0, e2, Bool.false_and, Bool.false_and, Bool.false_and]
theorem rreplay_l0 (l : List S29) (q : Qy) (hl : l.length ≤ 1000) (hs : ∀ x ∈ l, qgl x) (hf : ∀ x ∈ l, FitE x) : ∀ (n i : Nat), l.length - i = n → i ≤ l.length → qhb (l.take i) = 0 → Ev (fun k => qbo.l0 k l (selC (l.take i) q) (i : Int) q.e q.a q.z q.b) (qgh l q) := by
 intro n
 induction n with
 | zero =>
  intro i hn hi h0
  obtain rfl : i = l.length := by omega
  refine Ev.step (fun k => qbo.l0.eq_2 _ _ _ _ _ _ _ k) ?_
  rw [List.take_length] at h0 ⊢
  simp only [if_neg (show ¬ ((l.length : Int) < (l.length : Int)) by omega)]
  refine Ev.bind (refof_ev _ (qmf (qha h0) hl q)) ?_
  unfold qgh qjw
  rw [if_pos h0]
  exact Ev.now _
 | succ n ih =>
  intro i hn hi h0
  have hil : i < l.length := by omega
  refine Ev.step (fun k => qbo.l0.eq_2 _ _ _ _ _ _ _ k) ?_
  have hw := hw1 i (by omega)
  have hx := hs _ (List.getElem_mem hil)
  have hft := qig hil h0
  have hst := qlt hil q
  simp only [if_pos (show ((i : Int) < (l.length : Int)) by omega), if_pos (show (0 : Int) ≤ (i : Int) by omega), hw, rd29 hil]
  refine Ev.bind (rchk_ev _ hx) ?_
  by_cases hc : (chkE l[i]).2 = 0
  ·have h8 := (qie (qho hc).1).2.1
   have hi' := ih (i + 1) (by omega) (by omega) (hft.1 hc)
   rw [hst] at hi'
   simp only [if_pos hc, selects_f, Option.bind_some]
   by_cases hq : selB q l[i] = true
   ·rw [if_pos hq] at hi'
    simp only [if_pos hq]
    refine Ev.bind (lines_ev _ hx (by omega)) ?_
    have h1 := take_len q h8 hl hf hil h0
    have h2 := raw_len l[i]
    simp only [if_pos (show (selC (l.take i) q).length + (rawL l[i]).length < 1466015503701 by omega)]
    exact hi'
   ·rw [if_neg hq] at hi'
    simp only [if_neg hq]
    exact hi'
  ·simp only [if_neg hc]
   unfold qgh
   rw [hft.2 hc, if_neg hc]
   exact Ev.now _
theorem rreplay_ev (l : List S29) (q : Qy) (hl : l.length ≤ 1000) (hs : ∀ x ∈ l, qgl x) (hf : ∀ x ∈ l, FitE x) : Ev (fun k => qbo.f k l q.e q.a q.z q.b) (qgh l q) := by
 unfold qbo.f
 exact rreplay_l0 l q hl hs hf _ 0 rfl (Nat.zero_le _) rfl
theorem replayK_len (l : List S29) (q : Qy) (hl : l.length ≤ 1000) : (qgh l q).1.length ≤ 1000000 := by
 unfold qgh
 split
 ·rename_i h
  exact ofK_len (qmf (qha h) hl q)
 ·exact Nat.zero_le _
end
end Go.Proofs.YtppcjoaghlecmaaDoor.P
namespace Go.Proofs.YtppcjoaghlecmaaDoor.Pure
open Go.Proofs.YtppcjoaghlecmaaDoor.P Go.Proofs.YtppcjoaghlecmaaDoor.Op
theorem LedgerReplays : qdb.Pure := by
 intro l q hl _
 refine Ev.rounds ?_
 have hf : ∀ x ∈ l, FitE x := fun x hx => fit_E (fit_ok (hl.2 x hx))
 have hs : ∀ x ∈ l, qgl x := fun x hx => fit_short (fit_ok (hl.2 x hx))
 unfold qdb.f
 refine Ev.bind (large_ev l (fun x hx => fit_ok (hl.2 x hx))) ?_
 cases hb : largeB l
 ·have hn := large_no hb
  have hl2 : l.length ≤ 1000 := by omega
  have hr : qeb.f l q.f0 q.f1 q.f2 q.f3 = some (qgh l ⟨q.f0, q.f1, q.f2, q.f3⟩) := by
   unfold qeb.f
   rw [if_pos ⟨hl2, hf⟩]
  simp only [Bool.false_eq_true, if_false, hr, Option.bind_some]
  refine Ev.bind (rreplay_ev l ⟨q.f0, q.f1, q.f2, q.f3⟩ hl2 hs hf) ?_
  simp only [if_true]
  refine Ev.bind (same_ev _ (replayK_len l _ hl2)) ?_
  exact Ev.now _
 ·exact Ev.now _
end Go.Proofs.YtppcjoaghlecmaaDoor.Pure
