/- Texts of mine and of the print, joined: SpecEt, HandEt0, HandLedgerEntities, SayLedgerEntities, PureLedgerEntities. -/
import Derived.Test.YtppcjoaghlecmaaDoorLg
import Derived.Test.YtppcjoaghlecmaaDoorLh
import Derived.Test.YtppcjoaghlecmaaDoorLd
namespace Go.Proofs.YtppcjoaghlecmaaDoor.P
open Go.RowKit Go.Sort Go.Proofs.YtppcjoaghlecmaaDoorW.PrintWords Go.Proofs.YtppcjoaghlecmaaDoorW.PrintLast Go.Proofs.YtppcjoaghlecmaaDoorW.PrintMore
set_option linter.unusedVariables false
set_option linter.unusedSimpArgs false
def selR (E : List S29) (R : S29 → Bool) : List S112 := ((E.filter R).map rawL).flatten
theorem selR_cons (x : S29) (r : List S29) (R : S29 → Bool) : selR (x :: r) R = (if R x = true then rawL x else []) ++ selR r R := by
 unfold selR
 by_cases h : R x = true
 ·rw [if_pos h]; simp [h]
 ·rw [if_neg h]; simp [h]
theorem selR_len (R : S29 → Bool) : ∀ (E : List S29), (selR E R).length ≤ lnsE E
 | [] => by simp [selR]
 | x :: r => by
  have h1 := selR_len R r
  have h2 := raw_len x
  have h3 : lnsE (x :: r) = x.f8.length + lnsE r := by simp [lnsE]
  rw [selR_cons, List.length_append]
  split
  ·omega
  ·simp; omega
theorem selR_in {E : List S29} (hg : GoodE E) (R : S29 → Bool) : InB (selR E R) := fun c hc => by
 unfold selR at hc
 obtain ⟨l, hl, hc⟩ := List.mem_flatten.1 hc
 obtain ⟨x, hx, rfl⟩ := List.mem_map.1 hl
 exact raw_in (hg x (List.mem_filter.1 hx).1) c hc
theorem selR_ok {E : List S29} (hg : GoodE E) (hn : lnsE E ≤ 400) (R : S29 → Bool) : (ofK (selR E R)).2 = 0 := in_ok (selR_in hg R) (by have := selR_len R E; omega)
theorem selR_part {R R1 R2 : S29 → Bool} {E : List S29} (P : S40 → Bool) (h : ∀ x ∈ E, R x = (R1 x || R2 x) ∧ (R1 x && R2 x) = false) : psA P (selR E R) = psA P (selR E R1) + psA P (selR E R2) ∧ psB P (selR E R) = psB P (selR E R1) + psB P (selR E R2) := by
 induction E with
 | nil => exact ⟨rfl, rfl⟩
 | cons x r ih =>
  have h1 := ih (fun y hy => h y (by simp [hy]))
  obtain ⟨e1, e2⟩ := h x (by simp)
  rw [selR_cons, selR_cons, selR_cons, psA_append, psB_append, psA_append, psB_append, psA_append, psB_append, h1.1, h1.2, e1]
  cases c1 : R1 x <;> cases c2 : R2 x <;> rw [c1, c2] at e2 <;> simp [psA_nil, psB_nil] at e2 ⊢ <;> omega
theorem selR_congr {R R' : S29 → Bool} {E : List S29} (h : ∀ x ∈ E, R x = R' x) : selR E R = selR E R' := by
 unfold selR
 rw [List.filter_congr h]
theorem addR {R R1 R2 : S29 → Bool} {E : List S29} (hg : GoodE E) (hn : lnsE E ≤ 400) (h : ∀ x ∈ E, R x = (R1 x || R2 x) ∧ (R1 x && R2 x) = false) : addK (ofK (selR E R1)).1 (ofK (selR E R2)).1 = ((ofK (selR E R)).1, 0) := by
 unfold addK
 rw [if_pos ⟨rightB_ofK _, rightB_ofK _⟩]
 have : ofK ((ofK (selR E R1)).1 ++ (ofK (selR E R2)).1) = ofK (selR E R) := by
  refine ofK_congr (fun k => ?_)
  have h1 := ps_ofK (selR_ok hg hn R1) (isK k)
  have h2 := ps_ofK (selR_ok hg hn R2) (isK k)
  have h3 := selR_part (isK k) h
  rw [sumA_ps, sumB_ps, sumA_ps, sumB_ps, psA_append, psB_append, h1.1, h1.2, h2.1, h2.2, h3.1, h3.2]
  exact ⟨rfl, rfl⟩
 rw [this]
 exact Prod.ext rfl (selR_ok hg hn R)
def entIn (L : List S29) (s : ByteArray) : Bool := !(s.toList == []) && L.any (fun y => y.f1.toList == s.toList)
def earB (l : List S29) (i k : Nat) : Bool := ((rd_T29 l (i : Int)).f1.toList == []) || (l.take k).any (fun y => y.f1.toList == (rd_T29 l (i : Int)).f1.toList)
theorem earB_zero (l : List S29) (i : Nat) : earB l i 0 = ((rd_T29 l (i : Int)).f1.toList == []) := by simp [earB]
theorem earB_succ {l : List S29} (i : Nat) {k : Nat} (h : k < l.length) : earB l i (k + 1) = (earB l i k || ((rd_T29 l (k : Int)).f1.toList == (rd_T29 l (i : Int)).f1.toList)) := by
 unfold earB
 rw [List.take_add_one, List.getElem?_eq_getElem h, List.any_append, rd29 h]
 simp [Bool.or_assoc]
theorem entIn_succ {l : List S29} {i : Nat} (h : i < l.length) (s : ByteArray) : entIn (l.take (i + 1)) s = (entIn (l.take i) s || (!(s.toList == []) && ((l[i]).f1.toList == s.toList))) := by
 unfold entIn
 rw [List.take_add_one, List.getElem?_eq_getElem h, List.any_append]
 simp [Bool.and_or_distrib_left]
def etR (l : List S29) (q : Qy) (i : Nat) (x : S29) : Bool := entIn (l.take i) x.f1 && selB ⟨nilB, q.a, q.z, q.b⟩ x
theorem nil_list : nilB.toList = [] := by kernel_rfl
theorem et_skip {l : List S29} {i : Nat} (q : Qy) (h : i < l.length) (he : earB l i i = true) (E : List S29) : selR E (etR l q (i + 1)) = selR E (etR l q i) := by
 refine selR_congr (fun x _ => ?_)
 unfold etR
 rw [entIn_succ h]
 unfold earB at he
 rw [rd29 h] at he
 congr 1
 cases hx : x.f1.toList == []
 ·cases hm : (l[i]).f1.toList == x.f1.toList
  ·simp
  ·have hm' : (l[i]).f1.toList = x.f1.toList := by simpa using hm
   rw [hm'] at he
   rw [hx, Bool.false_or] at he
   unfold entIn
   rw [he, hx]
   rfl
 ·simp [entIn, hx]
theorem et_more {l : List S29} {i : Nat} (q : Qy) (h : i < l.length) (he : earB l i i = false) (x : S29) : etR l q (i + 1) x = (etR l q i x || selB ⟨(l[i]).f1, q.a, q.z, q.b⟩ x) ∧ (etR l q i x && selB ⟨(l[i]).f1, q.a, q.z, q.b⟩ x) = false := by
 unfold earB at he
 rw [rd29 h, Bool.or_eq_false_iff] at he
 obtain ⟨h1, h2⟩ := he
 unfold etR
 rw [entIn_succ h]
 have e0 : (nilB.toList == []) = true := by rw [nil_list]; rfl
 unfold selB
 simp only [e0, Bool.true_or, Bool.true_and, h1, Bool.false_or]
 cases hm : (l[i]).f1.toList == x.f1.toList
 ·simp
 ·have hm' : (l[i]).f1.toList = x.f1.toList := by simpa using hm
  rw [hm'] at h1 h2
  have h3 : entIn (l.take i) x.f1 = false := by
   unfold entIn
   rw [h2, Bool.and_false]
  rw [h3, h1]
  simp
theorem play_mem {l : List S29} : ∀ x ∈ playE l, x ∈ l := by
 have : ∀ (l E : List S29), ∀ x ∈ l.foldl postE E, x ∈ E ∨ x ∈ l := by
  intro l
  induction l with
  | nil => exact fun E x hx => .inl hx
  | cons y r ih =>
   intro E x hx
   rcases ih (postE E y) x hx with h | h
   ·unfold postE at h
    split at h
    ·rcases List.mem_append.1 h with h | h
     ·exact .inl h
     ·rw [List.mem_singleton] at h
      exact .inr (by simp [h])
    ·exact .inl h
   ·exact .inr (by simp [h])
 intro x hx
 rcases this l [] x hx with h | h
 ·cases h
 ·exact h
theorem code_ne {s : ByteArray} (h : codeB s = true) : (s.toList == []) = false := by
 unfold codeB at h
 simp only [Bool.and_eq_true, decide_eq_true_eq] at h
 have h0 := h.1
 rw [beq_eq_false_iff_ne]
 intro e
 rw [ByteArray.toList_eq] at e
 have : s.data.toList.length = 0 := by rw [e]; rfl
 rw [Array.length_toList] at this
 have h1 : s.size = 0 := this
 omega
theorem et_all (l : List S29) (q : Qy) : selR (playE l) (etR l q l.length) = selC (playE l) ⟨nilB, q.a, q.z, q.b⟩ := by
 show selR (playE l) (etR l q l.length) = selR (playE l) (selB ⟨nilB, q.a, q.z, q.b⟩)
 refine selR_congr (fun x hx => ?_)
 unfold etR
 have hc := (head_len (chk_two (play_good l x hx)).1).2.2.1
 have : entIn (l.take l.length) x.f1 = true := by
  unfold entIn
  rw [List.take_length, code_ne hc, Bool.not_false, Bool.true_and, List.any_eq_true]
  exact ⟨x, play_mem x hx, by simp⟩
 rw [this, Bool.true_and]
theorem et_zero (l : List S29) (q : Qy) (E : List S29) : selR E (etR l q 0) = [] := by
 unfold selR etR entIn
 simp
end Go.Proofs.YtppcjoaghlecmaaDoor.P
namespace Go.Proofs.YtppcjoaghlecmaaDoor.P
open Go.RowKit Go.Sort Go.Proofs.YtppcjoaghlecmaaDoorW.PrintWords Go.Proofs.YtppcjoaghlecmaaDoorW.PrintLast Go.Proofs.YtppcjoaghlecmaaDoorW.PrintMore Go.Maps Go.ChangeShapes Go.WideShapes Go.WideMaps Go.Shelf
set_option linter.unusedVariables false
set_option linter.unusedSimpArgs false
theorem LedE.lower {w : World} {B B' p m : Nat} {E : List S29} (h : LedE w B p m E) (hb : B' ≤ B) : LedE w B' p m E := by
 obtain ⟨L, h1, h2, h3⟩ := h
 exact ⟨L, ⟨h1.blk, h1.map, fun c hc => Kd.R_lower (h1.row c hc) hb, Nat.le_trans hb h1.lowp, Nat.le_trans hb h1.lowm⟩, h2, h3⟩
theorem LiveE.lower {w0 w1 w : World} {p m : Nat} {E : List S29} (h : LiveE w1 w p m E) (hb : Below w0.heap.size w0 w1) : LiveE w0 w p m E := ⟨h.led.lower hb.size, below_then hb hb.size h.bel⟩
theorem LedE.set24 {w : World} {B p m g i : Nat} {E : List S29} {cs : Array Value} {u : Value} (h : LedE w B p m E) (hg : w.heap[g]? = some (.cells cs 24 (0, 0))) : LedE (w.setCell ⟨g, i, none⟩ u) B p m E := by
 obtain ⟨L, h1, h2, h3⟩ := h
 obtain ⟨D, ⟨es, clock, g1, g2⟩, hD⟩ := h1.map
 have hk : ∀ k, k ≠ g → (w.setCell ⟨g, i, none⟩ u).heap[k]? = w.heap[k]? := fun k hne => Below.heap_setCell w ⟨g, i, none⟩ u k hne
 refine ⟨L, ⟨(hk p (fun e => ?_)).trans h1.blk, ⟨D, ⟨es, clock, (hk m (fun e => ?_)).trans g1, g2⟩, hD⟩, fun c hc => ?_, h1.lowp, h1.lowm⟩, h2, h3⟩
 ·have := h1.blk
  rw [e, hg] at this
  cases this
 ·rw [e, hg] at g1
  cases g1
 ·have hr := h1.row c hc
  have r1 := Kd.R_mono (Kd.R_tight rfl hr) (ok' := fun k => c.v.ownBlock = some k) (fun k hk => hk.symm)
  have r2 := Kd.R_step r1 (w1 := w.setCell ⟨g, i, none⟩ u) (fun k hk2 hlt => by
   obtain ⟨cs', hcs⟩ := Kd.R_typed hr k hk2
   refine hk k (fun e => ?_)
   rw [e, hg] at hcs
   cases hcs)
  exact Kd.R_mono r2 (fun _ _ => trivial)
theorem LiveE.set24 {w0 w : World} {p m g i : Nat} {E : List S29} {cs : Array Value} {u : Value} (h : LiveE w0 w p m E) (hg : w.heap[g]? = some (.cells cs 24 (0, 0))) (hl : w0.heap.size ≤ g) : LiveE w0 (w.setCell ⟨g, i, none⟩ u) p m E := ⟨h.led.set24 hg, h.bel.setCell (p := ⟨g, i, none⟩) hl u⟩
theorem Sl.empty (W : World) (A : Option Addr) : Sl W A 0 0 [] := ⟨rfl, Nat.le_refl _, Kd.V_mk (xs := ([] : List S112)) (Nat.le_refl _) (fun W' _ => ⟨rfl, by simp, fun h => absurd h (Nat.lt_irrefl 0)⟩)⟩
structure Ent (w0 w : World) (p m g : Nat) (q : Qy) (E : List S29) (A6 : Option Addr) (c6 : Nat) (s : List S112) (A8 : Option Addr) (c8 : Nat) (t : List S112) : Prop where
 live : LiveE w0 w p m E
 box : w.heap[g]? = some (.cells #[.string nilB, .int .i64 q.a, .int .i64 q.z, .int .i64 q.b] 24 (0, 0))
 all : Sl w A6 s.length c6 s
 sum : Sl w A8 t.length c8 t
theorem Ent.below {w0 w w' : World} {p m g : Nat} {q : Qy} {E : List S29} {A6 : Option Addr} {c6 : Nat} {s : List S112} {A8 : Option Addr} {c8 : Nat} {t : List S112} (h : Ent w0 w p m g q E A6 c6 s A8 c8 t) (hb : Below w.heap.size w w') : Ent w0 w' p m g q E A6 c6 s A8 c8 t := ⟨h.live.below hb, blk_below h.box hb, h.all.below hb, h.sum.below hb⟩
def accountinglaw20_LedgerEntities.f (l : List S29) (a1_0 : ByteArray) (a1_1 a1_2 a1_3 : Int) : Option Bool := if ∀ x ∈ l, okEn x then some true else none
set_option maxHeartbeats 8000000 in
set_option maxRecDepth 100000 in
theorem ledgerEntities_calls (A : Option Addr) (c : Nat) (l : List S29) (q : Qy) (w : World) (hC : Kd.C k29 w A l.length l) (hc : l.length ≤ c) (hok : ∀ x ∈ l, okEn x) (hT : Tab w) :
  Calls Tryd.prog 10 #[.slice A l.length c, qyV q] w fun e w' => e = .returned (.bool true) ∧ Below w.heap.size w w' := by
 have HC := Aside0.mk hC
 have Hc := Aside0.mk hc
 have HT := Aside0.mk hT
 have HOK := Aside0.mk hok
 clear hC hc hT hok
 unfold qyV
 obtain ⟨lb, hlb⟩ : ∃ lb, largeB l = lb := ⟨_, rfl⟩
 have HLB := Aside0.mk hlb
 clear hlb
 have HB1 := Aside0.mk (below_alloc (Below.refl w.heap.size w) (.cells #[.string q.e, .int .i64 q.a, .int .i64 q.z, .int .i64 q.b] 24))
 have HBQ := Aside0.mk (blk_new w (.cells #[.string q.e, .int .i64 q.a, .int .i64 q.z, .int .i64 q.b] 24))
 cases lb
 ·have HN := Aside0.mk (large_no HLB.out)
  have HLL := Aside0.mk (show l.length ≤ 40 from HN.out.1)
  have HFE := Aside0.mk (fun x hx => fit_E (HOK.out x hx))
  obtain ⟨E, hE⟩ : ∃ E, playE l = E := ⟨_, rfl⟩
  have HG := Aside0.mk (show GoodE E from hE ▸ play_good l)
  have HLN := Aside0.mk (show lnsE E ≤ 400 from by have := play_lns l; have := HN.out.2.1; rw [← hE]; unfold lnsE at *; omega)
  have HEL := Aside0.mk (show E.length ≤ 1000 from by have := play_len l; have := HN.out.1; rw [← hE]; omega)
  have HE := Aside0.mk hE
  clear hE
  obtain ⟨s, hs⟩ : ∃ s, (sheetE E ⟨nilB, q.a, q.z, q.b⟩).1 = s := ⟨_, rfl⟩
  have HS := Aside0.mk hs
  have HSL := Aside0.mk (show s.length ≤ 1000000 from hs ▸ sheet_len HG.out HEL.out _)
  clear hs
  go_enter Tryd.func10, Tryd.ntmps10
  go_upto_region 4 with (first
   | (go_at_call 16; (with_reducible refine (large_is A c l false _ (Kd.C_below HC.out HB1.out) Hc.out HOK.out HLB.out).mono ?_); rintro e w2 ⟨rfl, hb⟩; have HB2 := Aside0.mk (below_then HB1.out HB1.out.size hb); have HBQ2 := Aside0.mk (blk_below HBQ.out hb); clear hb)
   | (go_at_call 18; (with_reducible refine (posts_calls A c l _ (Kd.C_below HC.out HB2.out) Hc.out (by have := HLL.out; omega) HFE.out (HT.out.below HB2.out)).mono ?_); rw [HE.out]; rintro e w4 ⟨p, m, rfl, h4⟩; have HL4 := Aside0.mk (h4.lower HB2.out); have HBQ4 := Aside0.mk (blk_below HBQ2.out h4.bel); clear h4))
  obtain ⟨g, hg⟩ : ∃ g, w.heap.size = g := ⟨_, rfl⟩
  have HGS := Aside0.mk hg
  rw [hg] at HBQ4
  try rw [hg]
  clear hg
  have x0 : w4.cell? ⟨g, 0, none⟩ = some (.string q.e) := (blk_cell HBQ4.out 0).trans rfl
  have f0 := blk_frozen HBQ4.out 0
  go_upto_region 5 with (fail)
  refine with_world (P := fun x => Code.wp _ _ _ _ x) _ ?_
  intro w5 hw5
  have HL5 := Aside0.mk (show LiveE w w5 p m E from hw5 ▸ HL4.out.set24 HBQ4.out (by have := HGS.out; omega))
  have HBQ5 := Aside0.mk (show w5.heap[g]? = some (.cells #[.string nilB, .int .i64 q.a, .int .i64 q.z, .int .i64 q.b] 24 (0, 0)) from hw5 ▸ blk_put HBQ4.out 0 _ rfl)
  clear hw5 x0 f0 HL4 HBQ4 HBQ2
  have x0 : w5.cell? ⟨g, 0, none⟩ = some (.string ⟨#[]⟩) := (blk_cell HBQ5.out 0).trans rfl
  have x1 : w5.cell? ⟨g, 1, none⟩ = some (.int .i64 q.a) := (blk_cell HBQ5.out 1).trans rfl
  have x2 : w5.cell? ⟨g, 2, none⟩ = some (.int .i64 q.z) := (blk_cell HBQ5.out 2).trans rfl
  have x3 : w5.cell? ⟨g, 3, none⟩ = some (.int .i64 q.b) := (blk_cell HBQ5.out 3).trans rfl
  go_upto_region 7 with (go_at_call 19; refine (HL5.out.sheetx HG.out HLN.out HEL.out nilB q.a q.z q.b HS.out).mono ?_; rintro e w6 ⟨A6, c6, rfl, hs6, hb6, h6⟩; have HE6 := Aside0.mk (show Ent w (w6.alloc (.cells #[] 112)) p m g q E A6 c6 s (some ⟨w6.heap.size, 0, none⟩) 0 [] from ⟨h6.below (below_alloc (Below.refl _ _) _), blk_alloc (blk_below HBQ5.out hb6) _, hs6.below (below_alloc (Below.refl _ _) _), Sl.empty _ _⟩); clear hs6 hb6 h6 x0 x1 x2 x3)
  have HT0 := Aside0.mk (show (ofK (selR E (etR l q 0))).1 = [] from by rw [et_zero]; rfl)
  have hll := HLL.out
  go_wp2
  go_loopw [8, 9] (fun v8 v9 wr => ∃ (i : Nat) (A8 : Option Addr) (c8 : Nat) (t : List S112), i ≤ l.length ∧ v9 = .int .i64 i ∧ v8 = .slice A8 t.length c8 ∧ Aside0 ((ofK (selR E (etR l q i))).1 = t) ∧ Aside0 (Ent w wr p m g q E A6 c6 s A8 c8 t)) (fun _ v9 _ => l.length - (intOf v9).toNat)
  case atStart => exact ⟨0, some ⟨w6.heap.size, 0, none⟩, 0, [], Nat.zero_le _, rfl, rfl, HT0, HE6⟩
  case round =>
   clear HE6 HT0 HL5 HBQ5 HB2
   obtain ⟨i, A8, c8, t, hi, rfl, rfl, HTT, HEN⟩ := hrel
   rename World => wo
   by_cases hlt : i < l.length
   ·have d1 : decide ((i : Int) < (l.length : Int)) = true := decide_eq_true (by omega)
    have d2 : decide (i < l.length) = true := decide_eq_true hlt
    have p0 : (0 : Int) ≤ (i : Int) := by omega
    have p1 : (i : Int) < (l.length : Int) := by omega
    have HCW := Aside0.mk (fun W (hb : Below wo.heap.size wo W) => Kd.C_below (Kd.C_below HC.out HEN.out.live.bel) hb)
    obtain ⟨ad, _, _, e, _, z1, _, _, _, _, _, _, _, _, _⟩ := at_T29 (HCW.out wo (Below.refl _ _)) (i : Int) p0 p1
    cases e
    rw [Int.toNat_natCast] at z1
    obtain ⟨x, hx⟩ : ∃ x, rd_T29 l (i : Int) = x := ⟨_, rfl⟩
    have hxi : l[i] = x := by rw [← hx]; simp [rd_T29, hlt]
    rw [hx] at z1
    have HX := Aside0.mk hx
    have HXI := Aside0.mk hxi
    obtain ⟨b0, hb0⟩ : ∃ b0, (x.f1.toList == []) = b0 := ⟨_, rfl⟩
    have hb1 : x.f1.toList.isEmpty = b0 := by rw [← hb0]; simp
    have HB0 := Aside0.mk (show earB l i 0 = b0 from by rw [earB_zero, hx]; exact hb0)
    clear hx hxi
    go_wp2
    go_loopw [10, 11] (fun v10 v11 wr => ∃ k n : Nat, k ≤ i ∧ v11 = .int .i64 k ∧ v10 = .bool (earB l i k) ∧ wr = wo.drewN n) (fun _ v11 _ => i - (intOf v11).toNat)
    case atStart => exact ⟨0, 0, Nat.zero_le _, rfl, by rw [HB0.out], rfl⟩
    case round =>
     clear hb0 hb1
     obtain ⟨k, n, hk, rfl, rfl, rfl⟩ := hrel
     obtain ⟨bk, hbk⟩ : ∃ bk, earB l i k = bk := ⟨_, rfl⟩
     have HBK := Aside0.mk hbk
     rw [hbk]
     clear hbk
     by_cases hki : k < i
     ·have e1 : decide ((k : Int) < (i : Int)) = true := decide_eq_true (by omega)
      have e2 : decide (k < i) = true := decide_eq_true hki
      have hkl : k < l.length := by omega
      have r0 : (0 : Int) ≤ (k : Int) := by omega
      have r1 : (k : Int) < (l.length : Int) := by omega
      obtain ⟨_, _, _, e, _, y1, _, _, _, _, _, _, _, _, _⟩ := at_T29 (HCW.out wo (Below.refl _ _)) (k : Int) r0 r1
      cases e
      rw [Int.toNat_natCast] at y1
      obtain ⟨y, hy⟩ : ∃ y, rd_T29 l (k : Int) = y := ⟨_, rfl⟩
      rw [hy] at y1
      obtain ⟨be, hbe⟩ : ∃ be, (y.f1.toList == x.f1.toList) = be := ⟨_, rfl⟩
      have HS1 := Aside0.mk (show earB l i (k + 1) = (bk || be) from by rw [earB_succ i hkl, HBK.out, hy, HX.out, hbe])
      clear hy
      have z1' : (wo.drewN n).cell? _ = _ := z1
      have y1' : (wo.drewN n).cell? _ = _ := y1
      obtain ⟨wn, hwn⟩ : ∃ wn, wo.drewN n = wn := ⟨_, rfl⟩
      rw [hwn] at z1' y1'
      try rw [hwn]
      have HWN := Aside0.mk hwn
      clear hwn
      cases bk
      ·go_upto_region 14 with (fail)
       go_big_quiet (fail)
       go_wp2
       go_roundw
       case rel => exact ⟨k + 1, n + nq, by omega, by go_num, by rw [HS1.out, Bool.false_or], by rw [← HWN.out]; simp [World.drewN, Nat.add_assoc]⟩
       case measure => simp [intOf]; omega
      ·go_upto_region 14 with (fail)
       go_big_quiet (fail)
       go_wp2
       go_roundw
       case rel => exact ⟨k + 1, n + nq, by omega, by go_num, by rw [HS1.out, Bool.true_or], by rw [← HWN.out]; simp [World.drewN, Nat.add_assoc]⟩
       case measure => simp [intOf]; omega
     ·obtain rfl : k = i := by omega
      have e1 : decide ((k : Int) < (k : Int)) = false := decide_eq_false (by omega)
      have e2 : decide (k < k) = false := decide_eq_false (by omega)
      obtain ⟨w8, hw8⟩ : ∃ w8, wo.drewN n = w8 := ⟨_, rfl⟩
      have HE8 := Aside0.mk (show Ent w w8 p m g q E A6 c6 s A8 c8 t from hw8 ▸ HEN.out.below (pw_below_drewN (Below.refl _ wo) n))
      have z1' : w8.cell? ⟨(ad.add (k * 9)).block, (ad.add (k * 9)).off + 1, none⟩ = some (.string x.f1) := by rw [← hw8]; exact z1
      rw [hw8]
      clear hw8 z1 HCW HEN
      cases bk
      ·have x0 : w8.cell? ⟨g, 0, none⟩ = some (.string ⟨#[]⟩) := (blk_cell HE8.out.box 0).trans rfl
       have x1 : w8.cell? ⟨g, 1, none⟩ = some (.int .i64 q.a) := (blk_cell HE8.out.box 1).trans rfl
       have x2 : w8.cell? ⟨g, 2, none⟩ = some (.int .i64 q.z) := (blk_cell HE8.out.box 2).trans rfl
       have x3 : w8.cell? ⟨g, 3, none⟩ = some (.int .i64 q.b) := (blk_cell HE8.out.box 3).trans rfl
       obtain ⟨wp, hwp⟩ : ∃ wp, w8.alloc (.cells #[.string ⟨#[]⟩, .int .i64 q.a, .int .i64 q.z, .int .i64 q.b] 24) = wp := ⟨_, rfl⟩
       have z1p : wp.cell? ⟨(ad.add (k * 9)).block, (ad.add (k * 9)).off + 1, none⟩ = some (.string x.f1) := by rw [← hwp]; exact ((below_alloc (Below.refl w8.heap.size w8) _).cell (World.block_lt_of_cell? w8 _ z1')).trans z1'
       have hbp : wp.heap[w8.heap.size]? = some (.cells #[.string ⟨#[]⟩, .int .i64 q.a, .int .i64 q.z, .int .i64 q.b] 24 (0, 0)) := by rw [← hwp]; exact blk_new w8 _
       have HBP := Aside0.mk hbp
       have HEP := Aside0.mk (show Ent w wp p m g q E A6 c6 s A8 c8 t from hwp ▸ HE8.out.below (below_alloc (Below.refl _ _) _))
       have y0 : wp.cell? ⟨w8.heap.size, 0, none⟩ = some (.string ⟨#[]⟩) := (blk_cell hbp 0).trans rfl
       have f0 := blk_frozen hbp 0
       have HGW := Aside0.mk (show w.heap.size ≤ w8.heap.size from HE8.out.live.bel.size)
       clear hbp
       have HE9 := Aside0.mk (show Ent w (wp.setCell ⟨w8.heap.size, 0, none⟩ (.string x.f1)) p m g q E A6 c6 s A8 c8 t from by
        have hne : g ≠ w8.heap.size := by have := blk_lt HE8.out.box; omega
        have h2 : Below w8.heap.size w8 (wp.setCell ⟨w8.heap.size, 0, none⟩ (.string x.f1)) := (hwp ▸ below_alloc (Below.refl w8.heap.size w8) _ : Below w8.heap.size w8 wp).setCell (p := ⟨w8.heap.size, 0, none⟩) (Nat.le_refl _) _
        exact HE8.out.below h2)
       have HBP9 := Aside0.mk (show (wp.setCell ⟨w8.heap.size, 0, none⟩ (.string x.f1)).heap[w8.heap.size]? = some (.cells #[.string x.f1, .int .i64 q.a, .int .i64 q.z, .int .i64 q.b] 24 (0, 0)) from blk_put HBP.out 0 _ rfl)
       go_upto_region 18 with (fail)
       obtain ⟨w9, hw9⟩ : ∃ w9, wp.setCell ⟨w8.heap.size, 0, none⟩ (.string x.f1) = w9 := ⟨_, rfl⟩
       rw [hw9] at HE9 HBP9
       rw [hw9]
       obtain ⟨gp, hgp⟩ : ∃ gp, w8.heap.size = gp := ⟨_, rfl⟩
       rw [hgp] at HBP9
       try rw [hgp]
       clear hw9 hgp z1p y0 f0 x0 x1 x2 x3 hwp HBP HEP HGW HE8 z1'
       have y0 : w9.cell? ⟨gp, 0, none⟩ = some (.string x.f1) := (blk_cell HBP9.out 0).trans rfl
       have y1 : w9.cell? ⟨gp, 1, none⟩ = some (.int .i64 q.a) := (blk_cell HBP9.out 1).trans rfl
       have y2 : w9.cell? ⟨gp, 2, none⟩ = some (.int .i64 q.z) := (blk_cell HBP9.out 2).trans rfl
       have y3 : w9.cell? ⟨gp, 3, none⟩ = some (.int .i64 q.b) := (blk_cell HBP9.out 3).trans rfl
       obtain ⟨s2, hs2⟩ : ∃ s2, (sheetE E ⟨x.f1, q.a, q.z, q.b⟩).1 = s2 := ⟨_, rfl⟩
       obtain ⟨t2, ht2⟩ : ∃ t2, (ofK (selR E (etR l q (k + 1)))).1 = t2 := ⟨_, rfl⟩
       have HADD := Aside0.mk (show addK t s2 = (t2, 0) from by
        rw [← HTT.out, ← hs2, ← ht2]
        exact addR HG.out HLN.out (fun y _ => by have := et_more q hlt HBK.out y; rw [HXI.out] at this; exact this))
       have HL1 := Aside0.mk (show t.length + s2.length ≤ 1000000 from by
        have h1 := ofK_le (selR E (etR l q k))
        have h2 := ofK_le (selC E ⟨x.f1, q.a, q.z, q.b⟩)
        have h3 := selR_len (etR l q k) E
        have h4 := selC_len ⟨x.f1, q.a, q.z, q.b⟩ E
        have h5 := HLN.out
        rw [← HTT.out, ← hs2]
        unfold sheetE
        omega)
       have HS2 := Aside0.mk hs2
       have HT2 := Aside0.mk ht2
       clear hs2 ht2
       go_wp2_with (first
        | (go_at_call 19; (with_reducible refine (HE9.out.live.sheetx HG.out HLN.out HEL.out x.f1 q.a q.z q.b HS2.out).mono ?_); rintro e wa ⟨Aa, ca, rfl, hsa, hba, _⟩; have HSA := Aside0.mk hsa; have HEA := Aside0.mk (HE9.out.below hba); clear hsa hba y0 y1 y2 y3)
        | (go_at_call 35; (with_reducible refine (add_is HEA.out.sum HSA.out HL1.out t2 0 HADD.out).mono ?_); rintro e wb ⟨Ab, cb, rfl, hsb, hbb⟩; have HEB := Aside0.mk (show Ent w wb p m g q E A6 c6 s Ab cb t2 from ⟨HEA.out.live.below hbb, blk_below HEA.out.box hbb, HEA.out.all.below hbb, hsb⟩); clear hsb hbb))
       go_roundw
       case rel => exact ⟨k + 1, Ab, cb, t2, by omega, by go_num, rfl, HT2, HEB⟩
       case measure => simp [intOf]; omega
      ·go_wp2
       go_roundw
       case rel => exact ⟨k + 1, A8, c8, t, by omega, by go_num, rfl, ⟨by rw [et_skip q hlt HBK.out]; exact HTT.out⟩, HE8⟩
       case measure => simp [intOf]; omega
   ·obtain rfl : i = l.length := by omega
    have d1 : decide ((l.length : Int) < (l.length : Int)) = false := decide_eq_false (by omega)
    have hts : t = s := by
     have h1 := HTT.out
     rw [← HE.out, et_all] at h1
     have h2 := HS.out
     unfold sheetE at h2
     rw [← HE.out] at h2
     rw [← h1, ← h2]
    subst hts
    go_wp2_with (first
     | (go_at_call 21; (with_reducible refine (same_is HEN.out.all HEN.out.sum HSL.out).mono ?_); rintro e wa ⟨rfl, hb⟩; have HBa := Aside0.mk (below_then HEN.out.live.bel HEN.out.live.bel.size hb); clear hb)
     | (go_at_call 17; (with_reducible refine (lives_calls _ (HT.out.below HBa.out)).mono ?_); rintro e wb ⟨rfl, hb⟩; have HBb := Aside0.mk hb; clear hb))
    go_ret
    exact ⟨rfl, below_then HBa.out HBa.out.size HBb.out⟩
 ·go_enter Tryd.func10, Tryd.ntmps10
  go_wp2_with (first | (go_at_call 16; refine (large_is A c l true _ (Kd.C_below HC.out HB1.out) Hc.out HOK.out HLB.out).mono ?_; rintro e w2 ⟨rfl, hb⟩; have HB2 := Aside0.mk (below_then HB1.out HB1.out.size hb); clear hb) | (go_at_call 17; refine (lives_calls _ (HT.out.below HB2.out)).mono ?_; rintro e w3 ⟨rfl, hb⟩; have HB3 := Aside0.mk hb; clear hb))
  go_ret
  exact ⟨rfl, below_then HB2.out HB2.out.size HB3.out⟩
theorem accountinglaw20_LedgerEntities.calls (A0 : Option Addr) (c0 : Nat) (l0 : List S29) (a1_0 : ByteArray) (a1_1 a1_2 a1_3 : Int) (r : Bool) (w : World) (hr0 : Kd.C k29 w A0 l0.length l0) (hc0 : l0.length ≤ c0) (h : accountinglaw20_LedgerEntities.f l0 a1_0 a1_1 a1_2 a1_3 = some r) (hT : Tab w) :
  Calls Tryd.prog 10 #[.slice A0 l0.length c0, .agg #[.string a1_0, .int .i64 a1_1, .int .i64 a1_2, .int .i64 a1_3]] w fun e w' => e = .returned (.bool r) ∧ Below w.heap.size w w' := by
 unfold accountinglaw20_LedgerEntities.f at h
 split at h
 ·rename_i hok
  obtain rfl := Option.some.inj h
  exact ledgerEntities_calls A0 c0 l0 ⟨a1_0, a1_1, a1_2, a1_3⟩ w hr0 hc0 hok hT
 ·cases h
end Go.Proofs.YtppcjoaghlecmaaDoor.P
namespace Go.Proofs.YtppcjoaghlecmaaDoor.P
open Go.RowKit Go.Proofs.YtppcjoaghlecmaaDoorW.PrintWords Go.Proofs.YtppcjoaghlecmaaDoorW.PrintLast
open Go.Proofs.YtppcjoaghlecmaaDoor.Op
def accountinglaw20_LedgerEntities.Pure : Prop := ∀ (l0 : List (S29)) (a1 : S24), (FitL fit29) l0 → fit24 a1 → accountinglaw20_LedgerEntities.f l0 a1.f0 a1.f1 a1.f2 a1.f3 = some true
end Go.Proofs.YtppcjoaghlecmaaDoor.P
namespace Go.Proofs.YtppcjoaghlecmaaDoor.Pure
open Go.RowKit Go.Proofs.YtppcjoaghlecmaaDoor.P Go.Proofs.YtppcjoaghlecmaaDoor.Op Go.Proofs.YtppcjoaghlecmaaDoorW.PrintWords Go.Proofs.YtppcjoaghlecmaaDoorW.PrintLast
theorem LedgerEntities : accountinglaw20_LedgerEntities.Pure := by
 intro l q hl _
 unfold accountinglaw20_LedgerEntities.f
 exact if_pos (fun x hx => fit_ok (hl.2 x hx))
end Go.Proofs.YtppcjoaghlecmaaDoor.Pure
