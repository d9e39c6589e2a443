/- Texts of mine and of the print, joined: HandLedgerKnown, SayLedgerKnown, PureLedgerKnown. -/
import Derived.Test.YtppcjoaghlecmaaDoorLh
import Derived.Test.YtppcjoaghlecmaaDoorLd
namespace Go.Proofs.YtppcjoaghlecmaaDoor.P
open Go.RowKit Go.Sort Go.Proofs.YtppcjoaghlecmaaDoorW.PrintWords Go.Proofs.YtppcjoaghlecmaaDoorW.PrintLast Go.Proofs.YtppcjoaghlecmaaDoorW.PrintMore Go.Maps Go.ChangeShapes Go.WideShapes Go.WideMaps Go.Shelf
set_option linter.unusedVariables false
set_option linter.unusedSimpArgs false
def accountinglaw20_LedgerKnown.f (l : List S29) (a1_0 : ByteArray) (a1_1 a1_2 a1_3 : Int) : Option Bool := if ∀ x ∈ l, okEn x then some true else none
set_option maxHeartbeats 8000000 in
set_option maxRecDepth 100000 in
theorem ledgerKnown_calls (A : Option Addr) (c : Nat) (l : List S29) (q : Qy) (w : World) (hC : Kd.C k29 w A l.length l) (hc : l.length ≤ c) (hok : ∀ x ∈ l, okEn x) (hT : Tab w) :
  Calls Tryd.prog 3 #[.slice A l.length c, qyV q] w fun e w' => e = .returned (.bool true) ∧ Below w.heap.size w w' := by
 have HC := Aside0.mk hC
 have Hc := Aside0.mk hc
 have HT := Aside0.mk hT
 have HOK := Aside0.mk hok
 clear hC hc hT hok
 unfold qyV
 obtain ⟨lb, hlb⟩ : ∃ lb, largeB l = lb := ⟨_, rfl⟩
 have HLB := Aside0.mk hlb
 clear hlb
 have HB1 := Aside0.mk (below_alloc (Below.refl w.heap.size w) (.cells #[.string q.e, .int .i64 q.a, .int .i64 q.z, .int .i64 q.b] 24))
 have HBQ := Aside0.mk (blk_new w (.cells #[.string q.e, .int .i64 q.a, .int .i64 q.z, .int .i64 q.b] 24))
 cases lb
 ·have HN := Aside0.mk (large_no HLB.out)
  have HLL := Aside0.mk (show l.length ≤ 40 from HN.out.1)
  have HFE := Aside0.mk (fun x hx => fit_E (HOK.out x hx))
  go_enter Tryd.func3, Tryd.ntmps3
  go_upto_region 3 with (go_at_call 16; refine (large_is A c l false _ (Kd.C_below HC.out HB1.out) Hc.out HOK.out HLB.out).mono ?_; rintro e w2 ⟨rfl, hb⟩; have HB2 := Aside0.mk (below_then HB1.out HB1.out.size hb); have HBQ2 := Aside0.mk (blk_below HBQ.out hb); clear hb)
  obtain ⟨g, hg⟩ : ∃ g, w.heap.size = g := ⟨_, rfl⟩
  have HGS := Aside0.mk hg
  rw [hg] at HBQ2
  try rw [hg]
  clear hg
  go_upto_region 4 with (fail)
  have HE0 := Aside0.mk (show Erl w (w2.alloc (.cells #[] 29)) g q (.slice (some ⟨w2.heap.size, 0, none⟩) 0 0) [] from ⟨N_empty w2 _ HB2.out.size, blk_alloc HBQ2.out _, below_alloc HB2.out _⟩)
  go_wp2
  go_loopw [5, 6] (fun v5 v6 wr => ∃ i : Nat, i ≤ l.length ∧ v6 = .int .i64 i ∧ Aside0 (Erl w wr g q v5 (l.take i))) (fun _ v6 _ => l.length - (intOf v6).toNat)
  case atStart => exact ⟨0, Nat.zero_le _, rfl, ⟨by rw [List.take_zero]; exact HE0.out⟩⟩
  case round =>
   clear HE0 HB2 HBQ2
   obtain ⟨i, hi, rfl, HER⟩ := hrel
   rename World => wo
   have q3 : wo.cell? ⟨g, 3, none⟩ = some (.int .i64 q.b) := (blk_cell HER.out.box 3).trans rfl
   obtain ⟨bo, hbo⟩ : ∃ bo, bo = (decide (i < l.length) && decide ((rd_T29 l (i : Int)).f2 ≤ q.b)) := ⟨_, rfl⟩
   have HBO := Aside0.mk hbo
   clear hbo
   go_upto_region 5 with (fail)
   go_cut [17, 18, 19, 20, 21, 22, 23, 24, 25, 26, 27, 28, 29, 30] (fun _ _ _ _ _ _ _ _ _ _ _ _ _ v30 wc => v30 = .bool bo ∧ ∃ n, wc = wo.drewN n)
   case first =>
    by_cases hlt : i < l.length
    ·have d1 : decide ((i : Int) < (l.length : Int)) = true := decide_eq_true (by omega)
     have d2 : decide (i < l.length) = true := decide_eq_true hlt
     have p0 : (0 : Int) ≤ (i : Int) := by omega
     have p1 : (i : Int) < (l.length : Int) := by omega
     obtain ⟨ad, A8, c8, e, z0, z1, z2, z3, z4, z5, z6, z7, z8, l8, g8⟩ := at_T29 (Kd.C_below HC.out HER.out.bel) (i : Int) p0 p1
     cases e
     rw [Int.toNat_natCast] at z2
     clear z0 z1 z3 z4 z5 z6 z7 z8 l8 g8
     obtain ⟨x, hx⟩ : ∃ x, rd_T29 l (i : Int) = x := ⟨_, rfl⟩
     rw [hx] at z2
     have hbx : bo = decide (x.f2 ≤ q.b) := by rw [HBO.out, hx, d2, Bool.true_and]
     clear hx
     cases bo
     ·have d3 : decide (x.f2 ≤ q.b) = false := hbx.symm
      clear hbx
      go_big_quiet (fail)
      go_wp2_with fail
      go_meet
      case rel => exact ⟨rfl, nq, rfl⟩
     ·have d3 : decide (x.f2 ≤ q.b) = true := hbx.symm
      clear hbx
      go_big_quiet (fail)
      go_wp2_with fail
      go_meet
      case rel => exact ⟨rfl, nq, rfl⟩
    ·have d1 : decide ((i : Int) < (l.length : Int)) = false := decide_eq_false (by omega)
     have d2 : decide (i < l.length) = false := decide_eq_false hlt
     have hbx : bo = false := by rw [HBO.out, d2, Bool.false_and]
     subst hbx
     go_big_quiet (fail)
     go_wp2_with fail
     go_meet
     case rel => exact ⟨rfl, nq, rfl⟩
   case rest =>
    obtain ⟨rfl, n5, rfl⟩ := hcut
    have HE5 := Aside0.mk (HER.out.below (pw_below_drewN (Below.refl _ wo) n5))
    clear HER q3
    obtain ⟨w5, hw5⟩ : ∃ w5, wo.drewN n5 = w5 := ⟨_, rfl⟩
    rw [hw5] at HE5
    try rw [hw5]
    clear hw5
    obtain ⟨A5, c5, e5⟩ := Kd.N_slice HE5.out.row
    subst e5
    cases bo
    ·have hti : (l.take i).length = i := by rw [List.length_take]; omega
     rw [hti] at HE5
     try rw [hti]
     clear HBO
     have hCe := (Kd.N_reads' HE5.out.row).2.2
     have HLE := Aside0.mk (show (l.take i).length ≤ c5 from by rw [hti]; exact (Kd.N_reads' HE5.out.row).2.1)
     have HCE := Aside0.mk hCe
     obtain ⟨E0, hE0⟩ : ∃ E0, playE (l.take i) = E0 := ⟨_, rfl⟩
     have HE := Aside0.mk hE0
     have HG0 := Aside0.mk (show GoodE E0 from hE0 ▸ play_good _)
     have HLN0 := Aside0.mk (show lnsE E0 ≤ lnsE (l.take i) from hE0 ▸ play_lns _)
     have HEL0 := Aside0.mk (show E0.length ≤ i from by have := play_len (l.take i); rw [hti, hE0] at this; exact this)
     have HLT := Aside0.mk (show lnsE l ≤ 400 from by have := HN.out.2.1; unfold lnsE; exact this)
     obtain ⟨s, hs⟩ : ∃ s, (sheetE E0 q).1 = s := ⟨_, rfl⟩
     have HS := Aside0.mk hs
     have HSL := Aside0.mk (show s.length ≤ 1000000 from hs ▸ sheet_len HG0.out (by have := HEL0.out; have := HLL.out; omega) q)
     have HPC := Aside0.mk (show Calls Tryd.prog 18 #[.slice A5 i c5] w5 (fun e w' => ∃ p m, e = .returned (.pointer (some ⟨p, 0, none⟩)) ∧ LiveE w5 w' p m E0) from by
      have := posts_calls A5 c5 (l.take i) w5 hCe HLE.out (by rw [hti]; have := HLL.out; omega) (fun x hx => HFE.out x (List.mem_of_mem_take hx)) (HT.out.below HE5.out.bel)
      rw [hti, hE0] at this
      exact this)
     have hll := HLL.out
     have HI := Aside0.mk hi
     clear hE0 hs hCe hti
     go_upto_region 10 with (first
      | (go_at_call 18; (with_reducible refine HPC.out.mono ?_); rintro e w6 ⟨p, m, rfl, h6⟩; have HL6 := Aside0.mk h6; have hb6 := blk_below HE5.out.box h6.bel; have HB6 := Aside0.mk hb6; obtain ⟨x0, x1, x2, x3⟩ := qy_kept hb6 w6 (Below.refl _ _); clear h6 hb6)
      | (go_at_call 19; (with_reducible refine (HL6.out.sheetb HG0.out (Nat.le_trans HLN0.out (Nat.le_trans (lns_le l i) HLT.out)) (by have := HEL0.out; omega) q.e q.a q.z q.b HS.out).mono ?_); rintro e w7 ⟨A7, c7, rfl, hs7, hb7, h7, hm7⟩; have HLA := Aside0.mk (show Lat w5 w7 p m g w6.heap.size q l i (selC E0 q) E0 A7 c7 s from ⟨h7, HG0.out, rfl, HLN0.out, HEL0.out, blk_below HB6.out hb7, hs7⟩); have HMB := Aside0.mk hm7; clear hs7 hb7 h7 hm7 x0 x1 x2 x3))
     have HGM := Aside0.mk (show g ≠ m from by have h1 := blk_lt HE5.out.box; have h2 := HLA.out.live.led.lowm; omega)
     have HBW := Aside0.mk HE5.out.bel
     clear HL6 HB6 HPC HCE HLE HE5 HE HLN0 HEL0
     go_wp2
     go_loopw [10] (fun v10 wr => ∃ (j : Nat) (E : List S29), j ≤ l.length ∧ v10 = .int .i64 j ∧ Aside0 (Lat w5 wr p m g w6.heap.size q l j (selC E0 q) E A7 c7 s)) (fun v10 _ => l.length - (intOf v10).toNat)
     case atStart => exact ⟨i, E0, HI.out, rfl, HLA⟩
     case round =>
      clear HLA
      obtain ⟨j, E, hj, rfl, HLA⟩ := hrel
      rename World => w8
      have HBW8 := Aside0.mk (below_then HBW.out HBW.out.size HLA.out.live.bel)
      by_cases hlt : j < l.length
      ·have d1 : decide ((j : Int) < (l.length : Int)) = true := decide_eq_true (by omega)
       have d2 : decide (j < l.length) = true := decide_eq_true hlt
       have p0 : (0 : Int) ≤ (j : Int) := by omega
       have p1 : (j : Int) < (l.length : Int) := by omega
       have HCW := Aside0.mk (Kd.C_below HC.out HBW8.out)
       obtain ⟨ad, A8, c8, e, z0, z1, z2, z3, z4, z5, z6, z7, z8, l8, g8⟩ := at_T29 HCW.out (j : Int) p0 p1
       cases e
       rw [Int.toNat_natCast] at z0 z1 z2 z3 z4 z5 z6 z7 z8
       obtain ⟨x, hx⟩ : ∃ x, rd_T29 l (j : Int) = x := ⟨_, rfl⟩
       have hxi : l[j] = x := by rw [← hx]; simp [rd_T29, hlt]
       rw [hx] at z0 z1 z2 z3 z4 z5 z6 z7 z8 l8 g8
       have HXI := Aside0.mk hxi
       have HG8 := Aside0.mk g8
       have HL8 := Aside0.mk l8
       have HXF := Aside0.mk (HFE.out x (by rw [← hxi]; exact List.getElem_mem _))
       have q3 : w8.cell? ⟨g, 3, none⟩ = some (.int .i64 q.b) := (blk_cell HLA.out.box 3).trans rfl
       clear hx hxi g8 l8
       cases hqx : decide (q.b < x.f2)
       ·go_upto_region 13 with (fail)
        go_big_quiet (fail)
        go_wp2
        go_roundw
        case rel => exact ⟨j + 1, E, by omega, by go_num, ⟨(HLA.out.skip hlt).below (pw_below_drewN (Below.refl _ w8) nq)⟩⟩
        case measure => simp [intOf]; omega
       ·have HQX := Aside0.mk (of_decide_eq_true hqx)
        go_upto_region 13 with (fail)
        go_big_quiet (fail)
        have HLD := Aside0.mk (HLA.out.below (pw_below_drewN (Below.refl _ w8) nq))
        have HGD := Aside0.mk (Kd.C_below HG8.out (pw_below_drewN (Below.refl _ w8) nq))
        go_wp2_with (go_at_call 20; (with_reducible refine (HLD.out.live.post (HT.out.below HBW.out) x A8 c8 HGD.out HL8.out HXF.out (by have := HLA.out.len; omega)).mono ?_); rintro e w9 ⟨rfl, h9, hb9⟩; have HL9 := Aside0.mk (HLD.out.post hlt HXI.out HQX.out h9 hb9 HMB.out HGM.out); clear h9 hb9)
        go_roundw
        case rel => exact ⟨j + 1, postE E x, by omega, by go_num, HL9⟩
        case measure => simp [intOf]; omega
      ·obtain rfl : j = l.length := by omega
       have d1 : decide ((l.length : Int) < (l.length : Int)) = false := decide_eq_false (by omega)
       have HLN := Aside0.mk (show lnsE E ≤ 400 from by have h1 := HLA.out.lns; rw [List.take_length] at h1; exact Nat.le_trans h1 HLT.out)
       obtain ⟨x0, x1, x2, x3⟩ := qy_kept HLA.out.box w8 (Below.refl _ _)
       go_wp2_with (first
        | (go_at_call 19; (with_reducible refine (HLA.out.live.sheetb HLA.out.good HLN.out (by have := HLA.out.len; omega) q.e q.a q.z q.b (HLA.out.same HS.out)).mono ?_); rintro e w9 ⟨A9, c9, rfl, hs9, hb9, h9, _⟩; have HS9 := Aside0.mk hs9.sl; have HA9 := Aside0.mk (HLA.out.sl.below hb9).sl; have HB9 := Aside0.mk (below_then HBW8.out HBW8.out.size hb9); clear hs9 hb9 h9 x0 x1 x2 x3)
        | (go_at_call 21; (with_reducible refine (same_is HA9.out HS9.out HSL.out).mono ?_); rintro e wa ⟨rfl, hb⟩; have HBa := Aside0.mk (below_then HB9.out HB9.out.size hb); clear hb)
        | (go_at_call 17; (with_reducible refine (lives_calls _ (HT.out.below HBa.out)).mono ?_); rintro e wb ⟨rfl, hb⟩; have HBb := Aside0.mk hb; clear hb))
       go_ret
       exact ⟨rfl, below_then HBa.out HBa.out.size HBb.out⟩
    ·have hb2 : i < l.length ∧ (rd_T29 l (i : Int)).f2 ≤ q.b := by
      have := HBO.out.symm
      simpa only [Bool.and_eq_true, decide_eq_true_iff] using this
     obtain ⟨hlt, _⟩ := hb2
     have p0 : (0 : Int) ≤ (i : Int) := by omega
     have p1 : (i : Int) < (l.length : Int) := by omega
     obtain ⟨ad, A8, c8, e, z0, z1, z2, z3, z4, z5, z6, z7, z8, l8, g8⟩ := at_T29 (Kd.C_below HC.out HE5.out.bel) (i : Int) p0 p1
     cases e
     rw [Int.toNat_natCast] at z0 z1 z2 z3 z4 z5 z6 z7 z8
     obtain ⟨x, hx⟩ : ∃ x, rd_T29 l (i : Int) = x := ⟨_, rfl⟩
     have hxi : l[i] = x := by rw [← hx]; simp [rd_T29, hlt]
     rw [hx] at z0 z1 z2 z3 z4 z5 z6 z7 z8 l8 g8
     have HXI := Aside0.mk hxi
     obtain ⟨_, A8', c8', e', y0, y1, y2, y3, y4, y5, y6, y7, y8, l8', g8'⟩ := at_T29 HC.out (i : Int) p0 p1
     have hA8 : A8' = A8 := by
      cases e'
      rw [Int.toNat_natCast] at y8
      have h2 := (HE5.out.bel.cell (World.block_lt_of_cell? w _ y8)).trans y8
      rw [hx, z8] at h2
      injection (Option.some.inj h2) with h3
      exact h3.symm
     subst hA8
     rw [hx] at g8'
     have HG8 := Aside0.mk g8'
     have HL8 := Aside0.mk l8
     have hlt2 : (l.take i).length = i := by rw [List.length_take]; omega
     have HLT := Aside0.mk hlt2
     clear hx hxi l8 g8 y0 y1 y2 y3 y4 y5 y6 y7 y8 l8' g8' e' hlt2
     have hll := HLL.out
     go_wp2_with (first | ((with_reducible refine gate_builtin (b := .append) (xs := #[.tmp 33, .tmp 38]) rfl ?_); at_builtin; refine Kd.N_append k29 (w0 := w) (W := w5) w.heap.size rfl (.tmp 33) (.tmp 38) 22 29 (.agg #[.int .i64 0, .string ⟨#[]⟩, .int .i64 0, .int .i64 0, .int .i64 0, .string ⟨#[]⟩, .string ⟨#[]⟩, .int .i64 0, .slice none 0 0]) 112 rfl Tryd.underlying22 info29 rfl (by decide) (by omega) _ (l.take i) x [.int .i64 x.f0, .string x.f1, .int .i64 x.f2, .int .i64 x.f3, .int .i64 x.f4, .string x.f5, .string x.f6, .int .i64 x.f7, .slice A8' x.f8.length c8] (fun _ => True) (fun k => k < w.heap.size) rfl rfl ?aP ?aK (fun _ _ => trivial) HE5.out.row HE5.out.bel HE5.out.bel.size ?aL ?_; (case aP => exact Kd.FK_below (k29_mkF w _ x HL8.out (Kd.C_F k109_heap HG8.out)) HE5.out.bel); (case aK => exact fun k hk => ⟨trivial, fun e => by have := Kd.N_base HE5.out.row k e.symm; omega⟩); (case aL => rw [HLT.out]; have := HLL.out; omega); intro v6 w6 ho hb hg _; have HO6 := Aside0.mk ho; have HB6 := Aside0.mk hb; have HG6 := Aside0.mk hg; clear ho hb hg))
     go_roundw
     case rel =>
      refine ⟨i + 1, by omega, by go_num, ⟨⟨?_, ?_, HB6.out⟩⟩⟩
      ·rw [List.take_add_one, List.getElem?_eq_getElem hlt, HXI.out]
       exact HO6.out
      ·exact blk_grown HE5.out.box HG6.out (Kd.N_ne HE5.out.row HE5.out.box (by decide))
     case measure => simp [intOf]; omega
 ·go_enter Tryd.func3, Tryd.ntmps3
  go_wp2_with (first | (go_at_call 16; refine (large_is A c l true _ (Kd.C_below HC.out HB1.out) Hc.out HOK.out HLB.out).mono ?_; rintro e w2 ⟨rfl, hb⟩; have HB2 := Aside0.mk (below_then HB1.out HB1.out.size hb); clear hb) | (go_at_call 17; refine (lives_calls _ (HT.out.below HB2.out)).mono ?_; rintro e w3 ⟨rfl, hb⟩; have HB3 := Aside0.mk hb; clear hb))
  go_ret
  exact ⟨rfl, below_then HB2.out HB2.out.size HB3.out⟩
theorem accountinglaw20_LedgerKnown.calls (A0 : Option Addr) (c0 : Nat) (l0 : List S29) (a1_0 : ByteArray) (a1_1 a1_2 a1_3 : Int) (r : Bool) (w : World) (hr0 : Kd.C k29 w A0 l0.length l0) (hc0 : l0.length ≤ c0) (h : accountinglaw20_LedgerKnown.f l0 a1_0 a1_1 a1_2 a1_3 = some r) (hT : Tab w) :
  Calls Tryd.prog 3 #[.slice A0 l0.length c0, .agg #[.string a1_0, .int .i64 a1_1, .int .i64 a1_2, .int .i64 a1_3]] w fun e w' => e = .returned (.bool r) ∧ Below w.heap.size w w' := by
 unfold accountinglaw20_LedgerKnown.f at h
 split at h
 ·rename_i hok
  obtain rfl := Option.some.inj h
  exact ledgerKnown_calls A0 c0 l0 ⟨a1_0, a1_1, a1_2, a1_3⟩ w hr0 hc0 hok hT
 ·cases h
end Go.Proofs.YtppcjoaghlecmaaDoor.P
namespace Go.Proofs.YtppcjoaghlecmaaDoor.P
open Go.RowKit Go.Proofs.YtppcjoaghlecmaaDoorW.PrintWords Go.Proofs.YtppcjoaghlecmaaDoorW.PrintLast
open Go.Proofs.YtppcjoaghlecmaaDoor.Op
def accountinglaw20_LedgerKnown.Pure : Prop := ∀ (l0 : List (S29)) (a1 : S24), (FitL fit29) l0 → fit24 a1 → accountinglaw20_LedgerKnown.f l0 a1.f0 a1.f1 a1.f2 a1.f3 = some true
end Go.Proofs.YtppcjoaghlecmaaDoor.P
namespace Go.Proofs.YtppcjoaghlecmaaDoor.Pure
open Go.RowKit Go.Proofs.YtppcjoaghlecmaaDoor.P Go.Proofs.YtppcjoaghlecmaaDoor.Op Go.Proofs.YtppcjoaghlecmaaDoorW.PrintWords Go.Proofs.YtppcjoaghlecmaaDoorW.PrintLast
theorem LedgerKnown : accountinglaw20_LedgerKnown.Pure := by
 intro l q hl _
 unfold accountinglaw20_LedgerKnown.f
 exact if_pos (fun x hx => fit_ok (hl.2 x hx))
end Go.Proofs.YtppcjoaghlecmaaDoor.Pure
