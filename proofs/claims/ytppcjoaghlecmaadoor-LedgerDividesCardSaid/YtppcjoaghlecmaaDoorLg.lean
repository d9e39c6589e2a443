/- Texts of mine and of the print, joined: HandLedgerDivides. -/
import Derived.Test.YtppcjoaghlecmaaDoorLf
namespace Go.Proofs.YtppcjoaghlecmaaDoor.P
open Go.RowKit Go.Sort Go.Proofs.YtppcjoaghlecmaaDoorW.PrintWords Go.Proofs.YtppcjoaghlecmaaDoorW.PrintLast Go.Proofs.YtppcjoaghlecmaaDoorW.PrintMore Go.Maps Go.ChangeShapes Go.WideShapes Go.WideMaps Go.Shelf
set_option linter.unusedVariables false
set_option linter.unusedSimpArgs false
theorem sel_part {q q1 q2 : Qy} {E : List S29} (P : S40 → Bool) (h : ∀ x ∈ E, (selB q x = (selB q1 x || selB q2 x)) ∧ (selB q1 x && selB q2 x) = false) : psA P (selC E q) = psA P (selC E q1) + psA P (selC E q2) ∧ psB P (selC E q) = psB P (selC E q1) + psB P (selC E q2) := by
 induction E with
 | nil => exact ⟨rfl, rfl⟩
 | cons x r ih =>
  have h1 := ih (fun y hy => h y (by simp [hy]))
  obtain ⟨e1, e2⟩ := h x (by simp)
  rw [selC_cons, selC_cons, selC_cons, psA_append, psB_append, psA_append, psB_append, psA_append, psB_append, h1.1, h1.2, e1]
  cases c1 : selB q1 x <;> cases c2 : selB q2 x <;> rw [c1, c2] at e2 <;> simp [psA_nil, psB_nil] at e2 ⊢ <;> omega
theorem add_part {q q1 q2 : Qy} {E : List S29} (hg : GoodE E) (hn : lnsE E ≤ 400) (h : ∀ x ∈ E, (selB q x = (selB q1 x || selB q2 x)) ∧ (selB q1 x && selB q2 x) = false) : addK (sheetE E q1).1 (sheetE E q2).1 = ((sheetE E q).1, 0) := by
 unfold addK
 rw [if_pos ⟨rightB_ofK _, rightB_ofK _⟩]
 have : ofK ((sheetE E q1).1 ++ (sheetE E q2).1) = ofK (selC E q) := by
  refine ofK_congr (fun k => ?_)
  have h1 := ps_sheet hg hn q1 (isK k)
  have h2 := ps_sheet hg hn q2 (isK k)
  have h3 := sel_part (isK k) h
  rw [sumA_ps, sumB_ps, sumA_ps, sumB_ps, psA_append, psB_append, h1.1, h1.2, h2.1, h2.2, h3.1, h3.2]
  exact ⟨rfl, rfl⟩
 rw [this]
 exact Prod.ext rfl (sheet_ok hg hn q)
theorem div_part (q : Qy) (day : Int) (h1 : ¬ day < q.a) (h2 : ¬ q.z ≤ day) (x : S29) : (selB q x = (selB ⟨q.e, q.a, day, q.b⟩ x || selB ⟨q.e, day + 1, q.z, q.b⟩ x)) ∧ (selB ⟨q.e, q.a, day, q.b⟩ x && selB ⟨q.e, day + 1, q.z, q.b⟩ x) = false := by
 unfold selB
 simp only
 cases (q.e.toList == [] || q.e.toList == x.f1.toList)
 ·exact ⟨rfl, rfl⟩
 ·cases hb : decide (x.f2 ≤ q.b)
  ·simp
  ·simp only [Bool.true_and, Bool.and_true]
   by_cases c1 : q.a ≤ x.f3 <;> by_cases c2 : x.f3 ≤ day <;> by_cases c3 : x.f3 ≤ q.z <;> by_cases c4 : day + 1 ≤ x.f3 <;> simp [c1, c2, c3, c4] <;> omega
instance (n : Int) : Decidable (i64ok n) := by unfold i64ok; exact inferInstance
def accountinglaw20_LedgerDivides.f (l : List S29) (a1_0 : ByteArray) (a1_1 a1_2 a1_3 a2 : Int) : Option Bool := if (∀ x ∈ l, okEn x) ∧ i64ok a1_2 ∧ i64ok a2 then some true else none
set_option maxHeartbeats 8000000 in
set_option maxRecDepth 100000 in
theorem ledgerDivides_calls (A : Option Addr) (c : Nat) (l : List S29) (q : Qy) (day : Int) (w : World) (hC : Kd.C k29 w A l.length l) (hc : l.length ≤ c) (hok : ∀ x ∈ l, okEn x) (hz : i64ok q.z) (hd : i64ok day) (hT : Tab w) :
  Calls Tryd.prog 9 #[.slice A l.length c, qyV q, .int .i64 day] w fun e w' => e = .returned (.bool true) ∧ Below w.heap.size w w' := by
 have HC := Aside0.mk hC
 have Hc := Aside0.mk hc
 have HT := Aside0.mk hT
 have HOK := Aside0.mk hok
 have HZ := Aside0.mk hz
 have HD := Aside0.mk hd
 clear hC hc hT hok hz hd
 unfold qyV
 obtain ⟨lb, hlb⟩ : ∃ lb, largeB l = lb := ⟨_, rfl⟩
 have HLB := Aside0.mk hlb
 clear hlb
 obtain ⟨g, hg⟩ : ∃ g, w.heap.size = g := ⟨_, rfl⟩
 have HBS := Aside0.mk hg
 have HB1 := Aside0.mk (below_alloc (Below.refl w.heap.size w) (.cells #[.string q.e, .int .i64 q.a, .int .i64 q.z, .int .i64 q.b] 24))
 have HBQ := Aside0.mk (hg ▸ blk_new w (.cells #[.string q.e, .int .i64 q.a, .int .i64 q.z, .int .i64 q.b] 24))
 have bad : ∀ (b1 b2 : Bool), decide (day < q.a) = b1 → decide (q.z ≤ day) = b2 → (lb || (b1 || b2)) = true → Calls Tryd.prog 9 #[.slice A l.length c, .agg #[.string q.e, .int .i64 q.a, .int .i64 q.z, .int .i64 q.b], .int .i64 day] w fun e w' => e = .returned (.bool true) ∧ Below w.heap.size w w' := by
  intro b1 b2 d1 d2 d3
  have HB1' := HB1
  rw [HBS.out] at HB1'
  go_enter Tryd.func9, Tryd.ntmps9
  cases lb <;> cases b1 <;> cases b2 <;> first | (exact absurd d3 (by decide)) | skip
  all_goals
   clear d3
   go_wp2_with (first | (go_at_call 16; refine (large_is A c l _ _ (Kd.C_below HC.out HB1.out) Hc.out HOK.out HLB.out).mono ?_; rintro e w2 ⟨rfl, hb⟩; have HB2 := Aside0.mk (below_then HB1.out HB1.out.size hb); have hq2 := blk_below HBQ.out hb; have q1 : w2.cell? ⟨g, 1, none⟩ = some (.int .i64 q.a) := (blk_cell hq2 1).trans rfl; have q2 : w2.cell? ⟨g, 2, none⟩ = some (.int .i64 q.z) := (blk_cell hq2 2).trans rfl; clear hb hq2) | (go_at_call 17; refine (lives_calls _ (HT.out.below HB2.out)).mono ?_; rintro e w3 ⟨rfl, hb⟩; have HB3 := Aside0.mk hb; clear hb))
   go_ret
   exact ⟨rfl, below_then HB2.out HB2.out.size HB3.out⟩
 by_cases hall : (lb || (decide (day < q.a) || decide (q.z ≤ day))) = true
 ·exact bad _ _ rfl rfl hall
 clear bad
 have hall2 : lb = false ∧ ¬ day < q.a ∧ ¬ q.z ≤ day := by
  simpa only [Bool.or_eq_true, decide_eq_true_iff, not_or, Bool.not_eq_true] using hall
 obtain ⟨rfl, n1, n2⟩ := hall2
 clear hall
 have d1 : decide (day < q.a) = false := decide_eq_false n1
 have d2 : decide (q.z ≤ day) = false := decide_eq_false n2
 have hw1 : wrap64 (day + 1) = day + 1 := by
  have h1 := HZ.out
  have h2 := HD.out
  unfold i64ok at h1 h2
  unfold wrap64
  omega
 have HPT := Aside0.mk (div_part q day n1 n2)
 clear n1 n2
 have HN := Aside0.mk (large_no HLB.out)
 obtain ⟨E, hE⟩ : ∃ E, playE l = E := ⟨_, rfl⟩
 have HG := Aside0.mk (show GoodE E from hE ▸ play_good l)
 have HLN := Aside0.mk (show lnsE E ≤ 400 from by have := play_lns l; have := HN.out.2.1; rw [← hE]; unfold lnsE at *; omega)
 have HEL := Aside0.mk (show E.length ≤ 1000 from by have := play_len l; have := HN.out.1; rw [← hE]; omega)
 have HE := Aside0.mk hE
 clear hE
 have HFE := Aside0.mk (fun x hx => fit_E (HOK.out x hx))
 obtain ⟨s, hs⟩ : ∃ s, (sheetE E q).1 = s := ⟨_, rfl⟩
 obtain ⟨s1, hs1⟩ : ∃ s1, (sheetE E ⟨q.e, q.a, day, q.b⟩).1 = s1 := ⟨_, rfl⟩
 obtain ⟨s2, hs2⟩ : ∃ s2, (sheetE E ⟨q.e, day + 1, q.z, q.b⟩).1 = s2 := ⟨_, rfl⟩
 have HADD := Aside0.mk (show addK s1 s2 = (s, 0) from by rw [← hs1, ← hs2, ← hs]; exact add_part HG.out HLN.out (fun x _ => HPT.out x))
 have HL1 := Aside0.mk (show s1.length + s2.length ≤ 1000000 from by
  have h1 := ofK_le (selC E ⟨q.e, q.a, day, q.b⟩)
  have h2 := ofK_le (selC E ⟨q.e, day + 1, q.z, q.b⟩)
  have h3 := selC_len ⟨q.e, q.a, day, q.b⟩ E
  have h4 := selC_len ⟨q.e, day + 1, q.z, q.b⟩ E
  have h5 := HLN.out
  rw [← hs1, ← hs2]
  unfold sheetE
  omega)
 have HSL := Aside0.mk (show s.length ≤ 1000000 from hs ▸ sheet_len HG.out HEL.out q)
 have HSH := Aside0.mk hs
 have HSH1 := Aside0.mk hs1
 have HSH2 := Aside0.mk hs2
 clear hs hs1 hs2
 have HB1' := HB1
 rw [HBS.out] at HB1'
 go_enter Tryd.func9, Tryd.ntmps9
 go_wp2_with (first
  | (go_at_call 16; (with_reducible refine (large_is A c l false _ (Kd.C_below HC.out HB1.out) Hc.out HOK.out HLB.out).mono ?_); rintro e w2 ⟨rfl, hb⟩; have HB2 := Aside0.mk (below_then HB1.out HB1.out.size hb); have HBQ2 := Aside0.mk (blk_below HBQ.out hb); have q1 : w2.cell? ⟨g, 1, none⟩ = some (.int .i64 q.a) := (blk_cell HBQ2.out 1).trans rfl; have q2 : w2.cell? ⟨g, 2, none⟩ = some (.int .i64 q.z) := (blk_cell HBQ2.out 2).trans rfl; clear hb)
  | (go_at_call 18; (with_reducible refine (posts_calls A c l _ (Kd.C_below HC.out HB2.out) Hc.out (by have := HN.out.1; omega) HFE.out (HT.out.below HB2.out)).mono ?_); rw [HE.out]; rintro e w4 ⟨p, m, rfl, h4⟩; have HL4 := Aside0.mk h4; have HBB := Aside0.mk (below_then HB2.out HB2.out.size h4.bel); have HBQ4 := Aside0.mk (blk_below HBQ2.out h4.bel); obtain ⟨z0, z1, z2, z3⟩ := qy_kept HBQ4.out w4 (Below.refl _ _); clear h4 q1 q2)
  | (go_at_call 19; (with_reducible refine (HL4.out.sheetx HG.out HLN.out HEL.out q.e q.a q.z q.b HSH.out).mono ?_); rintro e w5 ⟨A5, c5, rfl, hs5, hb5, h5⟩; have HL5 := Aside0.mk h5; have HS5 := Aside0.mk hs5; have HBC := Aside0.mk (below_then HBB.out HBB.out.size hb5); have HBQ5 := Aside0.mk (blk_below HBQ4.out hb5); obtain ⟨y0, y1, y2, y3⟩ := qy_kept HBQ5.out w5 (Below.refl _ _); clear hs5 hb5 h5 z0 z1 z2 z3)
  | (go_at_call 19; (with_reducible refine (HL5.out.sheetx HG.out HLN.out HEL.out q.e q.a day q.b HSH1.out).mono ?_); rintro e w6 ⟨A6, c6, rfl, hs6, hb6, h6⟩; have HL6 := Aside0.mk h6; have HS6 := Aside0.mk hs6; have HS56 := Aside0.mk (HS5.out.below hb6); have HBD := Aside0.mk (below_then HBC.out HBC.out.size hb6); have HBQ6 := Aside0.mk (blk_below HBQ5.out hb6); obtain ⟨x0, x1, x2, x3⟩ := qy_kept HBQ6.out w6 (Below.refl _ _); clear hs6 hb6 h6 y0 y1 y2 y3)
  | (go_at_call 19; (with_reducible refine (HL6.out.sheetx HG.out HLN.out HEL.out q.e (day + 1) q.z q.b HSH2.out).mono ?_); rintro e w7 ⟨A7, c7, rfl, hs7, hb7, h7⟩; have HS7 := Aside0.mk hs7; have HS57 := Aside0.mk (HS56.out.below hb7); have HS67 := Aside0.mk (HS6.out.below hb7); have HBE := Aside0.mk (below_then HBD.out HBD.out.size hb7); clear hs7 hb7 h7 x0 x1 x2 x3)
  | (go_at_call 35; (with_reducible refine (add_is HS67.out HS7.out HL1.out s 0 HADD.out).mono ?_); rintro e w8 ⟨A8, c8, rfl, hs8, hb8⟩; have HS8 := Aside0.mk hs8; have HS58 := Aside0.mk (HS57.out.below hb8); have HBF := Aside0.mk (below_then HBE.out HBE.out.size hb8); clear hs8 hb8)
  | (go_at_call 21; (with_reducible refine (same_is HS58.out HS8.out HSL.out).mono ?_); rintro e w9 ⟨rfl, hb9⟩; have HBG := Aside0.mk (below_then HBF.out HBF.out.size hb9); clear hb9)
  | (go_at_call 17; (with_reducible refine (lives_calls _ (HT.out.below HBG.out)).mono ?_); rintro e wa ⟨rfl, hb⟩; have HBH := Aside0.mk hb; clear hb))
 go_ret
 exact ⟨rfl, below_then HBG.out HBG.out.size HBH.out⟩
theorem accountinglaw20_LedgerDivides.calls (A0 : Option Addr) (c0 : Nat) (l0 : List S29) (a1_0 : ByteArray) (a1_1 a1_2 a1_3 a2 : Int) (r : Bool) (w : World) (hr0 : Kd.C k29 w A0 l0.length l0) (hc0 : l0.length ≤ c0) (h : accountinglaw20_LedgerDivides.f l0 a1_0 a1_1 a1_2 a1_3 a2 = some r) (hT : Tab w) :
  Calls Tryd.prog 9 #[.slice A0 l0.length c0, .agg #[.string a1_0, .int .i64 a1_1, .int .i64 a1_2, .int .i64 a1_3], .int .i64 a2] w fun e w' => e = .returned (.bool r) ∧ Below w.heap.size w w' := by
 unfold accountinglaw20_LedgerDivides.f at h
 split at h
 ·rename_i hok
  obtain rfl := Option.some.inj h
  exact ledgerDivides_calls A0 c0 l0 ⟨a1_0, a1_1, a1_2, a1_3⟩ a2 w hr0 hc0 hok.1 hok.2.1 hok.2.2 hT
 ·cases h
end Go.Proofs.YtppcjoaghlecmaaDoor.P
