/- Texts of mine and of the print, joined: HandFlowPlays, Opn0, Opn, SayFlowPlays, PureFlowPlays. -/
import Derived.Test.YtbbhichndfbooaaPd
import Derived.Deep.RegionHeld3
import Derived.Test.YtbbhichndfbooaaPa
import Derived.Deep.Slices
import Derived.ChangeArms
import Derived.ChangeSame
import Derived.WideShapes
import Derived.Test.YtbbhichndfbooaaPb
namespace Go.Proofs.Ytbbhichndfbooaa.P
open Go.RowKit Go.Proofs.YtbbhichndfbooaaW.PrintWords Go.Proofs.YtbbhichndfbooaaW.PrintLast Go.Proofs.YtbbhichndfbooaaW.PrintMore Go.Maps Go.ChangeShapes Go.WideShapes Go.WideMaps
set_option linter.unusedVariables false
set_option linter.unusedSimpArgs false
theorem light_users {ops : List S46} (hl : ops.length ≤ 1000000) : ∀ (k i : Nat), accountinglaw15_light.l1 k ops (i : Int) = some true → ∀ j, i ≤ j → (hj : j < ops.length) → (ops[j]).f2.size ≤ 100
  | 0, _, h, _, _, _ => by simp [accountinglaw15_light.l1] at h
  | k + 1, i, h, j, hij, hj => by
    have hlt : i < ops.length := by omega
    have hw : wrap64 ((i : Int) + 1) = ((i + 1 : Nat) : Int) := by rw [w64r (by omega) (by omega)]; omega
    have hr : rd_T46 ops (i : Int) = ops[i] := by simp [rd_T46, hlt]
    rw [accountinglaw15_light.l1.eq_2] at h
    simp only [if_pos (show ((i : Int) < (ops.length : Int)) by omega), if_pos (show (0 : Int) ≤ (i : Int) by omega), hw, hr] at h
    by_cases hc : ((ops[i]).f2.size : Int) > 100
    · rw [if_pos hc] at h; cases h
    rw [if_neg hc] at h
    by_cases e : i = j
    · subst e; omega
    · exact light_users hl k (i + 1) h j (by omega) hj
theorem light_l1 {steps : List S60} {apprs : List ByteArray} {ops : List S46} (hla : apprs.length ≤ 1000000) : ∀ (k i : Nat), accountinglaw15_light.l0 k ops (i : Int) steps apprs = some true → ∃ k', accountinglaw15_light.l1 k' ops 0 = some true
  | 0, _, h => by simp [accountinglaw15_light.l0] at h
  | k + 1, i, h => by
    rw [accountinglaw15_light.l0.eq_2] at h
    by_cases hlt : (i : Int) < (apprs.length : Int)
    · have hw : wrap64 ((i : Int) + 1) = ((i + 1 : Nat) : Int) := by rw [w64r (by omega) (by omega)]; omega
      simp only [if_pos hlt, if_pos (show (0 : Int) ≤ (i : Int) by omega), hw] at h
      split at h
      · cases h
      · exact light_l1 hla k (i + 1) h
    · rw [if_neg hlt] at h
      exact ⟨k, h⟩
theorem light_ops {k : Nat} {steps : List S60} {apprs : List ByteArray} {ops : List S46} (h : accountinglaw15_light.f k steps apprs ops = some true) : ∀ o ∈ ops, o.f2.size ≤ 100 := by
  obtain ⟨l1, l2, l3, _⟩ := light_all h
  unfold accountinglaw15_light.f at h
  rw [if_neg (by omega), if_neg (by omega), decide_eq_false (by omega)] at h
  cases k with
  | zero => simp [accountinglaw15_light.j0] at h
  | succ k =>
    rw [accountinglaw15_light.j0.eq_2, if_neg (by decide)] at h
    obtain ⟨k', hk⟩ := light_l1 (by omega) k 0 h
    intro o ho
    obtain ⟨j, hj, rfl⟩ := List.mem_iff_getElem.1 ho
    exact light_users (by omega) k' 0 hk j (Nat.zero_le _) hj
theorem play_docs {S S' : FlowS} {o : S46} {i e : Int} (hq : playOf S o = (i, e, S')) : S'.docs.length ≤ S.docs.length + 1 := by
  unfold playOf at hq
  by_cases hk : o.f0 = 1
  · rw [if_pos hk] at hq
    have h : (draftOf S o.f2 o.f3).2.2 = S' := by rw [hq]
    rw [← h]
    unfold draftOf
    split
    · show S.docs.length ≤ _; omega
    split
    · show S.docs.length ≤ _; omega
    split
    · show S.docs.length ≤ _; omega
    · show (S.docs ++ [_]).length ≤ _; simp
  · rw [if_neg hk] at hq
    have h : (actOf S o.f0 o.f1 o.f2).2 = S' := (Prod.mk.inj (Prod.mk.inj hq).2).2
    rw [← h]
    rcases res_act S o.f0 o.f1 o.f2 with ⟨_, h2⟩ | ⟨_, k, user, D, E, _, h2, _⟩
    · rw [h2]; omega
    · rw [h2]
      show (S.docs.set _ _).length ≤ _
      rw [List.length_set]; omega
theorem rdraft_is {q : Nat} {S S' : FlowS} {F : Nat → Prop} {user : ByteArray} (hu : user.size ≤ 100000) {vol : Int} {w : World} (h : Rfl w F q S) (hn : S.acts.length ≤ 1000000) {i e : Int} (hq : draftOf S user vol = (i, e, S')) :
    Calls Try.prog 18 #[.pointer (some ⟨q, 0, none⟩), .string user, .int .i64 vol] w fun x w' => x = .returned (.tuple #[.int .i64 i, .int .i64 e]) ∧ RAfter F w w' q S' := by
  have := rdraft_calls q S F user hu vol w h hn
  rw [hq] at this
  exact this
theorem acted_is (kind : Int) (w : World) : Calls Try.prog 20 #[.int .i64 kind] w fun e w' => e = .returned (.int .i64 (actedK kind)) ∧ Drawn0 w w' := by
  refine accountinglaw15_acted.calls kind (actedK kind) w ?_
  unfold accountinglaw15_acted.f actedK
  repeat' split
  all_goals first | rfl | omega
theorem state_is2 {p : Nat} {S : FlowS} {F : Nat → Prop} {id : Int} (hid : (Lit.int .i64 id).wf = true) {w : World} (h : Flw w F p S) {st : Int} (hs : stOf S id = st) :
    Calls Try.prog 15 #[.pointer (some ⟨p, 0, none⟩), .int .i64 id] w fun e w' => e = .returned (.int .i64 st) ∧ w' = w := hs ▸ state_calls p S F id hid w h
theorem rstate_is2 {q : Nat} {S : FlowS} {F : Nat → Prop} {id : Int} (hid : (Lit.int .i64 id).wf = true) {w : World} (h : Rfl w F q S) {st : Int} (hs : stOf S id = st) :
    Calls Try.prog 21 #[.pointer (some ⟨q, 0, none⟩), .int .i64 id] w fun e w' => e = .returned (.int .i64 st) ∧ Below w.heap.size w w' := hs ▸ rstate_calls q S F id hid w h
theorem ran_drewN {w w' : World} {G : Nat → Prop} {q n : Nat} {S : FlowS} (h : RAfter G (w.drewN n) w' q S) : RAfter G w w' q S := RAfter.then ((Stp.refl G w).drewN n) h
theorem ran_drew {w w' : World} {G : Nat → Prop} {q : Nat} {S : FlowS} (h : RAfter G w.drew w' q S) : RAfter G w w' q S := RAfter.then ((Stp.refl G w).below (below_drew (Below.refl _ _))) h
theorem after_below {w w1 w' : World} {G : Nat → Prop} {q : Nat} {S : FlowS} (h : Below w.heap.size w w1) (hk : ∀ k, G k → w.heap.size ≤ k) (ha : RAfter G w1 w' q S) : Below w.heap.size w w' := by
  obtain ⟨_, _, hs⟩ := ha
  exact hs.but.below h h.size hk
set_option maxHeartbeats 16000000 in
set_option maxRecDepth 100000 in
theorem flowPlays_calls (A0 : Option Addr) (c0 : Nat) (steps : List S60) (A1 : Option Addr) (c1 : Nat) (apprs : List ByteArray) (A2 : Option Addr) (c2 : Nat) (ops : List S46) (w : World)
    (h0 : Kd.C k60 w A0 steps.length steps) (hc0 : steps.length ≤ c0) (h1 : Kd.string.C w A1 apprs.length apprs) (hc1 : apprs.length ≤ c1) (h2 : Kd.C k46 w A2 ops.length ops) (hc2 : ops.length ≤ c2) (hwf : ∀ o ∈ ops, (Lit.int .i64 o.f1).wf = true) :
    Calls Try.prog 5 #[.agg #[.slice A0 steps.length c0, .slice A1 apprs.length c1], .slice A2 ops.length c2] w fun e w' => e = .returned (.bool true) ∧ Below w.heap.size w w' := by
  obtain ⟨b, kl, hlt, _⟩ := light_some steps apprs ops
  have H0 := Aside0.mk h0
  have H1 := Aside0.mk h1
  have H2 := Aside0.mk h2
  have HLT := Aside0.mk hlt
  have HWF := Aside0.mk hwf
  clear h0 h1 h2 hwf
  go_enter Try.func5, Try.ntmps5
  go_upto_region 1 with (fail)
  refine with_world (P := fun x => Code.wp _ _ _ _ x) _ ?_
  intro w1 hw1
  have BK : w1.heap[w.heap.size]? = some (.cells #[.slice A0 steps.length c0, .slice A1 apprs.length c1] 25 (0, 0)) := by rw [hw1]; exact blk_new w _
  have HB1 := Aside0.mk (show Below w.heap.size w w1 from by rw [hw1]; exact below_alloc (Below.refl _ _) _)
  obtain ⟨g, hg⟩ : ∃ g, w.heap.size = g := ⟨_, rfl⟩
  rw [hg] at BK ⊢
  clear hw1 hg
  have HBK := Aside0.mk BK
  have b0 := (blk_cell BK 0).trans rfl
  have b1 := (blk_cell BK 1).trans rfl
  clear BK
  cases b
  · clear hlt
    go_wp2_with (first | (go_at_call 9; refine (accountinglaw15_light.calls kl A0 c0 steps A1 c1 apprs A2 c2 ops false _ (Kd.C_below H0.out HB1.out) hc0 (Kd.C_below H1.out HB1.out) hc1 (Kd.C_below H2.out HB1.out) hc2 HLT.out).mono ?_; rintro e w3 ⟨rfl, hb_⟩; have HB3 := Aside0.mk (below_then HB1.out HB1.out.size hb_); clear hb_ b0 b1) | (go_at_call 10; refine (lives_calls _).mono ?_; rintro e w4 ⟨rfl, hb_⟩; have HB4 := Aside0.mk hb_; clear hb_))
    go_ret
    exact ⟨rfl, below_then HB3.out HB3.out.size HB4.out⟩
  obtain ⟨l1, l2, l3, l4⟩ := light_all hlt
  obtain ⟨rt, kr, kn, hr, hn⟩ := rnew_both steps apprs (by omega) (by omega) (fun a ha => by have := l4 a ha; omega)
  obtain ⟨err, he⟩ : ∃ err, newErr rt steps apprs = err := ⟨_, rfl⟩
  have HR := Aside0.mk hr
  have HN := Aside0.mk (he ▸ hn)
  have HE := Aside0.mk he
  have HUS := Aside0.mk (light_ops hlt)
  have HL2 := Aside0.mk l2
  have HLS := Aside0.mk l1
  clear hr hn he hlt l1 l2 l4
  go_upto_region 3 with (first | (go_at_call 9; refine (accountinglaw15_light.calls kl A0 c0 steps A1 c1 apprs A2 c2 ops true _ (Kd.C_below H0.out HB1.out) hc0 (Kd.C_below H1.out HB1.out) hc1 (Kd.C_below H2.out HB1.out) hc2 HLT.out).mono ?_; rintro e w2 ⟨rfl, hb_⟩; have HB12 := Aside0.mk hb_; clear hb_ b0 b1))
  have HB2 := Aside0.mk (below_then HB1.out HB1.out.size HB12.out)
  have HBK2 := Aside0.mk (blk_below HBK.out HB12.out)
  have HG2 := Aside0.mk (show w.heap.size ≤ w2.heap.size from HB2.out.size)
  clear HB12 HB1 HBK
  have b0 := (blk_cell HBK2.out 0).trans rfl
  have b1 := (blk_cell HBK2.out 1).trans rfl
  by_cases hne : err = 0
  · subst hne
    go_upto_region 4 with (first | (go_at_call 11; refine (new_good (Kd.C_below H0.out HB2.out) hc0 (Kd.C_below H1.out HB2.out) HR.out HE.out).mono ?_; rintro e w3 ⟨hb_, p, rfl, hl_⟩; have HB23 := Aside0.mk hb_; have HL3 := Aside0.mk hl_; clear hb_ hl_ b0 b1))
    have HB3 := Aside0.mk (below_then HB2.out HB2.out.size HB23.out)
    have HBK3 := Aside0.mk (blk_below HBK2.out HB23.out)
    clear HBK2
    have b0 := (blk_cell HBK3.out 0).trans rfl
    have b1 := (blk_cell HBK3.out 1).trans rfl
    have HLN := Aside0.mk (newErr_len HE.out)
    go_upto_region 7 with (first | (go_at_call 12; refine (rnew_good (Kd.C_below H0.out HB3.out) hc0 (Kd.C_below H1.out HB3.out) hc1 HN.out HLN.out).mono ?_; rintro e w4 ⟨hb_, q, G, rfl, hF, hk⟩; have HB34 := Aside0.mk hb_; have HG4 := Aside0.mk hF; have HGK := Aside0.mk hk; clear hb_ hF hk b0 b1))
    have HB4 := Aside0.mk (below_then HB3.out HB3.out.size HB34.out)
    have HL4 := Aside0.mk (HL3.out.below HB34.out)
    have HX := Aside0.mk (show ∃ F, Flw w4 F p ⟨steps, apprs, [], []⟩ ∧ (∀ k, F k → w.heap.size ≤ k ∧ ¬ G k) from by
      obtain ⟨⟨F, hF, hk⟩, _⟩ := HL3.out
      exact ⟨F, hF.below HB34.out, fun k hk' => ⟨Nat.le_trans HG2.out (hk k hk'), fun hg => by have := hF.lt k hk'; have := HGK.out k hg; omega⟩⟩)
    have HGK4 := Aside0.mk (show ∀ k, G k → w.heap.size ≤ k from fun k hk => Nat.le_trans HB3.out.size (HGK.out k hk))
    have HDU0 := Aside0.mk (show Duties ⟨steps, apprs, [], []⟩ from duties_new (fun v hv => by
      have hrt : rt = true := by
        cases rt
        · have := HE.out
          unfold newErr at this
          split at this
          · cases this
          · rw [if_pos rfl] at this; cases this
        · rfl
      subst hrt
      exact right_need (Nat.le_trans HLS.out (by decide)) HR.out v hv))
    clear HL3 HL4 HB34 HB3 HBK3 HLN HGK HB23 HB2 HR HN HE HLT HLS
    obtain ⟨F0, hF0, hFK0⟩ := HX.out
    obtain ⟨S0, hS0⟩ : ∃ S0 : FlowS, (⟨steps, apprs, [], []⟩ : FlowS) = S0 := ⟨_, rfl⟩
    rw [hS0] at hF0 HG4 HDU0
    have HFF := Aside0.mk hF0
    have HFK := Aside0.mk hFK0
    have HBN0 := Aside0.mk (show Bnd S0 0 from by rw [← hS0]; exact ⟨Nat.le_refl _, fun D hD => by cases hD⟩)
    have HAP0 := Aside0.mk (show S0.appr.length ≤ 1000000 from by rw [← hS0]; exact Nat.le_trans HL2.out (by decide))
    have HDL0 := Aside0.mk (show S0.docs.length ≤ 0 from by rw [← hS0]; exact Nat.le_refl _)
    clear hF0 hFK0 HX hS0 HL2
    go_wp2
    go_loopw [9, 10, 11, 12, 13, 49, 50, 51, 52, 53, 54, 55, 56, 57, 58, 59, 60, 61, 62, 63, 64, 65, 66, 67, 68, 69, 70, 71, 72, 73, 74, 75, 76, 77, 78, 79, 80, 81, 82, 83, 84, 85, 86, 87, 88, 89, 90, 91, 92, 93, 94, 95, 96, 97, 98, 99, 100, 101, 102, 103, 104, 105, 106, 107, 108, 109, 110, 111, 112, 113, 114, 115, 116, 117, 118, 119, 120, 121, 122, 123, 124, 125, 126, 127] (fun v9 _ _ _ _ _ _ _ _ _ _ _ _ _ _ _ _ _ _ _ _ _ _ _ _ _ _ _ _ _ _ _ _ _ _ _ _ _ _ _ _ _ _ _ _ _ _ _ _ _ _ _ _ _ _ _ _ _ _ _ _ _ _ _ _ _ _ _ _ _ _ _ _ _ _ _ _ _ _ _ _ _ _ _ wr => ∃ (i : Nat) (S : FlowS) (F G : Nat → Prop), i ≤ ops.length ∧ v9 = .int .i64 i ∧ Aside0 (Flw wr F p S) ∧ Aside0 (∀ k, F k → w.heap.size ≤ k ∧ ¬ G k) ∧ Aside0 (Rfl wr G q S) ∧ Aside0 (∀ k, G k → w.heap.size ≤ k) ∧ Aside0 (Below w.heap.size w wr) ∧ Aside0 (Bnd S i) ∧ Aside0 (Duties S) ∧ Aside0 (S.appr.length ≤ 1000000) ∧ Aside0 (S.docs.length ≤ i)) (fun v9 _ _ _ _ _ _ _ _ _ _ _ _ _ _ _ _ _ _ _ _ _ _ _ _ _ _ _ _ _ _ _ _ _ _ _ _ _ _ _ _ _ _ _ _ _ _ _ _ _ _ _ _ _ _ _ _ _ _ _ _ _ _ _ _ _ _ _ _ _ _ _ _ _ _ _ _ _ _ _ _ _ _ _ _ => ops.length - (intOf v9).toNat)
    case atStart => exact ⟨0, S0, F0, G, Nat.zero_le _, rfl, HFF, HFK, HG4, HGK4, HB4, HBN0, HDU0, HAP0, HDL0⟩
    case round =>
      clear HFF HFK HG4 HGK4 HB4 HBN0 HDU0 HAP0 HDL0
      obtain ⟨i, S, F, G, hi, rfl, HF, HFK, HG, HGK, HLW, HBN, HDU, HAP, HDL⟩ := hrel
      rename World => wo
      by_cases hlt : i < ops.length
      · have d1 : decide ((i : Int) < (ops.length : Int)) = true := decide_eq_true (by omega)
        have d2 : decide (i < ops.length) = true := decide_eq_true hlt
        have p0 : (0 : Int) ≤ (i : Int) := by omega
        have p1 : (i : Int) < (ops.length : Int) := by omega
        have hu46 := Try.underlying46
        obtain ⟨ad, e, q0, q1, q2, q3⟩ := at_T46 (Kd.C_below H2.out HLW.out) (i : Int) (by omega) (by omega)
        subst e
        rw [Int.toNat_natCast] at q0 q1 q2 q3
        obtain ⟨o, ho⟩ : ∃ o, rd_T46 ops (i : Int) = o := ⟨_, rfl⟩
        have hom : o ∈ ops := by rw [← ho]; simp [rd_T46, hlt]
        rw [ho] at q0 q1 q2 q3
        have HOO := Aside0.mk ho
        have HWO := Aside0.mk (HWF.out o hom)
        have HUO := Aside0.mk (HUS.out o hom)
        clear ho hom
        obtain ⟨pi, pe, S2, hq⟩ : ∃ pi pe S2, playOf S o = (pi, pe, S2) := ⟨_, _, _, rfl⟩
        have HQ := Aside0.mk hq
        have HBN2 := Aside0.mk (play_step hq HBN.out).1
        have HDU2 := Aside0.mk (play_duties HDU.out hq)
        have HAP2 := Aside0.mk (show S2.appr.length ≤ 1000000 from by rw [(play_same hq).2]; exact HAP.out)
        have HDL2 := Aside0.mk (show S2.docs.length ≤ i + 1 from by have := play_docs hq; have := HDL.out; omega)
        clear hq
        have hn : S.acts.length ≤ 1000000 := by have := HBN.out.acts; omega
        have hdap : (docD S o.f1).ap.length ≤ 1000000 := Nat.le_trans (HBN.out.doc _) (by omega)
        go_upto_region 11 with (first | (go_at_call 17; refine (play_after HF.out o HWO.out hn hdap HQ.out).mono ?_; rintro e_ w7 ⟨rfl, hA_⟩; have HA := Aside0.mk hA_; clear hA_ q0 q1 q2 q3))
        obtain ⟨F2, hF2, hs⟩ := HA.out
        have HF2 := Aside0.mk hF2
        have HLW7 := Aside0.mk (show Below w.heap.size w w7 from hs.but.below HLW.out HLW.out.size (fun k hk => (HFK.out k hk).1))
        have HFK2 := Aside0.mk (show ∀ k, F2 k → w.heap.size ≤ k ∧ ¬ G k from fun k hk => (hs.grow k hk).elim (HFK.out k) (fun h => ⟨Nat.le_trans HLW.out.size h, fun hg => by have := HG.out.lt k hg; omega⟩))
        have HG7 := Aside0.mk (show Rfl w7 G q S from HG.out.keep (fun k hk => hs.but.block k (HG.out.lt k hk) (fun hf => (HFK.out k hf).2 hk)))
        clear hF2 hs HA HF HG HFK HLW
        obtain ⟨ad2, e, q0, q1, q2, q3⟩ := at_T46 (Kd.C_below H2.out HLW7.out) (i : Int) (by omega) (by omega)
        obtain rfl : ad = ad2 := Option.some.inj e
        rw [Int.toNat_natCast, HOO.out] at q0 q1 q2 q3
        clear e q1 q2 q3
        have HQS := Aside0.mk (show ∀ W, Below w.heap.size w W → W.cell? (ad.add (i * 4)) = some (.int .i64 o.f0) ∧ W.cell? ⟨(ad.add (i * 4)).block, (ad.add (i * 4)).off + 1, none⟩ = some (.int .i64 o.f1) ∧ W.cell? ⟨(ad.add (i * 4)).block, (ad.add (i * 4)).off + 2, none⟩ = some (.string o.f2) ∧ W.cell? ⟨(ad.add (i * 4)).block, (ad.add (i * 4)).off + 3, none⟩ = some (.int .i64 o.f3) from fun W hW => by
          obtain ⟨ad3, e, r0, r1, r2, r3⟩ := at_T46 (Kd.C_below H2.out hW) (i : Int) (by omega) (by omega)
          obtain rfl : ad = ad3 := Option.some.inj e
          rw [Int.toNat_natCast, HOO.out] at r0 r1 r2 r3
          exact ⟨r0, r1, r2, r3⟩)
        have HLWD := Aside0.mk (show Below w.heap.size w w7.drew from below_drew HLW7.out)
        have HGD := Aside0.mk (show Rfl w7.drew G q S from HG7.out.keep (fun _ _ => rfl))
        by_cases hk1 : o.f0 = 1
        · have dk : (o.f0 == (1 : Int)) = true := by rw [hk1]; rfl
          have HQ1 := Aside0.mk (show draftOf S o.f2 o.f3 = (pi, pe, S2) from by
            have := HQ.out
            unfold playOf at this
            rw [if_pos hk1] at this
            exact this)
          clear hk1
          go_upto_region 13 with (fail)
          clear q0
          go_region_held3 (fun w' => w'.cell? (ad.add (i * 4)) = some (.int .i64 o.f0) ∧ w'.cell? ⟨(ad.add (i * 4)).block, (ad.add (i * 4)).off + 1, none⟩ = some (.int .i64 o.f1) ∧ w'.cell? ⟨(ad.add (i * 4)).block, (ad.add (i * 4)).off + 2, none⟩ = some (.string o.f2) ∧ w'.cell? ⟨(ad.add (i * 4)).block, (ad.add (i * 4)).off + 3, none⟩ = some (.int .i64 o.f3))
            (first | (with_reducible exact HQS.out _ HLWD.out) | (with_reducible exact HQS.out _ HLW7.out) | (with_reducible exact HQS.out _ HLW8.out))
            (first | (go_at_call 18; (with_reducible refine (rdraft_is (Nat.le_trans HUO.out (by decide)) HGD.out hn HQ1.out).mono ?_); rintro e_ w8 ⟨rfl, hA_⟩; have HA8 := Aside0.mk (ran_drew hA_); have HLW8 := Aside0.mk (after_below HLWD.out HGK.out hA_); clear hA_))
          go_upto_region 15 with (fail)
          obtain ⟨G2, hG2, hs⟩ := HA8.out
          have HG8 := Aside0.mk (show Rfl w8.drew G2 q S2 from hG2.keep (fun _ _ => rfl))
          have HF8 := Aside0.mk (show Flw w8.drew F2 p S2 from (HF2.out.but hs.but (fun k hk hg => (HFK2.out k hk).2 hg)).keep (fun _ _ => rfl))
          have HGK8 := Aside0.mk (show ∀ k, G2 k → w.heap.size ≤ k from fun k hk => (hs.grow k hk).elim (HGK.out k) (fun h => Nat.le_trans HLW7.out.size h))
          have HFK8 := Aside0.mk (show ∀ k, F2 k → w.heap.size ≤ k ∧ ¬ G2 k from fun k hk => ⟨(HFK2.out k hk).1, fun hg => (hs.grow k hg).elim (HFK2.out k hk).2 (fun h => by
            have h1 := HF2.out.lt k hk
            omega)⟩)
          have HLW8D := Aside0.mk (show Below w.heap.size w w8.drew from below_drew HLW8.out)
          clear hG2 hs HA8 HG7 HGD HF2 HFK2 HLWD HLW7
          obtain ⟨st, hst⟩ : ∃ st, stOf S2 o.f1 = st := ⟨_, rfl⟩
          have HST := Aside0.mk hst
          clear hst
          obtain ⟨r0, r1, r2, r3⟩ := HQS.out _ HLW8.out
          clear r0 r2 r3
          go_region_held3 (fun w' => w'.cell? (ad.add (i * 4)) = some (.int .i64 o.f0) ∧ w'.cell? ⟨(ad.add (i * 4)).block, (ad.add (i * 4)).off + 1, none⟩ = some (.int .i64 o.f1) ∧ w'.cell? ⟨(ad.add (i * 4)).block, (ad.add (i * 4)).off + 2, none⟩ = some (.string o.f2) ∧ w'.cell? ⟨(ad.add (i * 4)).block, (ad.add (i * 4)).off + 3, none⟩ = some (.int .i64 o.f3))
            (first | (with_reducible exact HQS.out _ HLW8D.out) | (with_reducible exact HQS.out _ HLW8.out) | (with_reducible exact HQS.out _ HLW9.out))
            (first | (go_at_call 15; (with_reducible refine (state_is2 HWO.out HF8.out HST.out).mono ?_); rintro e_ w_ ⟨rfl, he_⟩; obtain rfl := he_.symm) | (go_at_call 21; (with_reducible refine (rstate_is2 HWO.out HG8.out HST.out).mono ?_); rintro e_ w9 ⟨rfl, hb_⟩; have HB9 := Aside0.mk hb_; clear hb_; have HLW9 := Aside0.mk (below_then HLW8D.out HLW8D.out.size HB9.out)))
          go_wp2
          go_roundw
          case rel => exact ⟨i + 1, S2, F2, G2, by omega, by go_num, ⟨HF8.out.below HB9.out⟩, HFK8, ⟨HG8.out.below HB9.out⟩, HGK8, HLW9, HBN2, HDU2, HAP2, HDL2⟩
          case measure => simp [intOf]; omega
        · have dk : (o.f0 == (1 : Int)) = false := beq_eq_false_iff_ne.mpr hk1
          have HQ1 := Aside0.mk (show pi = 0 ∧ ractOf S (actedK o.f0) o.f1 o.f2 = (pe, S2) from by
            have := HQ.out
            unfold playOf at this
            rw [if_neg hk1] at this
            obtain ⟨e1, e2⟩ := Prod.mk.inj this
            obtain ⟨e3, e4⟩ := Prod.mk.inj e2
            exact ⟨e1.symm, by rw [ract_act HDU.out]; exact Prod.ext e3 e4⟩)
          obtain ⟨rfl, hq1⟩ := HQ1.out
          have HQ2 := Aside0.mk hq1
          have HWA := Aside0.mk (acted_is o.f0)
          clear hk1 hq1 HQ1
          go_upto_region 14 with (fail)
          clear q0
          go_region_held3 (fun w' => w'.cell? (ad.add (i * 4)) = some (.int .i64 o.f0) ∧ w'.cell? ⟨(ad.add (i * 4)).block, (ad.add (i * 4)).off + 1, none⟩ = some (.int .i64 o.f1) ∧ w'.cell? ⟨(ad.add (i * 4)).block, (ad.add (i * 4)).off + 2, none⟩ = some (.string o.f2) ∧ w'.cell? ⟨(ad.add (i * 4)).block, (ad.add (i * 4)).off + 3, none⟩ = some (.int .i64 o.f3))
            (first | (with_reducible exact HQS.out _ HLWD.out) | (with_reducible exact HQS.out _ HLW7.out) | (with_reducible exact HQS.out _ HLWN.out) | (with_reducible exact HQS.out _ HLW8.out))
            (first | (go_at_call 20; (with_reducible refine (HWA.out _).mono ?_); rintro e_ w_ ⟨rfl, ⟨nd, rfl⟩⟩; have HLWN := Aside0.mk (pw_below_drewN HLW7.out (1 + nd)); have HGN := Aside0.mk (show Rfl (w7.drewN (1 + nd)) G q S from HG7.out.keep (fun _ _ => rfl))) | (go_at_call 19; (with_reducible refine (ract_calls q S S2 G (actedK o.f0) o.f1 HWO.out o.f2 (Nat.le_trans HUO.out (by decide)) _ HGN.out hn HAP.out hdap HQ2.out).mono ?_); rintro e_ w8 ⟨rfl, hA_⟩; have HA8 := Aside0.mk (ran_drewN hA_); have HLW8 := Aside0.mk (after_below HLWN.out HGK.out hA_); clear hA_))
          go_upto_region 15 with (fail)
          obtain ⟨G2, hG2, hs⟩ := HA8.out
          have HG8 := Aside0.mk (show Rfl w8.drew G2 q S2 from hG2.keep (fun _ _ => rfl))
          have HF8 := Aside0.mk (show Flw w8.drew F2 p S2 from (HF2.out.but hs.but (fun k hk hg => (HFK2.out k hk).2 hg)).keep (fun _ _ => rfl))
          have HGK8 := Aside0.mk (show ∀ k, G2 k → w.heap.size ≤ k from fun k hk => (hs.grow k hk).elim (HGK.out k) (fun h => Nat.le_trans HLW7.out.size h))
          have HFK8 := Aside0.mk (show ∀ k, F2 k → w.heap.size ≤ k ∧ ¬ G2 k from fun k hk => ⟨(HFK2.out k hk).1, fun hg => (hs.grow k hg).elim (HFK2.out k hk).2 (fun h => by
            have h1 := HF2.out.lt k hk
            omega)⟩)
          have HLW8D := Aside0.mk (show Below w.heap.size w w8.drew from below_drew HLW8.out)
          clear hG2 hs HA8 HG7 HGD HF2 HFK2 HLWD HLW7
          obtain ⟨st, hst⟩ : ∃ st, stOf S2 o.f1 = st := ⟨_, rfl⟩
          have HST := Aside0.mk hst
          clear hst
          obtain ⟨r0, r1, r2, r3⟩ := HQS.out _ HLW8.out
          clear r0 r2 r3
          go_region_held3 (fun w' => w'.cell? (ad.add (i * 4)) = some (.int .i64 o.f0) ∧ w'.cell? ⟨(ad.add (i * 4)).block, (ad.add (i * 4)).off + 1, none⟩ = some (.int .i64 o.f1) ∧ w'.cell? ⟨(ad.add (i * 4)).block, (ad.add (i * 4)).off + 2, none⟩ = some (.string o.f2) ∧ w'.cell? ⟨(ad.add (i * 4)).block, (ad.add (i * 4)).off + 3, none⟩ = some (.int .i64 o.f3))
            (first | (with_reducible exact HQS.out _ HLW8D.out) | (with_reducible exact HQS.out _ HLW8.out) | (with_reducible exact HQS.out _ HLW9.out))
            (first | (go_at_call 15; (with_reducible refine (state_is2 HWO.out HF8.out HST.out).mono ?_); rintro e_ w_ ⟨rfl, he_⟩; obtain rfl := he_.symm) | (go_at_call 21; (with_reducible refine (rstate_is2 HWO.out HG8.out HST.out).mono ?_); rintro e_ w9 ⟨rfl, hb_⟩; have HB9 := Aside0.mk hb_; clear hb_; have HLW9 := Aside0.mk (below_then HLW8D.out HLW8D.out.size HB9.out)))
          go_wp2
          go_roundw
          case rel => exact ⟨i + 1, S2, F2, G2, by omega, by go_num, ⟨HF8.out.below HB9.out⟩, HFK8, ⟨HG8.out.below HB9.out⟩, HGK8, HLW9, HBN2, HDU2, HAP2, HDL2⟩
          case measure => simp [intOf]; omega
      · obtain rfl : i = ops.length := by omega
        have d1 : decide ((ops.length : Int) < (ops.length : Int)) = false := decide_eq_false (by omega)
        have hb1000 : Bnd S 1000 := ⟨Nat.le_trans HBN.out.acts (by omega), fun D hD => Nat.le_trans (HBN.out.docs D hD) (by omega)⟩
        have HBQ := Aside0.mk hb1000
        have HDQ := Aside0.mk (show S.docs.length ≤ 900 from by have := HDL.out; omega)
        clear hb1000
        go_wp2_with (first | (go_at_call 22; refine (same_calls p q S F G _ HF.out HG.out HBQ.out HDQ.out).mono ?_; rintro e_ w8 ⟨rfl, hb_⟩; have HB8 := Aside0.mk hb_; clear hb_) | (go_at_call 10; refine (lives_calls _).mono ?_; rintro e_ w9 ⟨rfl, hb_⟩; have HB9 := Aside0.mk hb_; clear hb_))
        go_ret
        have h1 := below_then HLW.out HLW.out.size HB8.out
        exact ⟨by simp, below_then h1 h1.size HB9.out⟩
  · have HNE := Aside0.mk hne
    have hn1 : (err != 0) = true := bne_iff_ne.mpr hne
    clear hne
    go_upto_region 4 with (first | (go_at_call 11; refine (new_bad (Kd.C_below H0.out HB2.out) hc0 (Kd.C_below H1.out HB2.out) HR.out HE.out HNE.out).mono ?_; rintro e w3 ⟨rfl, hb_⟩; have HB23 := Aside0.mk hb_; clear hb_ b0 b1))
    have HB3 := Aside0.mk (below_then HB2.out HB2.out.size HB23.out)
    have HBK3 := Aside0.mk (blk_below HBK2.out HB23.out)
    clear HBK2
    have b0 := (blk_cell HBK3.out 0).trans rfl
    have b1 := (blk_cell HBK3.out 1).trans rfl
    go_wp2_with (first | (go_at_call 12; refine (rnew_bad (Kd.C_below H0.out HB3.out) hc0 (Kd.C_below H1.out HB3.out) hc1 HN.out HNE.out).mono ?_; rintro e w4 ⟨rfl, hb_⟩; have HB4 := Aside0.mk (below_then HB3.out HB3.out.size hb_); clear hb_ b0 b1) | (go_at_call 10; refine (lives_calls _).mono ?_; rintro e w7 ⟨rfl, hb_⟩; have HB7 := Aside0.mk hb_; clear hb_))
    go_ret
    exact ⟨by simp, below_then HB4.out HB4.out.size HB7.out⟩
/-- The law's value: true where each number is an int. -/
def accountinglaw15_FlowPlays.f (l0_0 : List S60) (l0_1 : List ByteArray) (l1 : List S46) : Option Bool := if steps_ok l0_0 l1 then some true else none
theorem accountinglaw15_FlowPlays.calls (A0_0 : Option Addr) (c0_0 : Nat) (l0_0 : List S60) (A0_1 : Option Addr) (c0_1 : Nat) (l0_1 : List ByteArray) (A1 : Option Addr) (c1 : Nat) (l1 : List S46) (r : Bool) (w : World) (hr0_0 : Kd.C k60 w A0_0 l0_0.length l0_0) (hc0_0 : l0_0.length ≤ c0_0) (hr0_1 : Kd.C Kd.string w A0_1 l0_1.length l0_1) (hc0_1 : l0_1.length ≤ c0_1) (hr1 : Kd.C k46 w A1 l1.length l1) (hc1 : l1.length ≤ c1) (h : accountinglaw15_FlowPlays.f l0_0 l0_1 l1 = some r) :
    Calls Try.prog 5 #[.agg #[.slice A0_0 l0_0.length c0_0, .slice A0_1 l0_1.length c0_1], .slice A1 l1.length c1] w fun e w' => e = .returned (.bool r) ∧ Below w.heap.size w w' := by
  unfold accountinglaw15_FlowPlays.f at h
  split at h
  · rename_i hok
    obtain rfl := Option.some.inj h
    exact flowPlays_calls A0_0 c0_0 l0_0 A0_1 c0_1 l0_1 A1 c1 l1 w hr0_0 hc0_0 hr0_1 hc0_1 hr1 hc1 hok.2
  · cases h
end Go.Proofs.Ytbbhichndfbooaa.P
namespace Go.Proofs.Ytbbhichndfbooaa.Op
open Go.RowKit Go.Proofs.YtbbhichndfbooaaW.PrintWords Go.ChangeShapes Go.WideShapes Go.Deep
def FitL {α : Type} (f : α → Prop) (xs : List α) : Prop := xs.length ≤ maxLen ∧ ∀ x ∈ xs, f x
/-- Whatever is read at type t is of the kind k, and fits. -/
def Opn (P : Program) (t : TypeId) {α : Type} (k : Kd α) (fit : α → Prop) : Prop :=
  ∀ {H : Type} {enc : TypeId × Value → H} {w : World} {fuel : Nat} {cs : List Value} {x : DataW H × List MemPlace}, DataW.trod enc P w 0 (fun _ => true) true fuel t cs = some x → ∃ y, k.K w y cs ∧ fit y
section
variable {P : Program}
theorem opn_int {t : TypeId} {k : IntKind} (ht : P.underlying t = some (.int k)) : Opn P t (Kd.int k) (fun n => (Lit.int k n).wf = true) := by
  intro H enc w fuel cs x h
  obtain ⟨n, rfl, _, hn⟩ := DataW.trod_int ht h
  exact ⟨n, rfl, hn⟩
theorem opn_bool {t : TypeId} (ht : P.underlying t = some .bool) : Opn P t Kd.bool (fun _ => True) := by
  intro H enc w fuel cs x h
  obtain ⟨b, rfl, _⟩ := DataW.trod_bool ht h
  exact ⟨b, rfl, trivial⟩
theorem opn_string {t : TypeId} (ht : P.underlying t = some .string) : Opn P t Kd.string (fun s => s.size ≤ maxLen) := by
  intro H enc w fuel cs x h
  obtain ⟨s, rfl, _, hs⟩ := DataW.trod_string ht h
  exact ⟨s, rfl, hs⟩
theorem opn_slice {t e : TypeId} {α : Type} {d : Kd α} {f : α → Prop} (ht : P.underlying t = some (.slice e)) (hC : P.cellsOf e = d.sz) (he : Opn P e d f) : Opn P t (Kd.slice e d) (FitL f) := by
  intro H enc w fuel cs x h
  rcases open_slice ht h with ⟨rfl, _⟩ | ⟨a, len, cap, m, n, D, Pl, rfl, hb, hl, hm, hmm, hx, hi⟩
  · exact ⟨[], ⟨none, 0, rfl, Nat.le_refl _, ⟨rfl, by simp, fun h => by simp at h⟩⟩, by simp, fun x hx => by simp at hx⟩
  · have hmc : m = cap := by rw [hmm]; simp
    have build : ∀ k, k ≤ len → ∃ ys : List α, ys.length = k ∧ (∀ y ∈ ys, f y) ∧ ∀ i y, ys[i]? = some y → ∃ c, c.length = d.sz ∧ d.K w y c ∧ ∀ j u, c[j]? = some u → w.cell? (a.add (i * d.sz + j)) = some u := by
      intro k
      induction k with
      | zero => exact fun _ => ⟨[], rfl, fun y hy => by simp at hy, fun i y hy => by simp at hy⟩
      | succ k ih =>
        intro hk
        obtain ⟨ys, hyl, hyf, hyc⟩ := ih (by omega)
        obtain ⟨cs', hc, ht'⟩ := hi k (by omega)
        obtain ⟨y, K, fy⟩ := he ht'
        rw [hC] at hc
        obtain ⟨_, hcl, hat⟩ := World.cells?_some hc
        refine ⟨ys ++ [y], by simp [hyl], fun z hz => ?_, fun i z hz => ?_⟩
        · rcases List.mem_append.1 hz with hz | hz
          · exact hyf z hz
          · rw [List.mem_singleton.1 hz]; exact fy
        · rcases Nat.lt_or_ge i ys.length with hlt | hge
          · rw [List.getElem?_append_left hlt] at hz
            exact hyc i z hz
          · have hil : i = ys.length := by
              have := (List.getElem?_eq_some_iff.1 hz).1
              simp at this; omega
            subst hil
            obtain rfl : y = z := by simpa using hz
            refine ⟨cs', hcl, K, fun j u hu => ?_⟩
            have hj : j < d.sz := by have := (List.getElem?_eq_some_iff.1 hu).1; omega
            rw [← Go.Deep.add_add, hyl, hat j hj, hu]
    obtain ⟨ys, hyl, hyf, hyc⟩ := build len (Nat.le_refl _)
    have hml : maxLen ≤ 9223372036854775807 := by unfold maxLen; omega
    exact ⟨ys, ⟨some a, cap, by rw [hyl], by omega, by rw [hyl]; exact ⟨hyl, by omega, fun _ => ⟨a, rfl, hyc⟩⟩⟩, by omega, hyf⟩
theorem Opn.last {α : Type} {k : Kd α} {w : World} {y : α} {cs : List Value} {o s : Nat} (h : k.K w y ((cs.drop o).take s)) (hl : cs.length ≤ o + s) : k.K w y (cs.drop o) := by
  rwa [List.take_of_length_le (by simp; omega)] at h
theorem Opn.cons {α β : Type} {a : Kd α} {b : Kd β} {w : World} {x : α} {y : β} {cs : List Value} {o s : Nat} (h : a.K w x ((cs.drop o).take s)) (k : b.K w y (cs.drop (o + s))) : (Kd.pair a b).K w (x, y) (cs.drop o) :=
  ⟨_, _, (by rw [← List.drop_drop]; exact (List.take_append_drop s (cs.drop o)).symm), h, k⟩
theorem Opn.zero {α : Type} {k : Kd α} {w : World} {y : α} {cs : List Value} (h : k.K w y (cs.drop 0)) : k.K w y cs := h
theorem opened_slice {H : Type} {enc : TypeId × Value → H} {w : World} {t e : TypeId} {α : Type} {d : Kd α} {f : α → Prop} {A : Option Addr} {len cap : Nat} {dd : DataW H} {ps : List MemPlace} (ho : Opn P t (Kd.slice e d) (FitL f))
    (h : DataW.Trod enc P w 0 (fun _ => true) true t (.slice A len cap) dd ps) : ∃ l : List α, l.length = len ∧ l.length ≤ cap ∧ d.C w A l.length l ∧ FitL f l := by
  obtain ⟨fuel, hf⟩ := h
  obtain ⟨y, ⟨A', c, e1, hl, hC⟩, fy⟩ := ho hf
  have e2 : Value.slice A len cap = Value.slice A' y.length c := by simpa [Value.cells] using e1
  injection e2 with e3 e4 e5
  subst e3 e4 e5
  exact ⟨y, rfl, hl, hC, fy⟩
theorem opened_struct {H : Type} {enc : TypeId × Value → H} {w : World} {t : TypeId} {α : Type} {d : Kd α} {f : α → Prop} {cs : Array Value} {dd : DataW H} {ps : List MemPlace} (ho : Opn P t d f)
    (h : DataW.Trod enc P w 0 (fun _ => true) true t (.agg cs) dd ps) : ∃ y : α, d.K w y cs.toList ∧ f y := by
  obtain ⟨fuel, hf⟩ := h
  exact ho hf
end
end Go.Proofs.Ytbbhichndfbooaa.Op
namespace Go.Proofs.Ytbbhichndfbooaa.P
open Go.RowKit Go.Proofs.YtbbhichndfbooaaW.PrintWords Go.Proofs.YtbbhichndfbooaaW.PrintLast
open Go.Proofs.Ytbbhichndfbooaa.Op
set_option linter.unusedVariables false
def fit60 (x : S60) : Prop := (fun n => (Lit.int .i64 n).wf = true) x.f0 ∧ (fun n => (Lit.int .i64 n).wf = true) x.f1
theorem opn60 : Opn Try.prog 60 k60 fit60 := by
  intro H enc w fuel cs x h
  obtain ⟨xs, n, _, _, hlen, hxl, hg⟩ := DataW.trod_struct Try.underlying60 h
  have hlen : cs.length = 2 := hlen.trans (by kernel_rfl)
  have g0 := (hg 0 _ rfl).trans (List.getElem?_eq_getElem (show 0 < xs.length by rw [hxl]; decide))
  change DataW.trod _ _ _ _ _ _ _ 3 (List.take (Try.prog.cellsOf 3) (List.drop 0 cs)) = _ at g0
  rw [show Try.prog.cellsOf 3 = 1 by kernel_rfl] at g0
  obtain ⟨y0, K0, f0⟩ := (opn_int Try.underlying3) g0
  have g1 := (hg 1 _ rfl).trans (List.getElem?_eq_getElem (show 1 < xs.length by rw [hxl]; decide))
  change DataW.trod _ _ _ _ _ _ _ 3 (List.take (Try.prog.cellsOf 3) (List.drop 1 cs)) = _ at g1
  rw [show Try.prog.cellsOf 3 = 1 by kernel_rfl] at g1
  obtain ⟨y1, K1, f1⟩ := (opn_int Try.underlying3) g1
  exact ⟨⟨y0, y1⟩, (show (Kd.pair (Kd.int .i64) (Kd.int .i64)).K w (y0, y1) cs from Opn.zero (Opn.cons K0 (Opn.last K1 (by omega)))), ⟨f0, f1⟩⟩
def fit25 (x : S25) : Prop := (FitL fit60) x.f0 ∧ (FitL (fun s => s.size ≤ maxLen)) x.f1
theorem opn25 : Opn Try.prog 25 k25 fit25 := by
  intro H enc w fuel cs x h
  obtain ⟨xs, n, _, _, hlen, hxl, hg⟩ := DataW.trod_struct Try.underlying25 h
  have hlen : cs.length = 2 := hlen.trans (by kernel_rfl)
  have g0 := (hg 0 _ rfl).trans (List.getElem?_eq_getElem (show 0 < xs.length by rw [hxl]; decide))
  change DataW.trod _ _ _ _ _ _ _ 22 (List.take (Try.prog.cellsOf 22) (List.drop 0 cs)) = _ at g0
  rw [show Try.prog.cellsOf 22 = 1 by kernel_rfl] at g0
  obtain ⟨y0, K0, f0⟩ := (opn_slice Try.underlying22 (by kernel_rfl) opn60) g0
  have g1 := (hg 1 _ rfl).trans (List.getElem?_eq_getElem (show 1 < xs.length by rw [hxl]; decide))
  change DataW.trod _ _ _ _ _ _ _ 23 (List.take (Try.prog.cellsOf 23) (List.drop 1 cs)) = _ at g1
  rw [show Try.prog.cellsOf 23 = 1 by kernel_rfl] at g1
  obtain ⟨y1, K1, f1⟩ := (opn_slice Try.underlying23 (by kernel_rfl) (opn_string Try.underlying9)) g1
  exact ⟨⟨y0, y1⟩, (show (Kd.pair (Kd.slice 60 k60) (Kd.slice 9 Kd.string)).K w (y0, y1) cs from Opn.zero (Opn.cons K0 (Opn.last K1 (by omega)))), ⟨f0, f1⟩⟩
def fit46 (x : S46) : Prop := (fun n => (Lit.int .i64 n).wf = true) x.f0 ∧ (fun n => (Lit.int .i64 n).wf = true) x.f1 ∧ (fun s => s.size ≤ maxLen) x.f2 ∧ (fun n => (Lit.int .i64 n).wf = true) x.f3
theorem opn46 : Opn Try.prog 46 k46 fit46 := by
  intro H enc w fuel cs x h
  obtain ⟨xs, n, _, _, hlen, hxl, hg⟩ := DataW.trod_struct Try.underlying46 h
  have hlen : cs.length = 4 := hlen.trans (by kernel_rfl)
  have g0 := (hg 0 _ rfl).trans (List.getElem?_eq_getElem (show 0 < xs.length by rw [hxl]; decide))
  change DataW.trod _ _ _ _ _ _ _ 3 (List.take (Try.prog.cellsOf 3) (List.drop 0 cs)) = _ at g0
  rw [show Try.prog.cellsOf 3 = 1 by kernel_rfl] at g0
  obtain ⟨y0, K0, f0⟩ := (opn_int Try.underlying3) g0
  have g1 := (hg 1 _ rfl).trans (List.getElem?_eq_getElem (show 1 < xs.length by rw [hxl]; decide))
  change DataW.trod _ _ _ _ _ _ _ 3 (List.take (Try.prog.cellsOf 3) (List.drop 1 cs)) = _ at g1
  rw [show Try.prog.cellsOf 3 = 1 by kernel_rfl] at g1
  obtain ⟨y1, K1, f1⟩ := (opn_int Try.underlying3) g1
  have g2 := (hg 2 _ rfl).trans (List.getElem?_eq_getElem (show 2 < xs.length by rw [hxl]; decide))
  change DataW.trod _ _ _ _ _ _ _ 9 (List.take (Try.prog.cellsOf 9) (List.drop 2 cs)) = _ at g2
  rw [show Try.prog.cellsOf 9 = 1 by kernel_rfl] at g2
  obtain ⟨y2, K2, f2⟩ := (opn_string Try.underlying9) g2
  have g3 := (hg 3 _ rfl).trans (List.getElem?_eq_getElem (show 3 < xs.length by rw [hxl]; decide))
  change DataW.trod _ _ _ _ _ _ _ 3 (List.take (Try.prog.cellsOf 3) (List.drop 3 cs)) = _ at g3
  rw [show Try.prog.cellsOf 3 = 1 by kernel_rfl] at g3
  obtain ⟨y3, K3, f3⟩ := (opn_int Try.underlying3) g3
  exact ⟨⟨y0, y1, y2, y3⟩, (show (Kd.pair (Kd.int .i64) (Kd.pair (Kd.int .i64) (Kd.pair Kd.string (Kd.int .i64)))).K w (y0, y1, y2, y3) cs from Opn.zero (Opn.cons K0 (Opn.cons K1 (Opn.cons K2 (Opn.last K3 (by omega)))))), ⟨f0, f1, f2, f3⟩⟩
end Go.Proofs.Ytbbhichndfbooaa.P
namespace Go.Proofs.Ytbbhichndfbooaa.P
open Go.RowKit Go.Proofs.YtbbhichndfbooaaW.PrintWords Go.Proofs.YtbbhichndfbooaaW.PrintLast
open Go.Proofs.Ytbbhichndfbooaa.Op
def accountinglaw15_FlowPlays.Pure : Prop := ∀ (a0 : S25) (l1 : List (S46)), fit25 a0 → (FitL fit46) l1 → accountinglaw15_FlowPlays.f a0.f0 a0.f1 l1 = some true
end Go.Proofs.Ytbbhichndfbooaa.P
namespace Go.Proofs.Ytbbhichndfbooaa.Pure
open Go.RowKit Go.Proofs.Ytbbhichndfbooaa.P Go.Proofs.Ytbbhichndfbooaa.Op Go.Proofs.YtbbhichndfbooaaW.PrintWords Go.Proofs.YtbbhichndfbooaaW.PrintLast
theorem FlowPlays : accountinglaw15_FlowPlays.Pure := by
  intro a0 l1 h0 h1
  have hl := h0.1.1
  unfold maxLen at hl
  exact if_pos ⟨by omega, fun o ho => (h1.2 o ho).2.1⟩
end Go.Proofs.Ytbbhichndfbooaa.Pure
