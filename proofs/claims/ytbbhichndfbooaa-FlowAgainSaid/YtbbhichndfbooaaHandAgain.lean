/- The contract of the law FlowAgain. -/
import Derived.Test.YtbbhichndfbooaaHandDuties
import Derived.Test.YtbbhichndfbooaaSpecR
import Derived.Test.YtbbhichndfbooaaPx14
namespace Go.Proofs.Ytbbhichndfbooaa.P
open Go.RowKit Go.Proofs.YtbbhichndfbooaaW.PrintWords Go.Proofs.YtbbhichndfbooaaW.PrintLast Go.Proofs.YtbbhichndfbooaaW.PrintMore Go.Maps Go.ChangeShapes Go.WideShapes Go.WideMaps
set_option linter.unusedVariables false
set_option linter.unusedSimpArgs false
theorem texts_self (l : List ByteArray) (hl : l.length ≤ 1000000) : ∃ k, accountingref15_SameTexts.f k l l = some true := by
  have key : ∀ (n i : Nat), l.length - i = n → i ≤ l.length → Ev (fun k => accountingref15_SameTexts.l0 k l l (i : Int)) true := by
    intro n
    induction n with
    | zero =>
      intro i hn hi
      refine Ev.step (fun k => accountingref15_SameTexts.l0.eq_2 _ _ _ k) ?_
      simp only [if_neg (show ¬ ((i : Int) < (l.length : Int)) by omega)]
      exact Ev.now _
    | succ n ih =>
      intro i hn hi
      have hw : wrap64 ((i : Int) + 1) = ((i + 1 : Nat) : Int) := by rw [w64r (by omega) (by omega)]; omega
      refine Ev.step (fun k => accountingref15_SameTexts.l0.eq_2 _ _ _ k) ?_
      simp only [if_pos (show ((i : Int) < (l.length : Int)) by omega), if_pos (show (0 : Int) ≤ (i : Int) by omega), hw, if_true]
      exact ih (i + 1) (by omega) (by omega)
  obtain ⟨k, hk⟩ := (key _ 0 rfl (Nat.zero_le _)).rounds
  exact ⟨k, by unfold accountingref15_SameTexts.f; rw [if_pos rfl]; exact hk⟩
theorem acts_self (l : List S55) (hl : l.length ≤ 1000000) : ∃ k, accountingref15_SameActs.f k l l = some true := by
  have key : ∀ (n i : Nat), l.length - i = n → i ≤ l.length → Ev (fun k => accountingref15_SameActs.l0 k l l (i : Int)) true := by
    intro n
    induction n with
    | zero =>
      intro i hn hi
      refine Ev.step (fun k => accountingref15_SameActs.l0.eq_2 _ _ _ k) ?_
      simp only [if_neg (show ¬ ((i : Int) < (l.length : Int)) by omega)]
      exact Ev.now _
    | succ n ih =>
      intro i hn hi
      have hw : wrap64 ((i : Int) + 1) = ((i + 1 : Nat) : Int) := by rw [w64r (by omega) (by omega)]; omega
      refine Ev.step (fun k => accountingref15_SameActs.l0.eq_2 _ _ _ k) ?_
      simp only [if_pos (show ((i : Int) < (l.length : Int)) by omega), if_pos (show (0 : Int) ≤ (i : Int) by omega), hw, beq_self_eq_true, Bool.not_true, Bool.or_false, Bool.false_eq_true, if_false]
      exact ih (i + 1) (by omega) (by omega)
  obtain ⟨k, hk⟩ := (key _ 0 rfl (Nat.zero_le _)).rounds
  exact ⟨k, by unfold accountingref15_SameActs.f; rw [if_pos rfl]; exact hk⟩
set_option maxHeartbeats 16000000 in
set_option maxRecDepth 100000 in
theorem flowAgain_calls (A0 : Option Addr) (c0 : Nat) (steps : List S60) (A1 : Option Addr) (c1 : Nat) (apprs : List ByteArray) (A2 : Option Addr) (c2 : Nat) (ops : List S46) (w : World)
    (h0 : Kd.C k60 w A0 steps.length steps) (hc0 : steps.length ≤ c0) (h1 : Kd.string.C w A1 apprs.length apprs) (hc1 : apprs.length ≤ c1) (h2 : Kd.C k46 w A2 ops.length ops) (hc2 : ops.length ≤ c2) (hl : steps.length ≤ 9223372036854775807) (hwf : ∀ o ∈ ops, (Lit.int .i64 o.f1).wf = true) :
    Calls Try.prog 7 #[.agg #[.slice A0 steps.length c0, .slice A1 apprs.length c1], .slice A2 ops.length c2] w fun e w' => e = .returned (.bool true) ∧ Below w.heap.size w w' := by
  obtain ⟨rt, kr, hr⟩ := right_some steps hl
  obtain ⟨b, kl, hlt, hsm⟩ := light_some steps apprs ops
  have H0 := Aside0.mk h0
  have H1 := Aside0.mk h1
  have H2 := Aside0.mk h2
  have HR := Aside0.mk hr
  have HLT := Aside0.mk hlt
  have HSM := Aside0.mk hsm
  have HWF := Aside0.mk hwf
  clear h0 h1 h2 hr hlt hsm hwf
  obtain ⟨err, he⟩ : ∃ err, newErr rt steps apprs = err := ⟨_, rfl⟩
  have HE := Aside0.mk he
  clear he
  go_enter Try.func7, Try.ntmps7
  go_upto_region 1 with (fail)
  refine with_world (P := fun x => Code.wp _ _ _ _ x) _ ?_
  intro w1 hw1
  have BK : w1.heap[w.heap.size]? = some (.cells #[.slice A0 steps.length c0, .slice A1 apprs.length c1] 25 (0, 0)) := by rw [hw1]; exact blk_new w _
  have HB1 := Aside0.mk (show Below w.heap.size w w1 from by rw [hw1]; exact below_alloc (Below.refl _ _) _)
  obtain ⟨g, hg⟩ : ∃ g, w.heap.size = g := ⟨_, rfl⟩
  rw [hg] at BK ⊢
  clear hw1 hg
  have HBK := Aside0.mk BK
  have b0 := (blk_cell BK 0).trans rfl
  have b1 := (blk_cell BK 1).trans rfl
  clear BK
  by_cases hne : err = 0
  · subst hne
    go_upto_region 2 with (first | (go_at_call 11; refine (new_good (Kd.C_below H0.out HB1.out) hc0 (Kd.C_below H1.out HB1.out) HR.out HE.out).mono ?_; rintro e w2 ⟨hb_, p, rfl, hl_⟩; have HB12 := Aside0.mk hb_; have HL := Aside0.mk hl_; clear hb_ hl_ b0 b1))
    have HB2 := Aside0.mk (below_then HB1.out HB1.out.size HB12.out)
    have BK2 := blk_below HBK.out HB12.out
    have b0 := (blk_cell BK2 0).trans rfl
    have b1 := (blk_cell BK2 1).trans rfl
    have HBKK := Aside0.mk BK2
    have HGS := Aside0.mk (show g < w1.heap.size from blk_lt HBK.out)
    have HWW := Aside0.mk (show w.heap.size ≤ w1.heap.size from HB1.out.size)
    clear BK2 HB12 HBK HB1
    go_upto_region 3 with (first | (go_at_call 11; refine (new_good (Kd.C_below H0.out HB2.out) hc0 (Kd.C_below H1.out HB2.out) HR.out HE.out).mono ?_; rintro e w3 ⟨hb_, q, rfl, hl_⟩; have HB23 := Aside0.mk hb_; have HLG := Aside0.mk hl_; clear hb_ hl_ b0 b1))
    have HB3 := Aside0.mk (below_then HB2.out HB2.out.size HB23.out)
    have BK3 := blk_below HBKK.out HB23.out
    have b0 := (blk_cell BK3 0).trans rfl
    have b1 := (blk_cell BK3 1).trans rfl
    have HTWO := Aside0.mk (show ∃ F G, Flw w3 F p ⟨steps, apprs, [], []⟩ ∧ Flw w3 G q ⟨steps, apprs, [], []⟩ ∧ (∀ k, F k → w.heap.size ≤ k) ∧ (∀ k, G k → w.heap.size ≤ k ∧ ¬ F k) from by
      obtain ⟨⟨F, hF, hk⟩, _⟩ := HL.out
      obtain ⟨⟨G, hG, hj⟩, _⟩ := HLG.out
      have h2 := HWW.out
      have h3 := HL.out.low.size
      exact ⟨F, G, hF.below HB23.out, hG, fun k hk' => by have := hk k hk'; omega, fun k hk' => ⟨by have := hj k hk'; omega, fun hf => by have := hF.lt k hf; have := hj k hk'; omega⟩⟩)
    clear BK3 HB23 HBKK HL HLG HB2
    cases b
    · go_wp2_with (first | (go_at_call 9; refine (accountinglaw15_light.calls kl A0 c0 steps A1 c1 apprs A2 c2 ops false _ (Kd.C_below H0.out HB3.out) hc0 (Kd.C_below H1.out HB3.out) hc1 (Kd.C_below H2.out HB3.out) hc2 HLT.out).mono ?_; rintro e w4 ⟨rfl, hb_⟩; have HB4 := Aside0.mk (below_then HB3.out HB3.out.size hb_); clear hb_ b0 b1) | (go_at_call 10; refine (lives_calls _).mono ?_; rintro e w5 ⟨rfl, hb_⟩; have HB5 := Aside0.mk hb_; clear hb_))
      go_ret
      exact ⟨rfl, below_then HB4.out HB4.out.size HB5.out⟩
    · go_upto_region 5 with (first | (go_at_call 9; refine (accountinglaw15_light.calls kl A0 c0 steps A1 c1 apprs A2 c2 ops true _ (Kd.C_below H0.out HB3.out) hc0 (Kd.C_below H1.out HB3.out) hc1 (Kd.C_below H2.out HB3.out) hc2 HLT.out).mono ?_; rintro e w4 ⟨rfl, hb_⟩; have HB34 := Aside0.mk hb_; clear hb_ b0 b1))
      have hops : ops.length ≤ 40 := (HSM.out (by trivial)).2.2
      clear HSM HE HR HLT H0 H1
      go_upto_region 6 with (fail)
      refine with_world (P := fun x => Code.wp _ _ _ _ x) _ ?_
      intro w5 hw5
      have HLW5 := Aside0.mk (show Below w.heap.size w w5 from by rw [hw5]; exact below_alloc (below_then HB3.out HB3.out.size HB34.out) _)
      obtain ⟨F0, G, hF0, hG0, hFk, hGk⟩ := HTWO.out
      have HFF := Aside0.mk (show Flw w5 F0 p ⟨steps, apprs, [], []⟩ from by rw [hw5]; exact (hF0.below HB34.out).alloc _)
      have HGG := Aside0.mk (show Flw w5 G q ⟨steps, apprs, [], []⟩ from by rw [hw5]; exact (hG0.below HB34.out).alloc _)
      have HFK := Aside0.mk (show ∀ k, F0 k → w.heap.size ≤ k ∧ ¬ G k from fun k hk => ⟨hFk k hk, fun hg => (hGk k hg).2 hk⟩)
      have HGK := Aside0.mk (show ∀ k, G k → w.heap.size ≤ k from fun k hk => (hGk k hk).1)
      have HVV := Aside0.mk (show (Kd.int .i64).R 3 w5 w.heap.size (fun x => ¬ F0 x ∧ ¬ G x) (.slice (some ⟨w4.heap.size, 0, none⟩) 0 0) [] from by
        rw [hw5]
        refine Kd.R_mono (Kd.R_of_own (own_lit w4 w.heap.size 3 .i64 [] (Nat.le_trans HB3.out.size HB34.out.size) (by decide)) (ok := fun x => x = w4.heap.size) (fun k hk => by cases hk; rfl)) (fun x hx => ?_)
        subst hx
        exact ⟨fun hf => by have := (hF0.below HB34.out).lt _ hf; omega, fun hf => by have := (hG0.below HB34.out).lt _ hf; omega⟩)
      clear hw5 HTWO hF0 hG0 hFk hGk HB34 HB3
      obtain ⟨S0, hS0⟩ : ∃ S0 : FlowS, (⟨steps, apprs, [], []⟩ : FlowS) = S0 := ⟨_, rfl⟩
      have HBN0 := Aside0.mk (show Bnd S0 0 from by rw [← hS0]; exact ⟨Nat.le_refl _, fun D hD => by cases hD⟩)
      have HH0 := Aside0.mk (show Hist S0 S0 [] [] from Hist.start (by rw [← hS0]))
      rw [hS0] at HFF HGG
      clear hS0
      go_wp2
      go_loopw [9, 10, 11, 12, 58, 59, 60, 61, 62, 63, 64, 65, 66, 67, 68, 69, 70, 71, 72, 73, 74, 75, 76, 77, 78, 79, 80, 81, 82, 83, 84, 85, 86, 87, 88, 89, 90] (fun v9 v10 _ _ _ _ _ _ _ _ _ _ _ _ _ _ _ _ _ _ _ _ _ _ _ _ _ _ _ _ _ _ _ _ _ _ _ wr => ∃ (i : Nat) (S : FlowS) (F : Nat → Prop) (H : List S46) (V : List Int), i ≤ ops.length ∧ v10 = .int .i64 i ∧ Aside0 (Flw wr F p S) ∧ Aside0 (∀ k, F k → w.heap.size ≤ k ∧ ¬ G k) ∧ Aside0 (Flw wr G q S0) ∧ Aside0 (Below w.heap.size w wr) ∧ Aside0 ((Kd.int .i64).R 3 wr w.heap.size (fun x => ¬ F x ∧ ¬ G x) v9 V) ∧ Aside0 (Bnd S i) ∧ Aside0 (Hist S0 S H V) ∧ Aside0 (V.length ≤ i)) (fun _ v10 _ _ _ _ _ _ _ _ _ _ _ _ _ _ _ _ _ _ _ _ _ _ _ _ _ _ _ _ _ _ _ _ _ _ _ _ => ops.length - (intOf v10).toNat)
      case atStart => exact ⟨0, S0, F0, [], [], Nat.zero_le _, rfl, HFF, HFK, HGG, HLW5, HVV, HBN0, HH0, ⟨Nat.le_refl _⟩⟩
      case round =>
        clear HFF HFK HGG HLW5 HVV HH0
        obtain ⟨i, S, F, H, V, hi, rfl, HF, HFK, HGQ, HLW, HV, HBN, HHI, HLN⟩ := hrel
        obtain ⟨Av, cv, hv⟩ := Kd.R_slice HV.out
        subst hv
        rename World => wo
        by_cases hlt : i < ops.length
        · have d1 : decide ((i : Int) < (ops.length : Int)) = true := decide_eq_true (by omega)
          have d2 : decide (i < ops.length) = true := decide_eq_true hlt
          have p0 : (0 : Int) ≤ (i : Int) := by omega
          have p1 : (i : Int) < (ops.length : Int) := by omega
          have hu46 := Try.underlying46
          obtain ⟨ad, e, q0, q1, q2, q3⟩ := at_T46 (Kd.C_below H2.out HLW.out) (i : Int) (by omega) (by omega)
          subst e
          rw [Int.toNat_natCast] at q0 q1 q2 q3
          obtain ⟨o, ho⟩ : ∃ o, rd_T46 ops (i : Int) = o := ⟨_, rfl⟩
          have hom : o ∈ ops := by rw [← ho]; simp [rd_T46, hlt]
          rw [ho] at q0 q1 q2 q3
          have HOO := Aside0.mk ho
          have HWO := Aside0.mk (HWF.out o hom)
          clear ho hom
          obtain ⟨pi, pe, S2, hq⟩ : ∃ pi pe S2, playOf S o = (pi, pe, S2) := ⟨_, _, _, rfl⟩
          have HQ := Aside0.mk hq
          have HSTP := Aside0.mk (play_step hq HBN.out)
          clear hq
          have hn : S.acts.length ≤ 1000000 := by have := HBN.out.acts; omega
          go_upto_region 10 with (first | (go_at_call 17; refine (play_after HF.out o HWO.out hn (Nat.le_trans (HBN.out.doc _) (by omega)) HQ.out).mono ?_; rintro e_ w7 ⟨rfl, hA_⟩; have HA := Aside0.mk hA_; clear hA_ q0 q1 q2 q3))
          obtain ⟨F2, hF2, hs⟩ := HA.out
          have HF2 := Aside0.mk hF2
          have HLW7 := Aside0.mk (show Below w.heap.size w w7 from hs.but.below HLW.out HLW.out.size (fun k hk => (HFK.out k hk).1))
          have HFK2 := Aside0.mk (show ∀ k, F2 k → w.heap.size ≤ k ∧ ¬ G k from fun k hk => (hs.grow k hk).elim (HFK.out k) (fun h => ⟨Nat.le_trans HLW.out.size h, fun hg => by have := HGQ.out.lt k hg; omega⟩))
          have HGQ7 := Aside0.mk (show Flw w7 G q S0 from HGQ.out.but hs.but (fun k hk hf => (HFK.out k hf).2 hk))
          have HV7 := Aside0.mk (show (Kd.int .i64).R 3 w7 w.heap.size (fun x => ¬ F2 x ∧ ¬ G x) (.slice Av V.length cv) V from
            Kd.R_mono (Kd.R_step (Kd.R_bound HV.out) (fun x hx hlt6 => hs.but.block x hlt6 hx.1.1)) (fun x hx => ⟨fun hg => (hs.grow x hg).elim hx.1.1 (fun h => by have := hx.2.2.1; omega), hx.1.2⟩))
          clear hF2 hs HA HV HF HGQ HFK
          obtain ⟨ad2, e, q0, q1, q2, q3⟩ := at_T46 (Kd.C_below H2.out HLW7.out) (i : Int) (by omega) (by omega)
          obtain rfl : ad = ad2 := Option.some.inj e
          rw [Int.toNat_natCast, HOO.out] at q0 q3
          clear e q1 q2
          by_cases hpe : pe = 0
          · have de : (pe == (0 : Int)) = true := beq_iff_eq.mpr hpe
            subst hpe
            have hnx := HHI.out.next HWO.out HQ.out
            by_cases hk1 : o.f0 = 1
            · have dk : (o.f0 == (1 : Int)) = true := by rw [hk1]; rfl
              rw [if_pos hk1] at hnx
              have HNX := Aside0.mk hnx
              clear hk1 hnx
              go_wp2_with (first | ((with_reducible refine gate_builtin (b := .append) (xs := #[.tmp 83, .tmp 89]) rfl ?_); at_builtin; refine Kd.R_append (Kd.int .i64) (w0 := w) w.heap.size rfl (.tmp 83) (.tmp 89) 39 3 (.int .i64 0) 8 rfl Try.underlying39 info3 rfl (by decide) (by omega) (.slice Av V.length cv) V o.f3 [.int .i64 o.f3] (fun x => ¬ F2 x ∧ ¬ G x) (fun _ => False) rfl rfl ?aP (fun _ hk => hk.elim) ?aF ?aO ?aB ?aS ?aL ?_; (case aP => exact rfl); (case aF => exact fun x hx => ⟨fun hg => by have := HF2.out.lt x hg; omega, fun hg => by have := HGQ7.out.lt x hg; omega⟩); (case aO => exact HV7.out); (case aB => exact HLW7.out); (case aS => exact HLW7.out.size); (case aL => have := HLN.out; omega); intro v1 w8 hro hbl hg hat; have HO := Aside0.mk hro; have HB8 := Aside0.mk hbl; have HGR := Aside0.mk hg; clear hro hbl hg hat q0 q3))
              go_roundw
              case rel =>
                obtain ⟨H', hH'⟩ := HNX.out
                refine ⟨i + 1, S2, F2, H', V ++ [o.f3], by omega, by go_num, ⟨HF2.out.keep (fun k hk => HGR.out.block k (HF2.out.lt k hk) (fun e => (HV7.out.1 k e.symm).1 hk))⟩, HFK2, ⟨HGQ7.out.keep (fun k hk => HGR.out.block k (HGQ7.out.lt k hk) (fun e => (HV7.out.1 k e.symm).2 hk))⟩, HB8, HO, ⟨HSTP.out.1⟩, ⟨hH'⟩, ⟨?_⟩⟩
                rw [List.length_append, List.length_singleton]
                have := HLN.out
                omega
              case measure => simp [intOf]; omega
            · have dk : (o.f0 == (1 : Int)) = false := beq_eq_false_iff_ne.mpr hk1
              rw [if_neg hk1] at hnx
              have HNX := Aside0.mk hnx
              clear hk1 hnx
              go_wp2
              go_roundw
              case rel =>
                obtain ⟨H', hH'⟩ := HNX.out
                exact ⟨i + 1, S2, F2, H', V, by omega, by go_num, HF2, HFK2, HGQ7, HLW7, HV7, ⟨HSTP.out.1⟩, ⟨hH'⟩, ⟨by have := HLN.out; omega⟩⟩
              case measure => simp [intOf]; omega
          · have de : (pe == (0 : Int)) = false := beq_eq_false_iff_ne.mpr hpe
            have HSS := Aside0.mk (show S2 = S from HSTP.out.2.elim (fun h => h.2) (fun h => absurd h.1 hpe))
            clear hpe
            go_wp2
            go_roundw
            case rel => exact ⟨i + 1, S2, F2, H, V, by omega, by go_num, HF2, HFK2, HGQ7, HLW7, HV7, ⟨HSTP.out.1⟩, ⟨by rw [HSS.out]; exact HHI.out⟩, ⟨by have := HLN.out; omega⟩⟩
            case measure => simp [intOf]; omega
        · obtain rfl : i = ops.length := by omega
          have d1 : decide ((ops.length : Int) < (ops.length : Int)) = false := decide_eq_false (by omega)
          have hn : S.acts.length ≤ 1000000 := by have := HBN.out.acts; omega
          go_upto_region 13 with (first | (go_at_call 16; refine (acts_calls p S F _ HF.out hn).mono ?_; rintro e_ wa ⟨va, rfl, hr_, hb_⟩; obtain ⟨Aa, ca, rfl⟩ := Kd.R_slice hr_; have HRA := Aside0.mk hr_; have HBA := Aside0.mk hb_; clear hr_ hb_))
          have HFA := Aside0.mk (HF.out.below HBA.out)
          have HGA := Aside0.mk (show Flw wa G q (stAt S0 (H.take 0)) from HGQ.out.below HBA.out)
          have HVA := Aside0.mk (show (Kd.int .i64).R 3 wa 0 (fun x => ¬ G x) (.slice Av V.length cv) V from Kd.R_lower (Kd.R_mono (Kd.R_below HV.out HBA.out) (fun x hx => hx.2)) (Nat.zero_le _))
          have HRA2 := Aside0.mk (show k55.R 55 wa 0 (fun x => ¬ G x) (.slice Aa S.acts.length ca) S.acts from Kd.R_lower (Kd.R_mono HRA.out (fun x hx hg => by have := HGQ.out.lt x hg; omega)) (Nat.zero_le _))
          have HLA := Aside0.mk (below_then HLW.out HLW.out.size HBA.out)
          have HGF := Aside0.mk (show ∀ k, G k → w.heap.size ≤ k ∧ ¬ F k from fun k hk => ⟨HGK.out k hk, fun hf => (HFK.out k hf).2 hk⟩)
          have HLH := Aside0.mk HHI.out.len
          have HVL := Aside0.mk (show V.length ≤ 40 from Nat.le_trans HLN.out hops)
          have HAL := Aside0.mk (show S.acts.length ≤ 40 from Nat.le_trans HBN.out.acts hops)
          have HBG := Aside0.mk (show Bnd (stAt S0 (H.take 0)) 0 from HBN0.out)
          have HADL := Aside0.mk HBN.out.docs
          clear HF HFK HGQ HLW HV HBN HLN HRA HBA HGK
          go_wp2
          go_loopw [4, 14, 15, 16, 17, 18, 93, 94, 95, 96, 97, 98, 99, 100, 101, 102, 103, 104, 105, 106, 107, 108, 109, 110, 111, 112, 113, 114, 115, 116, 117, 118, 119, 120, 121, 122, 123, 124, 125, 126, 127, 128, 129, 130, 131, 132, 133, 134, 135, 136] (fun _ v14 v15 _ _ _ _ _ _ _ _ _ _ _ _ _ _ _ _ _ _ _ _ _ _ _ _ _ _ _ _ _ _ _ _ _ _ _ _ _ _ _ _ _ _ _ _ _ _ _ wr => ∃ (j : Nat) (Gj : Nat → Prop), j ≤ S.acts.length ∧ v15 = .int .i64 j ∧ v14 = .int .i64 (drafts (H.take j)) ∧ Aside0 (Flw wr Gj q (stAt S0 (H.take j))) ∧ Aside0 (∀ k, Gj k → w.heap.size ≤ k ∧ ¬ F k) ∧ Aside0 (Flw wr F p S) ∧ Aside0 (Below w.heap.size w wr) ∧ Aside0 ((Kd.int .i64).R 3 wr 0 (fun x => ¬ Gj x) (.slice Av V.length cv) V) ∧ Aside0 (k55.R 55 wr 0 (fun x => ¬ Gj x) (.slice Aa S.acts.length ca) S.acts) ∧ Aside0 (Bnd (stAt S0 (H.take j)) j)) (fun _ _ v15 _ _ _ _ _ _ _ _ _ _ _ _ _ _ _ _ _ _ _ _ _ _ _ _ _ _ _ _ _ _ _ _ _ _ _ _ _ _ _ _ _ _ _ _ _ _ _ _ => S.acts.length - (intOf v15).toNat)
          case atStart => exact ⟨0, G, Nat.zero_le _, rfl, rfl, HGA, HGF, HFA, HLA, HVA, HRA2, HBG⟩
          case round =>
            clear HGA HGF HFA HLA HVA HRA2 HBG
            obtain ⟨j, Gj, hj, rfl, rfl, HG, HGF, HF, HLW, HV, HRA, HBN⟩ := hrel
            by_cases hlt : j < S.acts.length
            · have d1 : decide ((j : Int) < (S.acts.length : Int)) = true := decide_eq_true (by omega)
              have d2 : decide (j < S.acts.length) = true := decide_eq_true hlt
              have p0 : (0 : Int) ≤ (j : Int) := by omega
              have p1 : (j : Int) < (S.acts.length : Int) := by omega
              have hjl : j < H.length := by rw [← HLH.out.2]; exact hlt
              have hat := HHI.out.at hjl
              obtain ⟨x, hx⟩ : ∃ x, H[j] = x := ⟨_, rfl⟩
              rw [hx] at hat
              have HAT := Aside0.mk hat
              clear hat hx
              obtain ⟨ad, e, q0, q1, q2⟩ := at_T55 (Kd.R_reads' HRA.out).2.2 (j : Int) (by omega) (by omega)
              rw [Int.toNat_natCast, HAT.out.act] at q0 q1 q2
              have q0 : wr.cell? (ad.add (j * 3)) = some (.int .i64 x.f0) := q0
              have q1 : wr.cell? ⟨(ad.add (j * 3)).block, (ad.add (j * 3)).off + 1, none⟩ = some (.int .i64 x.f1) := q1
              have q2 : wr.cell? ⟨(ad.add (j * 3)).block, (ad.add (j * 3)).off + 2, none⟩ = some (.string x.f2) := q2
              subst e
              go_wp2_with fail
              go_region_held3 (fun w' => w'.cell? (ad.add (j * 3)) = some (.int .i64 x.f0) ∧ w'.cell? ⟨(ad.add (j * 3)).block, (ad.add (j * 3)).off + 1, none⟩ = some (.int .i64 x.f1) ∧ w'.cell? ⟨(ad.add (j * 3)).block, (ad.add (j * 3)).off + 2, none⟩ = some (.string x.f2)) (first | go_keep) (fail)
              obtain ⟨bo, hbo⟩ : ∃ bo, wr.heap.size = bo := ⟨_, rfl⟩
              generalize hw6 : (wr.alloc (.cells #[.int .i64 x.f0, .int .i64 x.f1, .string x.f2, .int .i64 0] 46)).drew = w6
              have HBK := Aside0.mk (show w6.heap[bo]? = some (.cells #[.int .i64 x.f0, .int .i64 x.f1, .string x.f2, .int .i64 0] 46 (0, 0)) from by rw [← hw6, ← hbo]; exact blk_drew (blk_new wr _))
              have HB6 := Aside0.mk (show Below wr.heap.size wr w6 from by rw [← hw6]; exact below_drew (below_alloc (Below.refl _ _) _))
              rw [hbo]
              have HBO := Aside0.mk hbo
              clear hw6 hbo q0 q1 q2
              have HLW6 := Aside0.mk (below_then HLW.out HLW.out.size HB6.out)
              have hba : (stAt S0 (H.take j)).acts.length ≤ 1000000 := by have := HBN.out.acts; omega
              have HDA := Aside0.mk (fun id => Nat.le_trans (HBN.out.doc id) (show j ≤ 1000000 by have := HAL.out; omega))
              by_cases hk : x.f0 = 1
              · have dk : (x.f0 == (1 : Int)) = true := by rw [hk]; rfl
                obtain ⟨hv1, hv2⟩ := HAT.out.vol hk
                have hdr := HAT.out.dr
                rw [if_pos hk] at hdr
                obtain ⟨dn, hdn⟩ : ∃ dn, drafts (H.take j) = dn := ⟨_, rfl⟩
                rw [hdn] at hv1 hv2 hdr ⊢
                have HDR := Aside0.mk hdr
                have g1 : decide ((V.length : Int) ≤ (dn : Int)) = false := decide_eq_false (by omega)
                have g2 : decide (V.length ≤ dn) = false := decide_eq_false (by omega)
                have p2 : (0 : Int) ≤ (dn : Int) := by omega
                have p3 : (dn : Int) < (V.length : Int) := by omega
                have hdb : dn ≤ 40 := by have := HVL.out; omega
                obtain ⟨av, e, qv⟩ := Kd.at_int (Kd.R_reads' (Kd.R_below HV.out HB6.out)).2.2 (dn : Int) (by omega) (by omega)
                rw [Int.toNat_natCast, hv2] at qv
                subst e
                have HQ := Aside0.mk HAT.out.ok
                have c0 := (blk_cell HBK.out 0).trans rfl
                have c1 := (blk_cell HBK.out 1).trans rfl
                have c2 := (blk_cell HBK.out 2).trans rfl
                have c3 := (blk_cell HBK.out 3).trans rfl
                have f3 := blk_frozen HBK.out 3
                clear hk hv1 hv2 hdr hdn
                go_upto_region 22 with (fail)
                refine with_world (P := fun x => Code.wp _ _ _ _ x) _ ?_
                intro w7 hw7
                have HBK7 := Aside0.mk (show w7.heap[bo]? = some (.cells #[.int .i64 x.f0, .int .i64 x.f1, .string x.f2, .int .i64 x.f3] 46 (0, 0)) from by rw [hw7]; exact blk_put HBK.out 3 _ rfl)
                have HB7 := Aside0.mk (show But (fun k => k = bo) wr w7 from by rw [hw7]; exact (But.of_below HB6.out _).setCell (by exact rfl) _)
                clear hw7 c0 c1 c2 c3 f3 qv HB6 HBK
                have c0 := (blk_cell HBK7.out 0).trans rfl
                have c1 := (blk_cell HBK7.out 1).trans rfl
                have c2 := (blk_cell HBK7.out 2).trans rfl
                have c3 := (blk_cell HBK7.out 3).trans rfl
                have HG7 := Aside0.mk (HG.out.but HB7.out (fun k hk e => by have := HG.out.lt k hk; have := HBO.out; omega))
                have HF7 := Aside0.mk (HF.out.but HB7.out (fun k hk e => by have := HF.out.lt k hk; have := HBO.out; omega))
                have HV7 := Aside0.mk (Kd.R_step (Kd.R_bound HV.out) (fun x hx hlt => HB7.out.block x hlt (fun e => by have := HBO.out; omega)))
                have HRA7 := Aside0.mk (Kd.R_step (Kd.R_bound HRA.out) (fun x hx hlt => HB7.out.block x hlt (fun e => by have := HBO.out; omega)))
                have HLW7 := Aside0.mk (show Below w.heap.size w w7 from HB7.out.below HLW.out HLW.out.size (fun k e => by have := HLW.out.size; have := HBO.out; omega))
                obtain ⟨pi, hpi⟩ := HQ.out
                have HPI := Aside0.mk hpi
                clear hpi HQ HG HF HV HRA HLW HLW6 HB7
                go_upto_region 24 with (first | (go_at_call 17; refine (play_after HG7.out x HAT.out.wf hba (HDA.out _) HPI.out).mono ?_; rintro e_ w8 ⟨rfl, hA_⟩; have HA := Aside0.mk hA_; clear hA_ c0 c1 c2 c3))
                obtain ⟨G2, hG2, hs⟩ := HA.out
                have HG2 := Aside0.mk hG2
                have HF8 := Aside0.mk (HF7.out.but hs.but (fun k hk hg => (HGF.out k hg).2 hk))
                have HLW8 := Aside0.mk (show Below w.heap.size w w8 from hs.but.below HLW7.out HLW7.out.size (fun k hk => (HGF.out k hk).1))
                have HGF2 := Aside0.mk (show ∀ k, G2 k → w.heap.size ≤ k ∧ ¬ F k from fun k hk => (hs.grow k hk).elim (HGF.out k) (fun h => ⟨Nat.le_trans HLW7.out.size h, fun hf => by have := HF7.out.lt k hf; omega⟩))
                have HV8 := Aside0.mk (show (Kd.int .i64).R 3 w8 0 (fun x => ¬ G2 x) (.slice (some av) V.length cv) V from
                  Kd.R_mono (Kd.R_step (Kd.R_bound HV7.out) (fun x hx hlt6 => hs.but.block x hlt6 hx.1.1)) (fun x hx hg => (hs.grow x hg).elim hx.1.1 (fun h => by have := hx.2.2.1; omega)))
                have HRA8 := Aside0.mk (show k55.R 55 w8 0 (fun x => ¬ G2 x) (.slice (some ad) S.acts.length ca) S.acts from
                  Kd.R_mono (Kd.R_step (Kd.R_bound HRA7.out) (fun x hx hlt6 => hs.but.block x hlt6 hx.1.1)) (fun x hx hg => (hs.grow x hg).elim hx.1.1 (fun h => by have := hx.2.2.1; omega)))
                have HBN8 := Aside0.mk (play_step HPI.out HBN.out).1
                clear hG2 hs HA HV7 HRA7 HG7 HF7
                go_wp2
                go_roundw
                case rel => exact ⟨j + 1, G2, by omega, by go_num, by rw [HDR.out]; go_num, HG2, HGF2, HF8, HLW8, HV8, HRA8, HBN8⟩
                case measure => simp [intOf]; omega
              · have dk : (x.f0 == (1 : Int)) = false := beq_eq_false_iff_ne.mpr hk
                have hdr := HAT.out.dr
                rw [if_neg hk, Nat.add_zero] at hdr
                obtain ⟨dn, hdn⟩ : ∃ dn, drafts (H.take j) = dn := ⟨_, rfl⟩
                rw [hdn] at hdr ⊢
                have HDR := Aside0.mk hdr
                obtain ⟨y, hy⟩ : ∃ y : S46, (⟨x.f0, x.f1, x.f2, 0⟩ : S46) = y := ⟨_, rfl⟩
                have HQ := Aside0.mk (show ∃ i, playOf (stAt S0 (H.take j)) y = (i, 0, stAt S0 (H.take (j + 1))) from by
                  obtain ⟨i, hi⟩ := HAT.out.ok
                  exact ⟨i, by rw [← hy, play_nodraft _ _ _ hk]; exact hi⟩)
                have HWFY := Aside0.mk (show (Lit.int .i64 y.f1).wf = true from by rw [← hy]; exact HAT.out.wf)
                have HBK7 := Aside0.mk (show w6.heap[bo]? = some (.cells #[.int .i64 y.f0, .int .i64 y.f1, .string y.f2, .int .i64 y.f3] 46 (0, 0)) from by rw [← hy]; exact HBK.out)
                have dky : (y.f0 == (1 : Int)) = false := by rw [← hy]; exact dk
                have HB7 := Aside0.mk (show But (fun k => k = bo) wr w6 from But.of_below HB6.out _)
                clear hk hdr hdn hy HB6 HBK dk
                have c0 := (blk_cell HBK7.out 0).trans rfl
                have c1 := (blk_cell HBK7.out 1).trans rfl
                have c2 := (blk_cell HBK7.out 2).trans rfl
                have c3 := (blk_cell HBK7.out 3).trans rfl
                have HG7 := Aside0.mk (HG.out.but HB7.out (fun k hk e => by have := HG.out.lt k hk; have := HBO.out; omega))
                have HF7 := Aside0.mk (HF.out.but HB7.out (fun k hk e => by have := HF.out.lt k hk; have := HBO.out; omega))
                have HV7 := Aside0.mk (Kd.R_step (Kd.R_bound HV.out) (fun x hx hlt => HB7.out.block x hlt (fun e => by have := HBO.out; omega)))
                have HRA7 := Aside0.mk (Kd.R_step (Kd.R_bound HRA.out) (fun x hx hlt => HB7.out.block x hlt (fun e => by have := HBO.out; omega)))
                have HLW7 := Aside0.mk (show Below w.heap.size w w6 from HB7.out.below HLW.out HLW.out.size (fun k e => by have := HLW.out.size; have := HBO.out; omega))
                obtain ⟨pi, hpi⟩ := HQ.out
                have HPI := Aside0.mk hpi
                clear hpi HQ HG HF HV HRA HLW HLW6 HB7
                go_upto_region 24 with (first | (go_at_call 17; refine (play_after HG7.out y HWFY.out hba (HDA.out _) HPI.out).mono ?_; rintro e_ w8 ⟨rfl, hA_⟩; have HA := Aside0.mk hA_; clear hA_ c0 c1 c2 c3))
                obtain ⟨G2, hG2, hs⟩ := HA.out
                have HG2 := Aside0.mk hG2
                have HF8 := Aside0.mk (HF7.out.but hs.but (fun k hk hg => (HGF.out k hg).2 hk))
                have HLW8 := Aside0.mk (show Below w.heap.size w w8 from hs.but.below HLW7.out HLW7.out.size (fun k hk => (HGF.out k hk).1))
                have HGF2 := Aside0.mk (show ∀ k, G2 k → w.heap.size ≤ k ∧ ¬ F k from fun k hk => (hs.grow k hk).elim (HGF.out k) (fun h => ⟨Nat.le_trans HLW7.out.size h, fun hf => by have := HF7.out.lt k hf; omega⟩))
                have HV8 := Aside0.mk (show (Kd.int .i64).R 3 w8 0 (fun x => ¬ G2 x) (.slice Av V.length cv) V from
                  Kd.R_mono (Kd.R_step (Kd.R_bound HV7.out) (fun x hx hlt6 => hs.but.block x hlt6 hx.1.1)) (fun x hx hg => (hs.grow x hg).elim hx.1.1 (fun h => by have := hx.2.2.1; omega)))
                have HRA8 := Aside0.mk (show k55.R 55 w8 0 (fun x => ¬ G2 x) (.slice (some ad) S.acts.length ca) S.acts from
                  Kd.R_mono (Kd.R_step (Kd.R_bound HRA7.out) (fun x hx hlt6 => hs.but.block x hlt6 hx.1.1)) (fun x hx hg => (hs.grow x hg).elim hx.1.1 (fun h => by have := hx.2.2.1; omega)))
                have HBN8 := Aside0.mk (play_step HPI.out HBN.out).1
                clear hG2 hs HA HV7 HRA7 HG7 HF7
                go_wp2
                go_roundw
                case rel => exact ⟨j + 1, G2, by omega, by go_num, by rw [HDR.out]; rfl, HG2, HGF2, HF8, HLW8, HV8, HRA8, HBN8⟩
                case measure => simp [intOf]; omega
            · obtain rfl : j = S.acts.length := by omega
              have d1 : decide ((S.acts.length : Int) < (S.acts.length : Int)) = false := decide_eq_false (by omega)
              have htk : H.take S.acts.length = H := by rw [HLH.out.2, List.take_length]
              have hdr : drafts (H.take S.acts.length) = V.length := by rw [htk]; exact HLH.out.1.symm
              have HGS := Aside0.mk (show Flw _ Gj q S from by have h := HG.out; rw [htk, HHI.out.same] at h; exact h)
              rw [hdr]
              have hv40 := HVL.out
              clear htk hdr HG HBN
              rename World => wm
              go_wp2
              go_loopw [4, 19, 137, 138, 139, 140, 141, 142, 143, 144, 145, 146, 147, 148, 149, 150, 151, 152, 153, 154, 155, 156, 157, 158, 159, 160, 161, 162, 163, 164, 165, 166, 167, 168] (fun _ v19 _ _ _ _ _ _ _ _ _ _ _ _ _ _ _ _ _ _ _ _ _ _ _ _ _ _ _ _ _ _ _ _ wr => ∃ k : Nat, 1 ≤ k ∧ k ≤ V.length + 1 ∧ v19 = .int .i64 k ∧ Aside0 (Below wm.heap.size wm wr)) (fun _ v19 _ _ _ _ _ _ _ _ _ _ _ _ _ _ _ _ _ _ _ _ _ _ _ _ _ _ _ _ _ _ _ _ _ => V.length + 1 - (intOf v19).toNat)
              case atStart => exact ⟨1, Nat.le_refl _, by omega, rfl, ⟨Below.refl _ _⟩⟩
              case round =>
                obtain ⟨k, hk1, hk, rfl, HB⟩ := hrel
                by_cases hkl : k ≤ V.length
                · have d1 : decide ((k : Int) ≤ (V.length : Int)) = true := decide_eq_true (by omega)
                  have d2 : decide (k ≤ V.length) = true := decide_eq_true hkl
                  obtain ⟨st, hst⟩ : ∃ st, stOf S (k : Int) = st := ⟨_, rfl⟩
                  obtain ⟨au, hau⟩ : ∃ au, auOf S (k : Int) = au := ⟨_, rfl⟩
                  obtain ⟨ap, hap⟩ : ∃ ap, apOf S (k : Int) = ap := ⟨_, rfl⟩
                  have hapl : ap.length ≤ 1000000 := by
                    rw [← hap]
                    unfold apOf
                    cases hd : docAt S (k : Int) with
                    | none => exact Nat.zero_le _
                    | some D =>
                      have := HADL.out D (docAt_mem hd)
                      show D.ap.length ≤ _
                      omega
                  have HST := Aside0.mk hst
                  have HAU := Aside0.mk hau
                  have HAP := Aside0.mk hap
                  obtain ⟨kt, hkt⟩ := texts_self ap hapl
                  have HKT := Aside0.mk hkt
                  have HWK := Aside0.mk (wf_small (show k ≤ 1000 by omega))
                  clear hst hau hap hkt
                  have HFB := Aside0.mk (HF.out.below HB.out)
                  have HGB := Aside0.mk (HGS.out.below HB.out)
                  go_wp2_with (first | (go_at_call 15; (with_reducible refine (state_calls p S F (k : Int) HWK.out _ HFB.out).mono ?_); rw [HST.out]; rintro e_ w_ ⟨rfl, he_⟩; obtain rfl := he_.symm) | (go_at_call 15; (with_reducible refine (state_calls q S Gj (k : Int) HWK.out _ HGB.out).mono ?_); rw [HST.out]; rintro e_ w_ ⟨rfl, he_⟩; obtain rfl := he_.symm) | (go_at_call 25; (with_reducible refine (author_calls p S F (k : Int) HWK.out _ HFB.out).mono ?_); rw [HAU.out]; rintro e_ w_ ⟨rfl, he_⟩; obtain rfl := he_.symm) | (go_at_call 25; (with_reducible refine (author_calls q S Gj (k : Int) HWK.out _ HGB.out).mono ?_); rw [HAU.out]; rintro e_ w_ ⟨rfl, he_⟩; obtain rfl := he_.symm) | (go_at_call 23; (with_reducible refine (approvals_calls p S F (k : Int) HWK.out _ HFB.out (by rw [HAP.out]; exact hapl)).mono ?_); rw [HAP.out]; rintro e_ wa ⟨v, rfl, hr_, hb_⟩; obtain ⟨A8, c8, rfl⟩ := Kd.R_slice hr_; have HBX := Aside0.mk hb_; have HR8 := Aside0.mk (Kd.R_reads' hr_); clear hr_ hb_) | (go_at_call 23; (with_reducible refine (approvals_calls q S Gj (k : Int) HWK.out _ (HGB.out.below HBX.out) (by rw [HAP.out]; exact hapl)).mono ?_); rw [HAP.out]; rintro e_ wb ⟨v, rfl, hr_, hb_⟩; obtain ⟨A9, c9, rfl⟩ := Kd.R_slice hr_; have HBY := Aside0.mk hb_; have HR9 := Aside0.mk (Kd.R_reads' hr_); clear hr_ hb_) | (go_at_call 26; refine (accountingref15_SameTexts.calls kt A8 c8 ap A9 c9 ap true _ (Kd.C_below HR8.out.2.2 HBY.out) HR8.out.2.1 HR9.out.2.2 HR9.out.2.1 HKT.out).mono ?_; rintro e_ wc ⟨rfl, hd_⟩; have HBZ := Aside0.mk hd_.below; clear hd_))
                  go_roundw
                  case rel =>
                    have h1 := below_then HB.out HB.out.size HBX.out
                    have h2 := below_then h1 h1.size HBY.out
                    exact ⟨k + 1, by omega, by omega, by go_num, ⟨below_then h2 h2.size HBZ.out⟩⟩
                  case measure => simp [intOf]; omega
                · obtain rfl : k = V.length + 1 := by omega
                  have d1 : decide (((V.length + 1 : Nat) : Int) ≤ (V.length : Int)) = false := decide_eq_false (by omega)
                  have d2 : decide ((V.length : Int) + 1 ≤ (V.length : Int)) = false := decide_eq_false (by omega)
                  have d3 : decide (V.length + 1 ≤ V.length) = false := decide_eq_false (by omega)
                  obtain ⟨kt, hkt⟩ := acts_self S.acts (by have := HAL.out; omega)
                  have HKT := Aside0.mk hkt
                  have hsa : S.acts.length ≤ 1000000 := by have := HAL.out; omega
                  clear hkt
                  have HGB := Aside0.mk (HGS.out.below HB.out)
                  have HRB := Aside0.mk (Kd.R_reads' (Kd.R_below HRA.out HB.out))
                  have HLB := Aside0.mk (below_then HLW.out HLW.out.size HB.out)
                  go_wp2_with (first | (go_at_call 16; refine (acts_calls q S Gj _ HGB.out hsa).mono ?_; rintro e_ wa ⟨v, rfl, hr_, hb_⟩; obtain ⟨A8, c8, rfl⟩ := Kd.R_slice hr_; have HBX := Aside0.mk hb_; have HR8 := Aside0.mk (Kd.R_reads' hr_); clear hr_ hb_) | (go_at_call 27; refine (accountingref15_SameActs.calls kt Aa ca S.acts A8 c8 S.acts true _ (Kd.C_below HRB.out.2.2 HBX.out) HRB.out.2.1 HR8.out.2.2 HR8.out.2.1 HKT.out).mono ?_; rintro e_ wc ⟨rfl, hd_⟩; have HBZ := Aside0.mk hd_.below; clear hd_) | (go_at_call 10; refine (lives_calls _).mono ?_; rintro e_ w9 ⟨rfl, hb_⟩; have HB9 := Aside0.mk hb_; clear hb_))
                  go_ret
                  have h1 := below_then HLB.out HLB.out.size HBX.out
                  have h2 := below_then h1 h1.size HBZ.out
                  exact ⟨rfl, below_then h2 h2.size HB9.out⟩

  · have HNE := Aside0.mk hne
    have hn1 : (err != 0) = true := bne_iff_ne.mpr hne
    clear hne
    cases b
    · go_upto_region 3 with (first | (go_at_call 11; (refine (new_bad (Kd.C_below H0.out HB1.out) hc0 (Kd.C_below H1.out HB1.out) HR.out HE.out HNE.out).mono ?_); rintro e w2 ⟨rfl, hb_⟩; have HB12 := Aside0.mk hb_; have HB2 := Aside0.mk (below_then HB1.out HB1.out.size hb_); have BK2 := blk_below HBK.out hb_; clear hb_ b0 b1; have b0 := (blk_cell BK2 0).trans rfl; have b1 := (blk_cell BK2 1).trans rfl; have HBK2 := Aside0.mk BK2; clear BK2 HBK HB12 HB1) | (go_at_call 11; (refine (new_bad (Kd.C_below H0.out HB2.out) hc0 (Kd.C_below H1.out HB2.out) HR.out HE.out HNE.out).mono ?_); rintro e w3 ⟨rfl, hb_⟩; have HB3 := Aside0.mk (below_then HB2.out HB2.out.size hb_); have BK3 := blk_below HBK2.out hb_; clear hb_ b0 b1))
      have b0 := (blk_cell BK3 0).trans rfl
      have b1 := (blk_cell BK3 1).trans rfl
      clear BK3
      go_wp2_with (first | (go_at_call 9; refine (accountinglaw15_light.calls kl A0 c0 steps A1 c1 apprs A2 c2 ops false _ (Kd.C_below H0.out HB3.out) hc0 (Kd.C_below H1.out HB3.out) hc1 (Kd.C_below H2.out HB3.out) hc2 HLT.out).mono ?_; rintro e w4 ⟨rfl, hb_⟩; have HB4 := Aside0.mk (below_then HB3.out HB3.out.size hb_); clear hb_ b0 b1) | (go_at_call 10; refine (lives_calls _).mono ?_; rintro e w5 ⟨rfl, hb_⟩; have HB5 := Aside0.mk hb_; clear hb_))
      go_ret
      exact ⟨rfl, below_then HB4.out HB4.out.size HB5.out⟩
    · go_upto_region 3 with (first | (go_at_call 11; (refine (new_bad (Kd.C_below H0.out HB1.out) hc0 (Kd.C_below H1.out HB1.out) HR.out HE.out HNE.out).mono ?_); rintro e w2 ⟨rfl, hb_⟩; have HB12 := Aside0.mk hb_; have HB2 := Aside0.mk (below_then HB1.out HB1.out.size hb_); have BK2 := blk_below HBK.out hb_; clear hb_ b0 b1; have b0 := (blk_cell BK2 0).trans rfl; have b1 := (blk_cell BK2 1).trans rfl; have HBK2 := Aside0.mk BK2; clear BK2 HBK HB12 HB1) | (go_at_call 11; (refine (new_bad (Kd.C_below H0.out HB2.out) hc0 (Kd.C_below H1.out HB2.out) HR.out HE.out HNE.out).mono ?_); rintro e w3 ⟨rfl, hb_⟩; have HB3 := Aside0.mk (below_then HB2.out HB2.out.size hb_); have BK3 := blk_below HBK2.out hb_; clear hb_ b0 b1))
      have b0 := (blk_cell BK3 0).trans rfl
      have b1 := (blk_cell BK3 1).trans rfl
      clear BK3
      go_wp2_with (first | (go_at_call 9; refine (accountinglaw15_light.calls kl A0 c0 steps A1 c1 apprs A2 c2 ops true _ (Kd.C_below H0.out HB3.out) hc0 (Kd.C_below H1.out HB3.out) hc1 (Kd.C_below H2.out HB3.out) hc2 HLT.out).mono ?_; rintro e w4 ⟨rfl, hb_⟩; have HB4 := Aside0.mk (below_then HB3.out HB3.out.size hb_); clear hb_ b0 b1) | (go_at_call 10; refine (lives_calls _).mono ?_; rintro e w5 ⟨rfl, hb_⟩; have HB5 := Aside0.mk hb_; clear hb_))
      go_ret
      exact ⟨rfl, below_then HB4.out HB4.out.size HB5.out⟩
/-- The law's value: true where the lists are no longer than any Go slice and each number is an int. -/
def accountinglaw15_FlowAgain.f (l0_0 : List S60) (l0_1 : List ByteArray) (l1 : List S46) : Option Bool := if steps_ok l0_0 l1 then some true else none
theorem accountinglaw15_FlowAgain.calls (A0_0 : Option Addr) (c0_0 : Nat) (l0_0 : List S60) (A0_1 : Option Addr) (c0_1 : Nat) (l0_1 : List ByteArray) (A1 : Option Addr) (c1 : Nat) (l1 : List S46) (r : Bool) (w : World) (hr0_0 : Kd.C k60 w A0_0 l0_0.length l0_0) (hc0_0 : l0_0.length ≤ c0_0) (hr0_1 : Kd.C Kd.string w A0_1 l0_1.length l0_1) (hc0_1 : l0_1.length ≤ c0_1) (hr1 : Kd.C k46 w A1 l1.length l1) (hc1 : l1.length ≤ c1) (h : accountinglaw15_FlowAgain.f l0_0 l0_1 l1 = some r) :
    Calls Try.prog 7 #[.agg #[.slice A0_0 l0_0.length c0_0, .slice A0_1 l0_1.length c0_1], .slice A1 l1.length c1] w fun e w' => e = .returned (.bool r) ∧ Below w.heap.size w w' := by
  unfold accountinglaw15_FlowAgain.f at h
  split at h
  · rename_i hok
    obtain rfl := Option.some.inj h
    exact flowAgain_calls A0_0 c0_0 l0_0 A0_1 c0_1 l0_1 A1 c1 l1 w hr0_0 hc0_0 hr0_1 hc0_1 hr1 hc1 hok.1 hok.2
  · cases h
end Go.Proofs.Ytbbhichndfbooaa.P
