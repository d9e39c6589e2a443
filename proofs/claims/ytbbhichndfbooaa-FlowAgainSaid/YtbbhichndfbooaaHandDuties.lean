/- The contract of the law FlowDuties. -/
import Derived.Test.YtbbhichndfbooaaHandApart
import Derived.Test.YtbbhichndfbooaaSpecE
import Derived.Test.YtbbhichndfbooaaPx15
namespace Go.Proofs.Ytbbhichndfbooaa.P
open Go.RowKit Go.Proofs.YtbbhichndfbooaaW.PrintWords Go.Proofs.YtbbhichndfbooaaW.PrintLast Go.Proofs.YtbbhichndfbooaaW.PrintMore Go.Maps Go.ChangeShapes Go.WideShapes Go.WideMaps
set_option linter.unusedVariables false
set_option linter.unusedSimpArgs false
theorem contains_some (l : List ByteArray) (s : ByteArray) (hl : l.length ≤ 1000000) : ∃ k, accountinglaw15_contains.f k l s = some (hasB l s) := by
  have key : ∀ (n i : Nat), l.length - i = n → i ≤ l.length → Ev (fun k => accountinglaw15_contains.l0 k l s (i : Int)) (hasB (l.drop i) s) := by
    intro n
    induction n with
    | zero =>
      intro i hn hi
      refine Ev.step (fun k => accountinglaw15_contains.l0.eq_2 _ _ _ k) ?_
      simp only [if_neg (show ¬ ((i : Int) < (l.length : Int)) by omega)]
      rw [List.drop_of_length_le (by omega)]
      exact Ev.now _
    | succ n ih =>
      intro i hn hi
      have hil : i < l.length := by omega
      have hw : wrap64 ((i : Int) + 1) = ((i + 1 : Nat) : Int) := by rw [w64r (by omega) (by omega)]; omega
      have e : rdOf ByteArray.empty l (i : Int) = l[i] := by simp [rdOf, hil]
      have hd : hasB (l.drop i) s = ((l[i].toList == s.toList) || hasB (l.drop (i + 1)) s) := by
        rw [List.drop_eq_getElem_cons hil]
        rfl
      refine Ev.step (fun k => accountinglaw15_contains.l0.eq_2 _ _ _ k) ?_
      simp only [if_pos (show ((i : Int) < (l.length : Int)) by omega), if_pos (show (0 : Int) ≤ (i : Int) by omega), hw, e]
      rw [hd]
      by_cases c : l[i].toList = s.toList
      · simp only [if_pos c]
        rw [beq_iff_eq.mpr c, Bool.true_or]
        exact Ev.now _
      · simp only [if_neg c]
        rw [beq_eq_false_iff_ne.mpr c, Bool.false_or]
        exact ih (i + 1) (by omega) (by omega)
  exact (key _ 0 rfl (Nat.zero_le _)).rounds
theorem once_take {l : List ByteArray} (h : Once l) {i : Nat} (hi : i < l.length) : hasB (l.take i) l[i] = false := by
  unfold hasB
  rw [List.any_eq_false]
  intro x hx
  rw [List.mem_take_iff_getElem] at hx
  obtain ⟨j, hj, rfl⟩ := hx
  have hji : j < i := by omega
  have := List.pairwise_iff_getElem.1 h j i (by omega) hi hji
  simpa using this
set_option maxHeartbeats 16000000 in
set_option maxRecDepth 100000 in
theorem flowDuties_calls (A0 : Option Addr) (c0 : Nat) (steps : List S60) (A1 : Option Addr) (c1 : Nat) (apprs : List ByteArray) (A2 : Option Addr) (c2 : Nat) (ops : List S46) (w : World)
    (h0 : Kd.C k60 w A0 steps.length steps) (hc0 : steps.length ≤ c0) (h1 : Kd.string.C w A1 apprs.length apprs) (hc1 : apprs.length ≤ c1) (h2 : Kd.C k46 w A2 ops.length ops) (hc2 : ops.length ≤ c2) (hl : steps.length ≤ 9223372036854775807) (hwf : ∀ o ∈ ops, (Lit.int .i64 o.f1).wf = true) :
    Calls Try.prog 6 #[.agg #[.slice A0 steps.length c0, .slice A1 apprs.length c1], .slice A2 ops.length c2] w fun e w' => e = .returned (.bool true) ∧ Below w.heap.size w w' := by
  obtain ⟨rt, kr, hr⟩ := right_some steps hl
  obtain ⟨b, kl, hlt, hsm⟩ := light_some steps apprs ops
  have H0 := Aside0.mk h0
  have H1 := Aside0.mk h1
  have H2 := Aside0.mk h2
  have HR := Aside0.mk hr
  have HLT := Aside0.mk hlt
  have HSM := Aside0.mk hsm
  have HWF := Aside0.mk hwf
  clear h0 h1 h2 hr hlt hsm hwf
  obtain ⟨err, he⟩ : ∃ err, newErr rt steps apprs = err := ⟨_, rfl⟩
  have HE := Aside0.mk he
  clear he
  go_enter Try.func6, Try.ntmps6
  go_upto_region 1 with (fail)
  refine with_world (P := fun x => Code.wp _ _ _ _ x) _ ?_
  intro w1 hw1
  have BK : w1.heap[w.heap.size]? = some (.cells #[.slice A0 steps.length c0, .slice A1 apprs.length c1] 25 (0, 0)) := by rw [hw1]; exact blk_new w _
  have HB1 := Aside0.mk (show Below w.heap.size w w1 from by rw [hw1]; exact below_alloc (Below.refl _ _) _)
  obtain ⟨g, hg⟩ : ∃ g, w.heap.size = g := ⟨_, rfl⟩
  rw [hg] at BK ⊢
  clear hw1 hg
  have HBK := Aside0.mk BK
  have b0 := (blk_cell BK 0).trans rfl
  have b1 := (blk_cell BK 1).trans rfl
  clear BK
  by_cases hne : err = 0
  · subst hne
    go_upto_region 2 with (first | (go_at_call 11; refine (new_good (Kd.C_below H0.out HB1.out) hc0 (Kd.C_below H1.out HB1.out) HR.out HE.out).mono ?_; rintro e w2 ⟨hb_, p, rfl, hl_⟩; have HB12 := Aside0.mk hb_; have HL := Aside0.mk hl_; clear hb_ hl_ b0 b1))
    have HB2 := Aside0.mk (below_then HB1.out HB1.out.size HB12.out)
    have BK2 := blk_below HBK.out HB12.out
    have b0 := (blk_cell BK2 0).trans rfl
    have b1 := (blk_cell BK2 1).trans rfl
    have HLV := Aside0.mk (show Live w w2 p ⟨steps, apprs, [], []⟩ from ⟨by
      obtain ⟨⟨F, hF, hk⟩, _⟩ := HL.out
      exact ⟨F, hF, fun k hk' => Nat.le_trans HB1.out.size (hk k hk')⟩, HB2.out⟩)
    have HBKK := Aside0.mk BK2
    have HGS := Aside0.mk (show g < w1.heap.size from blk_lt HBK.out)
    have HWW := Aside0.mk (show w.heap.size ≤ w1.heap.size from HB1.out.size)
    clear BK2 HB12 HBK HB1
    cases b
    · go_wp2_with (first | (go_at_call 9; refine (accountinglaw15_light.calls kl A0 c0 steps A1 c1 apprs A2 c2 ops false _ (Kd.C_below H0.out HB2.out) hc0 (Kd.C_below H1.out HB2.out) hc1 (Kd.C_below H2.out HB2.out) hc2 HLT.out).mono ?_; rintro e w3 ⟨rfl, hb_⟩; have HB3 := Aside0.mk (below_then HB2.out HB2.out.size hb_); clear hb_ b0 b1) | (go_at_call 10; refine (lives_calls _).mono ?_; rintro e w4 ⟨rfl, hb_⟩; have HB4 := Aside0.mk hb_; clear hb_))
      go_ret
      exact ⟨rfl, below_then HB3.out HB3.out.size HB4.out⟩
    · go_upto_region 4 with (first | (go_at_call 9; refine (accountinglaw15_light.calls kl A0 c0 steps A1 c1 apprs A2 c2 ops true _ (Kd.C_below H0.out HB2.out) hc0 (Kd.C_below H1.out HB2.out) hc1 (Kd.C_below H2.out HB2.out) hc2 HLT.out).mono ?_; rintro e w3 ⟨rfl, hb_⟩; have HL3 := Aside0.mk (HLV.out.below hb_); have HL13 := Aside0.mk (HL.out.below hb_); have HG3 := Aside0.mk (blk_below HBKK.out hb_); clear hb_ b0 b1))
      clear HLV HB2 HL HBKK
      have hops : ops.length ≤ 40 := (HSM.out (by trivial)).2.2
      have HDU := Aside0.mk (show Duties ⟨steps, apprs, [], []⟩ from duties_new (fun v hv => by
        have hrt : rt = true := by
          cases rt
          · have := HE.out
            unfold newErr at this
            split at this
            · cases this
            · rw [if_pos rfl] at this; cases this
          · rfl
        subst hrt
        exact right_need hl HR.out v hv))
      have happ : apprs.length ≤ 250 := (HSM.out (by trivial)).2.1
      clear HSM HE HR HLT H0
      have hC := lit_C w3 [0] (by decide)
      go_upto_region 5 with (fail)
      refine with_world (P := fun x => Code.wp _ _ _ _ x) _ ?_
      intro w4 hw4
      have HG4 := Aside0.mk (show w4.heap[g]? = some (.cells #[.slice A0 steps.length c0, .slice A1 apprs.length c1] 25 (0, 0)) from by rw [hw4]; exact blk_alloc HG3.out _)
      have HF4 := Aside0.mk (show ∃ F, Flw w4 F p ⟨steps, apprs, [], []⟩ ∧ (∀ k, F k → (w.heap.size ≤ k ∧ k ≠ g) ∧ k < w3.heap.size) from by
        obtain ⟨⟨F, hF, hk⟩, hlow⟩ := HL13.out
        exact ⟨F, by rw [hw4]; exact hF.alloc _, fun k hk' => ⟨⟨Nat.le_trans HWW.out (hk k hk'), by have := hk k hk'; have := HGS.out; omega⟩, hF.lt k hk'⟩⟩)
      have HLW4 := Aside0.mk (show Below w.heap.size w w4 from by rw [hw4]; exact below_alloc HL3.out.low _)
      have HV4 := Aside0.mk (show (Kd.int .i64).R 3 w4 w.heap.size (fun x => x = w3.heap.size) (.slice (some ⟨w3.heap.size, 0, none⟩) 1 1) (vols ⟨steps, apprs, [], []⟩) from by
        rw [hw4]
        exact Kd.R_of_own (own_lit w3 w.heap.size 3 .i64 [0] HL3.out.low.size (by decide)) (fun k hk => by cases hk; rfl))
      obtain ⟨F0, hF0, hk0⟩ := HF4.out
      have HFF := Aside0.mk hF0
      have HKK := Aside0.mk (fun k hk => (hk0 k hk).1.1)
      have HKG := Aside0.mk (fun k hk => (hk0 k hk).1.2)
      have HVV := Aside0.mk (Kd.R_mono HV4.out (ok' := fun x => ¬ F0 x) (fun x hx hf => by have := (hk0 x hf).2; omega))
      clear hC hw4 HL3 HL13 HG3 HF4 HV4 hF0 hk0
      go_wp2
      go_loopw [7, 8, 9, 10, 39, 40, 41, 42, 43, 44, 45, 46, 47, 48, 49, 50, 51, 52, 53, 54, 55, 56, 57, 58, 59, 60, 61, 62, 63, 64, 65, 66, 67, 68, 69, 70, 71] (fun v7 v8 _ _ _ _ _ _ _ _ _ _ _ _ _ _ _ _ _ _ _ _ _ _ _ _ _ _ _ _ _ _ _ _ _ _ _ wr => ∃ (i : Nat) (S : FlowS) (F : Nat → Prop), i ≤ ops.length ∧ v8 = .int .i64 i ∧ Aside0 (Flw wr F p S) ∧ Aside0 (∀ k, F k → w.heap.size ≤ k) ∧ Aside0 (∀ k, F k → k ≠ g) ∧ Aside0 (wr.heap[g]? = some (.cells #[.slice A0 steps.length c0, .slice A1 apprs.length c1] 25 (0, 0))) ∧ Aside0 (Below w.heap.size w wr) ∧ Aside0 ((Kd.int .i64).R 3 wr w.heap.size (fun x => ¬ F x) v7 (vols S)) ∧ Aside0 (Bnd S i) ∧ Aside0 (Duties S) ∧ Aside0 (S.steps = steps ∧ S.appr = apprs) ∧ Aside0 ((vols S).length ≤ i + 1)) (fun _ v8 _ _ _ _ _ _ _ _ _ _ _ _ _ _ _ _ _ _ _ _ _ _ _ _ _ _ _ _ _ _ _ _ _ _ _ _ => ops.length - (intOf v8).toNat)
      case atStart => exact ⟨0, _, F0, Nat.zero_le _, rfl, HFF, HKK, HKG, HG4, HLW4, HVV, ⟨⟨Nat.le_refl _, fun D hD => by cases hD⟩⟩, HDU, ⟨⟨rfl, rfl⟩⟩, ⟨Nat.le_refl _⟩⟩
      case round =>
        clear HFF HKK HKG HG4 HLW4 HVV HDU
        obtain ⟨i, S, F, hi, rfl, HF, HK, HKG, HGB, HLW, HV, HBN, HDU, HSA, HLN⟩ := hrel
        obtain ⟨Av, cv, hv⟩ := Kd.R_slice HV.out
        subst hv
        rename World => wo
        by_cases hlt : i < ops.length
        · have d1 : decide ((i : Int) < (ops.length : Int)) = true := decide_eq_true (by omega)
          have d2 : decide (i < ops.length) = true := decide_eq_true hlt
          have p0 : (0 : Int) ≤ (i : Int) := by omega
          have p1 : (i : Int) < (ops.length : Int) := by omega
          have hu46 := Try.underlying46
          obtain ⟨ad, e, q0, q1, q2, q3⟩ := at_T46 (Kd.C_below H2.out HLW.out) (i : Int) (by omega) (by omega)
          subst e
          rw [Int.toNat_natCast] at q0 q1 q2 q3
          obtain ⟨o, ho⟩ : ∃ o, rd_T46 ops (i : Int) = o := ⟨_, rfl⟩
          have hom : o ∈ ops := by rw [← ho]; simp [rd_T46, hlt]
          rw [ho] at q0 q1 q2 q3
          have HOO := Aside0.mk ho
          have hwo := HWF.out o hom
          have HWO := Aside0.mk hwo
          clear ho hom hwo
          obtain ⟨pi, pe, S2, hq⟩ : ∃ pi pe S2, playOf S o = (pi, pe, S2) := ⟨_, _, _, rfl⟩
          have HQ := Aside0.mk hq
          have HSTP := Aside0.mk (play_step hq HBN.out)
          have HVO := Aside0.mk (play_vols hq)
          have HD2 := Aside0.mk (play_duties HDU.out hq)
          have HS2 := Aside0.mk (show S2.steps = steps ∧ S2.appr = apprs from ⟨(play_same hq).1.trans HSA.out.1, (play_same hq).2.trans HSA.out.2⟩)
          clear hq
          have hn : S.acts.length ≤ 1000000 := by have := HBN.out.acts; omega
          go_upto_region 9 with (first | (go_at_call 17; refine (play_after HF.out o HWO.out hn (Nat.le_trans (HBN.out.doc _) (by omega)) HQ.out).mono ?_; rintro e_ w7 ⟨rfl, hA_⟩; have HA := Aside0.mk hA_; clear hA_ q0 q1 q2 q3))
          have HLV7 := Aside0.mk (Live.after HLW.out HK.out HA.out)
          obtain ⟨G, hG, hs⟩ := HA.out
          have HG := Aside0.mk hG
          have HGK := Aside0.mk (show ∀ k, G k → w.heap.size ≤ k from fun k hk => (hs.grow k hk).elim (HK.out k) (fun h => Nat.le_trans HLW.out.size h))
          have HGN := Aside0.mk (show ∀ k, G k → k ≠ g from fun k hk => (hs.grow k hk).elim (HKG.out k) (fun h => by have := blk_lt HGB.out; omega))
          have HGB7 := Aside0.mk (hs.but.obj HGB.out (fun h => HKG.out _ h rfl))
          have HLW7 := Aside0.mk (show Below w.heap.size w w7 from HLV7.out.low)
          have HV7 := Aside0.mk (show (Kd.int .i64).R 3 w7 w.heap.size (fun x => ¬ G x) (.slice Av (vols S).length cv) (vols S) from
            Kd.R_mono (Kd.R_step (Kd.R_bound HV.out) (fun x hx hlt6 => hs.but.block x hlt6 hx.1)) (fun x hx hg => (hs.grow x hg).elim hx.1 (fun h => by have := hx.2.2.1; omega)))
          clear hG hs HA HLV7 HV HF
          obtain ⟨ad2, e, q0, q1, q2, q3⟩ := at_T46 (Kd.C_below H2.out HLW7.out) (i : Int) (by omega) (by omega)
          obtain rfl : ad = ad2 := Option.some.inj e
          rw [Int.toNat_natCast, HOO.out] at q0 q3
          clear e q1 q2
          by_cases hpe : pe = 0
          · have de : (pe == (0 : Int)) = true := beq_iff_eq.mpr hpe
            by_cases hk1 : o.f0 = 1
            · have dk : (o.f0 == (1 : Int)) = true := by rw [hk1]; rfl
              have HVN := Aside0.mk (show vols S2 = vols S ++ [o.f3] by rw [HVO.out, if_pos ⟨hk1, hpe⟩])
              clear hpe hk1
              go_wp2_with (first | ((with_reducible refine gate_builtin (b := .append) (xs := #[.tmp 64, .tmp 70]) rfl ?_); at_builtin; refine Kd.R_append (Kd.int .i64) (w0 := w) w.heap.size rfl (.tmp 64) (.tmp 70) 39 3 (.int .i64 0) 8 rfl Try.underlying39 info3 rfl (by decide) (by omega) (.slice Av (vols S).length cv) (vols S) o.f3 [.int .i64 o.f3] (fun x => ¬ G x) (fun _ => False) rfl rfl ?aP (fun _ hk => hk.elim) ?aF ?aO ?aB ?aS ?aL ?_; (case aP => exact rfl); (case aF => exact fun x hx hg => by have := HG.out.lt x hg; omega); (case aO => exact HV7.out); (case aB => exact HLW7.out); (case aS => exact HLW7.out.size); (case aL => have := HLN.out; omega); intro v1 w8 hro hbl hg hat; have HO := Aside0.mk hro; have HB8 := Aside0.mk hbl; have HGR := Aside0.mk hg; clear hro hbl hg hat q0 q3))
              go_roundw
              case rel =>
                refine ⟨i + 1, S2, G, by omega, by go_num, ⟨HG.out.keep (fun k hk => HGR.out.block k (HG.out.lt k hk) (fun e => HV7.out.1 k e.symm hk))⟩, HGK, HGN, ⟨blk_grown HGB7.out HGR.out (fun e => typed_ne (Kd.R_typed HV7.out g e.symm) ⟨_, HGB7.out⟩ (by decide) rfl)⟩, HB8, ⟨by rw [HVN.out]; exact HO.out⟩, ⟨HSTP.out.1⟩, HD2, HS2, ⟨?_⟩⟩
                rw [HVN.out, List.length_append, List.length_singleton]
                have := HLN.out
                omega
              case measure => simp [intOf]; omega
            · have dk : (o.f0 == (1 : Int)) = false := beq_eq_false_iff_ne.mpr hk1
              have HVN := Aside0.mk (show vols S2 = vols S by rw [HVO.out, if_neg (fun h => hk1 h.1)])
              clear hpe hk1
              go_wp2
              go_roundw
              case rel => exact ⟨i + 1, S2, G, by omega, by go_num, HG, HGK, HGN, HGB7, HLW7, ⟨by rw [HVN.out]; exact HV7.out⟩, ⟨HSTP.out.1⟩, HD2, HS2, ⟨by rw [HVN.out]; have := HLN.out; omega⟩⟩
              case measure => simp [intOf]; omega
          · have de : (pe == (0 : Int)) = false := beq_eq_false_iff_ne.mpr hpe
            have HVN := Aside0.mk (show vols S2 = vols S by rw [HVO.out, if_neg (fun h => hpe h.2)])
            clear hpe
            go_wp2
            go_roundw
            case rel => exact ⟨i + 1, S2, G, by omega, by go_num, HG, HGK, HGN, HGB7, HLW7, ⟨by rw [HVN.out]; exact HV7.out⟩, ⟨HSTP.out.1⟩, HD2, HS2, ⟨by rw [HVN.out]; have := HLN.out; omega⟩⟩
            case measure => simp [intOf]; omega
        · obtain rfl : i = ops.length := by omega
          have d1 : decide ((ops.length : Int) < (ops.length : Int)) = false := decide_eq_false (by omega)
          have HAPN := Aside0.mk (show ∀ D ∈ S.docs, D.ap.length ≤ 40 from fun D hD => Nat.le_trans (HBN.out.docs D hD) hops)
          clear HK HBN
          have hv0 : 1 ≤ (vols S).length := by unfold vols; simp
          go_wp2
          go_loopw [11, 12, 13, 14, 15, 16, 72, 73, 74, 75, 76, 77, 78, 79, 80, 81, 82, 83, 84, 85, 86, 87, 88, 89, 90, 91, 92, 93, 94, 95, 96, 97, 98, 99, 100, 101, 102, 103, 104, 105, 106, 107, 108, 109, 110, 111, 112, 113, 114, 115, 116, 117, 118, 119, 120, 121, 122, 123, 124, 125, 126, 127, 128, 129, 130, 131, 132, 133, 134, 135, 136, 137, 138, 139, 140, 141, 142, 143, 144, 145, 146, 147] (fun v11 _ _ _ _ _ _ _ _ _ _ _ _ _ _ _ _ _ _ _ _ _ _ _ _ _ _ _ _ _ _ _ _ _ _ _ _ _ _ _ _ _ _ _ _ _ _ _ _ _ _ _ _ _ _ _ _ _ _ _ _ _ _ _ _ _ _ _ _ _ _ _ _ _ _ _ _ _ _ _ _ _ wr => ∃ k : Nat, 1 ≤ k ∧ k ≤ (vols S).length ∧ v11 = .int .i64 k ∧ Aside0 (Below wo.heap.size wo wr)) (fun v11 _ _ _ _ _ _ _ _ _ _ _ _ _ _ _ _ _ _ _ _ _ _ _ _ _ _ _ _ _ _ _ _ _ _ _ _ _ _ _ _ _ _ _ _ _ _ _ _ _ _ _ _ _ _ _ _ _ _ _ _ _ _ _ _ _ _ _ _ _ _ _ _ _ _ _ _ _ _ _ _ _ _ => (vols S).length - (intOf v11).toNat)
          case atStart => exact ⟨1, Nat.le_refl _, hv0, rfl, ⟨Below.refl _ _⟩⟩
          case round =>
            obtain ⟨k, hk1, hk, rfl, HB⟩ := hrel
            rename World => w1
            by_cases hkl : k < (vols S).length
            · have hkb : k ≤ 41 := by have := HLN.out; omega
              have d2 : decide ((k : Int) < ((vols S).length : Int)) = true := decide_eq_true (by omega)
              have d3 : decide (k < (vols S).length) = true := decide_eq_true hkl
              have p0 : (0 : Int) ≤ (k : Int) := by omega
              have p1 : (k : Int) < ((vols S).length : Int) := by omega
              have hkd : k - 1 < S.docs.length := by unfold vols at hkl; simp at hkl; omega
              have hdoc : docAt S (k : Int) = some (S.docs[k - 1]) := by
                unfold docAt
                rw [if_neg (by omega), if_neg (by omega), show ((k : Int) - 1).toNat = k - 1 by omega]
                exact List.getElem?_eq_getElem hkd
              have hvo : Go.Proofs.YtbbhichndfbooaaW.PrintWords.rd (vols S) (k : Int) = (S.docs[k - 1]).vo := by
                obtain ⟨j, rfl⟩ : ∃ j, k = j + 1 := ⟨k - 1, by omega⟩
                simp [Go.Proofs.YtbbhichndfbooaaW.PrintWords.rd, vols, show j < S.docs.length by omega]
              have hdu := HDU.out.docs _ (List.getElem_mem hkd)
              have hapk := HAPN.out _ (List.getElem_mem hkd)
              obtain ⟨D, hD⟩ : ∃ D, S.docs[k - 1] = D := ⟨_, rfl⟩
              rw [hD] at hdoc hvo hdu hapk
              have HAPK := Aside0.mk (show apOf S (k : Int) = D.ap by unfold apOf; rw [hdoc])
              have HSTK := Aside0.mk (show stOf S (k : Int) = D.st by unfold stOf; rw [hdoc])
              have HAUK := Aside0.mk (show auOf S (k : Int) = D.au by unfold auOf; rw [hdoc])
              have HVOK := Aside0.mk hvo
              have HDUT := Aside0.mk hdu
              clear hdoc hvo hdu hD
              have HB1 := HB
              have hapn : D.ap.length ≤ 1000000 := by omega
              obtain ⟨⟨nn, ok⟩, hne⟩ : ∃ q, needOf S.steps D.vo = q := ⟨_, rfl⟩
              have HN := Aside0.mk hne
              obtain ⟨kc, hkc⟩ := contains_some D.ap D.au hapn
              rw [HDUT.out.other] at hkc
              have HKC := Aside0.mk hkc
              clear hne hkc
              obtain ⟨ab, e, qb⟩ := Kd.at_int (Kd.C_below (Kd.R_reads' HV.out).2.2 HB.out) (k : Int) (by omega) (by omega)
              rw [Int.toNat_natCast, HVOK.out] at qb
              have qw : wo.cell? (ab.add k) = some (.int .i64 D.vo) := by
                obtain ⟨ab2, e2, q2⟩ := Kd.at_int (Kd.R_reads' HV.out).2.2 (k : Int) (by omega) (by omega)
                obtain rfl : ab = ab2 := Option.some.inj (e.symm.trans e2)
                rw [Int.toNat_natCast, HVOK.out] at q2
                exact q2
              have HQW := Aside0.mk qw
              clear qw qb
              subst e
              have hdl := HDUT.out.lo
              have hdh := HDUT.out.hi
              have e1 : decide (D.st < 1) = false := decide_eq_false (by omega)
              have e2 : decide (6 < D.st) = false := decide_eq_false (by omega)
              clear hdl hdh
              go_upto_region 15 with (first | (go_at_call 23; refine (approvals_calls p S F (k : Int) (wf_small (by have := HLN.out; omega)) _ (HF.out.below HB.out) (by rw [HAPK.out]; exact hapn)).mono ?_; rw [HAPK.out]; rintro e_ w2 ⟨v, rfl, hr_, hb_⟩; obtain ⟨A9, c9, rfl⟩ := Kd.R_slice hr_; have HBX := Aside0.mk hb_; have HR9 := Aside0.mk (Kd.R_reads' hr_); clear hr_ hb_))
              have HB2 := Aside0.mk (below_then HB.out HB.out.size HBX.out)
              have qb := (HB2.out.cell (World.block_lt_of_cell? wo _ HQW.out)).trans HQW.out
              clear HBX
              go_upto_region 16 with (first | (go_at_call 13; refine (need_is HN.out (HF.out.below HB2.out)).mono ?_; rintro e_ w3b ⟨rfl, hb_⟩; have HBX := Aside0.mk hb_; clear hb_ qb))
              have HB3 := Aside0.mk (below_then HB2.out HB2.out.size HBX.out)
              have HC9 := Aside0.mk (Kd.C_below HR9.out.2.2 HBX.out)
              have HL9 := Aside0.mk HR9.out.2.1
              clear HBX HR9 HB2
              go_upto_region 17 with (first | (go_at_call 15; refine (state_calls p S F (k : Int) (wf_small (by have := HLN.out; omega)) _ (HF.out.below HB3.out)).mono ?_; rw [HSTK.out]; rintro e_ w_ ⟨rfl, he_⟩; obtain rfl := he_.symm))
              by_cases h3 : D.st = 3
              · have b3 : (D.st == (3 : Int)) = true := beq_iff_eq.mpr h3
                obtain ⟨g1, g2⟩ := HDUT.out.done (.inl h3)
                rw [HN.out] at g1 g2
                have g1 : ok = true := g1
                have g2 : (D.ap.length : Int) = nn := g2
                subst g1
                have dl : ((D.ap.length : Int) != nn) = false := bne_eq_false_iff_eq.mpr g2
                clear g2 h3
                go_upto_region 19 with (first | (go_at_call 25; refine (author_calls p S F (k : Int) (wf_small (by have := HLN.out; omega)) _ (HF.out.below HB3.out)).mono ?_; rw [HAUK.out]; rintro e_ w_ ⟨rfl, he_⟩; obtain rfl := he_.symm) | (go_at_call 24; refine (accountinglaw15_contains.calls kc A9 c9 D.ap D.au false _ HC9.out HL9.out HKC.out).mono ?_; rintro e_ w5 ⟨rfl, hdr_⟩; have HDR := Aside0.mk hdr_; clear hdr_))
                have HB5 := Aside0.mk (below_then HB3.out HB3.out.size HDR.out.below)
                have HC5 := Aside0.mk (Kd.C_below HC9.out HDR.out.below)
                clear HB3 HC9 HDR
                go_wp2
                go_loopw [16, 124, 125, 126, 127, 128, 129, 130, 131, 132, 133, 134, 135, 136, 137, 138, 139, 140, 141, 142, 143, 144, 145, 146, 147] (fun v16 _ _ _ _ _ _ _ _ _ _ _ _ _ _ _ _ _ _ _ _ _ _ _ _ wr => ∃ z : Nat, z ≤ D.ap.length ∧ v16 = .int .i64 z ∧ Aside0 (Below w5.heap.size w5 wr)) (fun v16 _ _ _ _ _ _ _ _ _ _ _ _ _ _ _ _ _ _ _ _ _ _ _ _ _ => D.ap.length - (intOf v16).toNat)
                case atStart => exact ⟨0, Nat.zero_le _, rfl, ⟨by repeat (first | exact Below.refl _ _ | apply pw_below_drewN | apply below_drew)⟩⟩
                case round =>
                  obtain ⟨z, hz, rfl, HBZ⟩ := hrel
                  rename World => w6
                  by_cases hzl : z < D.ap.length
                  · have hzb : D.ap.length ≤ 40 := hapk
                    have d4 : decide ((z : Int) < (D.ap.length : Int)) = true := decide_eq_true (by omega)
                    have d5 : decide (z < D.ap.length) = true := decide_eq_true hzl
                    have p2 : (0 : Int) ≤ (z : Int) := by omega
                    have p3 : (z : Int) < (D.ap.length : Int) := by omega
                    have hzle : decide (z ≤ D.ap.length) = true := decide_eq_true (by omega)
                    have HC6 := Aside0.mk (Kd.C_below HC5.out HBZ.out)
                    obtain ⟨az, e, qz⟩ := Kd.at_string HC6.out (z : Int) (by omega) (by omega)
                    rw [Int.toNat_natCast, show rdOf ByteArray.empty D.ap (z : Int) = D.ap[z] by simp [rdOf, hzl]] at qz
                    obtain ⟨s, hs⟩ : ∃ s, D.ap[z] = s := ⟨_, rfl⟩
                    have hon := once_take HDUT.out.once hzl
                    have hwh := HDUT.out.who _ (List.getElem_mem hzl)
                    rw [hs] at qz hon hwh
                    clear hs
                    obtain ⟨k1, hk1'⟩ := contains_some (D.ap.take z) s (by rw [List.length_take]; omega)
                    obtain ⟨k2, hk2'⟩ := contains_some S.appr s (by rw [HSA.out.2]; omega)
                    rw [hon] at hk1'
                    rw [hwh, HSA.out.2] at hk2'
                    have HK1 := Aside0.mk hk1'
                    have HK2 := Aside0.mk hk2'
                    have HBA := Aside0.mk (below_then (below_then HLW.out HLW.out.size HB5.out) (Nat.le_trans HLW.out.size HB5.out.size) HBZ.out)
                    have HCT := Aside0.mk (Kd.C_take HC6.out (show z ≤ D.ap.length by omega))
                    clear hk1' hk2' hon hwh
                    subst e
                    have hbg := blk_below (blk_below HGB.out HB5.out) HBZ.out
                    have b1 := (blk_cell hbg 1).trans rfl
                    have HLT9 := Aside0.mk (show (D.ap.take z).length ≤ c9 from by rw [List.length_take]; have := HL9.out; omega)
                    clear hbg
                    have hlz : (D.ap.take z).length = z := by rw [List.length_take]; omega
                    have HLZ := Aside0.mk hlz
                    have hzc : (z : Int) ≤ (c9 : Int) := by have := HL9.out; omega
                    have hzc' : decide (z ≤ c9) = true := decide_eq_true (by omega)
                    have hzc2 : decide ((z : Int) ≤ (c9 : Int)) = true := decide_eq_true hzc
                    clear hlz
                    go_wp2
                    have HCA := Aside0.mk (show ∀ n, Calls Try.prog 24 #[.slice (some az) z c9, .string s] (w6.drewN n) fun e w' => e = .returned (.bool false) ∧ Drawn0 (w6.drewN n) w' from fun n => by
                      have h_ := accountinglaw15_contains.calls k1 (some az) c9 (D.ap.take z) s false (w6.drewN n) (Kd.C_drewN HCT.out n) HLT9.out HK1.out
                      rw [HLZ.out] at h_
                      exact h_)
                    have HCB := Aside0.mk (show ∀ n, Calls Try.prog 24 #[.slice A1 apprs.length c1, .string s] (w6.drewN n) fun e w' => e = .returned (.bool true) ∧ Drawn0 (w6.drewN n) w' from fun n => accountinglaw15_contains.calls k2 A1 c1 apprs s true (w6.drewN n) (Kd.C_below H1.out (pw_below_drewN HBA.out n)) hc1 HK2.out)
                    go_quiet ((go_at_call 24; first | ((with_reducible refine (HCA.out _).mono ?_); rintro e_ w_ ⟨rfl, ⟨nq_, rfl⟩⟩; first | exact ⟨rfl, _, World.drewN_drewN _ _ _⟩ | exact ⟨rfl, _, Eq.trans (World.drewN_drewN _ _ _) (congrArg (World.drewN _) (Nat.add_assoc _ _ _))⟩) | ((with_reducible refine (HCB.out _).mono ?_); rintro e_ w_ ⟨rfl, ⟨nq_, rfl⟩⟩; first | exact ⟨rfl, _, World.drewN_drewN _ _ _⟩ | exact ⟨rfl, _, Eq.trans (World.drewN_drewN _ _ _) (congrArg (World.drewN _) (Nat.add_assoc _ _ _))⟩)))
                    go_wp2
                    go_roundw
                    case rel => exact ⟨z + 1, by omega, by go_num, ⟨pw_below_drewN HBZ.out _⟩⟩
                    case measure => simp [intOf]; omega
                  · obtain rfl : z = D.ap.length := by omega
                    have d9 : decide ((D.ap.length : Int) < (D.ap.length : Int)) = false := decide_eq_false (by omega)
                    go_wp2
                    go_roundw
                    case rel => exact ⟨k + 1, by omega, by omega, by go_num, ⟨below_then HB5.out HB5.out.size HBZ.out⟩⟩
                    case measure => simp [intOf]; omega
              have b3 : (D.st == (3 : Int)) = false := beq_eq_false_iff_ne.mpr h3
              by_cases h5 : D.st = 5
              · have b5 : (D.st == (5 : Int)) = true := beq_iff_eq.mpr h5
                obtain ⟨g1, g2⟩ := HDUT.out.done (.inr h5)
                rw [HN.out] at g1 g2
                have g1 : ok = true := g1
                have g2 : (D.ap.length : Int) = nn := g2
                subst g1
                have dl : ((D.ap.length : Int) != nn) = false := bne_eq_false_iff_eq.mpr g2
                clear g2 h3 h5
                go_upto_region 19 with (first | (go_at_call 25; refine (author_calls p S F (k : Int) (wf_small (by have := HLN.out; omega)) _ (HF.out.below HB3.out)).mono ?_; rw [HAUK.out]; rintro e_ w_ ⟨rfl, he_⟩; obtain rfl := he_.symm) | (go_at_call 24; refine (accountinglaw15_contains.calls kc A9 c9 D.ap D.au false _ HC9.out HL9.out HKC.out).mono ?_; rintro e_ w5 ⟨rfl, hdr_⟩; have HDR := Aside0.mk hdr_; clear hdr_))
                have HB5 := Aside0.mk (below_then HB3.out HB3.out.size HDR.out.below)
                have HC5 := Aside0.mk (Kd.C_below HC9.out HDR.out.below)
                clear HB3 HC9 HDR
                go_wp2
                go_loopw [16, 124, 125, 126, 127, 128, 129, 130, 131, 132, 133, 134, 135, 136, 137, 138, 139, 140, 141, 142, 143, 144, 145, 146, 147] (fun v16 _ _ _ _ _ _ _ _ _ _ _ _ _ _ _ _ _ _ _ _ _ _ _ _ wr => ∃ z : Nat, z ≤ D.ap.length ∧ v16 = .int .i64 z ∧ Aside0 (Below w5.heap.size w5 wr)) (fun v16 _ _ _ _ _ _ _ _ _ _ _ _ _ _ _ _ _ _ _ _ _ _ _ _ _ => D.ap.length - (intOf v16).toNat)
                case atStart => exact ⟨0, Nat.zero_le _, rfl, ⟨by repeat (first | exact Below.refl _ _ | apply pw_below_drewN | apply below_drew)⟩⟩
                case round =>
                  obtain ⟨z, hz, rfl, HBZ⟩ := hrel
                  rename World => w6
                  by_cases hzl : z < D.ap.length
                  · have hzb : D.ap.length ≤ 40 := hapk
                    have d4 : decide ((z : Int) < (D.ap.length : Int)) = true := decide_eq_true (by omega)
                    have d5 : decide (z < D.ap.length) = true := decide_eq_true hzl
                    have p2 : (0 : Int) ≤ (z : Int) := by omega
                    have p3 : (z : Int) < (D.ap.length : Int) := by omega
                    have hzle : decide (z ≤ D.ap.length) = true := decide_eq_true (by omega)
                    have HC6 := Aside0.mk (Kd.C_below HC5.out HBZ.out)
                    obtain ⟨az, e, qz⟩ := Kd.at_string HC6.out (z : Int) (by omega) (by omega)
                    rw [Int.toNat_natCast, show rdOf ByteArray.empty D.ap (z : Int) = D.ap[z] by simp [rdOf, hzl]] at qz
                    obtain ⟨s, hs⟩ : ∃ s, D.ap[z] = s := ⟨_, rfl⟩
                    have hon := once_take HDUT.out.once hzl
                    have hwh := HDUT.out.who _ (List.getElem_mem hzl)
                    rw [hs] at qz hon hwh
                    clear hs
                    obtain ⟨k1, hk1'⟩ := contains_some (D.ap.take z) s (by rw [List.length_take]; omega)
                    obtain ⟨k2, hk2'⟩ := contains_some S.appr s (by rw [HSA.out.2]; omega)
                    rw [hon] at hk1'
                    rw [hwh, HSA.out.2] at hk2'
                    have HK1 := Aside0.mk hk1'
                    have HK2 := Aside0.mk hk2'
                    have HBA := Aside0.mk (below_then (below_then HLW.out HLW.out.size HB5.out) (Nat.le_trans HLW.out.size HB5.out.size) HBZ.out)
                    have HCT := Aside0.mk (Kd.C_take HC6.out (show z ≤ D.ap.length by omega))
                    clear hk1' hk2' hon hwh
                    subst e
                    have hbg := blk_below (blk_below HGB.out HB5.out) HBZ.out
                    have b1 := (blk_cell hbg 1).trans rfl
                    have HLT9 := Aside0.mk (show (D.ap.take z).length ≤ c9 from by rw [List.length_take]; have := HL9.out; omega)
                    clear hbg
                    have hlz : (D.ap.take z).length = z := by rw [List.length_take]; omega
                    have HLZ := Aside0.mk hlz
                    have hzc : (z : Int) ≤ (c9 : Int) := by have := HL9.out; omega
                    have hzc' : decide (z ≤ c9) = true := decide_eq_true (by omega)
                    have hzc2 : decide ((z : Int) ≤ (c9 : Int)) = true := decide_eq_true hzc
                    clear hlz
                    go_wp2
                    have HCA := Aside0.mk (show ∀ n, Calls Try.prog 24 #[.slice (some az) z c9, .string s] (w6.drewN n) fun e w' => e = .returned (.bool false) ∧ Drawn0 (w6.drewN n) w' from fun n => by
                      have h_ := accountinglaw15_contains.calls k1 (some az) c9 (D.ap.take z) s false (w6.drewN n) (Kd.C_drewN HCT.out n) HLT9.out HK1.out
                      rw [HLZ.out] at h_
                      exact h_)
                    have HCB := Aside0.mk (show ∀ n, Calls Try.prog 24 #[.slice A1 apprs.length c1, .string s] (w6.drewN n) fun e w' => e = .returned (.bool true) ∧ Drawn0 (w6.drewN n) w' from fun n => accountinglaw15_contains.calls k2 A1 c1 apprs s true (w6.drewN n) (Kd.C_below H1.out (pw_below_drewN HBA.out n)) hc1 HK2.out)
                    go_quiet ((go_at_call 24; first | ((with_reducible refine (HCA.out _).mono ?_); rintro e_ w_ ⟨rfl, ⟨nq_, rfl⟩⟩; first | exact ⟨rfl, _, World.drewN_drewN _ _ _⟩ | exact ⟨rfl, _, Eq.trans (World.drewN_drewN _ _ _) (congrArg (World.drewN _) (Nat.add_assoc _ _ _))⟩) | ((with_reducible refine (HCB.out _).mono ?_); rintro e_ w_ ⟨rfl, ⟨nq_, rfl⟩⟩; first | exact ⟨rfl, _, World.drewN_drewN _ _ _⟩ | exact ⟨rfl, _, Eq.trans (World.drewN_drewN _ _ _) (congrArg (World.drewN _) (Nat.add_assoc _ _ _))⟩)))
                    go_wp2
                    go_roundw
                    case rel => exact ⟨z + 1, by omega, by go_num, ⟨pw_below_drewN HBZ.out _⟩⟩
                    case measure => simp [intOf]; omega
                  · obtain rfl : z = D.ap.length := by omega
                    have d9 : decide ((D.ap.length : Int) < (D.ap.length : Int)) = false := decide_eq_false (by omega)
                    go_wp2
                    go_roundw
                    case rel => exact ⟨k + 1, by omega, by omega, by go_num, ⟨below_then HB5.out HB5.out.size HBZ.out⟩⟩
                    case measure => simp [intOf]; omega
              have b5 : (D.st == (5 : Int)) = false := beq_eq_false_iff_ne.mpr h5
              clear h3 h5
              go_upto_region 19 with (first | (go_at_call 25; refine (author_calls p S F (k : Int) (wf_small (by have := HLN.out; omega)) _ (HF.out.below HB3.out)).mono ?_; rw [HAUK.out]; rintro e_ w_ ⟨rfl, he_⟩; obtain rfl := he_.symm) | (go_at_call 24; refine (accountinglaw15_contains.calls kc A9 c9 D.ap D.au false _ HC9.out HL9.out HKC.out).mono ?_; rintro e_ w5 ⟨rfl, hdr_⟩; have HDR := Aside0.mk hdr_; clear hdr_))
              have HB5 := Aside0.mk (below_then HB3.out HB3.out.size HDR.out.below)
              have HC5 := Aside0.mk (Kd.C_below HC9.out HDR.out.below)
              clear HB3 HC9 HDR
              go_wp2
              go_loopw [16, 124, 125, 126, 127, 128, 129, 130, 131, 132, 133, 134, 135, 136, 137, 138, 139, 140, 141, 142, 143, 144, 145, 146, 147] (fun v16 _ _ _ _ _ _ _ _ _ _ _ _ _ _ _ _ _ _ _ _ _ _ _ _ wr => ∃ z : Nat, z ≤ D.ap.length ∧ v16 = .int .i64 z ∧ Aside0 (Below w5.heap.size w5 wr)) (fun v16 _ _ _ _ _ _ _ _ _ _ _ _ _ _ _ _ _ _ _ _ _ _ _ _ _ => D.ap.length - (intOf v16).toNat)
              case atStart => exact ⟨0, Nat.zero_le _, rfl, ⟨by repeat (first | exact Below.refl _ _ | apply pw_below_drewN | apply below_drew)⟩⟩
              case round =>
                obtain ⟨z, hz, rfl, HBZ⟩ := hrel
                rename World => w6
                by_cases hzl : z < D.ap.length
                · have hzb : D.ap.length ≤ 40 := hapk
                  have d4 : decide ((z : Int) < (D.ap.length : Int)) = true := decide_eq_true (by omega)
                  have d5 : decide (z < D.ap.length) = true := decide_eq_true hzl
                  have p2 : (0 : Int) ≤ (z : Int) := by omega
                  have p3 : (z : Int) < (D.ap.length : Int) := by omega
                  have hzle : decide (z ≤ D.ap.length) = true := decide_eq_true (by omega)
                  have HC6 := Aside0.mk (Kd.C_below HC5.out HBZ.out)
                  obtain ⟨az, e, qz⟩ := Kd.at_string HC6.out (z : Int) (by omega) (by omega)
                  rw [Int.toNat_natCast, show rdOf ByteArray.empty D.ap (z : Int) = D.ap[z] by simp [rdOf, hzl]] at qz
                  obtain ⟨s, hs⟩ : ∃ s, D.ap[z] = s := ⟨_, rfl⟩
                  have hon := once_take HDUT.out.once hzl
                  have hwh := HDUT.out.who _ (List.getElem_mem hzl)
                  rw [hs] at qz hon hwh
                  clear hs
                  obtain ⟨k1, hk1'⟩ := contains_some (D.ap.take z) s (by rw [List.length_take]; omega)
                  obtain ⟨k2, hk2'⟩ := contains_some S.appr s (by rw [HSA.out.2]; omega)
                  rw [hon] at hk1'
                  rw [hwh, HSA.out.2] at hk2'
                  have HK1 := Aside0.mk hk1'
                  have HK2 := Aside0.mk hk2'
                  have HBA := Aside0.mk (below_then (below_then HLW.out HLW.out.size HB5.out) (Nat.le_trans HLW.out.size HB5.out.size) HBZ.out)
                  have HCT := Aside0.mk (Kd.C_take HC6.out (show z ≤ D.ap.length by omega))
                  clear hk1' hk2' hon hwh
                  subst e
                  have hbg := blk_below (blk_below HGB.out HB5.out) HBZ.out
                  have b1 := (blk_cell hbg 1).trans rfl
                  have HLT9 := Aside0.mk (show (D.ap.take z).length ≤ c9 from by rw [List.length_take]; have := HL9.out; omega)
                  clear hbg
                  have hlz : (D.ap.take z).length = z := by rw [List.length_take]; omega
                  have HLZ := Aside0.mk hlz
                  have hzc : (z : Int) ≤ (c9 : Int) := by have := HL9.out; omega
                  have hzc' : decide (z ≤ c9) = true := decide_eq_true (by omega)
                  have hzc2 : decide ((z : Int) ≤ (c9 : Int)) = true := decide_eq_true hzc
                  clear hlz
                  go_wp2
                  have HCA := Aside0.mk (show ∀ n, Calls Try.prog 24 #[.slice (some az) z c9, .string s] (w6.drewN n) fun e w' => e = .returned (.bool false) ∧ Drawn0 (w6.drewN n) w' from fun n => by
                    have h_ := accountinglaw15_contains.calls k1 (some az) c9 (D.ap.take z) s false (w6.drewN n) (Kd.C_drewN HCT.out n) HLT9.out HK1.out
                    rw [HLZ.out] at h_
                    exact h_)
                  have HCB := Aside0.mk (show ∀ n, Calls Try.prog 24 #[.slice A1 apprs.length c1, .string s] (w6.drewN n) fun e w' => e = .returned (.bool true) ∧ Drawn0 (w6.drewN n) w' from fun n => accountinglaw15_contains.calls k2 A1 c1 apprs s true (w6.drewN n) (Kd.C_below H1.out (pw_below_drewN HBA.out n)) hc1 HK2.out)
                  go_quiet ((go_at_call 24; first | ((with_reducible refine (HCA.out _).mono ?_); rintro e_ w_ ⟨rfl, ⟨nq_, rfl⟩⟩; first | exact ⟨rfl, _, World.drewN_drewN _ _ _⟩ | exact ⟨rfl, _, Eq.trans (World.drewN_drewN _ _ _) (congrArg (World.drewN _) (Nat.add_assoc _ _ _))⟩) | ((with_reducible refine (HCB.out _).mono ?_); rintro e_ w_ ⟨rfl, ⟨nq_, rfl⟩⟩; first | exact ⟨rfl, _, World.drewN_drewN _ _ _⟩ | exact ⟨rfl, _, Eq.trans (World.drewN_drewN _ _ _) (congrArg (World.drewN _) (Nat.add_assoc _ _ _))⟩)))
                  go_wp2
                  go_roundw
                  case rel => exact ⟨z + 1, by omega, by go_num, ⟨pw_below_drewN HBZ.out _⟩⟩
                  case measure => simp [intOf]; omega
                · obtain rfl : z = D.ap.length := by omega
                  have d9 : decide ((D.ap.length : Int) < (D.ap.length : Int)) = false := decide_eq_false (by omega)
                  go_wp2
                  go_roundw
                  case rel => exact ⟨k + 1, by omega, by omega, by go_num, ⟨below_then HB5.out HB5.out.size HBZ.out⟩⟩
                  case measure => simp [intOf]; omega
            · obtain rfl : k = (vols S).length := by omega
              have d2 : decide (((vols S).length : Int) < ((vols S).length : Int)) = false := decide_eq_false (by omega)
              go_wp2_with (first | (go_at_call 10; refine (lives_calls _).mono ?_; rintro e_ w9 ⟨rfl, hb_⟩; have HB9 := Aside0.mk hb_; clear hb_))
              go_ret
              exact ⟨rfl, below_then (below_then HLW.out HLW.out.size HB.out) (Nat.le_trans HLW.out.size HB.out.size) HB9.out⟩
  · have HNE := Aside0.mk hne
    have hn1 : (err != 0) = true := bne_iff_ne.mpr hne
    clear hne
    cases b
    · go_upto_region 2 with (first | (go_at_call 11; refine (new_bad (Kd.C_below H0.out HB1.out) hc0 (Kd.C_below H1.out HB1.out) HR.out HE.out HNE.out).mono ?_; rintro e w2 ⟨rfl, hb_⟩; have HB12 := Aside0.mk hb_; clear hb_ b0 b1))
      have HB2 := Aside0.mk (below_then HB1.out HB1.out.size HB12.out)
      have BK2 := blk_below HBK.out HB12.out
      have b0 := (blk_cell BK2 0).trans rfl
      have b1 := (blk_cell BK2 1).trans rfl
      clear BK2
      go_wp2_with (first | (go_at_call 9; refine (accountinglaw15_light.calls kl A0 c0 steps A1 c1 apprs A2 c2 ops false _ (Kd.C_below H0.out HB2.out) hc0 (Kd.C_below H1.out HB2.out) hc1 (Kd.C_below H2.out HB2.out) hc2 HLT.out).mono ?_; rintro e w3 ⟨rfl, hb_⟩; have HB3 := Aside0.mk (below_then HB2.out HB2.out.size hb_); clear hb_ b0 b1) | (go_at_call 10; refine (lives_calls _).mono ?_; rintro e w4 ⟨rfl, hb_⟩; have HB4 := Aside0.mk hb_; clear hb_))
      go_ret
      exact ⟨rfl, below_then HB3.out HB3.out.size HB4.out⟩
    · go_upto_region 2 with (first | (go_at_call 11; refine (new_bad (Kd.C_below H0.out HB1.out) hc0 (Kd.C_below H1.out HB1.out) HR.out HE.out HNE.out).mono ?_; rintro e w2 ⟨rfl, hb_⟩; have HB12 := Aside0.mk hb_; clear hb_ b0 b1))
      have HB2 := Aside0.mk (below_then HB1.out HB1.out.size HB12.out)
      have BK2 := blk_below HBK.out HB12.out
      have b0 := (blk_cell BK2 0).trans rfl
      have b1 := (blk_cell BK2 1).trans rfl
      clear BK2
      go_wp2_with (first | (go_at_call 9; refine (accountinglaw15_light.calls kl A0 c0 steps A1 c1 apprs A2 c2 ops true _ (Kd.C_below H0.out HB2.out) hc0 (Kd.C_below H1.out HB2.out) hc1 (Kd.C_below H2.out HB2.out) hc2 HLT.out).mono ?_; rintro e w3 ⟨rfl, hb_⟩; have HB3 := Aside0.mk (below_then HB2.out HB2.out.size hb_); clear hb_ b0 b1) | (go_at_call 10; refine (lives_calls _).mono ?_; rintro e w4 ⟨rfl, hb_⟩; have HB4 := Aside0.mk hb_; clear hb_))
      go_ret
      exact ⟨rfl, below_then HB3.out HB3.out.size HB4.out⟩
/-- The law's value: true where the lists are no longer than any Go slice and each number is an int. -/
def accountinglaw15_FlowDuties.f (l0_0 : List S60) (l0_1 : List ByteArray) (l1 : List S46) : Option Bool := if steps_ok l0_0 l1 then some true else none
theorem accountinglaw15_FlowDuties.calls (A0_0 : Option Addr) (c0_0 : Nat) (l0_0 : List S60) (A0_1 : Option Addr) (c0_1 : Nat) (l0_1 : List ByteArray) (A1 : Option Addr) (c1 : Nat) (l1 : List S46) (r : Bool) (w : World) (hr0_0 : Kd.C k60 w A0_0 l0_0.length l0_0) (hc0_0 : l0_0.length ≤ c0_0) (hr0_1 : Kd.C Kd.string w A0_1 l0_1.length l0_1) (hc0_1 : l0_1.length ≤ c0_1) (hr1 : Kd.C k46 w A1 l1.length l1) (hc1 : l1.length ≤ c1) (h : accountinglaw15_FlowDuties.f l0_0 l0_1 l1 = some r) :
    Calls Try.prog 6 #[.agg #[.slice A0_0 l0_0.length c0_0, .slice A0_1 l0_1.length c0_1], .slice A1 l1.length c1] w fun e w' => e = .returned (.bool r) ∧ Below w.heap.size w w' := by
  unfold accountinglaw15_FlowDuties.f at h
  split at h
  · rename_i hok
    obtain rfl := Option.some.inj h
    exact flowDuties_calls A0_0 c0_0 l0_0 A0_1 c0_1 l0_1 A1 c1 l1 w hr0_0 hc0_0 hr0_1 hc0_1 hr1 hc1 hok.1 hok.2
  · cases h
end Go.Proofs.Ytbbhichndfbooaa.P
