/- The contract of the law FlowApart. -/
import Derived.Test.YtbbhichndfbooaaSpecL
namespace Go.Proofs.Ytbbhichndfbooaa.P
open Go.RowKit Go.Proofs.YtbbhichndfbooaaW.PrintWords Go.Proofs.YtbbhichndfbooaaW.PrintLast Go.Proofs.YtbbhichndfbooaaW.PrintMore Go.Maps Go.ChangeShapes Go.WideShapes Go.WideMaps
set_option linter.unusedVariables false
set_option linter.unusedSimpArgs false
section
variable {A0 A1 : Option Addr} {c0 c1 : Nat} {steps : List S60} {apprs : List ByteArray} {w : World}
theorem new_bad (h0 : Kd.C k60 w A0 steps.length steps) (hc0 : steps.length ≤ c0) (h1 : Kd.string.C w A1 apprs.length apprs) {kr : Nat} {rt : Bool} (hr : flow_right.f kr steps = some rt) {err : Int} (he : newErr rt steps apprs = err) (hne : err ≠ 0) :
    Calls Try.prog 11 #[.slice A0 steps.length c0, .slice A1 apprs.length c1] w fun e w' => e = .returned (.tuple #[.pointer none, .int .i64 err]) ∧ Below w.heap.size w w' := by
  refine (new_calls A0 c0 steps A1 c1 apprs w h0 hc0 h1 kr rt hr).mono ?_
  rw [he]
  rintro e w' ⟨hb, ⟨_, rfl⟩ | ⟨h, _⟩⟩
  · exact ⟨rfl, hb⟩
  · exact absurd h hne
theorem new_good (h0 : Kd.C k60 w A0 steps.length steps) (hc0 : steps.length ≤ c0) (h1 : Kd.string.C w A1 apprs.length apprs) {kr : Nat} {rt : Bool} (hr : flow_right.f kr steps = some rt) (he : newErr rt steps apprs = 0) :
    Calls Try.prog 11 #[.slice A0 steps.length c0, .slice A1 apprs.length c1] w fun e w' => Below w.heap.size w w' ∧ ∃ p, e = .returned (.tuple #[.pointer (some ⟨p, 0, none⟩), .int .i64 0]) ∧ Live w w' p ⟨steps, apprs, [], []⟩ := by
  refine (new_calls A0 c0 steps A1 c1 apprs w h0 hc0 h1 kr rt hr).mono ?_
  rw [he]
  rintro e w' ⟨hb, ⟨h, _⟩ | ⟨_, p, F, rfl, hF, hk⟩⟩
  · exact absurd rfl h
  · exact ⟨hb, p, rfl, ⟨⟨F, hF, hk⟩, hb⟩⟩
end
theorem info3 : (Try.prog.info? 3).map (fun i => (i.zero, i.size, i.bytes)) = some (some (.int .i64 0), 1, 8) := by kernel_rfl
/-- The states of the first documents. -/
def befs (S : FlowS) (k : Nat) : List Int := (List.range k).map (fun (j : Nat) => stOf S (j : Int))
theorem befs_len (S : FlowS) (k : Nat) : (befs S k).length = k := by simp [befs]
theorem befs_succ (S : FlowS) (k : Nat) : befs S (k + 1) = befs S k ++ [stOf S (k : Int)] := by unfold befs; rw [List.range_succ, List.map_append]; rfl
theorem befs_rd (S : FlowS) {k n : Nat} (h : k < n) : Go.Proofs.YtbbhichndfbooaaW.PrintWords.rd (befs S n) (k : Int) = stOf S (k : Int) := by
  simp [Go.Proofs.YtbbhichndfbooaaW.PrintWords.rd, befs, h]
theorem wf_small {k : Nat} (h : k ≤ 1000) : (Lit.int .i64 (k : Int)).wf = true := by
  show (decide (IntKind.i64.min ≤ (k : Int)) && decide ((k : Int) ≤ IntKind.i64.max)) = true
  rw [Bool.and_eq_true, decide_eq_true_iff, decide_eq_true_iff]
  constructor
  · show (-9223372036854775808 : Int) ≤ (k : Int)
    omega
  · show (k : Int) ≤ 9223372036854775807
    omega
/-- The lists are no longer than any Go slice, and each number is an int. -/
def steps_ok (steps : List S60) (ops : List S46) : Prop := steps.length ≤ 9223372036854775807 ∧ ∀ o ∈ ops, (Lit.int .i64 o.f1).wf = true
instance (steps : List S60) (ops : List S46) : Decidable (steps_ok steps ops) := by unfold steps_ok; exact inferInstance
set_option maxHeartbeats 16000000 in
set_option maxRecDepth 100000 in
theorem flowApart_calls (A0 : Option Addr) (c0 : Nat) (steps : List S60) (A1 : Option Addr) (c1 : Nat) (apprs : List ByteArray) (A2 : Option Addr) (c2 : Nat) (ops : List S46) (w : World)
    (h0 : Kd.C k60 w A0 steps.length steps) (hc0 : steps.length ≤ c0) (h1 : Kd.string.C w A1 apprs.length apprs) (hc1 : apprs.length ≤ c1) (h2 : Kd.C k46 w A2 ops.length ops) (hc2 : ops.length ≤ c2) (hl : steps.length ≤ 9223372036854775807) (hwf : ∀ o ∈ ops, (Lit.int .i64 o.f1).wf = true) :
    Calls Try.prog 4 #[.agg #[.slice A0 steps.length c0, .slice A1 apprs.length c1], .slice A2 ops.length c2] w fun e w' => e = .returned (.bool true) ∧ Below w.heap.size w w' := by
  obtain ⟨rt, kr, hr⟩ := right_some steps hl
  obtain ⟨b, kl, hlt, hsm⟩ := light_some steps apprs ops
  have H0 := Aside0.mk h0
  have H1 := Aside0.mk h1
  have H2 := Aside0.mk h2
  have HR := Aside0.mk hr
  have HLT := Aside0.mk hlt
  have HSM := Aside0.mk hsm
  have HWF := Aside0.mk hwf
  clear h0 h1 h2 hr hlt hsm hwf
  obtain ⟨err, he⟩ : ∃ err, newErr rt steps apprs = err := ⟨_, rfl⟩
  have HE := Aside0.mk he
  clear he
  go_enter Try.func4, Try.ntmps4
  go_upto_region 1 with (fail)
  refine with_world (P := fun x => Code.wp _ _ _ _ x) _ ?_
  intro w1 hw1
  have BK : w1.heap[w.heap.size]? = some (.cells #[.slice A0 steps.length c0, .slice A1 apprs.length c1] 25 (0, 0)) := by rw [hw1]; exact blk_new w _
  have HB1 := Aside0.mk (show Below w.heap.size w w1 from by rw [hw1]; exact below_alloc (Below.refl _ _) _)
  obtain ⟨g, hg⟩ : ∃ g, w.heap.size = g := ⟨_, rfl⟩
  rw [hg] at BK ⊢
  clear hw1 hg
  have HBK := Aside0.mk BK
  have b0 := (blk_cell BK 0).trans rfl
  have b1 := (blk_cell BK 1).trans rfl
  clear BK
  by_cases hne : err = 0
  · subst hne
    go_upto_region 2 with (first | (go_at_call 11; refine (new_good (Kd.C_below H0.out HB1.out) hc0 (Kd.C_below H1.out HB1.out) HR.out HE.out).mono ?_; rintro e w2 ⟨hb_, p, rfl, hl_⟩; have HB12 := Aside0.mk hb_; have HL := Aside0.mk hl_; clear hb_ hl_ b0 b1))
    have HB2 := Aside0.mk (below_then HB1.out HB1.out.size HB12.out)
    have BK2 := blk_below HBK.out HB12.out
    have b0 := (blk_cell BK2 0).trans rfl
    have b1 := (blk_cell BK2 1).trans rfl
    have HLV := Aside0.mk (show Live w w2 p ⟨steps, apprs, [], []⟩ from ⟨by
      obtain ⟨⟨F, hF, hk⟩, _⟩ := HL.out
      exact ⟨F, hF, fun k hk' => Nat.le_trans HB1.out.size (hk k hk')⟩, HB2.out⟩)
    clear BK2 HL HB12 HBK HB1
    cases b
    · go_wp2_with (first | (go_at_call 9; refine (accountinglaw15_light.calls kl A0 c0 steps A1 c1 apprs A2 c2 ops false _ (Kd.C_below H0.out HB2.out) hc0 (Kd.C_below H1.out HB2.out) hc1 (Kd.C_below H2.out HB2.out) hc2 HLT.out).mono ?_; rintro e w3 ⟨rfl, hb_⟩; have HB3 := Aside0.mk (below_then HB2.out HB2.out.size hb_); clear hb_ b0 b1) | (go_at_call 10; refine (lives_calls _).mono ?_; rintro e w4 ⟨rfl, hb_⟩; have HB4 := Aside0.mk hb_; clear hb_))
      go_ret
      exact ⟨rfl, below_then HB3.out HB3.out.size HB4.out⟩
    · go_upto_region 4 with (first | (go_at_call 9; refine (accountinglaw15_light.calls kl A0 c0 steps A1 c1 apprs A2 c2 ops true _ (Kd.C_below H0.out HB2.out) hc0 (Kd.C_below H1.out HB2.out) hc1 (Kd.C_below H2.out HB2.out) hc2 HLT.out).mono ?_; rintro e w3 ⟨rfl, hb_⟩; have HL3 := Aside0.mk (HLV.out.below hb_); clear hb_ b0 b1))
      clear HLV HB2
      have hops : ops.length ≤ 40 := (HSM.out (by trivial)).2.2
      clear HSM HE HR HLT H0 H1
      go_wp2
      go_loopw [7, 8, 9, 10, 11, 12, 13, 14, 36, 37, 38, 39, 40, 41, 42, 43, 44, 45, 46, 47, 48, 49, 50, 51, 52, 53, 54, 55, 56, 57, 58, 59, 60, 61, 62, 63, 64, 65, 66, 67, 68, 69, 70, 71, 72, 73, 74, 75, 76, 77, 78, 79, 80, 81, 82, 83, 84, 85, 86, 87, 88, 89, 90, 91, 92, 93, 94, 95, 96, 97, 98, 99, 100, 101, 102, 103, 104, 105] (fun v7 _ _ _ _ _ _ _ _ _ _ _ _ _ _ _ _ _ _ _ _ _ _ _ _ _ _ _ _ _ _ _ _ _ _ _ _ _ _ _ _ _ _ _ _ _ _ _ _ _ _ _ _ _ _ _ _ _ _ _ _ _ _ _ _ _ _ _ _ _ _ _ _ _ _ _ _ _ wr => ∃ (i : Nat) (S : FlowS), i ≤ ops.length ∧ v7 = .int .i64 i ∧ Aside0 (Live w wr p S) ∧ Aside0 (Bnd S i)) (fun v7 _ _ _ _ _ _ _ _ _ _ _ _ _ _ _ _ _ _ _ _ _ _ _ _ _ _ _ _ _ _ _ _ _ _ _ _ _ _ _ _ _ _ _ _ _ _ _ _ _ _ _ _ _ _ _ _ _ _ _ _ _ _ _ _ _ _ _ _ _ _ _ _ _ _ _ _ _ _ => ops.length - (intOf v7).toNat)
      case atStart => exact ⟨0, _, Nat.zero_le _, rfl, HL3, ⟨⟨Nat.le_refl _, fun D hD => by cases hD⟩⟩⟩
      case round =>
        clear HL3
        obtain ⟨i, S, hi, rfl, HL, HBN⟩ := hrel
        rename World => wo
        by_cases hlt : i < ops.length
        · have d1 : decide ((i : Int) < (ops.length : Int)) = true := decide_eq_true (by omega)
          have d2 : decide (i < ops.length) = true := decide_eq_true hlt
          have p0 : (0 : Int) ≤ (i : Int) := by omega
          have p1 : (i : Int) < (ops.length : Int) := by omega
          go_wp2
          go_loopw [8, 9, 42, 43, 44, 45, 46, 47, 48, 49, 50, 51] (fun v8 v9 _ _ _ _ _ _ _ _ _ _ wr => ∃ k : Nat, k ≤ 42 ∧ v9 = .int .i64 k ∧ Aside0 (Below wo.heap.size wo wr) ∧ Aside0 ((Kd.int .i64).R 3 wr wo.heap.size (fun x => wo.heap.size ≤ x) v8 (befs S k))) (fun _ v9 _ _ _ _ _ _ _ _ _ _ _ => 42 - (intOf v9).toNat)
          case atStart => exact ⟨0, Nat.zero_le _, rfl, ⟨Below.refl _ _⟩, ⟨Kd.R_nil _ _ _ _ _⟩⟩
          case round =>
            obtain ⟨k, hk, rfl, HB, HRW⟩ := hrel
            obtain ⟨Ab, cb, hv⟩ := Kd.R_slice HRW.out
            subst hv
            by_cases hk41 : k ≤ 41
            · have d3 : decide ((k : Int) ≤ 41) = true := decide_eq_true (by omega)
              have d4 : decide (k ≤ 41) = true := decide_eq_true hk41
              obtain ⟨s, hs⟩ : ∃ s, stOf S (k : Int) = s := ⟨_, rfl⟩
              have HS := Aside0.mk hs
              have hbl := befs_len S k
              have HBL := Aside0.mk hbl
              clear hs hbl
              go_wp2_with (first | (go_at_call 15; refine (state_live (HL.out.below HB.out) (k : Int) (wf_small (by omega)) HS.out).mono ?_; rintro e w_ ⟨rfl, he_⟩; obtain rfl := he_.symm) | ((with_reducible refine gate_builtin (b := .append) (xs := #[.tmp 46, .tmp 50]) rfl ?_); at_builtin; refine Kd.R_append (Kd.int .i64) (w0 := wo) wo.heap.size rfl (.tmp 46) (.tmp 50) 39 3 (.int .i64 0) 8 rfl Try.underlying39 info3 rfl (by decide) (by omega) (.slice Ab (befs S k).length cb) (befs S k) s [.int .i64 s] (fun x => wo.heap.size ≤ x) (fun _ => False) rfl rfl ?aP (fun _ hk => hk.elim) ?aF ?aO ?aB ?aS ?aL ?_; (case aP => exact rfl); (case aF => exact fun x hx => Nat.le_trans HB.out.size hx); (case aO => exact HRW.out); (case aB => exact HB.out); (case aS => exact HB.out.size); (case aL => rw [HBL.out]; omega); intro v1 w2 ho hb hg hat; have HO := Aside0.mk ho; have HB2 := Aside0.mk hb; clear ho hb hg hat))
              go_roundw
              case rel => exact ⟨k + 1, by omega, by go_num, HB2, ⟨by rw [befs_succ, HS.out]; exact HO.out⟩⟩
              case measure => simp [intOf]; omega
            · obtain rfl : k = 42 := by omega
              have d3 : decide (((42 : Nat) : Int) ≤ 41) = false := by decide
              rename World => w5
              obtain ⟨⟨F, hF, hFk⟩, hlow⟩ := HL.out
              have HF5 := Aside0.mk (hF.below HB.out)
              have hn : S.acts.length ≤ 1000000 := by have := HBN.out.acts; omega
              have HFO := Aside0.mk hF
              have HFK := Aside0.mk hFk
              have HLO := Aside0.mk hlow
              clear hF hFk hlow
              go_upto_region 13 with (first | (go_at_call 16; refine (acts_calls p S F _ HF5.out hn).mono ?_; rintro e_ w6 ⟨v, rfl, hr_, hb_⟩; obtain ⟨Aa, ca, rfl⟩ := Kd.R_slice hr_; have HB6 := Aside0.mk hb_; clear hr_ hb_))
              have HB06 := Aside0.mk (below_then HB.out HB.out.size HB6.out)
              have HLW6 := Aside0.mk (below_then HLO.out HLO.out.size HB06.out)
              have HF6 := Aside0.mk (HFO.out.below HB06.out)
              have HR6 := Aside0.mk (Kd.R_below HRW.out HB6.out)
              clear HB6 HF5 HRW HB
              have hu46 := Try.underlying46
              obtain ⟨ad, e, q0, q1, q2, q3⟩ := at_T46 (Kd.C_below H2.out HLW6.out) (i : Int) (by omega) (by omega)
              subst e
              rw [Int.toNat_natCast] at q0 q1 q2 q3
              obtain ⟨o, ho⟩ : ∃ o, rd_T46 ops (i : Int) = o := ⟨_, rfl⟩
              have hom : o ∈ ops := by rw [← ho]; simp [rd_T46, hlt]
              rw [ho] at q0 q1 q2 q3
              have HOO := Aside0.mk ho
              have hwo := HWF.out o hom
              have HWO := Aside0.mk hwo
              clear ho hom hwo
              obtain ⟨pi, pe, S2, hq⟩ : ∃ pi pe S2, playOf S o = (pi, pe, S2) := ⟨_, _, _, rfl⟩
              have HQ := Aside0.mk hq
              have HSTP := Aside0.mk (play_step hq HBN.out)
              clear hq
              go_upto_region 14 with (first | (go_at_call 17; refine (play_after HF6.out o HWO.out hn (Nat.le_trans (HBN.out.doc _) (by omega)) HQ.out).mono ?_; rintro e_ w7 ⟨rfl, hA_⟩; have HA := Aside0.mk hA_; clear hA_ q0 q1 q2 q3))
              have HL7 := Aside0.mk (Live.after HLW6.out HFK.out HA.out)
              obtain ⟨G, hG, hs⟩ := HA.out
              have HG7 := Aside0.mk hG
              have HRW7 := Aside0.mk (show (Kd.int .i64).R 3 w7 wo.heap.size (fun x => wo.heap.size ≤ x) (.slice Ab (befs S 42).length cb) (befs S 42) from
                Kd.R_step HR6.out (fun x hx hlt6 => hs.but.block x hlt6 (fun hFx => by have := HFO.out.lt x hFx; omega)))
              clear hG hs HA HR6
              obtain ⟨ad2, e, q0, q1, q2, q3⟩ := at_T46 (Kd.C_below H2.out HL7.out.low) (i : Int) (by omega) (by omega)
              obtain rfl : ad = ad2 := Option.some.inj e
              rw [Int.toNat_natCast, HOO.out] at q0 q1
              clear e q2 q3
              by_cases hk1 : o.f0 = 1
              · have hd : (o.f0 == (1 : Int)) = true := by rw [hk1]; rfl
                have HAT := Aside0.mk (show ∀ x, x ≠ pi → pe = 0 → stOf S2 x = stOf S x from fun x hx he => by
                  rcases HSTP.out.2 with ⟨h1, _⟩ | ⟨_, _, h3⟩
                  · exact absurd he h1
                  · exact h3 x (by rw [if_pos hk1]; exact hx))
                clear hk1
                go_wp2
                go_loopw [14, 76, 77, 78, 79, 80, 81, 82, 83, 84, 85, 86, 87, 88, 89, 90, 91, 92, 93, 94, 95, 96] (fun v14 _ _ _ _ _ _ _ _ _ _ _ _ _ _ _ _ _ _ _ _ _ wr => ∃ x : Nat, x ≤ 42 ∧ v14 = .int .i64 x ∧ Drawn0 w7 wr) (fun v14 _ _ _ _ _ _ _ _ _ _ _ _ _ _ _ _ _ _ _ _ _ _ => 42 - (intOf v14).toNat)
                case atStart => exact ⟨0, Nat.zero_le _, rfl, by repeat (first | exact Drawn0.refl _ | apply Drawn0.step)⟩
                case round =>
                  clear q0 q1
                  obtain ⟨x, hx, rfl, ⟨n, rfl⟩⟩ := hrel
                  by_cases hx41 : x ≤ 41
                  · have d3 : decide ((x : Int) ≤ 41) = true := decide_eq_true (by omega)
                    have d4 : decide (x ≤ 41) = true := decide_eq_true hx41
                    obtain ⟨s2, hs2⟩ : ∃ s2, stOf S2 (x : Int) = s2 := ⟨_, rfl⟩
                    have HS2 := Aside0.mk hs2
                    obtain ⟨ab, e, qb⟩ := Kd.at_int (Kd.C_drewN (Kd.R_reads' HRW7.out).2.2 n) (x : Int) (by omega) (by rw [befs_len]; omega)
                    subst e
                    rw [Int.toNat_natCast, befs_rd S (by omega)] at qb
                    have qb0 : w7.cell? (ab.add x) = some (.int .i64 (stOf S (x : Int))) := qb
                    have p2 : (0 : Int) ≤ (x : Int) := by omega
                    have p3 : (x : Int) < ((befs S 42).length : Int) := by rw [befs_len]; omega
                    have d5 : decide (x < (befs S 42).length) = true := decide_eq_true (by rw [befs_len]; omega)
                    by_cases hse : s2 = stOf S (x : Int)
                    · have dn : (s2 != stOf S (x : Int)) = false := bne_eq_false_iff_eq.mpr hse
                      clear hs2 hse
                      go_wp2
                      go_quiet (first | (go_at_call 15; refine (state_live (HL7.out.below (by repeat (first | exact Below.refl _ _ | apply pw_below_drewN | apply below_drew))) (x : Int) (wf_small (by omega)) HS2.out).mono ?_; rintro e_ w_ ⟨rfl, he_⟩; first | exact ⟨rfl, _, he_⟩ | (obtain rfl := he_.symm)))
                      go_wp2_with (first | (go_at_call 15; refine (state_live (HL7.out.below (by repeat (first | exact Below.refl _ _ | apply pw_below_drewN | apply below_drew))) (x : Int) (wf_small (by omega)) HS2.out).mono ?_; rintro e_ w_ ⟨rfl, he_⟩; first | exact ⟨rfl, _, he_⟩ | (obtain rfl := he_.symm)))
                      go_roundw
                      case rel => exact ⟨x + 1, by omega, by go_num, by repeat (first | exact Drawn0.refl _ | apply Drawn0.step)⟩
                      case measure => simp [intOf]; omega
                    · have dn : (s2 != stOf S (x : Int)) = true := bne_iff_ne.mpr hse
                      have hpe : pe = 0 := by
                        rcases HSTP.out.2 with ⟨_, h2⟩ | ⟨h1, _⟩
                        · rw [h2] at hs2; exact absurd hs2.symm hse
                        · exact h1
                      have hxa : (x : Int) = pi := by
                        by_cases hxa : (x : Int) = pi
                        · exact hxa
                        · exact absurd (hs2.symm.trans (HAT.out _ hxa hpe)) hse
                      have de : (pe != (0 : Int)) = false := by rw [hpe]; rfl
                      have da : ((x : Int) != pi) = false := bne_eq_false_iff_eq.mpr hxa
                      clear hs2 hse hpe hxa
                      go_wp2
                      go_quiet (first | (go_at_call 15; refine (state_live (HL7.out.below (by repeat (first | exact Below.refl _ _ | apply pw_below_drewN | apply below_drew))) (x : Int) (wf_small (by omega)) HS2.out).mono ?_; rintro e_ w_ ⟨rfl, he_⟩; first | exact ⟨rfl, _, he_⟩ | (obtain rfl := he_.symm)))
                      go_wp2_with (first | (go_at_call 15; refine (state_live (HL7.out.below (by repeat (first | exact Below.refl _ _ | apply pw_below_drewN | apply below_drew))) (x : Int) (wf_small (by omega)) HS2.out).mono ?_; rintro e_ w_ ⟨rfl, he_⟩; first | exact ⟨rfl, _, he_⟩ | (obtain rfl := he_.symm)))
                      go_roundw
                      case rel => exact ⟨x + 1, by omega, by go_num, by repeat (first | exact Drawn0.refl _ | apply Drawn0.step)⟩
                      case measure => simp [intOf]; omega
                  · obtain rfl : x = 42 := by omega
                    have hwn : wrap64 ((S.acts.length : Int) + 1) = (S.acts.length : Int) + 1 := w64r (by omega) (by omega)
                    have HW8 := Aside0.mk (show Below w7.heap.size w7 (w7.drewN n) from pw_below_drewN (Below.refl _ _) n)
                    have hn2 : S2.acts.length ≤ 1000000 := by have := HSTP.out.1.acts; omega
                    have HAC := Aside0.mk (show (pe = 0 → (S2.acts.length : Int) = (S.acts.length : Int) + 1) ∧ (pe ≠ 0 → (S2.acts.length : Int) ≠ (S.acts.length : Int) + 1) from by
                      rcases HSTP.out.2 with ⟨h1, h2⟩ | ⟨h1, h2, _⟩
                      · exact ⟨fun h => absurd h h1, fun _ => by rw [h2]; omega⟩
                      · exact ⟨fun _ => by omega, fun h => absurd h1 h⟩)
                    by_cases hpe : pe = 0
                    · have de : (pe == (0 : Int)) = true := beq_iff_eq.mpr hpe
                      have dl : ((S2.acts.length : Int) == (S.acts.length : Int) + 1) = true := beq_iff_eq.mpr (HAC.out.1 hpe)
                      clear hpe
                      go_wp2_with (first | (go_at_call 16; refine (acts_calls p S2 G _ (HG7.out.below HW8.out) hn2).mono ?_; rintro e_ w9 ⟨v, rfl, hr_, hb_⟩; obtain ⟨Aa2, ca2, rfl⟩ := Kd.R_slice hr_; have HB9 := Aside0.mk (below_then HW8.out HW8.out.size hb_); clear hr_ hb_))
                      go_roundw
                      case rel => exact ⟨i + 1, S2, by omega, by go_num, ⟨HL7.out.below HB9.out⟩, ⟨HSTP.out.1⟩⟩
                      case measure => simp [intOf]; omega
                    · have de : (pe == (0 : Int)) = false := beq_eq_false_iff_ne.mpr hpe
                      have dl : ((S2.acts.length : Int) == (S.acts.length : Int) + 1) = false := beq_eq_false_iff_ne.mpr (HAC.out.2 hpe)
                      clear hpe
                      go_wp2_with (first | (go_at_call 16; refine (acts_calls p S2 G _ (HG7.out.below HW8.out) hn2).mono ?_; rintro e_ w9 ⟨v, rfl, hr_, hb_⟩; obtain ⟨Aa2, ca2, rfl⟩ := Kd.R_slice hr_; have HB9 := Aside0.mk (below_then HW8.out HW8.out.size hb_); clear hr_ hb_))
                      go_roundw
                      case rel => exact ⟨i + 1, S2, by omega, by go_num, ⟨HL7.out.below HB9.out⟩, ⟨HSTP.out.1⟩⟩
                      case measure => simp [intOf]; omega
              · have hd : (o.f0 == (1 : Int)) = false := beq_eq_false_iff_ne.mpr hk1
                have HAT := Aside0.mk (show ∀ x, x ≠ o.f1 → pe = 0 → stOf S2 x = stOf S x from fun x hx he => by
                  rcases HSTP.out.2 with ⟨h1, _⟩ | ⟨_, _, h3⟩
                  · exact absurd he h1
                  · exact h3 x (by rw [if_neg hk1]; exact hx))
                clear hk1
                go_wp2
                go_loopw [14, 76, 77, 78, 79, 80, 81, 82, 83, 84, 85, 86, 87, 88, 89, 90, 91, 92, 93, 94, 95, 96] (fun v14 _ _ _ _ _ _ _ _ _ _ _ _ _ _ _ _ _ _ _ _ _ wr => ∃ x : Nat, x ≤ 42 ∧ v14 = .int .i64 x ∧ Drawn0 w7 wr) (fun v14 _ _ _ _ _ _ _ _ _ _ _ _ _ _ _ _ _ _ _ _ _ _ => 42 - (intOf v14).toNat)
                case atStart => exact ⟨0, Nat.zero_le _, rfl, by repeat (first | exact Drawn0.refl _ | apply Drawn0.step)⟩
                case round =>
                  clear q0 q1
                  obtain ⟨x, hx, rfl, ⟨n, rfl⟩⟩ := hrel
                  by_cases hx41 : x ≤ 41
                  · have d3 : decide ((x : Int) ≤ 41) = true := decide_eq_true (by omega)
                    have d4 : decide (x ≤ 41) = true := decide_eq_true hx41
                    obtain ⟨s2, hs2⟩ : ∃ s2, stOf S2 (x : Int) = s2 := ⟨_, rfl⟩
                    have HS2 := Aside0.mk hs2
                    obtain ⟨ab, e, qb⟩ := Kd.at_int (Kd.C_drewN (Kd.R_reads' HRW7.out).2.2 n) (x : Int) (by omega) (by rw [befs_len]; omega)
                    subst e
                    rw [Int.toNat_natCast, befs_rd S (by omega)] at qb
                    have qb0 : w7.cell? (ab.add x) = some (.int .i64 (stOf S (x : Int))) := qb
                    have p2 : (0 : Int) ≤ (x : Int) := by omega
                    have p3 : (x : Int) < ((befs S 42).length : Int) := by rw [befs_len]; omega
                    have d5 : decide (x < (befs S 42).length) = true := decide_eq_true (by rw [befs_len]; omega)
                    by_cases hse : s2 = stOf S (x : Int)
                    · have dn : (s2 != stOf S (x : Int)) = false := bne_eq_false_iff_eq.mpr hse
                      clear hs2 hse
                      go_wp2
                      go_quiet (first | (go_at_call 15; refine (state_live (HL7.out.below (by repeat (first | exact Below.refl _ _ | apply pw_below_drewN | apply below_drew))) (x : Int) (wf_small (by omega)) HS2.out).mono ?_; rintro e_ w_ ⟨rfl, he_⟩; first | exact ⟨rfl, _, he_⟩ | (obtain rfl := he_.symm)))
                      go_wp2_with (first | (go_at_call 15; refine (state_live (HL7.out.below (by repeat (first | exact Below.refl _ _ | apply pw_below_drewN | apply below_drew))) (x : Int) (wf_small (by omega)) HS2.out).mono ?_; rintro e_ w_ ⟨rfl, he_⟩; first | exact ⟨rfl, _, he_⟩ | (obtain rfl := he_.symm)))
                      go_roundw
                      case rel => exact ⟨x + 1, by omega, by go_num, by repeat (first | exact Drawn0.refl _ | apply Drawn0.step)⟩
                      case measure => simp [intOf]; omega
                    · have dn : (s2 != stOf S (x : Int)) = true := bne_iff_ne.mpr hse
                      have hpe : pe = 0 := by
                        rcases HSTP.out.2 with ⟨_, h2⟩ | ⟨h1, _⟩
                        · rw [h2] at hs2; exact absurd hs2.symm hse
                        · exact h1
                      have hxa : (x : Int) = o.f1 := by
                        by_cases hxa : (x : Int) = o.f1
                        · exact hxa
                        · exact absurd (hs2.symm.trans (HAT.out _ hxa hpe)) hse
                      have de : (pe != (0 : Int)) = false := by rw [hpe]; rfl
                      have da : ((x : Int) != o.f1) = false := bne_eq_false_iff_eq.mpr hxa
                      clear hs2 hse hpe hxa
                      go_wp2
                      go_quiet (first | (go_at_call 15; refine (state_live (HL7.out.below (by repeat (first | exact Below.refl _ _ | apply pw_below_drewN | apply below_drew))) (x : Int) (wf_small (by omega)) HS2.out).mono ?_; rintro e_ w_ ⟨rfl, he_⟩; first | exact ⟨rfl, _, he_⟩ | (obtain rfl := he_.symm)))
                      go_wp2_with (first | (go_at_call 15; refine (state_live (HL7.out.below (by repeat (first | exact Below.refl _ _ | apply pw_below_drewN | apply below_drew))) (x : Int) (wf_small (by omega)) HS2.out).mono ?_; rintro e_ w_ ⟨rfl, he_⟩; first | exact ⟨rfl, _, he_⟩ | (obtain rfl := he_.symm)))
                      go_roundw
                      case rel => exact ⟨x + 1, by omega, by go_num, by repeat (first | exact Drawn0.refl _ | apply Drawn0.step)⟩
                      case measure => simp [intOf]; omega
                  · obtain rfl : x = 42 := by omega
                    have hwn : wrap64 ((S.acts.length : Int) + 1) = (S.acts.length : Int) + 1 := w64r (by omega) (by omega)
                    have HW8 := Aside0.mk (show Below w7.heap.size w7 (w7.drewN n) from pw_below_drewN (Below.refl _ _) n)
                    have hn2 : S2.acts.length ≤ 1000000 := by have := HSTP.out.1.acts; omega
                    have HAC := Aside0.mk (show (pe = 0 → (S2.acts.length : Int) = (S.acts.length : Int) + 1) ∧ (pe ≠ 0 → (S2.acts.length : Int) ≠ (S.acts.length : Int) + 1) from by
                      rcases HSTP.out.2 with ⟨h1, h2⟩ | ⟨h1, h2, _⟩
                      · exact ⟨fun h => absurd h h1, fun _ => by rw [h2]; omega⟩
                      · exact ⟨fun _ => by omega, fun h => absurd h1 h⟩)
                    by_cases hpe : pe = 0
                    · have de : (pe == (0 : Int)) = true := beq_iff_eq.mpr hpe
                      have dl : ((S2.acts.length : Int) == (S.acts.length : Int) + 1) = true := beq_iff_eq.mpr (HAC.out.1 hpe)
                      clear hpe
                      go_wp2_with (first | (go_at_call 16; refine (acts_calls p S2 G _ (HG7.out.below HW8.out) hn2).mono ?_; rintro e_ w9 ⟨v, rfl, hr_, hb_⟩; obtain ⟨Aa2, ca2, rfl⟩ := Kd.R_slice hr_; have HB9 := Aside0.mk (below_then HW8.out HW8.out.size hb_); clear hr_ hb_))
                      go_roundw
                      case rel => exact ⟨i + 1, S2, by omega, by go_num, ⟨HL7.out.below HB9.out⟩, ⟨HSTP.out.1⟩⟩
                      case measure => simp [intOf]; omega
                    · have de : (pe == (0 : Int)) = false := beq_eq_false_iff_ne.mpr hpe
                      have dl : ((S2.acts.length : Int) == (S.acts.length : Int) + 1) = false := beq_eq_false_iff_ne.mpr (HAC.out.2 hpe)
                      clear hpe
                      go_wp2_with (first | (go_at_call 16; refine (acts_calls p S2 G _ (HG7.out.below HW8.out) hn2).mono ?_; rintro e_ w9 ⟨v, rfl, hr_, hb_⟩; obtain ⟨Aa2, ca2, rfl⟩ := Kd.R_slice hr_; have HB9 := Aside0.mk (below_then HW8.out HW8.out.size hb_); clear hr_ hb_))
                      go_roundw
                      case rel => exact ⟨i + 1, S2, by omega, by go_num, ⟨HL7.out.below HB9.out⟩, ⟨HSTP.out.1⟩⟩
                      case measure => simp [intOf]; omega
        · obtain rfl : i = ops.length := by omega
          have d1 : decide ((ops.length : Int) < (ops.length : Int)) = false := decide_eq_false (by omega)
          go_wp2_with (first | (go_at_call 10; refine (lives_calls _).mono ?_; rintro e w4 ⟨rfl, hb_⟩; have HB4 := Aside0.mk hb_; clear hb_))
          go_ret
          exact ⟨rfl, below_then HL.out.low HL.out.low.size HB4.out⟩
  · have HNE := Aside0.mk hne
    have hn1 : (err != 0) = true := bne_iff_ne.mpr hne
    clear hne
    cases b
    · go_upto_region 2 with (first | (go_at_call 11; refine (new_bad (Kd.C_below H0.out HB1.out) hc0 (Kd.C_below H1.out HB1.out) HR.out HE.out HNE.out).mono ?_; rintro e w2 ⟨rfl, hb_⟩; have HB12 := Aside0.mk hb_; clear hb_ b0 b1))
      have HB2 := Aside0.mk (below_then HB1.out HB1.out.size HB12.out)
      have BK2 := blk_below HBK.out HB12.out
      have b0 := (blk_cell BK2 0).trans rfl
      have b1 := (blk_cell BK2 1).trans rfl
      clear BK2
      go_wp2_with (first | (go_at_call 9; refine (accountinglaw15_light.calls kl A0 c0 steps A1 c1 apprs A2 c2 ops false _ (Kd.C_below H0.out HB2.out) hc0 (Kd.C_below H1.out HB2.out) hc1 (Kd.C_below H2.out HB2.out) hc2 HLT.out).mono ?_; rintro e w3 ⟨rfl, hb_⟩; have HB3 := Aside0.mk (below_then HB2.out HB2.out.size hb_); clear hb_ b0 b1) | (go_at_call 10; refine (lives_calls _).mono ?_; rintro e w4 ⟨rfl, hb_⟩; have HB4 := Aside0.mk hb_; clear hb_))
      go_ret
      exact ⟨rfl, below_then HB3.out HB3.out.size HB4.out⟩
    · go_upto_region 2 with (first | (go_at_call 11; refine (new_bad (Kd.C_below H0.out HB1.out) hc0 (Kd.C_below H1.out HB1.out) HR.out HE.out HNE.out).mono ?_; rintro e w2 ⟨rfl, hb_⟩; have HB12 := Aside0.mk hb_; clear hb_ b0 b1))
      have HB2 := Aside0.mk (below_then HB1.out HB1.out.size HB12.out)
      have BK2 := blk_below HBK.out HB12.out
      have b0 := (blk_cell BK2 0).trans rfl
      have b1 := (blk_cell BK2 1).trans rfl
      clear BK2
      go_wp2_with (first | (go_at_call 9; refine (accountinglaw15_light.calls kl A0 c0 steps A1 c1 apprs A2 c2 ops true _ (Kd.C_below H0.out HB2.out) hc0 (Kd.C_below H1.out HB2.out) hc1 (Kd.C_below H2.out HB2.out) hc2 HLT.out).mono ?_; rintro e w3 ⟨rfl, hb_⟩; have HB3 := Aside0.mk (below_then HB2.out HB2.out.size hb_); clear hb_ b0 b1) | (go_at_call 10; refine (lives_calls _).mono ?_; rintro e w4 ⟨rfl, hb_⟩; have HB4 := Aside0.mk hb_; clear hb_))
      go_ret
      exact ⟨rfl, below_then HB3.out HB3.out.size HB4.out⟩
/-- The law's value: true where the lists are no longer than any Go slice and each number is an int. -/
def accountinglaw15_FlowApart.f (l0_0 : List S60) (l0_1 : List ByteArray) (l1 : List S46) : Option Bool := if steps_ok l0_0 l1 then some true else none
theorem accountinglaw15_FlowApart.calls (A0_0 : Option Addr) (c0_0 : Nat) (l0_0 : List S60) (A0_1 : Option Addr) (c0_1 : Nat) (l0_1 : List ByteArray) (A1 : Option Addr) (c1 : Nat) (l1 : List S46) (r : Bool) (w : World) (hr0_0 : Kd.C k60 w A0_0 l0_0.length l0_0) (hc0_0 : l0_0.length ≤ c0_0) (hr0_1 : Kd.C Kd.string w A0_1 l0_1.length l0_1) (hc0_1 : l0_1.length ≤ c0_1) (hr1 : Kd.C k46 w A1 l1.length l1) (hc1 : l1.length ≤ c1) (h : accountinglaw15_FlowApart.f l0_0 l0_1 l1 = some r) :
    Calls Try.prog 4 #[.agg #[.slice A0_0 l0_0.length c0_0, .slice A0_1 l0_1.length c0_1], .slice A1 l1.length c1] w fun e w' => e = .returned (.bool r) ∧ Below w.heap.size w w' := by
  unfold accountinglaw15_FlowApart.f at h
  split at h
  · rename_i hok
    obtain rfl := Option.some.inj h
    exact flowApart_calls A0_0 c0_0 l0_0 A0_1 c0_1 l0_1 A1 c1 l1 w hr0_0 hc0_0 hr0_1 hc0_1 hr1 hc1 hok.1 hok.2
  · cases h
end Go.Proofs.Ytbbhichndfbooaa.P
