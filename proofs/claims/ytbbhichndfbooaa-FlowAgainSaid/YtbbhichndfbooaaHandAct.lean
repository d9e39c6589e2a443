/- The contracts of act and play, with what they may turn. -/
import Derived.Test.YtbbhichndfbooaaHandPlay
namespace Go.Proofs.Ytbbhichndfbooaa.P
open Go.RowKit Go.Proofs.YtbbhichndfbooaaW.PrintWords Go.Proofs.YtbbhichndfbooaaW.PrintLast Go.Proofs.YtbbhichndfbooaaW.PrintMore Go.Maps Go.ChangeShapes Go.WideShapes Go.WideMaps
set_option linter.unusedVariables false
set_option linter.unusedSimpArgs false
set_option maxHeartbeats 4000000 in
theorem act_after {w : World} {F : Nat → Prop} {p : Nat} {S S' : FlowS} (h : Flw w F p S) (kind id : Int) (hid : (Lit.int .i64 id).wf = true) (user : ByteArray) (hn : S.acts.length ≤ 1000000) (ha : (docD S id).ap.length ≤ 1000000) {e : Int} (hq : actOf S kind id user = (e, S')) :
    Calls Try.prog 37 #[.pointer (some ⟨p, 0, none⟩), .int .i64 kind, .int .i64 id, .string user] w fun x w' => x = .returned (.int .i64 e) ∧ After F w w' p S' := by
  have HF := Aside0.mk h
  clear h
  unfold actOf at hq
  by_cases h2 : kind = 2
  · subst h2
    have hq' : submitOf S id user = (e, S') := hq
    have hcall := submit_calls p S F id hid user
    rw [hq'] at hcall
    have HC := Aside0.mk hcall
    clear hq hq' hcall
    go_enter Try.func37, Try.ntmps37
    go_wp2_with (first | (go_at_call 29; refine (HC.out _ HF.out hn).mono ?_; rintro e w' ⟨rfl, hl_⟩; have HN := Aside0.mk hl_; clear hl_))
    go_ret
    exact ⟨rfl, HN.out⟩
  rw [if_neg h2] at hq
  have d2 : (kind == (2 : Int)) = false := beq_eq_false_iff_ne.mpr h2
  by_cases h3 : kind = 3
  · subst h3
    clear h2 d2
    have hq' : approveOf S id user = (e, S') := hq
    have hcall := approve_calls p S F id hid user
    rw [hq'] at hcall
    have HC := Aside0.mk hcall
    clear hq hq' hcall
    go_enter Try.func37, Try.ntmps37
    go_wp2_with (first | (go_at_call 30; refine (HC.out _ HF.out hn ha).mono ?_; rintro e w' ⟨rfl, hl_⟩; have HN := Aside0.mk hl_; clear hl_))
    go_ret
    exact ⟨rfl, HN.out⟩
  rw [if_neg h3] at hq
  have d3 : (kind == (3 : Int)) = false := beq_eq_false_iff_ne.mpr h3
  by_cases h4 : kind = 4
  · subst h4
    clear h2 d2 h3 d3
    have hq' : rejectOf S id user = (e, S') := hq
    have hcall := reject_calls p S F id hid user
    rw [hq'] at hcall
    have HC := Aside0.mk hcall
    clear hq hq' hcall
    go_enter Try.func37, Try.ntmps37
    go_wp2_with (first | (go_at_call 57; refine (HC.out _ HF.out hn).mono ?_; rintro e w' ⟨rfl, hl_⟩; have HN := Aside0.mk hl_; clear hl_))
    go_ret
    exact ⟨rfl, HN.out⟩
  rw [if_neg h4] at hq
  have d4 : (kind == (4 : Int)) = false := beq_eq_false_iff_ne.mpr h4
  by_cases h5 : kind = 5
  · subst h5
    clear h2 d2 h3 d3 h4 d4
    have hq' : redraftOf S id user = (e, S') := hq
    have hcall := redraft_calls p S F id hid user
    rw [hq'] at hcall
    have HC := Aside0.mk hcall
    clear hq hq' hcall
    go_enter Try.func37, Try.ntmps37
    go_wp2_with (first | (go_at_call 58; refine (HC.out _ HF.out hn).mono ?_; rintro e w' ⟨rfl, hl_⟩; have HN := Aside0.mk hl_; clear hl_))
    go_ret
    exact ⟨rfl, HN.out⟩
  rw [if_neg h5] at hq
  have d5 : (kind == (5 : Int)) = false := beq_eq_false_iff_ne.mpr h5
  by_cases h6 : kind = 6
  · subst h6
    clear h2 d2 h3 d3 h4 d4 h5 d5
    have hq' : cancelOf S id user = (e, S') := hq
    have hcall := cancel_calls p S F id hid user
    rw [hq'] at hcall
    have HC := Aside0.mk hcall
    clear hq hq' hcall
    go_enter Try.func37, Try.ntmps37
    go_wp2_with (first | (go_at_call 59; refine (HC.out _ HF.out hn).mono ?_; rintro e w' ⟨rfl, hl_⟩; have HN := Aside0.mk hl_; clear hl_))
    go_ret
    exact ⟨rfl, HN.out⟩
  rw [if_neg h6] at hq
  have d6 : (kind == (6 : Int)) = false := beq_eq_false_iff_ne.mpr h6
  clear h2 h3 h4 h5 h6
  have hcall := post_calls p S F id hid user
  rw [hq] at hcall
  have HC := Aside0.mk hcall
  clear hq hcall
  go_enter Try.func37, Try.ntmps37
  go_wp2_with (first | (go_at_call 31; refine (HC.out _ HF.out hn).mono ?_; rintro e w' ⟨rfl, hl_⟩; have HN := Aside0.mk hl_; clear hl_))
  go_ret
  exact ⟨rfl, HN.out⟩
set_option maxHeartbeats 4000000 in
theorem play_after {w : World} {F : Nat → Prop} {p : Nat} {S S' : FlowS} (h : Flw w F p S) (o : S46) (hid : (Lit.int .i64 o.f1).wf = true) (hn : S.acts.length ≤ 1000000) (ha : (docD S o.f1).ap.length ≤ 1000000) {i e : Int} (hq : playOf S o = (i, e, S')) :
    Calls Try.prog 17 #[.pointer (some ⟨p, 0, none⟩), .agg #[.int .i64 o.f0, .int .i64 o.f1, .string o.f2, .int .i64 o.f3]] w fun x w' => x = .returned (.tuple #[.int .i64 i, .int .i64 e]) ∧ After F w w' p S' := by
  have HF := Aside0.mk h
  clear h
  unfold playOf at hq
  go_enter Try.func17, Try.ntmps17
  go_upto_region 1 with (fail)
  refine with_world (P := fun x => Code.wp _ _ _ _ x) _ ?_
  intro w1 hw1
  have BK : w1.heap[w.heap.size]? = some (.cells #[.int .i64 o.f0, .int .i64 o.f1, .string o.f2, .int .i64 o.f3] 46 (0, 0)) := by rw [hw1]; exact blk_new w _
  have HB1 := Aside0.mk (show Below w.heap.size w w1 from by rw [hw1]; exact below_alloc (Below.refl _ _) _)
  obtain ⟨g, hg⟩ : ∃ g, w.heap.size = g := ⟨_, rfl⟩
  rw [hg] at BK ⊢
  clear hw1 hg
  have c0 := (blk_cell BK 0).trans rfl
  have c1 := (blk_cell BK 1).trans rfl
  have c2 := (blk_cell BK 2).trans rfl
  have c3 := (blk_cell BK 3).trans rfl
  clear BK
  have HF1 := Aside0.mk (HF.out.below HB1.out)
  have HS1 := Aside0.mk ((Stp.refl F w).below HB1.out)
  by_cases hk : o.f0 = 1
  · have hd : (o.f0 == (1 : Int)) = true := by rw [hk]; rfl
    rw [if_pos hk] at hq
    have hcall := draft_calls p S F o.f2 o.f3
    rw [hq] at hcall
    have HC := Aside0.mk hcall
    clear hk hq hcall
    go_wp2_with (first | (go_at_call 28; refine (HC.out _ HF1.out hn).mono ?_; rintro x w' ⟨rfl, hl_⟩; have HN := Aside0.mk hl_; clear hl_))
    go_ret2
    exact ⟨rfl, After.then HS1.out HN.out⟩
  · have hd : (o.f0 == (1 : Int)) = false := beq_eq_false_iff_ne.mpr hk
    rw [if_neg hk] at hq
    obtain ⟨rfl, hq2⟩ := Prod.mk.inj hq
    obtain ⟨he, hS⟩ := Prod.mk.inj hq2
    have HQ := Aside0.mk (show actOf S o.f0 o.f1 o.f2 = (e, S') from Prod.ext he hS)
    clear hk hq hq2 he hS
    go_wp2_with (first | (go_at_call 37; refine (act_after HF1.out o.f0 o.f1 hid o.f2 hn ha HQ.out).mono ?_; rintro x w' ⟨rfl, hl_⟩; have HN := Aside0.mk hl_; clear hl_))
    go_ret2
    exact ⟨rfl, After.then HS1.out HN.out⟩
end Go.Proofs.Ytbbhichndfbooaa.P
