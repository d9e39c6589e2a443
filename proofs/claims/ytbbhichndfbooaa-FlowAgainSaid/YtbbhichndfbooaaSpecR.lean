/- The recorded acts reproduce a workflow. -/
import Derived.Test.YtbbhichndfbooaaSpecE
namespace Go.Proofs.Ytbbhichndfbooaa.P
open Go.RowKit Go.Proofs.YtbbhichndfbooaaW.PrintWords Go.Proofs.YtbbhichndfbooaaW.PrintLast
set_option linter.unusedVariables false
set_option linter.unusedSimpArgs false
/-- A call that succeeds records an act; the act, called again on the workflow as it was, does the same. -/
theorem play_again {S S' : FlowS} {o : S46} {i : Int} (hq : playOf S o = (i, 0, S')) : ∃ a : S55, S'.acts = S.acts ++ [a] ∧ (a.f0 = 1 ↔ o.f0 = 1) ∧ ((Lit.int .i64 o.f1).wf = true → (Lit.int .i64 a.f1).wf = true) ∧ ∀ v : Int, playOf S ⟨a.f0, a.f1, a.f2, if o.f0 = 1 then o.f3 else v⟩ = (i, 0, S') := by
  unfold playOf at hq
  by_cases hk : o.f0 = 1
  · rw [if_pos hk] at hq
    have hq0 := hq
    unfold draftOf at hq
    have bad : ∀ z : Int, z ≠ 0 → ((0 : Int), z, S) = (i, 0, S') → False := fun z hz h => hz (Prod.mk.inj (Prod.mk.inj h).2).1
    by_cases h1 : codeB o.f2 = false
    · rw [if_pos h1] at hq; exact (bad 7 (by decide) hq).elim
    rw [if_neg h1] at hq
    by_cases h2 : o.f3 < 0
    · rw [if_pos h2] at hq; exact (bad 2 (by decide) hq).elim
    rw [if_neg h2] at hq
    by_cases h3 : 10000 ≤ S.docs.length
    · rw [if_pos h3] at hq; exact (bad 9 (by decide) hq).elim
    rw [if_neg h3] at hq
    obtain ⟨_, h4⟩ := Prod.mk.inj hq
    obtain ⟨_, rfl⟩ := Prod.mk.inj h4
    refine ⟨⟨1, (S.docs.length : Int) + 1, o.f2⟩, rfl, ⟨fun _ => hk, fun _ => rfl⟩, fun _ => ?_, fun v => ?_⟩
    · show (decide (IntKind.i64.min ≤ (S.docs.length : Int) + 1) && decide ((S.docs.length : Int) + 1 ≤ IntKind.i64.max)) = true
      rw [Bool.and_eq_true, decide_eq_true_iff, decide_eq_true_iff]
      constructor
      · show (-9223372036854775808 : Int) ≤ (S.docs.length : Int) + 1
        omega
      · show (S.docs.length : Int) + 1 ≤ 9223372036854775807
        omega
    unfold playOf
    rw [if_pos (show (1 : Int) = 1 from rfl), if_pos hk]
    exact hq0
  · rw [if_neg hk] at hq
    obtain ⟨rfl, h4⟩ := Prod.mk.inj hq
    obtain ⟨he, hS⟩ := Prod.mk.inj h4
    have key : ∀ (k : Int), k ≠ 1 → actOf S k o.f1 o.f2 = actOf S o.f0 o.f1 o.f2 → (actOf S o.f0 o.f1 o.f2).2.acts = S.acts ++ [⟨k, o.f1, o.f2⟩] → ∃ a : S55, S'.acts = S.acts ++ [a] ∧ (a.f0 = 1 ↔ o.f0 = 1) ∧ ((Lit.int .i64 o.f1).wf = true → (Lit.int .i64 a.f1).wf = true) ∧ ∀ v : Int, playOf S ⟨a.f0, a.f1, a.f2, if o.f0 = 1 then o.f3 else v⟩ = (0, 0, S') := by
      intro k hk1 hsame hacts
      refine ⟨⟨k, o.f1, o.f2⟩, by rw [← hS]; exact hacts, ⟨fun h => absurd h hk1, fun h => absurd h hk⟩, fun h => h, fun v => ?_⟩
      unfold playOf
      rw [if_neg (show ¬ k = 1 from hk1)]
      show (0, (actOf S k o.f1 o.f2).1, (actOf S k o.f1 o.f2).2) = _
      rw [hsame, he, hS]
    have hmv : ∀ (k who st : Int) (sts : List Int), (moveOf S k o.f1 o.f2 who st sts).1 = 0 → (moveOf S k o.f1 o.f2 who st sts).2.acts = S.acts ++ [⟨k, o.f1, o.f2⟩] := by
      intro k who st sts h
      unfold moveOf at h ⊢
      split
      · rfl
      · rename_i hn
        rw [if_neg hn] at h
        exact absurd h hn
    unfold actOf at he
    by_cases c2 : o.f0 = 2
    · rw [if_pos c2] at he
      refine key 2 (by decide) (by rw [c2]) ?_
      unfold actOf
      rw [if_pos c2]
      unfold submitOf at he ⊢
      split
      · rename_i h0
        rw [if_pos h0] at he
        split
        · rfl
        · rename_i h1
          rw [if_neg h1] at he
          exact absurd (show (3 : Int) = 0 from he) (by decide)
      · rename_i h0
        rw [if_neg h0] at he
        exact absurd he h0
    rw [if_neg c2] at he
    by_cases c3 : o.f0 = 3
    · rw [if_pos c3] at he
      refine key 3 (by decide) (by rw [c3]) ?_
      unfold actOf
      rw [if_neg c2, if_pos c3]
      unfold approveOf at he ⊢
      split
      · rename_i h0
        rw [if_pos h0] at he
        split
        · rename_i h1
          rw [if_pos h1] at he
          exact absurd (show (8 : Int) = 0 from he) (by decide)
        · rfl
      · rename_i h0
        rw [if_neg h0] at he
        exact absurd he h0
    rw [if_neg c3] at he
    by_cases c4 : o.f0 = 4
    · rw [if_pos c4] at he
      refine key 4 (by decide) (by rw [c4]) ?_
      unfold actOf
      rw [if_neg c2, if_neg c3, if_pos c4]
      exact hmv 4 1 4 [2] he
    rw [if_neg c4] at he
    by_cases c5 : o.f0 = 5
    · rw [if_pos c5] at he
      refine key 5 (by decide) (by rw [c5]) ?_
      unfold actOf
      rw [if_neg c2, if_neg c3, if_neg c4, if_pos c5]
      unfold redraftOf at he ⊢
      split
      · rfl
      · rename_i h0
        rw [if_neg h0] at he
        exact absurd he h0
    rw [if_neg c5] at he
    by_cases c6 : o.f0 = 6
    · rw [if_pos c6] at he
      refine key 6 (by decide) (by rw [c6]) ?_
      unfold actOf
      rw [if_neg c2, if_neg c3, if_neg c4, if_neg c5, if_pos c6]
      exact hmv 6 0 6 [1, 4] he
    rw [if_neg c6] at he
    refine key 7 (by decide) ?_ ?_
    · unfold actOf
      rw [if_neg c2, if_neg c3, if_neg c4, if_neg c5, if_neg c6]
      rfl
    · unfold actOf
      rw [if_neg c2, if_neg c3, if_neg c4, if_neg c5, if_neg c6]
      exact hmv 7 2 5 [3] he
/-- The workflow after calls. -/
def stAt (S0 : FlowS) (H : List S46) : FlowS := H.foldl (fun s o => (playOf s o).2.2) S0
/-- H is a history of S: successful calls, spelled by the recorded acts and by the volumes V of the drafts. -/
structure Hist (S0 S : FlowS) (H : List S46) (V : List Int) : Prop where
  same : stAt S0 H = S
  acts : S.acts = H.map (fun o => (⟨o.f0, o.f1, o.f2⟩ : S55))
  vols : V = (H.filter (fun o => o.f0 == 1)).map (fun o => o.f3)
  ok : ∀ (A : List S46) (o : S46) (B : List S46), H = A ++ o :: B → (playOf (stAt S0 A) o).2.1 = 0
  wf : ∀ o ∈ H, (Lit.int .i64 o.f1).wf = true
theorem Hist.start {S0 : FlowS} (h : S0.acts = []) : Hist S0 S0 [] [] := ⟨rfl, h, rfl, fun A o B h => (by cases A <;> cases h), fun o ho => (by cases ho)⟩
theorem Hist.next {S0 S S' : FlowS} {H : List S46} {V : List Int} (h : Hist S0 S H V) {o : S46} {i : Int} (hwf : (Lit.int .i64 o.f1).wf = true) (hq : playOf S o = (i, 0, S')) : ∃ H', Hist S0 S' H' (if o.f0 = 1 then V ++ [o.f3] else V) := by
  obtain ⟨a, h1, h2, hw, h3⟩ := play_again hq
  have h4 := h3 0
  obtain ⟨x, hx⟩ : ∃ x : S46, (⟨a.f0, a.f1, a.f2, if o.f0 = 1 then o.f3 else 0⟩ : S46) = x := ⟨_, rfl⟩
  rw [hx] at h4
  refine ⟨H ++ [x], ?_, ?_, ?_, fun A y B hH => ?_, fun y hy => ?_⟩
  · unfold stAt
    rw [List.foldl_append]
    show (playOf (stAt S0 H) x).2.2 = S'
    rw [h.same, h4]
  · rw [h1, h.acts, List.map_append, ← hx]
    rfl
  · rw [List.filter_append, List.map_append, ← h.vols]
    by_cases hk : o.f0 = 1
    · have hx1 : (x.f0 == (1 : Int)) = true := by rw [← hx]; exact beq_iff_eq.mpr (h2.2 hk)
      have hx3 : x.f3 = o.f3 := by rw [← hx]; exact if_pos hk
      rw [if_pos hk, List.filter_cons, hx1, if_pos rfl]
      show V ++ [o.f3] = V ++ [x.f3]
      rw [hx3]
    · have hx1 : (x.f0 == (1 : Int)) = false := by rw [← hx]; exact beq_eq_false_iff_ne.mpr (fun h => hk (h2.1 h))
      rw [if_neg hk, List.filter_cons, hx1, if_neg (by decide)]
      show V = V ++ []
      rw [List.append_nil]
  · rcases List.append_eq_append_iff.1 hH with ⟨C, hA, hC⟩ | ⟨C, hA, hC⟩
    · cases C with
      | nil =>
        rw [List.append_nil] at hA
        rw [List.nil_append] at hC
        cases hC
        rw [hA, h.same, h4]
      | cons c r =>
        have := congrArg List.length hC
        simp at this
    · cases C with
      | nil =>
        rw [List.append_nil] at hA
        rw [List.nil_append] at hC
        cases hC
        rw [← hA, h.same, h4]
      | cons c r =>
        rw [List.cons_append] at hC
        cases hC
        exact h.ok A y r hA
  · rcases List.mem_append.1 hy with hy | hy
    · exact h.wf y hy
    · rw [List.mem_singleton] at hy
      subst hy
      rw [← hx]
      exact hw hwf
/-- The number of drafts among calls. -/
def drafts (H : List S46) : Nat := (H.filter (fun o => o.f0 == 1)).length
theorem play_nodraft (S : FlowS) (x : S46) (v : Int) (h : x.f0 ≠ 1) : playOf S ⟨x.f0, x.f1, x.f2, v⟩ = playOf S x := by
  unfold playOf
  rw [if_neg h, if_neg h]
theorem Hist.len {S0 S : FlowS} {H : List S46} {V : List Int} (h : Hist S0 S H V) : V.length = drafts H ∧ S.acts.length = H.length := by
  rw [h.vols, h.acts, List.length_map, List.length_map]
  exact ⟨rfl, rfl⟩
/-- The step j of a history. -/
structure StepAt (S0 S : FlowS) (H : List S46) (V : List Int) (j : Nat) (x : S46) : Prop where
  ok : ∃ i, playOf (stAt S0 (H.take j)) x = (i, 0, stAt S0 (H.take (j + 1)))
  dr : drafts (H.take (j + 1)) = drafts (H.take j) + if x.f0 = 1 then 1 else 0
  vol : x.f0 = 1 → drafts (H.take j) < V.length ∧ Go.Proofs.YtbbhichndfbooaaW.PrintWords.rd V (drafts (H.take j) : Int) = x.f3
  act : rd_T55 S.acts (j : Int) = ⟨x.f0, x.f1, x.f2⟩
  wf : (Lit.int .i64 x.f1).wf = true
theorem Hist.at {S0 S : FlowS} {H : List S46} {V : List Int} (h : Hist S0 S H V) {j : Nat} (hj : j < H.length) : StepAt S0 S H V j H[j] := by
  have ht : H.take (j + 1) = H.take j ++ [H[j]] := by rw [List.take_add_one, List.getElem?_eq_getElem hj]; rfl
  have hH : H = H.take j ++ H[j] :: H.drop (j + 1) := by rw [← List.drop_eq_getElem_cons hj, List.take_append_drop]
  have hok := h.ok _ _ _ hH
  have hs : stAt S0 (H.take (j + 1)) = (playOf (stAt S0 (H.take j)) H[j]).2.2 := by
    rw [ht]
    unfold stAt
    rw [List.foldl_append]
    rfl
  refine ⟨⟨(playOf (stAt S0 (H.take j)) H[j]).1, ?_⟩, ?_, fun h1 => ?_, ?_, h.wf _ (List.getElem_mem hj)⟩
  · rw [hs, ← hok]
  · unfold drafts
    rw [ht, List.filter_append, List.length_append]
    by_cases hk : H[j].f0 = 1
    · rw [if_pos hk, List.filter_cons, if_pos (beq_iff_eq.mpr hk)]
      rfl
    · rw [if_neg hk, List.filter_cons, if_neg (by rw [beq_eq_false_iff_ne.mpr hk]; decide)]
      rfl
  · have hV : V = ((H.take j).filter (fun o : S46 => o.f0 == 1)).map (fun o => o.f3) ++ (H[j].f3 :: (((H.drop (j + 1)).filter (fun o : S46 => o.f0 == 1)).map (fun o => o.f3))) := by
      rw [h.vols]
      conv => lhs; rw [hH]
      rw [List.filter_append, List.map_append, List.filter_cons, if_pos (beq_iff_eq.mpr h1), List.map_cons]
    have hd : drafts (H.take j) = (((H.take j).filter (fun o => o.f0 == 1)).map (fun o => o.f3)).length := by rw [List.length_map]; rfl
    constructor
    · rw [hV, List.length_append, List.length_cons, ← hd]
      omega
    · rw [hd, hV]
      simp [Go.Proofs.YtbbhichndfbooaaW.PrintWords.rd]
  · rw [h.acts]
    simp [rd_T55, hj]
end Go.Proofs.Ytbbhichndfbooaa.P
