/- What a call changes: one document, one act; or nothing. -/
import Derived.Test.YtbbhichndfbooaaHandAct
namespace Go.Proofs.Ytbbhichndfbooaa.P
open Go.RowKit Go.Proofs.YtbbhichndfbooaaW.PrintWords Go.Proofs.YtbbhichndfbooaaW.PrintLast
set_option linter.unusedVariables false
set_option linter.unusedSimpArgs false
/-- An act's outcome: nothing has changed, or the document and one act more. -/
def Res (S : FlowS) (id : Int) (q : Int × FlowS) : Prop := (q.1 ≠ 0 ∧ q.2 = S) ∨ (q.1 = 0 ∧ ∃ (k : Int) (user : ByteArray) (D E : DocS), docAt S id = some D ∧ q.2 = actedS S k id user E ∧ E.ap.length ≤ D.ap.length + 1)
theorem docD_of {S : FlowS} {id : Int} {D : DocS} (h : docAt S id = some D) : docD S id = D := by unfold docD; rw [h]; rfl
theorem res_move (S : FlowS) (kind id : Int) (user : ByteArray) (who st : Int) (sts : List Int) : Res S id (moveOf S kind id user who st sts) := by
  unfold moveOf
  by_cases h : findOf S id user who sts = 0
  · rw [if_pos h]
    obtain ⟨D, hd, -⟩ := find_zero h
    rw [docD_of hd]
    exact .inr ⟨rfl, kind, user, D, _, hd, rfl, by show D.ap.length ≤ _; omega⟩
  · rw [if_neg h]
    exact .inl ⟨h, rfl⟩
theorem res_submit (S : FlowS) (id : Int) (user : ByteArray) : Res S id (submitOf S id user) := by
  unfold submitOf
  by_cases h : findOf S id user 0 [1] = 0
  · rw [if_pos h]
    obtain ⟨D, hd, -⟩ := find_zero h
    rw [docD_of hd]
    by_cases h2 : (needOf S.steps D.vo).2 = true
    · rw [if_pos h2]
      exact .inr ⟨rfl, 2, user, D, _, hd, rfl, by show D.ap.length ≤ _; omega⟩
    · rw [if_neg h2]
      exact .inl ⟨show (3 : Int) ≠ 0 by decide, rfl⟩
  · rw [if_neg h]
    exact .inl ⟨h, rfl⟩
theorem res_approve (S : FlowS) (id : Int) (user : ByteArray) : Res S id (approveOf S id user) := by
  unfold approveOf
  by_cases h : findOf S id user 1 [2] = 0
  · rw [if_pos h]
    obtain ⟨D, hd, -⟩ := find_zero h
    rw [docD_of hd]
    by_cases h2 : hasB D.ap user = true
    · rw [if_pos h2]
      exact .inl ⟨show (8 : Int) ≠ 0 by decide, rfl⟩
    · rw [if_neg h2]
      exact .inr ⟨rfl, 3, user, D, _, hd, rfl, by show (D.ap ++ [user]).length ≤ _; simp⟩
  · rw [if_neg h]
    exact .inl ⟨h, rfl⟩
theorem res_redraft (S : FlowS) (id : Int) (user : ByteArray) : Res S id (redraftOf S id user) := by
  unfold redraftOf
  by_cases h : findOf S id user 0 [4] = 0
  · rw [if_pos h]
    obtain ⟨D, hd, -⟩ := find_zero h
    rw [docD_of hd]
    exact .inr ⟨rfl, 5, user, D, _, hd, rfl, by show ([] : List ByteArray).length ≤ _; simp⟩
  · rw [if_neg h]
    exact .inl ⟨h, rfl⟩
theorem res_act (S : FlowS) (kind id : Int) (user : ByteArray) : Res S id (actOf S kind id user) := by
  unfold actOf
  split
  · exact res_submit S id user
  split
  · exact res_approve S id user
  split
  · exact res_move S 4 id user 1 4 [2]
  split
  · exact res_redraft S id user
  split
  · exact res_move S 6 id user 0 6 [1, 4]
  · exact res_move S 7 id user 2 5 [3]
/-- How much a workflow holds. -/
structure Bnd (S : FlowS) (n : Nat) : Prop where
  acts : S.acts.length ≤ n
  docs : ∀ D ∈ S.docs, D.ap.length ≤ n
theorem docAt_mem {S : FlowS} {id : Int} {D : DocS} (h : docAt S id = some D) : D ∈ S.docs := by
  unfold docAt at h
  split at h
  · cases h
  split at h
  · cases h
  · exact List.mem_of_getElem? h
theorem Bnd.doc {S : FlowS} {n : Nat} (h : Bnd S n) (id : Int) : (docD S id).ap.length ≤ n := by
  unfold docD
  cases hd : docAt S id with
  | none => exact Nat.zero_le _
  | some D => exact h.docs D (docAt_mem hd)
theorem docAt_other {S : FlowS} {k id : Int} {user : ByteArray} {D E : DocS} (hd : docAt S id = some D) {x : Int} (hx : x ≠ id) : docAt (actedS S k id user E) x = docAt S x := by
  unfold docAt at hd ⊢
  have hl : (actedS S k id user E).docs.length = S.docs.length := by
    show (S.docs.set _ _).length = _
    rw [List.length_set]
  rw [hl]
  by_cases h1 : x < 1
  · rw [if_pos h1, if_pos h1]
  rw [if_neg h1, if_neg h1]
  by_cases h2 : x > S.docs.length
  · rw [if_pos h2, if_pos h2]
  rw [if_neg h2, if_neg h2]
  by_cases h3 : id < 1
  · rw [if_pos h3] at hd; cases hd
  show (S.docs.set (id - 1).toNat E)[(x - 1).toNat]? = _
  rw [List.getElem?_set_ne (by omega)]
theorem docAt_draft {S : FlowS} {D : DocS} {A : List S55} {x : Int} (hx : x ≠ (S.docs.length : Int) + 1) : docAt { S with docs := S.docs ++ [D], acts := A } x = docAt S x := by
  unfold docAt
  have hl : ({ S with docs := S.docs ++ [D], acts := A } : FlowS).docs.length = S.docs.length + 1 := by
    show (S.docs ++ [D]).length = _
    simp
  rw [hl]
  by_cases h1 : x < 1
  · rw [if_pos h1, if_pos h1]
  rw [if_neg h1, if_neg h1]
  by_cases h2 : x > S.docs.length
  · rw [if_pos h2, if_pos (by omega)]
  rw [if_neg h2, if_neg (by omega)]
  show (S.docs ++ [D])[(x - 1).toNat]? = _
  rw [List.getElem?_append_left (by omega)]
/-- A call: nothing has changed, or one document and one act more. -/
theorem play_step {S S' : FlowS} {o : S46} {i e : Int} (hq : playOf S o = (i, e, S')) {n : Nat} (hb : Bnd S n) :
    Bnd S' (n + 1) ∧ ((e ≠ 0 ∧ S' = S) ∨ (e = 0 ∧ S'.acts.length = S.acts.length + 1 ∧ ∀ x, x ≠ (if o.f0 = 1 then i else o.f1) → stOf S' x = stOf S x)) := by
  unfold playOf at hq
  by_cases hk : o.f0 = 1
  · rw [if_pos hk] at hq ⊢
    unfold draftOf at hq
    have bad : ∀ z : Int, z ≠ 0 → ((0 : Int), z, S) = (i, e, S') → Bnd S' (n + 1) ∧ ((e ≠ 0 ∧ S' = S) ∨ (e = 0 ∧ S'.acts.length = S.acts.length + 1 ∧ ∀ x, x ≠ i → stOf S' x = stOf S x)) := by
      intro z hz h
      obtain ⟨rfl, h2⟩ := Prod.mk.inj h
      obtain ⟨rfl, rfl⟩ := Prod.mk.inj h2
      exact ⟨⟨Nat.le_succ_of_le hb.acts, fun D hD => Nat.le_succ_of_le (hb.docs D hD)⟩, .inl ⟨hz, rfl⟩⟩
    by_cases h1 : codeB o.f2 = false
    · rw [if_pos h1] at hq; exact bad 7 (by decide) hq
    rw [if_neg h1] at hq
    by_cases h2 : o.f3 < 0
    · rw [if_pos h2] at hq; exact bad 2 (by decide) hq
    rw [if_neg h2] at hq
    by_cases h3 : 10000 ≤ S.docs.length
    · rw [if_pos h3] at hq; exact bad 9 (by decide) hq
    rw [if_neg h3] at hq
    obtain ⟨rfl, h2⟩ := Prod.mk.inj hq
    obtain ⟨rfl, rfl⟩ := Prod.mk.inj h2
    have ha := hb.acts
    refine ⟨⟨?_, fun D hD => ?_⟩, .inr ⟨rfl, ?_, fun x hx => ?_⟩⟩
    · show (S.acts ++ [_]).length ≤ _
      simp
      omega
    · have hD : D ∈ S.docs ++ [_] := hD
      rw [List.mem_append] at hD
      rcases hD with hD | hD
      · exact Nat.le_succ_of_le (hb.docs D hD)
      · rw [List.mem_singleton] at hD
        rw [hD]
        exact Nat.zero_le _
    · show (S.acts ++ [_]).length = _
      simp
    · unfold stOf
      rw [docAt_draft hx]
  · rw [if_neg hk] at hq ⊢
    obtain ⟨rfl, h2⟩ := Prod.mk.inj hq
    obtain ⟨he, hS⟩ := Prod.mk.inj h2
    rcases res_act S o.f0 o.f1 o.f2 with ⟨h3, h4⟩ | ⟨h3, k, user, D, E, hd, h4, h5⟩
    · rw [he] at h3
      rw [hS] at h4
      subst h4
      exact ⟨⟨Nat.le_succ_of_le hb.acts, fun D hD => Nat.le_succ_of_le (hb.docs D hD)⟩, .inl ⟨h3, rfl⟩⟩
    · rw [he] at h3
      rw [hS] at h4
      subst h4
      have ha := hb.acts
      refine ⟨⟨?_, fun X hX => ?_⟩, .inr ⟨h3, ?_, fun x hx => ?_⟩⟩
      · show (S.acts ++ [_]).length ≤ _
        simp
        omega
      · have hX : X ∈ S.docs.set (o.f1 - 1).toNat E := hX
        rcases List.mem_or_eq_of_mem_set hX with hX | hX
        · exact Nat.le_succ_of_le (hb.docs X hX)
        · rw [hX]
          have := hb.docs D (docAt_mem hd)
          omega
      · show (S.acts ++ [_]).length = _
        simp
      · unfold stOf
        rw [docAt_other hd hx]
end Go.Proofs.Ytbbhichndfbooaa.P
