/- The volumes of the drafts, and how many approvals steps that are right may need. -/
import Derived.Test.YtbbhichndfbooaaSpecD
namespace Go.Proofs.Ytbbhichndfbooaa.P
open Go.RowKit Go.Proofs.YtbbhichndfbooaaW.PrintWords Go.Proofs.YtbbhichndfbooaaW.PrintLast
set_option linter.unusedVariables false
set_option linter.unusedSimpArgs false
/-- The volumes, by the documents' numbers: none has number 0. -/
def vols (S : FlowS) : List Int := 0 :: S.docs.map (·.vo)
theorem vols_acted {S : FlowS} {k id : Int} {user : ByteArray} {D E : DocS} (hd : docAt S id = some D) (hE : E.vo = D.vo) : vols (actedS S k id user E) = vols S := by
  unfold vols
  show 0 :: (S.docs.set (id - 1).toNat E).map (·.vo) = _
  congr 1
  refine List.ext_getElem (by simp) (fun i h1 h2 => ?_)
  rw [List.getElem_map, List.getElem_map, List.getElem_set]
  split
  · rename_i e
    subst e
    have hx : S.docs[(id - 1).toNat]? = some D := by
      unfold docAt at hd
      split at hd
      · cases hd
      split at hd
      · cases hd
      · exact hd
    obtain ⟨h3, h4⟩ := List.getElem?_eq_some_iff.1 hx
    rw [hE, ← h4]
  · rfl
theorem move_vols (S : FlowS) (kind id : Int) (user : ByteArray) (who st : Int) (sts : List Int) : vols (moveOf S kind id user who st sts).2 = vols S := by
  unfold moveOf
  by_cases h : findOf S id user who sts = 0
  · rw [if_pos h]
    obtain ⟨D, hd, -⟩ := find_zero h
    rw [docD_of hd]
    exact vols_acted hd rfl
  · rw [if_neg h]
theorem act_vols (S : FlowS) (kind id : Int) (user : ByteArray) : vols (actOf S kind id user).2 = vols S := by
  unfold actOf
  split
  · unfold submitOf
    by_cases h : findOf S id user 0 [1] = 0
    · rw [if_pos h]
      obtain ⟨D, hd, -⟩ := find_zero h
      rw [docD_of hd]
      split
      · exact vols_acted hd rfl
      · rfl
    · rw [if_neg h]
  split
  · unfold approveOf
    by_cases h : findOf S id user 1 [2] = 0
    · rw [if_pos h]
      obtain ⟨D, hd, -⟩ := find_zero h
      rw [docD_of hd]
      split
      · rfl
      · exact vols_acted hd rfl
    · rw [if_neg h]
  split
  · exact move_vols S 4 id user 1 4 [2]
  split
  · unfold redraftOf
    by_cases h : findOf S id user 0 [4] = 0
    · rw [if_pos h]
      obtain ⟨D, hd, -⟩ := find_zero h
      rw [docD_of hd]
      exact vols_acted hd rfl
    · rw [if_neg h]
  split
  · exact move_vols S 6 id user 0 6 [1, 4]
  · exact move_vols S 7 id user 2 5 [3]
theorem play_vols {S S' : FlowS} {o : S46} {i e : Int} (hq : playOf S o = (i, e, S')) : vols S' = if o.f0 = 1 ∧ e = 0 then vols S ++ [o.f3] else vols S := by
  unfold playOf at hq
  by_cases hk : o.f0 = 1
  · rw [if_pos hk] at hq
    have bad : ∀ z : Int, z ≠ 0 → ((0 : Int), z, S) = (i, e, S') → vols S' = if o.f0 = 1 ∧ e = 0 then vols S ++ [o.f3] else vols S := by
      intro z hz h
      obtain ⟨rfl, h2⟩ := Prod.mk.inj h
      obtain ⟨rfl, rfl⟩ := Prod.mk.inj h2
      rw [if_neg (fun h => hz h.2)]
    unfold draftOf at hq
    by_cases h1 : codeB o.f2 = false
    · rw [if_pos h1] at hq; exact bad 7 (by decide) hq
    rw [if_neg h1] at hq
    by_cases h2 : o.f3 < 0
    · rw [if_pos h2] at hq; exact bad 2 (by decide) hq
    rw [if_neg h2] at hq
    by_cases h3 : 10000 ≤ S.docs.length
    · rw [if_pos h3] at hq; exact bad 9 (by decide) hq
    rw [if_neg h3] at hq
    obtain ⟨rfl, h2⟩ := Prod.mk.inj hq
    obtain ⟨rfl, rfl⟩ := Prod.mk.inj h2
    rw [if_pos ⟨hk, rfl⟩]
    unfold vols
    show 0 :: (S.docs ++ [(⟨o.f2, o.f3, 1, []⟩ : DocS)]).map (fun x : DocS => x.vo) = _
    rw [List.map_append]
    rfl
  · rw [if_neg hk] at hq
    rw [if_neg (fun h => hk h.1)]
    obtain ⟨_, h2⟩ := Prod.mk.inj hq
    obtain ⟨_, hS⟩ := Prod.mk.inj h2
    rw [← hS]
    exact act_vols S o.f0 o.f1 o.f2
theorem right_l0 (steps : List S60) (hl : steps.length ≤ 9223372036854775807) : ∀ (k i : Nat), flow_right.l0 k steps steps (steps.length : Int) (i : Int) = some true → ∀ j : Nat, i ≤ j → j < steps.length → 0 ≤ (rd_T60 steps (j : Int)).f1
  | 0, i, h => by cases h
  | k + 1, i, h => by
    intro j hij hj
    have hw : wrap64 ((i : Int) + 1) = ((i + 1 : Nat) : Int) := by rw [w64r (by omega) (by omega)]; omega
    rw [flow_right.l0.eq_2, if_pos (show (i : Int) < (steps.length : Int) by omega), if_pos (show (0 : Int) ≤ (i : Int) by omega), if_pos (show (i : Int) < (steps.length : Int) by omega), hw] at h
    have key : (if (rd_T60 steps (i : Int)).f1 < 0 then some false else if (rd_T60 steps (i : Int)).f1 > 5 then some false else flow_right.l0 k steps steps (steps.length : Int) ((i + 1 : Nat) : Int)) = some true → 0 ≤ (rd_T60 steps (j : Int)).f1 := by
      intro h
      by_cases h2 : (rd_T60 steps (i : Int)).f1 < 0
      · rw [if_pos h2] at h; cases h
      rw [if_neg h2] at h
      by_cases h3 : (rd_T60 steps (i : Int)).f1 > 5
      · rw [if_pos h3] at h; cases h
      rw [if_neg h3] at h
      by_cases e : j = i
      · subst e; omega
      · exact right_l0 steps hl k (i + 1) h j (by omega) hj
    split at h
    · cases h
    split at h
    · split at h
      · split at h
        · split at h
          · cases h
          · exact key h
        · cases h
      · cases h
    · exact key h
theorem right_need {steps : List S60} {k : Nat} (hl : steps.length ≤ 9223372036854775807) (h : flow_right.f k steps = some true) (v : Int) (hv : (needOf steps v).2 = true) : 0 ≤ (needOf steps v).1 := by
  have hall := right_l0 steps hl k 0 h
  unfold needOf needAt at hv ⊢
  cases hf : (steps.drop 0).find? (fun s => decide (s.f0 ≥ v)) with
  | none => rw [hf] at hv; cases hv
  | some s =>
    have hm := List.mem_of_find?_eq_some hf
    rw [List.drop_zero] at hm
    obtain ⟨j, hj, rfl⟩ := List.mem_iff_getElem.1 hm
    have := hall j (Nat.zero_le _) hj
    rw [show rd_T60 steps (j : Int) = steps[j] by simp [rd_T60, hj]] at this
    exact this
theorem duties_new {steps : List S60} {apprs : List ByteArray} (h : ∀ v, (needOf steps v).2 = true → 0 ≤ (needOf steps v).1) : Duties ⟨steps, apprs, [], []⟩ := ⟨h, fun D hD => by cases hD⟩
/-- Of any call the steps and the approvers stay. -/
theorem play_same {S S' : FlowS} {o : S46} {i e : Int} (hq : playOf S o = (i, e, S')) : S'.steps = S.steps ∧ S'.appr = S.appr := by
  have hm : ∀ (kind id : Int) (user : ByteArray) (who st : Int) (sts : List Int), (moveOf S kind id user who st sts).2.steps = S.steps ∧ (moveOf S kind id user who st sts).2.appr = S.appr := by
    intro kind id user who st sts
    unfold moveOf
    split <;> exact ⟨rfl, rfl⟩
  unfold playOf at hq
  split at hq
  · unfold draftOf at hq
    split at hq
    · obtain ⟨_, h2⟩ := Prod.mk.inj hq; obtain ⟨_, hS⟩ := Prod.mk.inj h2; rw [← hS]; exact ⟨rfl, rfl⟩
    split at hq
    · obtain ⟨_, h2⟩ := Prod.mk.inj hq; obtain ⟨_, hS⟩ := Prod.mk.inj h2; rw [← hS]; exact ⟨rfl, rfl⟩
    split at hq
    · obtain ⟨_, h2⟩ := Prod.mk.inj hq; obtain ⟨_, hS⟩ := Prod.mk.inj h2; rw [← hS]; exact ⟨rfl, rfl⟩
    · obtain ⟨_, h2⟩ := Prod.mk.inj hq; obtain ⟨_, hS⟩ := Prod.mk.inj h2; rw [← hS]; exact ⟨rfl, rfl⟩
  · obtain ⟨_, h2⟩ := Prod.mk.inj hq
    obtain ⟨_, hS⟩ := Prod.mk.inj h2
    rw [← hS]
    unfold actOf
    split
    · unfold submitOf
      split
      · split <;> exact ⟨rfl, rfl⟩
      · exact ⟨rfl, rfl⟩
    split
    · unfold approveOf
      split
      · split <;> exact ⟨rfl, rfl⟩
      · exact ⟨rfl, rfl⟩
    split
    · exact hm 4 _ _ 1 4 [2]
    split
    · unfold redraftOf
      split <;> exact ⟨rfl, rfl⟩
    split
    · exact hm 6 _ _ 0 6 [1, 4]
    · exact hm 7 _ _ 2 5 [3]
end Go.Proofs.Ytbbhichndfbooaa.P
