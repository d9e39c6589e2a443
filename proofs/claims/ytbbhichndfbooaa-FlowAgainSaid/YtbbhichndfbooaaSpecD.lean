/- The duties: what every document of a workflow keeps. -/
import Derived.Test.YtbbhichndfbooaaSpecL
namespace Go.Proofs.Ytbbhichndfbooaa.P
open Go.RowKit Go.Proofs.YtbbhichndfbooaaW.PrintWords Go.Proofs.YtbbhichndfbooaaW.PrintLast
set_option linter.unusedVariables false
set_option linter.unusedSimpArgs false
/-- No string twice. -/
def Once (l : List ByteArray) : Prop := l.Pairwise (fun a b => a.toList ≠ b.toList)
/-- A document's duties under steps and approvers. -/
structure Duty (steps : List S60) (appr : List ByteArray) (D : DocS) : Prop where
  lo : 1 ≤ D.st
  hi : D.st ≤ 6
  draft : D.st = 1 → D.ap = []
  wait : D.st = 2 → (needOf steps D.vo).2 = true ∧ (D.ap.length : Int) < (needOf steps D.vo).1
  done : D.st = 3 ∨ D.st = 5 → (needOf steps D.vo).2 = true ∧ (D.ap.length : Int) = (needOf steps D.vo).1
  other : hasB D.ap D.au = false
  once : Once D.ap
  who : ∀ a ∈ D.ap, hasB appr a = true
structure Duties (S : FlowS) : Prop where
  need : ∀ v, (needOf S.steps v).2 = true → 0 ≤ (needOf S.steps v).1
  docs : ∀ D ∈ S.docs, Duty S.steps S.appr D
theorem acted_duties {S : FlowS} {k id : Int} {user : ByteArray} {E : DocS} (h : Duties S) (hE : Duty S.steps S.appr E) : Duties (actedS S k id user E) := by
  refine ⟨h.need, fun D hD => ?_⟩
  have hD : D ∈ S.docs.set (id - 1).toNat E := hD
  rcases List.mem_or_eq_of_mem_set hD with hD | hD
  · exact h.docs D hD
  · rw [hD]; exact hE
theorem docD_mem {S : FlowS} {id : Int} {D : DocS} (h : docAt S id = some D) : docD S id = D ∧ D ∈ S.docs := ⟨docD_of h, docAt_mem h⟩
theorem one_of {x y : Int} (h : [y].contains x = true) : x = y := by simpa using h
theorem two_of {x y z : Int} (h : [y, z].contains x = true) : x = y ∨ x = z := by simpa using h
theorem submit_duties {S : FlowS} (h : Duties S) (id : Int) (user : ByteArray) : Duties (submitOf S id user).2 := by
  unfold submitOf
  by_cases h0 : findOf S id user 0 [1] = 0
  · rw [if_pos h0]
    obtain ⟨D, hd, -, hs, -⟩ := find_zero h0
    obtain ⟨e1, e2⟩ := docD_mem hd
    rw [e1]
    have hD := h.docs D e2
    have hst := one_of hs
    have hap := hD.draft hst
    by_cases h2 : (needOf S.steps D.vo).2 = true
    · rw [if_pos h2]
      have hn := h.need _ h2
      refine acted_duties h ⟨?_, ?_, fun hx => ?_, fun hx => ⟨h2, ?_⟩, fun hx => ⟨h2, ?_⟩, hD.other, hD.once, hD.who⟩
      · show 1 ≤ settled _ _
        unfold settled
        split <;> decide
      · show settled _ _ ≤ 6
        unfold settled
        split <;> decide
      · have hx : settled D.ap.length (needOf S.steps D.vo).1 = 1 := hx
        unfold settled at hx
        split at hx <;> cases hx
      · have hx : settled D.ap.length (needOf S.steps D.vo).1 = 2 := hx
        unfold settled at hx
        split at hx
        · cases hx
        · show (D.ap.length : Int) < (needOf S.steps D.vo).1
          omega
      · have hx : settled D.ap.length (needOf S.steps D.vo).1 = 3 ∨ settled D.ap.length (needOf S.steps D.vo).1 = 5 := hx
        unfold settled at hx
        split at hx
        · rename_i hge
          show (D.ap.length : Int) = (needOf S.steps D.vo).1
          rw [hap] at hge ⊢
          have hge : (0 : Int) ≥ (needOf S.steps D.vo).1 := hge
          show (0 : Int) = (needOf S.steps D.vo).1
          omega
        · rcases hx with hx | hx <;> cases hx
    · rw [if_neg h2]
      exact h
  · rw [if_neg h0]
    exact h
theorem hasB_snoc (l : List ByteArray) (a s : ByteArray) : hasB (l ++ [a]) s = (hasB l s || (a.toList == s.toList)) := by
  unfold hasB
  rw [List.any_append, List.any_cons, List.any_nil, Bool.or_false]
theorem approve_duties {S : FlowS} (h : Duties S) (id : Int) (user : ByteArray) : Duties (approveOf S id user).2 := by
  unfold approveOf
  by_cases h0 : findOf S id user 1 [2] = 0
  · rw [if_pos h0]
    obtain ⟨D, hd, -, hs, hp⟩ := find_zero h0
    obtain ⟨e1, e2⟩ := docD_mem hd
    rw [e1]
    have hD := h.docs D e2
    have hst := one_of hs
    obtain ⟨w1, w2⟩ := hD.wait hst
    have hperm : hasB S.appr user = true ∧ (user.toList == D.au.toList) = false := by
      have hp : (if (1 : Int) = 0 then user.toList == D.au.toList else if (1 : Int) = 1 then hasB S.appr user && !(user.toList == D.au.toList) else (user.toList == D.au.toList) || hasB S.appr user) = true := hp
      rw [if_neg (by decide), if_pos rfl, Bool.and_eq_true, Bool.not_eq_true'] at hp
      exact hp
    by_cases h2 : hasB D.ap user = true
    · rw [if_pos h2]
      exact h
    · rw [if_neg h2]
      rw [Bool.not_eq_true] at h2
      have hlen : (D.ap ++ [user]).length = D.ap.length + 1 := by simp
      refine acted_duties h ⟨?_, ?_, fun hx => ?_, fun hx => ⟨w1, ?_⟩, fun hx => ⟨w1, ?_⟩, ?_, ?_, fun a ha => ?_⟩
      · show 1 ≤ settled _ _
        unfold settled
        split <;> decide
      · show settled _ _ ≤ 6
        unfold settled
        split <;> decide
      · have hx : settled (D.ap.length + 1) (needOf S.steps D.vo).1 = 1 := hx
        unfold settled at hx
        split at hx <;> cases hx
      · have hx : settled (D.ap.length + 1) (needOf S.steps D.vo).1 = 2 := hx
        unfold settled at hx
        split at hx
        · cases hx
        · show ((D.ap ++ [user]).length : Int) < (needOf S.steps D.vo).1
          rw [hlen]
          omega
      · have hx : settled (D.ap.length + 1) (needOf S.steps D.vo).1 = 3 ∨ settled (D.ap.length + 1) (needOf S.steps D.vo).1 = 5 := hx
        unfold settled at hx
        split at hx
        · show ((D.ap ++ [user]).length : Int) = (needOf S.steps D.vo).1
          rw [hlen]
          omega
        · rcases hx with hx | hx <;> cases hx
      · show hasB (D.ap ++ [user]) D.au = false
        rw [hasB_snoc, hD.other, hperm.2]
        rfl
      · show (D.ap ++ [user]).Pairwise _
        rw [List.pairwise_append]
        refine ⟨hD.once, List.pairwise_singleton _ _, fun x hx y hy e => ?_⟩
        rw [List.mem_singleton] at hy
        subst hy
        unfold hasB at h2
        rw [List.any_eq_false] at h2
        exact h2 x hx (beq_iff_eq.mpr e)
      · have ha : a ∈ D.ap ++ [user] := ha
        rw [List.mem_append, List.mem_singleton] at ha
        rcases ha with ha | ha
        · exact hD.who a ha
        · rw [ha]; exact hperm.1
  · rw [if_neg h0]
    exact h
theorem move_duties {S : FlowS} (h : Duties S) (kind id : Int) (user : ByteArray) (who st : Int) (sts : List Int) (hok : ∀ D : DocS, Duty S.steps S.appr D → sts.contains D.st = true → Duty S.steps S.appr { D with st := st }) : Duties (moveOf S kind id user who st sts).2 := by
  unfold moveOf
  by_cases h0 : findOf S id user who sts = 0
  · rw [if_pos h0]
    obtain ⟨D, hd, -, hs, -⟩ := find_zero h0
    obtain ⟨e1, e2⟩ := docD_mem hd
    rw [e1]
    exact acted_duties h (hok D (h.docs D e2) hs)
  · rw [if_neg h0]
    exact h
theorem reject_duties {S : FlowS} (h : Duties S) (id : Int) (user : ByteArray) : Duties (rejectOf S id user).2 :=
  move_duties h 4 id user 1 4 [2] (fun D hD hs => ⟨by show (1 : Int) ≤ 4; decide, by show (4 : Int) ≤ 6; decide, fun hx => absurd hx (by show ¬ (4 : Int) = 1; decide), fun hx => absurd hx (by show ¬ (4 : Int) = 2; decide), fun hx => absurd hx (by show ¬ ((4 : Int) = 3 ∨ (4 : Int) = 5); decide), hD.other, hD.once, hD.who⟩)
theorem cancel_duties {S : FlowS} (h : Duties S) (id : Int) (user : ByteArray) : Duties (cancelOf S id user).2 :=
  move_duties h 6 id user 0 6 [1, 4] (fun D hD hs => ⟨by show (1 : Int) ≤ 6; decide, by show (6 : Int) ≤ 6; decide, fun hx => absurd hx (by show ¬ (6 : Int) = 1; decide), fun hx => absurd hx (by show ¬ (6 : Int) = 2; decide), fun hx => absurd hx (by show ¬ ((6 : Int) = 3 ∨ (6 : Int) = 5); decide), hD.other, hD.once, hD.who⟩)
theorem post_duties {S : FlowS} (h : Duties S) (id : Int) (user : ByteArray) : Duties (postOf S id user).2 :=
  move_duties h 7 id user 2 5 [3] (fun D hD hs => ⟨by show (1 : Int) ≤ 5; decide, by show (5 : Int) ≤ 6; decide, fun hx => absurd hx (by show ¬ (5 : Int) = 1; decide), fun hx => absurd hx (by show ¬ (5 : Int) = 2; decide), fun _ => hD.done (.inl (one_of hs)), hD.other, hD.once, hD.who⟩)
theorem redraft_duties {S : FlowS} (h : Duties S) (id : Int) (user : ByteArray) : Duties (redraftOf S id user).2 := by
  unfold redraftOf
  by_cases h0 : findOf S id user 0 [4] = 0
  · rw [if_pos h0]
    obtain ⟨D, hd, -, hs, -⟩ := find_zero h0
    obtain ⟨e1, e2⟩ := docD_mem hd
    rw [e1]
    exact acted_duties h ⟨by show (1 : Int) ≤ 1; decide, by show (1 : Int) ≤ 6; decide, fun _ => rfl, fun hx => absurd hx (by show ¬ (1 : Int) = 2; decide), fun hx => absurd hx (by show ¬ ((1 : Int) = 3 ∨ (1 : Int) = 5); decide), rfl, .nil, fun a ha => by cases ha⟩
  · rw [if_neg h0]
    exact h
theorem act_duties {S : FlowS} (h : Duties S) (kind id : Int) (user : ByteArray) : Duties (actOf S kind id user).2 := by
  unfold actOf
  split
  · exact submit_duties h id user
  split
  · exact approve_duties h id user
  split
  · exact reject_duties h id user
  split
  · exact redraft_duties h id user
  split
  · exact cancel_duties h id user
  · exact post_duties h id user
theorem draft_duties {S : FlowS} (h : Duties S) (user : ByteArray) (vol : Int) : Duties (draftOf S user vol).2.2 := by
  unfold draftOf
  split
  · exact h
  split
  · exact h
  split
  · exact h
  · refine ⟨h.need, fun D hD => ?_⟩
    have hD : D ∈ S.docs ++ [⟨user, vol, 1, []⟩] := hD
    rw [List.mem_append, List.mem_singleton] at hD
    rcases hD with hD | hD
    · exact h.docs D hD
    · rw [hD]
      exact ⟨by show (1 : Int) ≤ 1; decide, by show (1 : Int) ≤ 6; decide, fun _ => rfl, fun hx => absurd hx (by show ¬ (1 : Int) = 2; decide), fun hx => absurd hx (by show ¬ ((1 : Int) = 3 ∨ (1 : Int) = 5); decide), rfl, .nil, fun a ha => by cases ha⟩
theorem play_duties {S S' : FlowS} {o : S46} {i e : Int} (h : Duties S) (hq : playOf S o = (i, e, S')) : Duties S' := by
  unfold playOf at hq
  split at hq
  · have := draft_duties h o.f2 o.f3
    rw [hq] at this
    exact this
  · have := act_duties h o.f0 o.f1 o.f2
    obtain ⟨_, h2⟩ := Prod.mk.inj hq
    obtain ⟨_, hS⟩ := Prod.mk.inj h2
    rw [hS] at this
    exact this
end Go.Proofs.Ytbbhichndfbooaa.P
