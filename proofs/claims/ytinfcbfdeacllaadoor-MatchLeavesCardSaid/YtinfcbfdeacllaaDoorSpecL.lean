/- What is left unmatched. -/
import Derived.Test.YtinfcbfdeacllaaDoorSpecK
import Derived.Test.YtinfcbfdeacllaaDoorPx11
namespace Go.Proofs.YtinfcbfdeacllaaDoor.Sp
open Go.RowKit Go.Proofs.YtinfcbfdeacllaaDoor.P Go.Proofs.YtinfcbfdeacllaaDoorW.PrintWords Go.Proofs.YtinfcbfdeacllaaDoorW.PrintLast
set_option linter.unusedVariables false
set_option linter.unusedSimpArgs false
/-! ### Rest -/
def unm (u : List Bool) : List Int := ((List.range u.length).filter (fun (j : Nat) => !rdOf false u (j : Int))).map (fun (j : Nat) => (j : Int))
theorem mark_eq (u : List Bool) (z : Int) (hz : 0 ≤ z) : ∃ b, match_mark.f u z = some (b, u.set z.toNat true) := by
  unfold match_mark.f
  rw [if_neg (show ¬ z < 0 by omega)]
  by_cases h : z ≥ (u.length : Int)
  · rw [if_pos h, List.set_eq_of_length_le (by omega)]
    exact ⟨_, rfl⟩
  · rw [if_neg h, if_pos hz, if_pos (by omega)]
    by_cases hb : rdOf false u z = true
    · rw [if_pos hb]
      have : u.set z.toNat true = u := by
        unfold rdOf at hb
        have hl : z.toNat < u.length := by omega
        refine List.ext_getElem (by simp) (fun i h1 h2 => ?_)
        rw [List.getElem_set]
        split
        · rename_i e
          subst e
          simpa [hl] using hb.symm
        · rfl
      rw [this]
      exact ⟨_, rfl⟩
    · rw [if_neg hb]
      exact ⟨_, rfl⟩
theorem unm_l0 (u : List Bool) (hu : u.length ≤ 1000000) : ∀ (n i : Nat) (acc : List Int), u.length - i = n → i ≤ u.length → acc.length ≤ i → Ev (fun k => match_unmarked.l0 k acc u (u.length : Int) (i : Int)) (acc ++ (((List.range u.length).drop i).filter (fun (j : Nat) => !rdOf false u (j : Int))).map (fun (j : Nat) => (j : Int))) := by
  intro n
  induction n with
  | zero =>
    intro i acc hn hi ha
    refine Ev.step (fun k => match_unmarked.l0.eq_2 _ _ _ _ k) ?_
    simp only [if_neg (show ¬ ((i : Int) < (u.length : Int)) by omega)]
    rw [List.drop_eq_nil_of_le (by simp; omega)]
    simp only [List.filter_nil, List.map_nil, List.append_nil]
    exact Ev.now _
  | succ n ih =>
    intro i acc hn hi ha
    have hw : wrap64 ((i : Int) + 1) = ((i + 1 : Nat) : Int) := by rw [w64 (by omega) (by omega)]; omega
    have hd : (List.range u.length).drop i = i :: (List.range u.length).drop (i + 1) := by
      rw [List.drop_eq_getElem_cons (by simp; omega)]
      simp
    refine Ev.step (fun k => match_unmarked.l0.eq_2 _ _ _ _ k) ?_
    simp only [if_pos (show ((i : Int) < (u.length : Int)) by omega), if_pos (show (0 : Int) ≤ (i : Int) by omega), if_pos (show acc.length < 17592186044416 by omega), hw]
    rw [hd, List.filter_cons]
    by_cases hb : rdOf false u (i : Int) = true
    · simp only [hb, if_true, Bool.not_true, Bool.false_eq_true, if_false]
      exact ih (i + 1) acc (by omega) (by omega) (by omega)
    · simp only [hb, if_false, Bool.not_false, if_true, Bool.false_eq_true]
      have := ih (i + 1) (acc ++ [(i : Int)]) (by omega) (by omega) (by simp; omega)
      simpa using this
theorem unm_ev (u : List Bool) (hu : u.length ≤ 1000000) : Ev (fun k => match_unmarked.f k u) (unm u) := by
  have := unm_l0 u hu _ 0 [] rfl (Nat.zero_le _) (Nat.zero_le _)
  simpa [match_unmarked.f, unm] using this
def restOf (n k : Nat) (m : List S54) : List Int × List Int := (unm (P.mark (List.replicate n false) (m.map (·.f0))), unm (P.mark (List.replicate k false) (m.flatMap (·.f1))))
theorem P_mark_app (u : List Bool) (a b : List Int) : P.mark u (a ++ b) = P.mark (P.mark u a) b := by unfold P.mark; rw [List.foldl_append]
theorem rest_l1 (m : List S54) (hm : m.length ≤ 1000000) (uA : List Bool) (i : Nat) (hi : i < m.length) (r : List Int × List Int) (xs : List Int) (hx : xs.length ≤ 1000000) (hxs : ∀ z ∈ xs, 0 ≤ z) (u0 : List Bool) (hnext : Ev (fun k => match_Rest.l0 k uA (P.mark u0 xs) m (m.length : Int) ((i + 1 : Nat) : Int)) r) :
    ∀ (n j : Nat), xs.length - j = n → j ≤ xs.length → Ev (fun k => match_Rest.l1 k uA (P.mark u0 (xs.take j)) m (m.length : Int) (i : Int) xs (xs.length : Int) (j : Int)) r := by
  intro n
  induction n with
  | zero =>
    intro j hn hj
    have hw : wrap64 ((i : Int) + 1) = ((i + 1 : Nat) : Int) := by rw [w64 (by omega) (by omega)]; omega
    refine Ev.step (fun k => match_Rest.l1.eq_2 _ _ _ _ _ _ _ _ k) ?_
    simp only [if_neg (show ¬ ((j : Int) < (xs.length : Int)) by omega), hw]
    rw [List.take_of_length_le (by omega)]
    exact hnext
  | succ n ih =>
    intro j hn hj
    have hw : wrap64 ((j : Int) + 1) = ((j + 1 : Nat) : Int) := by rw [w64 (by omega) (by omega)]; omega
    have hjl : j < xs.length := by omega
    have e : rd xs (j : Int) = xs[j] := by simp [rd, hjl]
    obtain ⟨b, hb⟩ := mark_eq (P.mark u0 (xs.take j)) (rd xs (j : Int)) (by rw [e]; exact hxs _ (List.getElem_mem hjl))
    refine Ev.step (fun k => match_Rest.l1.eq_2 _ _ _ _ _ _ _ _ k) ?_
    simp only [if_pos (show ((j : Int) < (xs.length : Int)) by omega), if_pos (show (0 : Int) ≤ (j : Int) by omega), hb, Option.bind_some, hw]
    have hs : (P.mark u0 (xs.take j)).set (rd xs (j : Int)).toNat true = P.mark u0 (xs.take (j + 1)) := by
      rw [List.take_add_one, List.getElem?_eq_getElem hjl, e]
      show _ = P.mark u0 (xs.take j ++ [xs[j]])
      rw [P_mark_app]
      rfl
    rw [hs]
    exact ih (j + 1) (by omega) (by omega)
section
variable (m : List S54) (hm : m.length ≤ 1000000) (h0 : ∀ x ∈ m, 0 ≤ x.f0) (h1 : ∀ x ∈ m, ∀ z ∈ x.f1, 0 ≤ z) (h2 : ∀ x ∈ m, x.f1.length ≤ 1000000)
include hm h0 h1 h2
theorem rest_l0 (uA uB : List Bool) (hA : uA.length ≤ 1000000) (hB : uB.length ≤ 1000000) : ∀ (n i : Nat), m.length - i = n → i ≤ m.length → Ev (fun k => match_Rest.l0 k (P.mark uA ((m.take i).map (·.f0))) (P.mark uB ((m.take i).flatMap (·.f1))) m (m.length : Int) (i : Int)) (unm (P.mark uA (m.map (·.f0))), unm (P.mark uB (m.flatMap (·.f1)))) := by
  intro n
  induction n with
  | zero =>
    intro i hn hi
    refine Ev.step (fun k => match_Rest.l0.eq_2 _ _ _ _ _ k) ?_
    simp only [if_neg (show ¬ ((i : Int) < (m.length : Int)) by omega)]
    rw [List.take_of_length_le (by omega)]
    refine (unm_ev _ (by rw [mark_len]; exact hA)).bind ?_
    refine (unm_ev _ (by rw [mark_len]; exact hB)).bind ?_
    exact Ev.now _
  | succ n ih =>
    intro i hn hi
    have hil : i < m.length := by omega
    have hx := rd54_mem hil
    have e : rd_T54 m (i : Int) = m[i] := by simp [rd_T54, hil]
    obtain ⟨b, hb⟩ := mark_eq (P.mark uA ((m.take i).map (·.f0))) (rd_T54 m (i : Int)).f0 (h0 _ hx)
    refine Ev.step (fun k => match_Rest.l0.eq_2 _ _ _ _ _ k) ?_
    simp only [if_pos (show ((i : Int) < (m.length : Int)) by omega), if_pos (show (0 : Int) ≤ (i : Int) by omega), hb, Option.bind_some]
    have ht : m.take (i + 1) = m.take i ++ [rd_T54 m (i : Int)] := by rw [List.take_add_one, List.getElem?_eq_getElem hil, e]; rfl
    have hs : (P.mark uA ((m.take i).map (·.f0))).set (rd_T54 m (i : Int)).f0.toNat true = P.mark uA ((m.take (i + 1)).map (·.f0)) := by
      rw [ht, List.map_append, P_mark_app]
      rfl
    rw [hs]
    refine rest_l1 m hm _ i hil _ (rd_T54 m (i : Int)).f1 (h2 _ hx) (h1 _ hx) _ ?_ _ 0 rfl (Nat.zero_le _)
    have := ih (i + 1) (by omega) (by omega)
    rw [show P.mark uB ((m.take (i + 1)).flatMap (·.f1)) = P.mark (P.mark uB ((m.take i).flatMap (·.f1))) (rd_T54 m (i : Int)).f1 by rw [ht, List.flatMap_append, P_mark_app]; simp] at this
    exact this
theorem rest_ev (lines : List S50) (books : List S52) (hl : lines.length ≤ 1000000) (hb : books.length ≤ 1000000) : Ev (fun k => match_Rest.f k lines books m) (restOf lines.length books.length m) := by
  unfold match_Rest.f restOf
  simp only [Int.toNat_natCast, if_pos (show (0 : Int) ≤ (lines.length : Int) by omega), if_pos (show (0 : Int) ≤ (books.length : Int) by omega), if_pos (show lines.length ≤ 281474976710656 by omega), if_pos (show books.length ≤ 281474976710656 by omega)]
  exact rest_l0 m hm h0 h1 h2 (List.replicate lines.length false) (List.replicate books.length false) (by simp; exact hl) (by simp; exact hb) _ 0 rfl (Nat.zero_le _)
end
theorem unm_mem {u : List Bool} {z : Int} : z ∈ unm u ↔ (0 ≤ z ∧ z < u.length) ∧ rdOf false u z = false := by
  unfold unm
  rw [List.mem_map]
  constructor
  · rintro ⟨j, hj, rfl⟩
    obtain ⟨h1, h2⟩ := List.mem_filter.1 hj
    have := List.mem_range.1 h1
    refine ⟨by omega, ?_⟩
    simpa using h2
  · rintro ⟨⟨h1, h2⟩, h3⟩
    refine ⟨z.toNat, List.mem_filter.2 ⟨List.mem_range.2 (by omega), ?_⟩, by omega⟩
    rw [show ((z.toNat : Nat) : Int) = z by omega, h3]
    rfl
theorem unm_len (u : List Bool) : (unm u).length ≤ u.length := by
  unfold unm
  rw [List.length_map]
  exact Nat.le_trans (List.length_filter_le _ _) (by simp)
/-! ### What the passes leave -/
theorem keeps_le (pick : List Bool → S50 → List Int) (lines : List S50) (st : List Bool × (Int → List Int)) (k : Nat) (j : Int) (h : (pass pick lines st k).2 j ≠ []) : ∀ d : Nat, (pass pick lines st (k + d)).2 j = (pass pick lines st k).2 j
  | 0 => rfl
  | d + 1 => by
    have ih := keeps_le pick lines st k j h d
    show (stepOf pick lines (pass pick lines st (k + d)) (k + d)).2 j = _
    unfold stepOf
    split
    · rename_i hk
      show upd _ _ _ j = _
      unfold upd
      by_cases e : j = ((k + d : Nat) : Int)
      · subst e; rw [ih] at hk; exact absurd hk h
      · rw [if_neg e]; exact ih
    · exact ih
theorem step_nil (pick : List Bool → S50 → List Int) (lines : List S50) (st : List Bool × (Int → List Int)) (a : Nat) : ∀ k : Nat, (pass pick lines st k).2 (a : Int) = [] → a < k → pick (pass pick lines st a).1 (rd_T50 lines (a : Int)) = []
  | 0, _, h => absurd h (by omega)
  | k + 1, hn, h => by
    have hn : (stepOf pick lines (pass pick lines st k) k).2 (a : Int) = [] := hn
    unfold stepOf at hn
    by_cases hk : (pass pick lines st k).2 (k : Int) = []
    · rw [if_pos hk] at hn
      have hn : upd (pass pick lines st k).2 (k : Int) (pick (pass pick lines st k).1 (rd_T50 lines (k : Int))) (a : Int) = [] := hn
      unfold upd at hn
      by_cases e : a = k
      · subst e
        rw [if_pos rfl] at hn
        exact hn
      · rw [if_neg (by omega)] at hn
        exact step_nil pick lines st a k hn (by omega)
    · rw [if_neg hk] at hn
      by_cases e : a = k
      · subst e; exact absurd hn hk
      · exact step_nil pick lines st a k hn (by omega)
theorem near_none (books : List S52) (u : List Bool) (win : Int) (l : S50) (hw : 0 ≤ win ∧ win ≤ 366) : ∀ k : Nat, (nearTo books u win l k).1 < 0 → ∀ b : Nat, b < k → rdOf false u (b : Int) = false → (rd_T52 books (b : Int)).f2 = l.f1 → ¬ apt (rd_T52 books (b : Int)).f1 l.f0 ≤ win
  | 0, _, _, h, _, _ => absurd h (by omega)
  | k + 1, hn, b, h, hu, ha => by
    rw [nearTo_succ] at hn
    unfold nearStep at hn
    by_cases hc : (!rdOf false u (k : Int) && (rd_T52 books (k : Int)).f2 == l.f1 && decide (apt (rd_T52 books (k : Int)).f1 l.f0 < (nearTo books u win l k).2)) = true
    · rw [if_pos hc] at hn
      simp at hn
      omega
    · rw [if_neg hc] at hn
      by_cases e : b = k
      · subst e
        rw [hu, ha] at hc
        simp at hc
        have := nearTo_best books u win l hw b
        omega
      · exact near_none books u win l hw k hn b (by omega) hu ha
theorem left_far {lines : List S50} {books : List S52} {win : Int} (hf : Fine lines books win) (a b : Nat) (ha : a < lines.length) (hb : b < books.length) (hea : (passC lines books win lines.length).2 (a : Int) = []) (heb : rdOf false (passC lines books win lines.length).1 (b : Int) = false) (hamt : (rd_T52 books (b : Int)).f2 = (rd_T50 lines (a : Int)).f1) : ¬ apt (rd_T52 books (b : Int)).f1 (rd_T50 lines (a : Int)).f0 ≤ win := by
  have hB : (passB lines books win lines.length).2 (a : Int) = [] := by
    by_cases h : (passB lines books win lines.length).2 (a : Int) = []
    · exact h
    · exact absurd ((pass_keeps _ lines _ (a : Int) h lines.length).symm.trans hea) h
  have hp : pickB books win (passB lines books win a).1 (rd_T50 lines (a : Int)) = [] := step_nil (pickB books win) lines _ a lines.length hB ha
  have hun : rdOf false (passB lines books win a).1 (b : Int) = false := by
    cases hv : rdOf false (passB lines books win a).1 (b : Int)
    · rfl
    · obtain ⟨i, hi⟩ := ((goodB lines books win a).use (b : Int) (by omega)).1 hv
      have hne : (passB lines books win a).2 i ≠ [] := fun e => by rw [e] at hi; simp at hi
      have h1 : (passB lines books win lines.length).2 i = (passB lines books win a).2 i := by
        have := keeps_le (pickB books win) lines (passA lines books lines.length) a i hne (lines.length - a)
        rw [show a + (lines.length - a) = lines.length by omega] at this
        exact this
      have h2 : (passC lines books win lines.length).2 i = (passB lines books win lines.length).2 i := pass_keeps _ lines _ i (by rw [h1]; exact hne) lines.length
      have := ((goodC lines books win lines.length).use (b : Int) (by omega)).2 ⟨i, by rw [h2, h1]; exact hi⟩
      rw [heb] at this
      cases this
  unfold pickB pickNear at hp
  split at hp
  · rename_i hn
    exact near_none books _ win _ ⟨hf.w0, hf.w1⟩ books.length hn b hb hun hamt
  · cases hp
theorem outTo_has (f : Int → List Int) (i : Nat) (h : f (i : Int) ≠ []) : ∀ k : Nat, i < k → (⟨(i : Int), f (i : Int)⟩ : S54) ∈ outTo f k
  | k + 1, hk => by
    show _ ∈ outTo f k ++ (if f (k : Int) = [] then [] else [(⟨(k : Int), f (k : Int)⟩ : S54)])
    by_cases e : i = k
    · subst e
      rw [if_neg h]
      simp
    · exact List.mem_append_left _ (outTo_has f i h k (by omega))
end Go.Proofs.YtinfcbfdeacllaaDoor.Sp
