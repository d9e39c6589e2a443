/- An elimination: a sheet, whose bases add up to 0. -/
import Derived.Test.YtmflggbpiadkjaaSpecEl
import Derived.Test.YtmflggbpiadkjaaSpecBr
namespace Go.Proofs.Ytmflggbpiadkjaa.P
open Go.RowKit Go.Sort Go.Proofs.YtmflggbpiadkjaaW.PrintWords Go.Proofs.YtmflggbpiadkjaaW.PrintLast Go.Proofs.Ytmflggbpiadkjaa.Op
set_option linter.unusedVariables false
set_option linter.unusedSimpArgs false
theorem elimK_right (cur diff : ByteArray) (m : List ByteArray) (l : List S34) : RightL (elimK cur diff m l).1 := by
  unfold elimK
  repeat' split
  all_goals first | exact right_ofK _ | exact ⟨fun c hc => by simp at hc, List.Pairwise.nil⟩
theorem elimK_none (cur diff : ByteArray) (m : List ByteArray) (l : List S34) (h : (elimK cur diff m l).2 ≠ 0) : (elimK cur diff m l).1 = [] := by
  unfold elimK at h ⊢
  by_cases h1 : rightB l = true
  · rw [if_pos h1] at h ⊢
    by_cases h2 : monB cur = true
    · rw [if_pos h2] at h ⊢
      by_cases h3 : codeB diff = true
      · rw [if_pos h3] at h ⊢
        by_cases h4 : (prK (inK m l)).2 = 0
        · rw [if_pos h4] at h ⊢
          rcases ofK_code (elCells cur diff (inK m l) (prK (inK m l)).1) with h5 | h5
          · exact absurd h5 h
          · rw [h5]
        · rw [if_neg h4]
      · rw [if_neg h3]
    · rw [if_neg h2]
  · rw [if_neg h1]
theorem pc_sum (cur diff : ByteArray) : ∀ p : List S89, psB (fun _ => true) (p.map (pcI cur diff)) = (p.map S89.f2).sum
  | [] => rfl
  | x :: r => by
    rw [List.map_cons, psB_cons, if_pos rfl, List.map_cons, List.sum_cons, pc_sum cur diff r]
    rfl
theorem ck_sum : ∀ l : List S34, psB (fun _ => true) (l.map ck) = psB (fun _ => true) l
  | [] => rfl
  | x :: r => by
    rw [List.map_cons, psB_cons, psB_cons, ck_sum r]
    rfl
theorem prK_sum {l : List S34} (h : (prK l).2 = 0) : ((prK l).1.map S89.f2).sum = psB (fun _ => true) l := by
  rw [prK_prs] at h ⊢
  by_cases c : (prsOf l).all (fun p => fitB p.f2) = true
  · rw [if_pos c]
    unfold prsOf
    rw [List.map_map]
    have e : (S89.f2 ∘ mkP (sumB (l.map ck))) = sumB (l.map ck) := rfl
    rw [e]
    have h1 := (sum_keys (fun _ => true) (keysK (l.map ck)) (ss_keysK _) (l.map ck) (fun c hc => (mem_keysK c.f0 _).2 ⟨c, hc, rfl⟩)).2
    rw [List.filter_eq_self.2 (fun _ _ => rfl)] at h1
    rw [h1, ck_sum]
  · rw [if_neg c] at h; cases h
theorem elimK_base (cur diff : ByteArray) (m : List ByteArray) (l : List S34) : baseK (elimK cur diff m l).1 = (0, 0) := by
  have e0 : baseK [] = (0, 0) := rfl
  by_cases h : (elimK cur diff m l).2 = 0
  · have hz : (bass (elimK cur diff m l).1).sum = 0 := by
      unfold elimK at h ⊢
      by_cases h1 : rightB l = true
      · rw [if_pos h1] at h ⊢
        by_cases h2 : monB cur = true
        · rw [if_pos h2] at h ⊢
          by_cases h3 : codeB diff = true
          · rw [if_pos h3] at h ⊢
            by_cases h4 : (prK (inK m l)).2 = 0
            · rw [if_pos h4] at h ⊢
              rw [bass_ps, (ps_ofK h (fun _ => true)).2]
              unfold elCells
              rw [psB_append, (psA_negI (fun _ => true) _).2, pc_sum, prK_sum h4]
              omega
            · rw [if_neg h4]; rfl
          · rw [if_neg h3]; rfl
        · rw [if_neg h2]; rfl
      · rw [if_neg h1]; rfl
    unfold baseK
    rw [hz]
    rfl
  · rw [elimK_none cur diff m l h]; exact e0
end Go.Proofs.Ytmflggbpiadkjaa.P
